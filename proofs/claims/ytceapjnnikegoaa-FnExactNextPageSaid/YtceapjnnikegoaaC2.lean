/- The contracts of the Go functions against the pure functions, printed by program. Conditions: each says them. -/
import Derived.Test.YtceapjnnikegoaaC1
set_option linter.unusedVariables false
set_option linter.unusedSimpArgs false
set_option maxRecDepth 100000
set_option maxHeartbeats 4000000
namespace Go.Gx.Px
open Go.Proofs Go.RowKit

theorem c_S_NextPage {w0 : World} (a1 : (List Int)) (u1 : Value) (g1 : RO [] w0 u1 a1) (a2 : (List (Int × (List Int) × Int × Int × Int))) (u2 : Value) (g2 : RO [] w0 u2 a2) (a3 : ((List (Int × (List Int))) × Int)) (u3 : Value) (g3 : RO [] w0 u3 a3.1) (a4 : ((Int × (List Int)) × Int × Int)) (u4 : Value) (g4 : RO [] w0 u4 a4.1.2) (a5 : Int) (rr : ((List (Int × (List Int))) × ((Int × (List Int)) × Int × Int) × Int)) (hF : S.NextPage a1 a2 a3 a4 a5 = some rr) :
    Calls Try.prog 7 [u1, u2, (.agg #[u3, (.int .i64 a3.2)]), (.agg #[(.int .i64 a4.1.1), u4, (.int .i64 a4.2.1), (.int .i64 a4.2.2)]), (.int .i64 a5)].toArray w0 fun e w' => ∃ v, e = .returned v ∧ Res3 w0 rr.1 rr.2.1 rr.2.2 v w' := by
  refine calls_of_W Try.func7 rfl rfl ?_
  have hC0 := Ctx.start w0
  unfold S.NextPage at hF
  refine W_seq_reg ?_
  refine WL_box (cs := [u3, (.int .i64 a3.2)]) hC0 rfl rfl rfl (fun b1 w1 hC1 hB1 => ?_)
  refine WL_box (cs := [(.int .i64 a4.1.1), u4, (.int .i64 a4.2.1), (.int .i64 a4.2.2)]) hC1 rfl rfl rfl (fun b2 w2 hC2 hB2 => ?_)
  refine WL_assign rfl rfl ?_
  refine WL_alloc hC2 zero37 rfl rfl (fun b3 w3 hC3 hB3 => ?_)
  refine WL_assign rfl rfl ?_
  refine WL_nil ?_
  refine W_seq_reg ?_
  refine WL_load_box_agg [(.int .i64 a4.1.1), u4, (.int .i64 a4.2.1), (.int .i64 a4.2.2)] hC3 1 rfl rfl rfl Try.isAgg37 Try.sizeOf37 rfl rfl ?_
  obtain ⟨x1, hr1, hF⟩ := bind_some hF
  refine WL_call Try.call28 rfl rfl (c_S_l25Cursor ((a4.1.1, a4.1.2), a4.2.1, a4.2.2) u4 (g4.now hC3.keep) x1 hr1) ?_
  rintro v1 w4 ⟨hB4, F1, hv1, hn1, hb1⟩
  have hC4 := hC3.push hB4 (A := Item.own v1 x1) hv1 hn1 hb1
  obtain ⟨v2, rfl, hC5⟩ := st37_own hC4
  refine WL_alloc hC5 zero37 rfl rfl (fun b4 w5 hC6 hB5 => ?_)
  refine WL_store_box_agg (cs' := [(.int .i64 x1.1.1), v2, (.int .i64 x1.2.1), (.int .i64 x1.2.2)]) (new := [(.int .i64 x1.1.1), v2, (.int .i64 x1.2.1), (.int .i64 x1.2.2)]) hC6 0 rfl rfl (by intro v hv; simp only [List.mem_cons, List.not_mem_nil, or_false] at hv; rcases hv with rfl | rfl | rfl | rfl; exact rfl; exact (ro_one (hC6.ro 1 rfl)); exact rfl; exact rfl) rfl Try.sizeOf37 rfl rfl (fun w6 hC7 => ?_)
  try dsimp only [List.set] at hC7
  refine WL_nil ?_
  refine W_seq ?_
  obtain ⟨r1, hr2, hF⟩ := bind_some hF
  refine W_cut (fun l w => ∃ x2 : Bool, x2 = r1 ∧ l = [(1, u2), (4, (.int .i64 a5)), (7, (ptr b1 0)), (8, (ptr b2 0)), (11, (ptr b3 0)), (13, (ptr b4 0)), (41, (.bool x2))] ∧ Below w6.heap.size w6 w ∧ Ctx [] w0 w [Item.box b4 [(.int .i64 x1.1.1), v2, (.int .i64 x1.2.1), (.int .i64 x1.2.2)], Item.own v2 (x1.1.2 : (List Int)), Item.box b3 [(.int .i64 0), (.slice none 0 0), (.int .i64 0), (.int .i64 0)], Item.box b2 [(.int .i64 a4.1.1), u4, (.int .i64 a4.2.1), (.int .i64 a4.2.2)], Item.box b1 [u3, (.int .i64 a3.2)]]) ?_ ?_
  · refine W_reg ?_
    refine WL_move rfl rfl ?_
    refine WL_load_box_agg [u3, (.int .i64 a3.2)] hC7 4 rfl rfl rfl Try.isAgg44 Try.sizeOf44 rfl rfl ?_
    obtain ⟨x3, hr3, hr2⟩ := bind_some hr2
    refine WL_call Try.call29 rfl rfl (c_S_IsSource a1 u1 (g1.now hC7.keep) (a3.1, a3.2) u3 (g3.now hC7.keep) x3 hr3) ?_
    intro _ w8 hv2
    obtain ⟨rfl, hB7⟩ := res_bool hv2
    have hC9 := hC7.grow hB7
    refine WL_not rfl rfl ?_
    refine WL_move rfl rfl ?_
    refine WL_fork (fun hc1 => ?_) (fun hc1 => ?_)
    · replace hr2 := ite_t hr2 hc1
      refine WL_guard_skip rfl rfl (by simp) rfl ?_
      refine WL_guard_skip rfl rfl (by simp) rfl ?_
      refine WL_guard_skip rfl rfl (by simp) rfl ?_
      refine WL_guard_skip rfl rfl (by simp) rfl ?_
      refine WL_guard_skip rfl rfl (by simp) rfl ?_
      refine WL_guard_skip rfl rfl (by simp) rfl ?_
      refine WL_pick_t rfl rfl rfl ?_
      refine WL_move rfl rfl ?_
      refine WL_guard_skip rfl rfl (by simp) rfl ?_
      refine WL_guard_skip rfl rfl (by simp) rfl ?_
      refine WL_guard_skip rfl rfl (by simp) rfl ?_
      refine WL_pick_t rfl rfl rfl ?_
      refine WL_move rfl rfl ?_
      refine WL_guard_skip rfl rfl (by simp) rfl ?_
      refine WL_guard_skip rfl rfl (by simp) rfl ?_
      refine WL_guard_skip rfl rfl (by simp) rfl ?_
      refine WL_guard_skip rfl rfl (by simp) rfl ?_
      refine WL_pick_t rfl rfl rfl ?_
      refine WL_nil ?_
      have hq1 := Option.some.inj hr2
      subst hq1
      refine nrm_sub (l' := [(1, u2), (4, (.int .i64 a5)), (7, (ptr b1 0)), (8, (ptr b2 0)), (11, (ptr b3 0)), (13, (ptr b4 0)), (41, (.bool true))]) ⟨rfl, rfl, rfl, rfl, rfl, rfl, rfl, trivial⟩ ?_
      exact ⟨true, rfl, rfl, (Keep.of hB7).below, hC9⟩
    · replace hr2 := ite_f hr2 hc1
      refine WL_guard rfl rfl ?_
      refine WL_move rfl rfl ?_
      refine WL_guard rfl rfl ?_
      refine WL_move rfl rfl ?_
      refine WL_guard rfl rfl ?_
      refine WL_field Try.underlying37 rfl rfl (fun w => ⟨_, Try.sizeOf35 w⟩) rfl rfl ?_
      refine WL_guard rfl rfl ?_
      refine WL_load_box_agg [(.int .i64 a4.1.1), u4] hC9 3 rfl rfl rfl Try.isAgg35 Try.sizeOf35 rfl rfl ?_
      obtain ⟨x4, hr4, hr2⟩ := bind_some hr2
      refine WL_guard rfl rfl ?_
      refine WL_call Try.call30 rfl rfl (c_S_IsAccess a1 u1 (g1.now hC9.keep) a2 u2 (g2.now hC9.keep) (a4.1.1, a4.1.2) u4 (g4.now hC9.keep) x4 hr4) ?_
      intro _ w9 hv3
      obtain ⟨rfl, hB8⟩ := res_bool hv3
      have hC10 := hC9.grow hB8
      refine WL_guard rfl rfl ?_
      refine WL_not rfl rfl ?_
      refine WL_pick_f rfl rfl rfl ?_
      refine WL_move rfl rfl ?_
      refine WL_fork (fun hc2 => ?_) (fun hc2 => ?_)
      · replace hr2 := ite_t hr2 hc2
        refine WL_guard_skip rfl rfl (by simp) rfl ?_
        refine WL_guard_skip rfl rfl (by simp) rfl ?_
        refine WL_guard_skip rfl rfl (by simp) rfl ?_
        refine WL_pick_t rfl rfl rfl ?_
        refine WL_move rfl rfl ?_
        refine WL_guard_skip rfl rfl (by simp) rfl ?_
        refine WL_guard_skip rfl rfl (by simp) rfl ?_
        refine WL_guard_skip rfl rfl (by simp) rfl ?_
        refine WL_guard_skip rfl rfl (by simp) rfl ?_
        refine WL_pick_t rfl rfl rfl ?_
        refine WL_nil ?_
        have hq2 := Option.some.inj hr2
        subst hq2
        refine nrm_sub (l' := [(1, u2), (4, (.int .i64 a5)), (7, (ptr b1 0)), (8, (ptr b2 0)), (11, (ptr b3 0)), (13, (ptr b4 0)), (41, (.bool true))]) ⟨rfl, rfl, rfl, rfl, rfl, rfl, rfl, trivial⟩ ?_
        exact ⟨true, rfl, rfl, ((Keep.of hB7).then hB8).below, hC10⟩
      · replace hr2 := ite_f hr2 hc2
        refine WL_guard rfl rfl ?_
        refine WL_move rfl rfl ?_
        obtain ⟨x5, hr5, hr2⟩ := bind_some hr2
        refine WL_guard rfl rfl ?_
        refine WL_call Try.call31 rfl rfl (c_S_l1In a5 1 9 x5 hr5) ?_
        intro _ w10 hv4
        obtain ⟨rfl, hB9⟩ := res_bool hv4
        have hC11 := hC10.grow hB9
        refine WL_guard rfl rfl ?_
        refine WL_not rfl rfl ?_
        refine WL_pick_f rfl rfl rfl ?_
        refine WL_move rfl rfl ?_
        refine WL_fork (fun hc3 => ?_) (fun hc3 => ?_)
        · replace hr2 := ite_t hr2 hc3
          refine WL_guard_skip rfl rfl (by simp) rfl ?_
          refine WL_guard_skip rfl rfl (by simp) rfl ?_
          refine WL_guard_skip rfl rfl (by simp) rfl ?_
          refine WL_guard_skip rfl rfl (by simp) rfl ?_
          refine WL_pick_t rfl rfl rfl ?_
          refine WL_nil ?_
          have hq3 := Option.some.inj hr2
          subst hq3
          refine nrm_sub (l' := [(1, u2), (4, (.int .i64 a5)), (7, (ptr b1 0)), (8, (ptr b2 0)), (11, (ptr b3 0)), (13, (ptr b4 0)), (41, (.bool true))]) ⟨rfl, rfl, rfl, rfl, rfl, rfl, rfl, trivial⟩ ?_
          exact ⟨true, rfl, rfl, (((Keep.of hB7).then hB8).then hB9).below, hC11⟩
        · replace hr2 := ite_f hr2 hc3
          refine WL_guard rfl rfl ?_
          refine WL_field Try.underlying37 rfl rfl (fun w => ⟨_, Try.sizeOf3 w⟩) rfl rfl ?_
          refine WL_guard rfl rfl ?_
          refine WL_load_box hC11 3 rfl rfl Try.isAgg3 rfl rfl ?_
          obtain ⟨x6, hr6, hr2⟩ := bind_some hr2
          refine WL_guard rfl rfl ?_
          refine WL_call Try.call31 rfl rfl (c_S_l1In a4.2.1 0 1000 x6 hr6) ?_
          intro _ w11 hv5
          obtain ⟨rfl, hB10⟩ := res_bool hv5
          have hC12 := hC11.grow hB10
          refine WL_guard rfl rfl ?_
          refine WL_not rfl rfl ?_
          refine WL_pick_f rfl rfl rfl ?_
          refine WL_nil ?_
          have hq4 := Option.some.inj hr2
          subst hq4
          refine nrm_sub (l' := [(1, u2), (4, (.int .i64 a5)), (7, (ptr b1 0)), (8, (ptr b2 0)), (11, (ptr b3 0)), (13, (ptr b4 0)), (41, (.bool (!x6)))]) ⟨rfl, rfl, rfl, rfl, rfl, rfl, rfl, trivial⟩ ?_
          exact ⟨(!x6), rfl, rfl, ((((Keep.of hB7).then hB8).then hB9).then hB10).below, hC12⟩
  · rintro _ w7 ⟨x2, rfl, rfl, hB6, hC8⟩
    try dsimp only at hF
    refine W_cond rfl (fun hc4 => ?_) (fun hc4 => ?_)
    · replace hF := ite_t hF hc4
      refine W_seq ?_
      refine W_drawn 5 rfl hmix (fun w12 hB11 => ?_)
      have hC13 := hC8.grow hB11
      refine WA.sub (l' := [(1, u2), (4, (.int .i64 a5)), (7, (ptr b1 0)), (8, (ptr b2 0)), (11, (ptr b3 0)), (13, (ptr b4 0)), (41, (.bool x2))]) ?_ ⟨rfl, rfl, rfl, rfl, rfl, rfl, rfl, trivial⟩
      refine WA_postsE [⟨0, [], fun vs => PW.own (([] : List (Int × (List Int))) : (List (Int × (List Int)))), []⟩, ⟨1, [], fun vs => PW.val (.agg #[(.int .i64 x1.1.1), v2, (.int .i64 x1.2.1), (.int .i64 x1.2.2)]), []⟩, ⟨2, [42], fun vs => PW.val (vs.getD 0 undef), []⟩] [[], [], [0]] 2 rfl (by kernel_rfl) (by kernel_rfl) rfl ?_ ?_
      · refine StepsE_cons rfl ?_ ?_
        · intro w14 hB13
          refine DepsE_nil ?_
          refine ⟨_, rfl, ?_⟩
          refine WL_buildSlice (vs := []) (Ctx.start w14) Try.underlying34 ty78 rfl rfl rfl rfl (by simp) rfl rfl (fun b5 w13 hC14 hB12 => ?_)
          have hC15 := hC14.row0 (α := (Int × (List Int)))
          have hC16 := hC15.front 1 rfl
          dsimp only [List.eraseIdx, List.cons_append, List.nil_append, List.append_nil] at hC16
          have hC17 : Ctx [] w14 w13 (Item.own (.slice (some ⟨b5, 0, none⟩) 0 0) (([] : List (Int × (List Int))) : List (Int × (List Int))) :: []) := hC16.rowOwn (by simp [maxLen])
          refine WL_nil ?_
          exact FinE_ctx hC17 rfl rfl (fun F h => h)
        refine StepsE_cons rfl ?_ ?_
        · intro w14 hB13
          refine DepsE_nil ?_
          refine ⟨_, rfl, ?_⟩
          refine WL_load_box_agg [(.int .i64 x1.1.1), v2, (.int .i64 x1.2.1), (.int .i64 x1.2.2)] (hC13.grow hB13) 0 rfl rfl rfl Try.isAgg37 Try.sizeOf37 rfl rfl ?_
          refine WL_nil ?_
          exact FinE_val (Below.refl _ _) rfl rfl ⟨rfl, rfl⟩
        refine StepsE_cons rfl ?_ ?_
        · intro w14 hB13
          refine DepsE_cons rfl rfl rfl ?_
          intro v3 F2 hv6 _
          refine DepsE_nil ?_
          refine ⟨_, rfl, ?_⟩
          refine WL_assign rfl rfl ?_
          refine WL_nil ?_
          exact FinE_val (Below.refl _ _) rfl rfl ⟨rfl, rfl⟩
        exact StepsE_nil
      · intro w15 hB14
        refine AllE_cons rfl rfl rfl ?_
        intro v3 F2 hv6
        refine AllE_cons rfl rfl rfl ?_
        rintro _ _ ⟨rfl, rfl⟩
        refine AllE_cons rfl rfl rfl ?_
        rintro _ _ ⟨rfl, rfl⟩
        refine AllE_nil ?_
        intro hn2 hb2
        have hC18 := hC13.pushL hB14 (Bs := [Item.own v3 (([] : List (Int × (List Int))) : (List (Int × (List Int))))]) (Fs := [F2]) ⟨F2, _, rfl, hv6, rfl⟩ (by simpa using hn2) (fun b h => (hb2 b (by simpa using h)).1)
        refine WA_one 3 (by kernel_rfl) rfl ?_
        refine WL_store_box_agg (cs' := [(.int .i64 x1.1.1), v2, (.int .i64 x1.2.1), (.int .i64 x1.2.2)]) (new := [(.int .i64 x1.1.1), v2, (.int .i64 x1.2.1), (.int .i64 x1.2.2)]) hC18 3 rfl rfl (by intro v hv; simp only [List.mem_cons, List.not_mem_nil, or_false] at hv; rcases hv with rfl | rfl | rfl | rfl; exact rfl; exact (ro_one (hC18.ro 2 rfl)); exact rfl; exact rfl) rfl Try.sizeOf37 rfl rfl (fun w16 hC19 => ?_)
        try dsimp only [List.set] at hC19
        refine WL_nil ?_
        refine WA_take 4 rfl (by kernel_rfl) (by kernel_rfl) (by kernel_rfl) rfl (fl_assign rfl) ?_
        refine WL_assign rfl rfl ?_
        refine WL_nil ?_
        refine WA_done (by kernel_rfl) ?_
        refine nrm_normal ?_
        refine W_ret ?_
        refine nrm_ret ?_
        have hq5 := Option.some.inj hF
        subst hq5
        refine fn_retG3 rfl (rv_tmp rfl) (rv_cell_agg (cs' := [(.int .i64 x1.1.1), v2, (.int .i64 x1.2.1), (.int .i64 x1.2.2)]) hC19 (i := 3) rfl rfl rfl Try.isAgg37 Try.sizeOf37 rfl) (rv_tmp rfl) ?_
        have hC20 := hC19.triv (int_val (3))
        have hC22 : Ctx [] w0 _ [Item.own v2 (x1.1.2 : (List Int)), Item.own (.int .i64 3) (3 : Int), Item.own v3 (([] : List (Int × (List Int))) : (List (Int × (List Int)))), Item.box b4 [(.int .i64 x1.1.1), v2, (.int .i64 x1.2.1), (.int .i64 x1.2.2)], Item.box b3 [(.int .i64 x1.1.1), v2, (.int .i64 x1.2.1), (.int .i64 x1.2.2)], Item.box b2 [(.int .i64 a4.1.1), u4, (.int .i64 a4.2.1), (.int .i64 a4.2.2)], Item.box b1 [u3, (.int .i64 a3.2)]] := hC20.front 3 rfl
        have hC21 := own_st37 x1.1.1 v2 x1.1.2 x1.2.1 x1.2.2 hC22
        have hC23 : Ctx [] w0 _ [Item.own v3 (([] : List (Int × (List Int))) : (List (Int × (List Int)))), Item.own (.agg #[(.int .i64 x1.1.1), v2, (.int .i64 x1.2.1), (.int .i64 x1.2.2)]) (((x1.1.1, x1.1.2), x1.2.1, x1.2.2) : ((Int × (List Int)) × Int × Int)), Item.own (.int .i64 3) (3 : Int), Item.box b4 [(.int .i64 x1.1.1), v2, (.int .i64 x1.2.1), (.int .i64 x1.2.2)], Item.box b3 [(.int .i64 x1.1.1), v2, (.int .i64 x1.2.1), (.int .i64 x1.2.2)], Item.box b2 [(.int .i64 a4.1.1), u4, (.int .i64 a4.2.1), (.int .i64 a4.2.2)], Item.box b1 [u3, (.int .i64 a3.2)]] := hC21.front 2 rfl
        exact ⟨_, rfl, res3_of hC23⟩
    · replace hF := ite_f hF hc4
      refine W_skip ?_
      refine nrm_normal ?_
      refine W_seq ?_
      refine W_seq_reg ?_
      refine WL_field Try.underlying37 rfl rfl (fun w => ⟨_, Try.sizeOf3 w⟩) rfl rfl ?_
      refine WL_load_box hC8 3 rfl rfl Try.isAgg3 rfl rfl ?_
      refine WL_field Try.underlying44 rfl rfl (fun w => ⟨_, Try.sizeOf3 w⟩) rfl rfl ?_
      refine WL_load_box hC8 4 rfl rfl Try.isAgg3 rfl rfl ?_
      refine WL_neq rfl rfl rfl ?_
      refine WL_nil ?_
      refine W_cond rfl (fun hc5 => ?_) (fun hc5 => ?_)
      · replace hF := ite_t hF hc5
        refine W_seq ?_
        refine W_drawn 5 rfl hmix (fun w17 hB15 => ?_)
        have hC24 := hC8.grow hB15
        refine WA.sub (l' := [(1, u2), (4, (.int .i64 a5)), (7, (ptr b1 0)), (8, (ptr b2 0)), (11, (ptr b3 0)), (13, (ptr b4 0)), (41, (.bool x2)), (44, (ptr b2 3)), (45, (.int .i64 a4.2.2)), (46, (ptr b1 1)), (47, (.int .i64 a3.2)), (48, (.bool (!decide (a4.2.2 = a3.2))))]) ?_ ⟨rfl, rfl, rfl, rfl, rfl, rfl, rfl, rfl, rfl, rfl, rfl, rfl, trivial⟩
        refine WA_postsE [⟨0, [], fun vs => PW.own (([] : List (Int × (List Int))) : (List (Int × (List Int)))), []⟩, ⟨1, [], fun vs => PW.val (.agg #[(.int .i64 x1.1.1), v2, (.int .i64 x1.2.1), (.int .i64 x1.2.2)]), []⟩, ⟨2, [49], fun vs => PW.val (vs.getD 0 undef), []⟩] [[], [], [0]] 2 rfl (by kernel_rfl) (by kernel_rfl) rfl ?_ ?_
        · refine StepsE_cons rfl ?_ ?_
          · intro w19 hB17
            refine DepsE_nil ?_
            refine ⟨_, rfl, ?_⟩
            refine WL_buildSlice (vs := []) (Ctx.start w19) Try.underlying34 ty78 rfl rfl rfl rfl (by simp) rfl rfl (fun b6 w18 hC25 hB16 => ?_)
            have hC26 := hC25.row0 (α := (Int × (List Int)))
            have hC27 := hC26.front 1 rfl
            dsimp only [List.eraseIdx, List.cons_append, List.nil_append, List.append_nil] at hC27
            have hC28 : Ctx [] w19 w18 (Item.own (.slice (some ⟨b6, 0, none⟩) 0 0) (([] : List (Int × (List Int))) : List (Int × (List Int))) :: []) := hC27.rowOwn (by simp [maxLen])
            refine WL_nil ?_
            exact FinE_ctx hC28 rfl rfl (fun F h => h)
          refine StepsE_cons rfl ?_ ?_
          · intro w19 hB17
            refine DepsE_nil ?_
            refine ⟨_, rfl, ?_⟩
            refine WL_load_box_agg [(.int .i64 x1.1.1), v2, (.int .i64 x1.2.1), (.int .i64 x1.2.2)] (hC24.grow hB17) 0 rfl rfl rfl Try.isAgg37 Try.sizeOf37 rfl rfl ?_
            refine WL_nil ?_
            exact FinE_val (Below.refl _ _) rfl rfl ⟨rfl, rfl⟩
          refine StepsE_cons rfl ?_ ?_
          · intro w19 hB17
            refine DepsE_cons rfl rfl rfl ?_
            intro v4 F3 hv7 _
            refine DepsE_nil ?_
            refine ⟨_, rfl, ?_⟩
            refine WL_assign rfl rfl ?_
            refine WL_nil ?_
            exact FinE_val (Below.refl _ _) rfl rfl ⟨rfl, rfl⟩
          exact StepsE_nil
        · intro w20 hB18
          refine AllE_cons rfl rfl rfl ?_
          intro v4 F3 hv7
          refine AllE_cons rfl rfl rfl ?_
          rintro _ _ ⟨rfl, rfl⟩
          refine AllE_cons rfl rfl rfl ?_
          rintro _ _ ⟨rfl, rfl⟩
          refine AllE_nil ?_
          intro hn3 hb3
          have hC29 := hC24.pushL hB18 (Bs := [Item.own v4 (([] : List (Int × (List Int))) : (List (Int × (List Int))))]) (Fs := [F3]) ⟨F3, _, rfl, hv7, rfl⟩ (by simpa using hn3) (fun b h => (hb3 b (by simpa using h)).1)
          refine WA_one 3 (by kernel_rfl) rfl ?_
          refine WL_store_box_agg (cs' := [(.int .i64 x1.1.1), v2, (.int .i64 x1.2.1), (.int .i64 x1.2.2)]) (new := [(.int .i64 x1.1.1), v2, (.int .i64 x1.2.1), (.int .i64 x1.2.2)]) hC29 3 rfl rfl (by intro v hv; simp only [List.mem_cons, List.not_mem_nil, or_false] at hv; rcases hv with rfl | rfl | rfl | rfl; exact rfl; exact (ro_one (hC29.ro 2 rfl)); exact rfl; exact rfl) rfl Try.sizeOf37 rfl rfl (fun w21 hC30 => ?_)
          try dsimp only [List.set] at hC30
          refine WL_nil ?_
          refine WA_take 4 rfl (by kernel_rfl) (by kernel_rfl) (by kernel_rfl) rfl (fl_assign rfl) ?_
          refine WL_assign rfl rfl ?_
          refine WL_nil ?_
          refine WA_done (by kernel_rfl) ?_
          refine nrm_normal ?_
          refine W_ret ?_
          refine nrm_ret ?_
          have hq6 := Option.some.inj hF
          subst hq6
          refine fn_retG3 rfl (rv_tmp rfl) (rv_cell_agg (cs' := [(.int .i64 x1.1.1), v2, (.int .i64 x1.2.1), (.int .i64 x1.2.2)]) hC30 (i := 3) rfl rfl rfl Try.isAgg37 Try.sizeOf37 rfl) (rv_tmp rfl) ?_
          have hC31 := hC30.triv (int_val (2))
          have hC33 : Ctx [] w0 _ [Item.own v2 (x1.1.2 : (List Int)), Item.own (.int .i64 2) (2 : Int), Item.own v4 (([] : List (Int × (List Int))) : (List (Int × (List Int)))), Item.box b4 [(.int .i64 x1.1.1), v2, (.int .i64 x1.2.1), (.int .i64 x1.2.2)], Item.box b3 [(.int .i64 x1.1.1), v2, (.int .i64 x1.2.1), (.int .i64 x1.2.2)], Item.box b2 [(.int .i64 a4.1.1), u4, (.int .i64 a4.2.1), (.int .i64 a4.2.2)], Item.box b1 [u3, (.int .i64 a3.2)]] := hC31.front 3 rfl
          have hC32 := own_st37 x1.1.1 v2 x1.1.2 x1.2.1 x1.2.2 hC33
          have hC34 : Ctx [] w0 _ [Item.own v4 (([] : List (Int × (List Int))) : (List (Int × (List Int)))), Item.own (.agg #[(.int .i64 x1.1.1), v2, (.int .i64 x1.2.1), (.int .i64 x1.2.2)]) (((x1.1.1, x1.1.2), x1.2.1, x1.2.2) : ((Int × (List Int)) × Int × Int)), Item.own (.int .i64 2) (2 : Int), Item.box b4 [(.int .i64 x1.1.1), v2, (.int .i64 x1.2.1), (.int .i64 x1.2.2)], Item.box b3 [(.int .i64 x1.1.1), v2, (.int .i64 x1.2.1), (.int .i64 x1.2.2)], Item.box b2 [(.int .i64 a4.1.1), u4, (.int .i64 a4.2.1), (.int .i64 a4.2.2)], Item.box b1 [u3, (.int .i64 a3.2)]] := hC32.front 2 rfl
          exact ⟨_, rfl, res3_of hC34⟩
      · replace hF := ite_f hF hc5
        refine W_skip ?_
        refine nrm_normal ?_
        refine W_seq ?_
        refine W_drawn 23 rfl hmix (fun w22 hB19 => ?_)
        have hC35 := hC8.grow hB19
        refine WA_take 0 rfl (by kernel_rfl) (by kernel_rfl) (by kernel_rfl) rfl (fl_move rfl) ?_
        refine WL_move rfl rfl ?_
        refine WL_nil ?_
        refine WA_take 1 rfl (by kernel_rfl) (by kernel_rfl) (by kernel_rfl) rfl (fl_field Try.underlying37 rfl rfl (fun w => ⟨_, Try.sizeOf35 w⟩) rfl) ?_
        refine WL_field Try.underlying37 rfl rfl (fun w => ⟨_, Try.sizeOf35 w⟩) rfl rfl ?_
        refine WL_nil ?_
        refine WA_take 2 rfl (by kernel_rfl) (by kernel_rfl) (by kernel_rfl) rfl (fl_field Try.underlying35 rfl rfl (fun w => ⟨_, Try.sizeOf3 w⟩) rfl) ?_
        refine WL_field Try.underlying35 rfl rfl (fun w => ⟨_, Try.sizeOf3 w⟩) rfl rfl ?_
        refine WL_nil ?_
        refine WA_take 6 rfl (by kernel_rfl) (by kernel_rfl) (by kernel_rfl) rfl (fl_field Try.underlying37 rfl rfl (fun w => ⟨_, Try.sizeOf35 w⟩) rfl) ?_
        refine WL_field Try.underlying37 rfl rfl (fun w => ⟨_, Try.sizeOf35 w⟩) rfl rfl ?_
        refine WL_nil ?_
        refine WA_take 7 rfl (by kernel_rfl) (by kernel_rfl) (by kernel_rfl) rfl (fl_field Try.underlying35 rfl rfl (fun w => ⟨_, Try.sizeOf22 w⟩) rfl) ?_
        refine WL_field Try.underlying35 rfl rfl (fun w => ⟨_, Try.sizeOf22 w⟩) rfl rfl ?_
        refine WL_nil ?_
        refine WA_take 9 rfl (by kernel_rfl) (by kernel_rfl) (by kernel_rfl) rfl (fl_field Try.underlying44 rfl rfl (fun w => ⟨_, Try.sizeOf34 w⟩) rfl) ?_
        refine WL_field Try.underlying44 rfl rfl (fun w => ⟨_, Try.sizeOf34 w⟩) rfl rfl ?_
        refine WL_nil ?_
        refine WA_take 12 rfl (by kernel_rfl) (by kernel_rfl) (by kernel_rfl) rfl (fl_field Try.underlying37 rfl rfl (fun w => ⟨_, Try.sizeOf3 w⟩) rfl) ?_
        refine WL_field Try.underlying37 rfl rfl (fun w => ⟨_, Try.sizeOf3 w⟩) rfl rfl ?_
        refine WL_nil ?_
        refine WA_take 14 rfl (by kernel_rfl) (by kernel_rfl) (by kernel_rfl) rfl (fl_move rfl) ?_
        refine WL_move rfl rfl ?_
        refine WL_nil ?_
        obtain ⟨x7, hx1, hF⟩ := bind_some hF
        obtain ⟨x8, hr7, hF⟩ := bind_some hF
        refine WA.sub (l' := [(1, u2), (4, (.int .i64 a5)), (7, (ptr b1 0)), (8, (ptr b2 0)), (11, (ptr b3 0)), (13, (ptr b4 0)), (41, (.bool x2)), (44, (ptr b2 3)), (45, (.int .i64 a4.2.2)), (46, (ptr b1 1)), (47, (.int .i64 a3.2)), (48, (.bool (!decide (a4.2.2 = a3.2)))), (52, u2), (53, (ptr b2 0)), (54, (ptr b2 0)), (58, (ptr b2 0)), (59, (ptr b2 1)), (61, (ptr b1 0)), (64, (ptr b2 2)), (66, (.int .i64 a5))]) ?_ ⟨rfl, rfl, rfl, rfl, rfl, rfl, rfl, rfl, rfl, rfl, rfl, rfl, rfl, rfl, rfl, rfl, rfl, rfl, rfl, rfl, trivial⟩
        refine WA_postsE [⟨3, [], fun vs => PW.val (.int .i64 a4.1.1), []⟩, ⟨4, [], fun vs => PW.at [] w0 x7, []⟩, ⟨5, [], fun vs => PW.ro [] w0 x7, []⟩, ⟨8, [], fun vs => PW.val u4, []⟩, ⟨10, [], fun vs => PW.val u3, []⟩, ⟨11, [], fun vs => PW.own x8, []⟩, ⟨13, [], fun vs => PW.val (.int .i64 a4.2.1), []⟩] [[], [3], [4], [], [], [5, 8, 10], []] 8 rfl (by kernel_rfl) (by kernel_rfl) rfl ?_ ?_
        · refine StepsE_cons rfl ?_ ?_
          · intro w24 hB21
            refine DepsE_nil ?_
            refine ⟨_, rfl, ?_⟩
            refine WL_load_box (hC35.grow hB21) 3 rfl rfl Try.isAgg3 rfl rfl ?_
            refine WL_nil ?_
            exact FinE_val (Below.refl _ _) rfl rfl ⟨rfl, rfl⟩
          refine StepsE_cons rfl ?_ ?_
          · intro w24 hB21
            refine DepsE_cons rfl rfl rfl ?_
            rintro _ _ ⟨rfl, rfl⟩ _
            refine DepsE_nil ?_
            refine ⟨_, rfl, ?_⟩
            refine WL_index Try.underlying41 ty70 g2 hx1 rfl rfl rfl (fun b7 o1 h1 => ?_)
            refine WL_nil ?_
            exact FinE_val (Below.refl _ _) rfl rfl ⟨rfl, _, _, rfl, h1⟩
          refine StepsE_cons rfl ?_ ?_
          · intro w24 hB21
            refine DepsE_cons rfl rfl rfl ?_
            rintro _ _ ⟨rfl, b7, o1, rfl, h1⟩ _
            refine DepsE_nil ?_
            refine ⟨_, rfl, ?_⟩
            refine WL_load ty70 h1 (hC35.keep.then hB21) rfl rfl (fun v7 h4 => ?_)
            refine WL_nil ?_
            exact FinE_val (Below.refl _ _) rfl rfl ⟨rfl, h4⟩
          refine StepsE_cons rfl ?_ ?_
          · intro w24 hB21
            refine DepsE_nil ?_
            refine ⟨_, rfl, ?_⟩
            refine WL_load_box (hC35.grow hB21) 3 rfl rfl Try.isAgg22 rfl rfl ?_
            refine WL_nil ?_
            exact FinE_val (Below.refl _ _) rfl rfl ⟨rfl, rfl⟩
          refine StepsE_cons rfl ?_ ?_
          · intro w24 hB21
            refine DepsE_nil ?_
            refine ⟨_, rfl, ?_⟩
            refine WL_load_box (hC35.grow hB21) 4 rfl rfl Try.isAgg34 rfl rfl ?_
            refine WL_nil ?_
            exact FinE_val (Below.refl _ _) rfl rfl ⟨rfl, rfl⟩
          refine StepsE_cons rfl ?_ ?_
          · intro w24 hB21
            refine DepsE_cons rfl rfl rfl ?_
            rintro v7 _ ⟨rfl, h4⟩ _
            obtain ⟨v6, rfl, h3⟩ := ro_st70 h4
            refine DepsE_cons rfl rfl rfl ?_
            rintro _ _ ⟨rfl, rfl⟩ _
            refine DepsE_cons rfl rfl rfl ?_
            rintro _ _ ⟨rfl, rfl⟩ _
            refine DepsE_nil ?_
            refine ⟨_, rfl, ?_⟩
            refine WL_call Try.call33 rfl rfl (c_S_l5Matches x7 v6 (h3.now (hC35.keep.then hB21)) a4.1.2 u4 (g4.now (hC35.keep.then hB21)) a3.1 u3 (g3.now (hC35.keep.then hB21)) x8 hr7) ?_
            rintro v8 w23 ⟨hB20, F4, hv8, hn4, hb4⟩
            refine WL_nil ?_
            exact FinE_own hB20 rfl rfl hv8 hn4 hb4 (Val.inh hv8)
          refine StepsE_cons rfl ?_ ?_
          · intro w24 hB21
            refine DepsE_nil ?_
            refine ⟨_, rfl, ?_⟩
            refine WL_load_box (hC35.grow hB21) 3 rfl rfl Try.isAgg3 rfl rfl ?_
            refine WL_nil ?_
            exact FinE_val (Below.refl _ _) rfl rfl ⟨rfl, rfl⟩
          exact StepsE_nil
        · intro w25 hB22
          refine AllE_cons rfl rfl rfl ?_
          rintro _ _ ⟨rfl, rfl⟩
          refine AllE_cons rfl rfl rfl ?_
          rintro _ _ ⟨rfl, b7, o1, rfl, h1⟩
          refine AllE_cons rfl rfl rfl ?_
          rintro v7 _ ⟨rfl, h4⟩
          obtain ⟨v6, rfl, h3⟩ := ro_st70 h4
          refine AllE_cons rfl rfl rfl ?_
          rintro _ _ ⟨rfl, rfl⟩
          refine AllE_cons rfl rfl rfl ?_
          rintro _ _ ⟨rfl, rfl⟩
          refine AllE_cons rfl rfl rfl ?_
          intro v8 F4 hv8
          refine AllE_cons rfl rfl rfl ?_
          rintro _ _ ⟨rfl, rfl⟩
          refine AllE_nil ?_
          intro hn5 hb5
          have hC36 := hC35.pushL hB22 (Bs := [Item.own v8 (x8 : (List (Int × (List Int))))]) (Fs := [F4]) ⟨F4, _, rfl, hv8, rfl⟩ (by simpa using hn5) (fun b h => (hb5 b (by simpa using h)).1)
          obtain ⟨x9, hr8, hF⟩ := bind_some hF
          refine WA_one 15 (by kernel_rfl) rfl ?_
          refine WL_call Try.call32 rfl rfl (c_S_PageAt x8 v8 ((hC36.ro 0 rfl).now (Keep.refl _ _)) a4.2.1 a5 x9 hr8) ?_
          rintro _ w26 ⟨hB23, v9, v10, v11, F5, F6, F7, rfl, hv9, hv10, hv11, hn6, hb6⟩
          obtain ⟨rfl, rfl⟩ := val_int hv10
          obtain ⟨rfl, rfl⟩ := val_bool hv11
          have hC37 := hC36.pushL hB23 (Bs := [Item.own v9 x9.1]) (Fs := [F5]) ⟨F5, _, rfl, hv9, rfl⟩ (by simpa using hn6) (fun b h => hb6 b (by simpa using h))
          refine WL_nil ?_
          refine WA_take 16 rfl (by kernel_rfl) (by kernel_rfl) (by kernel_rfl) rfl (fl_move rfl) ?_
          refine WL_move rfl rfl ?_
          refine WL_nil ?_
          refine WA_take 17 rfl (by kernel_rfl) (by kernel_rfl) (by kernel_rfl) rfl (fl_extract rfl rfl) ?_
          refine WL_extract rfl rfl rfl ?_
          refine WL_nil ?_
          refine WA_take 18 rfl (by kernel_rfl) (by kernel_rfl) (by kernel_rfl) rfl (fl_extract rfl rfl) ?_
          refine WL_extract rfl rfl rfl ?_
          refine WL_nil ?_
          refine WA_take 19 rfl (by kernel_rfl) (by kernel_rfl) (by kernel_rfl) rfl (fl_extract rfl rfl) ?_
          refine WL_extract rfl rfl rfl ?_
          refine WL_nil ?_
          refine WA_take 20 rfl (by kernel_rfl) (by kernel_rfl) (by kernel_rfl) rfl (fl_assign rfl) ?_
          refine WL_assign rfl rfl ?_
          refine WL_nil ?_
          refine WA_take 21 rfl (by kernel_rfl) (by kernel_rfl) (by kernel_rfl) rfl (fl_assign rfl) ?_
          refine WL_assign rfl rfl ?_
          refine WL_nil ?_
          refine WA_take 22 rfl (by kernel_rfl) (by kernel_rfl) (by kernel_rfl) rfl (fl_assign rfl) ?_
          refine WL_assign rfl rfl ?_
          refine WL_nil ?_
          refine WA_done (by kernel_rfl) ?_
          refine nrm_normal ?_
          refine W_seq ?_
          refine W_seq_reg ?_
          refine WL_move rfl rfl ?_
          refine WL_not rfl rfl ?_
          refine WL_nil ?_
          refine W_cond rfl (fun hc6 => ?_) (fun hc6 => ?_)
          · replace hF := ite_t hF hc6
            refine W_seq ?_
            refine W_drawn 5 rfl hmix (fun w27 hB24 => ?_)
            have hC38 := hC37.grow hB24
            refine WA.sub (l' := [(1, u2), (4, (.int .i64 a5)), (7, (ptr b1 0)), (8, (ptr b2 0)), (11, (ptr b3 0)), (13, (ptr b4 0)), (14, v9), (15, (.int .i64 x9.2.1)), (16, (.bool x9.2.2)), (41, (.bool x2)), (44, (ptr b2 3)), (45, (.int .i64 a4.2.2)), (46, (ptr b1 1)), (47, (.int .i64 a3.2)), (48, (.bool (!decide (a4.2.2 = a3.2)))), (51, (.tuple #[v9, (.int .i64 x9.2.1), (.bool x9.2.2)])), (52, u2), (53, (ptr b2 0)), (54, (ptr b2 0)), (55, (.int .i64 a4.1.1)), (56, (ptr b7 o1)), (57, (.agg #[(.int .i64 x7.1), v6, (.int .i64 x7.2.2.1), (.int .i64 x7.2.2.2.1), (.int .i64 x7.2.2.2.2)])), (58, (ptr b2 0)), (59, (ptr b2 1)), (60, u4), (61, (ptr b1 0)), (62, u3), (63, v8), (64, (ptr b2 2)), (65, (.int .i64 a4.2.1)), (66, (.int .i64 a5)), (67, (.tuple #[v9, (.int .i64 x9.2.1), (.bool x9.2.2)])), (68, v9), (69, (.int .i64 x9.2.1)), (70, (.bool x9.2.2)), (71, (.bool x9.2.2)), (72, (.bool (!x9.2.2)))]) ?_ ⟨rfl, rfl, rfl, rfl, rfl, rfl, rfl, rfl, rfl, rfl, rfl, rfl, rfl, rfl, rfl, rfl, rfl, rfl, rfl, rfl, rfl, rfl, rfl, rfl, rfl, rfl, rfl, rfl, rfl, rfl, rfl, rfl, rfl, rfl, rfl, rfl, rfl, trivial⟩
            refine WA_postsE [⟨0, [], fun vs => PW.own (([] : List (Int × (List Int))) : (List (Int × (List Int)))), []⟩, ⟨1, [], fun vs => PW.val (.agg #[(.int .i64 x1.1.1), v2, (.int .i64 x1.2.1), (.int .i64 x1.2.2)]), []⟩, ⟨2, [73], fun vs => PW.val (vs.getD 0 undef), []⟩] [[], [], [0]] 2 rfl (by kernel_rfl) (by kernel_rfl) rfl ?_ ?_
            · refine StepsE_cons rfl ?_ ?_
              · intro w29 hB26
                refine DepsE_nil ?_
                refine ⟨_, rfl, ?_⟩
                refine WL_buildSlice (vs := []) (Ctx.start w29) Try.underlying34 ty78 rfl rfl rfl rfl (by simp) rfl rfl (fun b8 w28 hC39 hB25 => ?_)
                have hC40 := hC39.row0 (α := (Int × (List Int)))
                have hC41 := hC40.front 1 rfl
                dsimp only [List.eraseIdx, List.cons_append, List.nil_append, List.append_nil] at hC41
                have hC42 : Ctx [] w29 w28 (Item.own (.slice (some ⟨b8, 0, none⟩) 0 0) (([] : List (Int × (List Int))) : List (Int × (List Int))) :: []) := hC41.rowOwn (by simp [maxLen])
                refine WL_nil ?_
                exact FinE_ctx hC42 rfl rfl (fun F h => h)
              refine StepsE_cons rfl ?_ ?_
              · intro w29 hB26
                refine DepsE_nil ?_
                refine ⟨_, rfl, ?_⟩
                refine WL_load_box_agg [(.int .i64 x1.1.1), v2, (.int .i64 x1.2.1), (.int .i64 x1.2.2)] (hC38.grow hB26) 2 rfl rfl rfl Try.isAgg37 Try.sizeOf37 rfl rfl ?_
                refine WL_nil ?_
                exact FinE_val (Below.refl _ _) rfl rfl ⟨rfl, rfl⟩
              refine StepsE_cons rfl ?_ ?_
              · intro w29 hB26
                refine DepsE_cons rfl rfl rfl ?_
                intro v12 F8 hv12 _
                refine DepsE_nil ?_
                refine ⟨_, rfl, ?_⟩
                refine WL_assign rfl rfl ?_
                refine WL_nil ?_
                exact FinE_val (Below.refl _ _) rfl rfl ⟨rfl, rfl⟩
              exact StepsE_nil
            · intro w30 hB27
              refine AllE_cons rfl rfl rfl ?_
              intro v12 F8 hv12
              refine AllE_cons rfl rfl rfl ?_
              rintro _ _ ⟨rfl, rfl⟩
              refine AllE_cons rfl rfl rfl ?_
              rintro _ _ ⟨rfl, rfl⟩
              refine AllE_nil ?_
              intro hn7 hb7
              have hC43 := hC38.pushL hB27 (Bs := [Item.own v12 (([] : List (Int × (List Int))) : (List (Int × (List Int))))]) (Fs := [F8]) ⟨F8, _, rfl, hv12, rfl⟩ (by simpa using hn7) (fun b h => (hb7 b (by simpa using h)).1)
              refine WA_one 3 (by kernel_rfl) rfl ?_
              refine WL_store_box_agg (cs' := [(.int .i64 x1.1.1), v2, (.int .i64 x1.2.1), (.int .i64 x1.2.2)]) (new := [(.int .i64 x1.1.1), v2, (.int .i64 x1.2.1), (.int .i64 x1.2.2)]) hC43 5 rfl rfl (by intro v hv; simp only [List.mem_cons, List.not_mem_nil, or_false] at hv; rcases hv with rfl | rfl | rfl | rfl; exact rfl; exact (ro_one (hC43.ro 4 rfl)); exact rfl; exact rfl) rfl Try.sizeOf37 rfl rfl (fun w31 hC44 => ?_)
              try dsimp only [List.set] at hC44
              refine WL_nil ?_
              refine WA_take 4 rfl (by kernel_rfl) (by kernel_rfl) (by kernel_rfl) rfl (fl_assign rfl) ?_
              refine WL_assign rfl rfl ?_
              refine WL_nil ?_
              refine WA_done (by kernel_rfl) ?_
              refine nrm_normal ?_
              refine W_ret ?_
              refine nrm_ret ?_
              have hq7 := Option.some.inj hF
              subst hq7
              refine fn_retG3 rfl (rv_tmp rfl) (rv_cell_agg (cs' := [(.int .i64 x1.1.1), v2, (.int .i64 x1.2.1), (.int .i64 x1.2.2)]) hC44 (i := 5) rfl rfl rfl Try.isAgg37 Try.sizeOf37 rfl) (rv_tmp rfl) ?_
              have hC45 := hC44.triv (int_val (3))
              have hC47 : Ctx [] w0 _ [Item.own v2 (x1.1.2 : (List Int)), Item.own (.int .i64 3) (3 : Int), Item.own v12 (([] : List (Int × (List Int))) : (List (Int × (List Int)))), Item.own v9 (x9.1 : (List (Int × (List Int)))), Item.own v8 (x8 : (List (Int × (List Int)))), Item.box b4 [(.int .i64 x1.1.1), v2, (.int .i64 x1.2.1), (.int .i64 x1.2.2)], Item.box b3 [(.int .i64 x1.1.1), v2, (.int .i64 x1.2.1), (.int .i64 x1.2.2)], Item.box b2 [(.int .i64 a4.1.1), u4, (.int .i64 a4.2.1), (.int .i64 a4.2.2)], Item.box b1 [u3, (.int .i64 a3.2)]] := hC45.front 5 rfl
              have hC46 := own_st37 x1.1.1 v2 x1.1.2 x1.2.1 x1.2.2 hC47
              have hC48 : Ctx [] w0 _ [Item.own v12 (([] : List (Int × (List Int))) : (List (Int × (List Int)))), Item.own (.agg #[(.int .i64 x1.1.1), v2, (.int .i64 x1.2.1), (.int .i64 x1.2.2)]) (((x1.1.1, x1.1.2), x1.2.1, x1.2.2) : ((Int × (List Int)) × Int × Int)), Item.own (.int .i64 3) (3 : Int), Item.own v9 (x9.1 : (List (Int × (List Int)))), Item.own v8 (x8 : (List (Int × (List Int)))), Item.box b4 [(.int .i64 x1.1.1), v2, (.int .i64 x1.2.1), (.int .i64 x1.2.2)], Item.box b3 [(.int .i64 x1.1.1), v2, (.int .i64 x1.2.1), (.int .i64 x1.2.2)], Item.box b2 [(.int .i64 a4.1.1), u4, (.int .i64 a4.2.1), (.int .i64 a4.2.2)], Item.box b1 [u3, (.int .i64 a3.2)]] := hC46.front 2 rfl
              exact ⟨_, rfl, res3_of hC48⟩
          · replace hF := ite_f hF hc6
            refine W_skip ?_
            refine nrm_normal ?_
            refine W_seq_reg ?_
            refine WL_move rfl rfl ?_
            refine WL_field Try.underlying37 rfl rfl (fun w => ⟨_, Try.sizeOf3 w⟩) rfl rfl ?_
            refine WL_store_box (cs' := [(.int .i64 x1.1.1), v2, (.int .i64 x9.2.1), (.int .i64 x1.2.2)]) hC37 2 rfl rfl rfl rfl Try.sizeOf3 rfl rfl (fun w32 hC49 => ?_)
            try dsimp only [List.set] at hC49
            refine WL_nil ?_
            refine W_seq ?_
            refine W_seq ?_
            refine W_drawn 15 rfl hmix (fun w33 hB28 => ?_)
            have hC50 := hC49.grow hB28
            refine WA_take 0 rfl (by kernel_rfl) (by kernel_rfl) (by kernel_rfl) rfl (fl_move rfl) ?_
            refine WL_move rfl rfl ?_
            refine WL_nil ?_
            refine WA_take 1 rfl (by kernel_rfl) (by kernel_rfl) (by kernel_rfl) rfl (fl_move rfl) ?_
            refine WL_move rfl rfl ?_
            refine WL_nil ?_
            refine WA_take 2 rfl (by kernel_rfl) (by kernel_rfl) (by kernel_rfl) rfl (fl_field Try.underlying37 rfl rfl (fun w => ⟨_, Try.sizeOf35 w⟩) rfl) ?_
            refine WL_field Try.underlying37 rfl rfl (fun w => ⟨_, Try.sizeOf35 w⟩) rfl rfl ?_
            refine WL_nil ?_
            refine WA_take 3 rfl (by kernel_rfl) (by kernel_rfl) (by kernel_rfl) rfl (fl_field Try.underlying35 rfl rfl (fun w => ⟨_, Try.sizeOf3 w⟩) rfl) ?_
            refine WL_field Try.underlying35 rfl rfl (fun w => ⟨_, Try.sizeOf3 w⟩) rfl rfl ?_
            refine WL_nil ?_
            refine WA_take 7 rfl (by kernel_rfl) (by kernel_rfl) (by kernel_rfl) rfl (fl_field Try.underlying37 rfl rfl (fun w => ⟨_, Try.sizeOf35 w⟩) rfl) ?_
            refine WL_field Try.underlying37 rfl rfl (fun w => ⟨_, Try.sizeOf35 w⟩) rfl rfl ?_
            refine WL_nil ?_
            refine WA_take 8 rfl (by kernel_rfl) (by kernel_rfl) (by kernel_rfl) rfl (fl_field Try.underlying35 rfl rfl (fun w => ⟨_, Try.sizeOf22 w⟩) rfl) ?_
            refine WL_field Try.underlying35 rfl rfl (fun w => ⟨_, Try.sizeOf22 w⟩) rfl rfl ?_
            refine WL_nil ?_
            refine WA_take 10 rfl (by kernel_rfl) (by kernel_rfl) (by kernel_rfl) rfl (fl_field Try.underlying44 rfl rfl (fun w => ⟨_, Try.sizeOf34 w⟩) rfl) ?_
            refine WL_field Try.underlying44 rfl rfl (fun w => ⟨_, Try.sizeOf34 w⟩) rfl rfl ?_
            refine WL_nil ?_
            obtain ⟨x10, hx2, hF⟩ := bind_some hF
            refine WA.sub (l' := [(1, u2), (4, (.int .i64 a5)), (7, (ptr b1 0)), (8, (ptr b2 0)), (11, (ptr b3 0)), (13, (ptr b4 0)), (14, v9), (15, (.int .i64 x9.2.1)), (16, (.bool x9.2.2)), (41, (.bool x2)), (44, (ptr b2 3)), (45, (.int .i64 a4.2.2)), (46, (ptr b1 1)), (47, (.int .i64 a3.2)), (48, (.bool (!decide (a4.2.2 = a3.2)))), (51, (.tuple #[v9, (.int .i64 x9.2.1), (.bool x9.2.2)])), (52, u2), (53, (ptr b2 0)), (54, (ptr b2 0)), (55, (.int .i64 a4.1.1)), (56, (ptr b7 o1)), (57, (.agg #[(.int .i64 x7.1), v6, (.int .i64 x7.2.2.1), (.int .i64 x7.2.2.2.1), (.int .i64 x7.2.2.2.2)])), (58, (ptr b2 0)), (59, (ptr b2 1)), (60, u4), (61, (ptr b1 0)), (62, u3), (63, v8), (64, (ptr b2 2)), (65, (.int .i64 a4.2.1)), (66, (.int .i64 a5)), (67, (.tuple #[v9, (.int .i64 x9.2.1), (.bool x9.2.2)])), (68, v9), (69, (.int .i64 x9.2.1)), (70, (.bool x9.2.2)), (71, (.bool x9.2.2)), (72, (.bool (!x9.2.2))), (75, (.int .i64 x9.2.1)), (76, (ptr b4 2)), (77, (.int .i64 x9.2.1)), (78, u2), (79, (ptr b2 0)), (80, (ptr b2 0)), (84, (ptr b2 0)), (85, (ptr b2 1)), (87, (ptr b1 0))]) ?_ ⟨rfl, rfl, rfl, rfl, rfl, rfl, rfl, rfl, rfl, rfl, rfl, rfl, rfl, rfl, rfl, rfl, rfl, rfl, rfl, rfl, rfl, rfl, rfl, rfl, rfl, rfl, rfl, rfl, rfl, rfl, rfl, rfl, rfl, rfl, rfl, rfl, rfl, rfl, rfl, rfl, rfl, rfl, rfl, rfl, rfl, rfl, trivial⟩
            refine WA_postsE [⟨4, [], fun vs => PW.val (.int .i64 a4.1.1), []⟩, ⟨5, [], fun vs => PW.at [] w0 x10, []⟩, ⟨6, [], fun vs => PW.ro [] w0 x10, []⟩, ⟨9, [], fun vs => PW.val u4, []⟩, ⟨11, [], fun vs => PW.val u3, []⟩] [[], [4], [5], [], []] 3 rfl (by kernel_rfl) (by kernel_rfl) rfl ?_ ?_
            · refine StepsE_cons rfl ?_ ?_
              · intro w34 hB29
                refine DepsE_nil ?_
                refine ⟨_, rfl, ?_⟩
                refine WL_load_box (hC50.grow hB29) 5 rfl rfl Try.isAgg3 rfl rfl ?_
                refine WL_nil ?_
                exact FinE_val (Below.refl _ _) rfl rfl ⟨rfl, rfl⟩
              refine StepsE_cons rfl ?_ ?_
              · intro w34 hB29
                refine DepsE_cons rfl rfl rfl ?_
                rintro _ _ ⟨rfl, rfl⟩ _
                refine DepsE_nil ?_
                refine ⟨_, rfl, ?_⟩
                refine WL_index Try.underlying41 ty70 g2 hx2 rfl rfl rfl (fun b9 o2 h5 => ?_)
                refine WL_nil ?_
                exact FinE_val (Below.refl _ _) rfl rfl ⟨rfl, _, _, rfl, h5⟩
              refine StepsE_cons rfl ?_ ?_
              · intro w34 hB29
                refine DepsE_cons rfl rfl rfl ?_
                rintro _ _ ⟨rfl, b9, o2, rfl, h5⟩ _
                refine DepsE_nil ?_
                refine ⟨_, rfl, ?_⟩
                refine WL_load ty70 h5 (hC50.keep.then hB29) rfl rfl (fun v15 h8 => ?_)
                refine WL_nil ?_
                exact FinE_val (Below.refl _ _) rfl rfl ⟨rfl, h8⟩
              refine StepsE_cons rfl ?_ ?_
              · intro w34 hB29
                refine DepsE_nil ?_
                refine ⟨_, rfl, ?_⟩
                refine WL_load_box (hC50.grow hB29) 5 rfl rfl Try.isAgg22 rfl rfl ?_
                refine WL_nil ?_
                exact FinE_val (Below.refl _ _) rfl rfl ⟨rfl, rfl⟩
              refine StepsE_cons rfl ?_ ?_
              · intro w34 hB29
                refine DepsE_nil ?_
                refine ⟨_, rfl, ?_⟩
                refine WL_load_box (hC50.grow hB29) 6 rfl rfl Try.isAgg34 rfl rfl ?_
                refine WL_nil ?_
                exact FinE_val (Below.refl _ _) rfl rfl ⟨rfl, rfl⟩
              exact StepsE_nil
            · intro w35 hB30
              refine AllE_cons rfl rfl rfl ?_
              rintro _ _ ⟨rfl, rfl⟩
              refine AllE_cons rfl rfl rfl ?_
              rintro _ _ ⟨rfl, b9, o2, rfl, h5⟩
              refine AllE_cons rfl rfl rfl ?_
              rintro v15 _ ⟨rfl, h8⟩
              obtain ⟨v14, rfl, h7⟩ := ro_st70 h8
              refine AllE_cons rfl rfl rfl ?_
              rintro _ _ ⟨rfl, rfl⟩
              refine AllE_cons rfl rfl rfl ?_
              rintro _ _ ⟨rfl, rfl⟩
              refine AllE_nil ?_
              intro hn8 hb8
              have hC51 := hC50.grow hB30
              obtain ⟨x11, hr9, hF⟩ := bind_some hF
              refine WA_one 12 (by kernel_rfl) rfl ?_
              refine WL_call Try.call33 rfl rfl (c_S_l5Matches x10 v14 (h7.now hC51.keep) a4.1.2 u4 (g4.now hC51.keep) a3.1 u3 (g3.now hC51.keep) x11 hr9) ?_
              rintro v16 w36 ⟨hB31, F9, hv13, hn9, hb9⟩
              have hC52 := hC51.push hB31 (A := Item.own v16 x11) hv13 hn9 hb9
              refine WL_nil ?_
              refine WA_take 13 rfl (by kernel_rfl) (by kernel_rfl) (by kernel_rfl) rfl (fl_len Try.underlying34 (hC52.ro 0 rfl) rfl) ?_
              refine WL_len Try.underlying34 (hC52.ro 0 rfl) rfl rfl ?_
              refine WL_nil ?_
              refine WA_take 14 rfl (by kernel_rfl) (by kernel_rfl) (by kernel_rfl) rfl (fl_eql rfl rfl) ?_
              refine WL_eql rfl rfl rfl ?_
              refine WL_nil ?_
              refine WA_done (by kernel_rfl) ?_
              refine nrm_normal ?_
              refine W_cond rfl (fun hc7 => ?_) (fun hc7 => ?_)
              · replace hF := ite_t hF hc7
                refine W_seq ?_
                refine W_drawn 5 rfl hmix (fun w37 hB32 => ?_)
                have hC53 := hC52.grow hB32
                refine WA_take 0 rfl (by kernel_rfl) (by kernel_rfl) (by kernel_rfl) rfl (fl_move rfl) ?_
                refine WL_move rfl rfl ?_
                refine WL_nil ?_
                refine WA_take 2 rfl (by kernel_rfl) (by kernel_rfl) (by kernel_rfl) rfl (fl_assign rfl) ?_
                refine WL_assign rfl rfl ?_
                refine WL_nil ?_
                refine WA_one 1 (by kernel_rfl) rfl ?_
                refine WL_load_box_agg [(.int .i64 x1.1.1), v2, (.int .i64 x9.2.1), (.int .i64 x1.2.2)] hC53 3 rfl rfl rfl Try.isAgg37 Try.sizeOf37 rfl rfl ?_
                refine WL_nil ?_
                refine WA_one 3 (by kernel_rfl) rfl ?_
                refine WL_store_box_agg (cs' := [(.int .i64 x1.1.1), v2, (.int .i64 x9.2.1), (.int .i64 x1.2.2)]) (new := [(.int .i64 x1.1.1), v2, (.int .i64 x9.2.1), (.int .i64 x1.2.2)]) hC53 5 rfl rfl (by intro v hv; simp only [List.mem_cons, List.not_mem_nil, or_false] at hv; rcases hv with rfl | rfl | rfl | rfl; exact rfl; exact (ro_one (hC53.ro 4 rfl)); exact rfl; exact rfl) rfl Try.sizeOf37 rfl rfl (fun w38 hC54 => ?_)
                try dsimp only [List.set] at hC54
                refine WL_nil ?_
                refine WA_take 4 rfl (by kernel_rfl) (by kernel_rfl) (by kernel_rfl) rfl (fl_assign rfl) ?_
                refine WL_assign rfl rfl ?_
                refine WL_nil ?_
                refine WA_done (by kernel_rfl) ?_
                refine nrm_normal ?_
                refine W_ret ?_
                refine nrm_ret ?_
                have hq8 := Option.some.inj hF
                subst hq8
                refine fn_retG3 rfl (rv_tmp rfl) (rv_cell_agg (cs' := [(.int .i64 x1.1.1), v2, (.int .i64 x9.2.1), (.int .i64 x1.2.2)]) hC54 (i := 5) rfl rfl rfl Try.isAgg37 Try.sizeOf37 rfl) (rv_tmp rfl) ?_
                have hC55 := hC54.triv (int_val (1))
                have hC57 : Ctx [] w0 _ [Item.own v2 (x1.1.2 : (List Int)), Item.own (.int .i64 1) (1 : Int), Item.own v16 (x11 : (List (Int × (List Int)))), Item.own v9 (x9.1 : (List (Int × (List Int)))), Item.own v8 (x8 : (List (Int × (List Int)))), Item.box b4 [(.int .i64 x1.1.1), v2, (.int .i64 x9.2.1), (.int .i64 x1.2.2)], Item.box b3 [(.int .i64 x1.1.1), v2, (.int .i64 x9.2.1), (.int .i64 x1.2.2)], Item.box b2 [(.int .i64 a4.1.1), u4, (.int .i64 a4.2.1), (.int .i64 a4.2.2)], Item.box b1 [u3, (.int .i64 a3.2)]] := hC55.front 5 rfl
                have hC56 := own_st37 x1.1.1 v2 x1.1.2 x9.2.1 x1.2.2 hC57
                have hC58 : Ctx [] w0 _ [Item.own v9 (x9.1 : (List (Int × (List Int)))), Item.own (.agg #[(.int .i64 x1.1.1), v2, (.int .i64 x9.2.1), (.int .i64 x1.2.2)]) (((x1.1.1, x1.1.2), x9.2.1, x1.2.2) : ((Int × (List Int)) × Int × Int)), Item.own (.int .i64 1) (1 : Int), Item.own v16 (x11 : (List (Int × (List Int)))), Item.own v8 (x8 : (List (Int × (List Int)))), Item.box b4 [(.int .i64 x1.1.1), v2, (.int .i64 x9.2.1), (.int .i64 x1.2.2)], Item.box b3 [(.int .i64 x1.1.1), v2, (.int .i64 x9.2.1), (.int .i64 x1.2.2)], Item.box b2 [(.int .i64 a4.1.1), u4, (.int .i64 a4.2.1), (.int .i64 a4.2.2)], Item.box b1 [u3, (.int .i64 a3.2)]] := hC56.front 3 rfl
                exact ⟨_, rfl, res3_of hC58⟩
              · replace hF := ite_f hF hc7
                refine W_skip ?_
                refine nrm_normal ?_
                refine W_seq ?_
                refine W_drawn 5 rfl hmix (fun w39 hB33 => ?_)
                have hC59 := hC52.grow hB33
                refine WA_take 0 rfl (by kernel_rfl) (by kernel_rfl) (by kernel_rfl) rfl (fl_move rfl) ?_
                refine WL_move rfl rfl ?_
                refine WL_nil ?_
                refine WA_take 2 rfl (by kernel_rfl) (by kernel_rfl) (by kernel_rfl) rfl (fl_assign rfl) ?_
                refine WL_assign rfl rfl ?_
                refine WL_nil ?_
                refine WA_one 1 (by kernel_rfl) rfl ?_
                refine WL_load_box_agg [(.int .i64 x1.1.1), v2, (.int .i64 x9.2.1), (.int .i64 x1.2.2)] hC59 3 rfl rfl rfl Try.isAgg37 Try.sizeOf37 rfl rfl ?_
                refine WL_nil ?_
                refine WA_one 3 (by kernel_rfl) rfl ?_
                refine WL_store_box_agg (cs' := [(.int .i64 x1.1.1), v2, (.int .i64 x9.2.1), (.int .i64 x1.2.2)]) (new := [(.int .i64 x1.1.1), v2, (.int .i64 x9.2.1), (.int .i64 x1.2.2)]) hC59 5 rfl rfl (by intro v hv; simp only [List.mem_cons, List.not_mem_nil, or_false] at hv; rcases hv with rfl | rfl | rfl | rfl; exact rfl; exact (ro_one (hC59.ro 4 rfl)); exact rfl; exact rfl) rfl Try.sizeOf37 rfl rfl (fun w40 hC60 => ?_)
                try dsimp only [List.set] at hC60
                refine WL_nil ?_
                refine WA_take 4 rfl (by kernel_rfl) (by kernel_rfl) (by kernel_rfl) rfl (fl_assign rfl) ?_
                refine WL_assign rfl rfl ?_
                refine WL_nil ?_
                refine WA_done (by kernel_rfl) ?_
                refine nrm_normal ?_
                refine W_ret ?_
                have hq9 := Option.some.inj hF
                subst hq9
                refine fn_retG3 rfl (rv_tmp rfl) (rv_cell_agg (cs' := [(.int .i64 x1.1.1), v2, (.int .i64 x9.2.1), (.int .i64 x1.2.2)]) hC60 (i := 5) rfl rfl rfl Try.isAgg37 Try.sizeOf37 rfl) (rv_tmp rfl) ?_
                have hC61 := hC60.triv (int_val (0))
                have hC63 : Ctx [] w0 _ [Item.own v2 (x1.1.2 : (List Int)), Item.own (.int .i64 0) (0 : Int), Item.own v16 (x11 : (List (Int × (List Int)))), Item.own v9 (x9.1 : (List (Int × (List Int)))), Item.own v8 (x8 : (List (Int × (List Int)))), Item.box b4 [(.int .i64 x1.1.1), v2, (.int .i64 x9.2.1), (.int .i64 x1.2.2)], Item.box b3 [(.int .i64 x1.1.1), v2, (.int .i64 x9.2.1), (.int .i64 x1.2.2)], Item.box b2 [(.int .i64 a4.1.1), u4, (.int .i64 a4.2.1), (.int .i64 a4.2.2)], Item.box b1 [u3, (.int .i64 a3.2)]] := hC61.front 5 rfl
                have hC62 := own_st37 x1.1.1 v2 x1.1.2 x9.2.1 x1.2.2 hC63
                have hC64 : Ctx [] w0 _ [Item.own v9 (x9.1 : (List (Int × (List Int)))), Item.own (.agg #[(.int .i64 x1.1.1), v2, (.int .i64 x9.2.1), (.int .i64 x1.2.2)]) (((x1.1.1, x1.1.2), x9.2.1, x1.2.2) : ((Int × (List Int)) × Int × Int)), Item.own (.int .i64 0) (0 : Int), Item.own v16 (x11 : (List (Int × (List Int)))), Item.own v8 (x8 : (List (Int × (List Int)))), Item.box b4 [(.int .i64 x1.1.1), v2, (.int .i64 x9.2.1), (.int .i64 x1.2.2)], Item.box b3 [(.int .i64 x1.1.1), v2, (.int .i64 x9.2.1), (.int .i64 x1.2.2)], Item.box b2 [(.int .i64 a4.1.1), u4, (.int .i64 a4.2.1), (.int .i64 a4.2.2)], Item.box b1 [u3, (.int .i64 a3.2)]] := hC62.front 3 rfl
                exact ⟨_, rfl, res3_of hC64⟩

theorem c_Q_toIntS {w0 : World} (a1 : (List Int)) (u1 : Value) (g1 : RO [] w0 u1 a1) (rr : (List Int)) (hF : Q.toIntS a1 = some rr) :
    Calls Try.prog 8 [u1].toArray w0 fun e w' => ∃ v, e = .returned v ∧ Res w0 rr v w' := by
  refine calls_of_W Try.func8 rfl rfl ?_
  have hC0 := Ctx.start w0
  unfold Q.toIntS at hF
  refine W_seq_reg ?_
  refine WL_assign rfl rfl ?_
  refine WL_nil ?_
  refine W_seq_reg ?_
  refine WL_move rfl rfl ?_
  refine WL_len Try.underlying22 g1 rfl rfl ?_
  obtain ⟨x1, hx1, hF⟩ := bind_some hF
  refine WL_makeSlice hC0 Try.underlying22 ty3 rfl zc3 zr3 hx1 rfl rfl rfl (fun b1 w1 hC1 hB1 => ?_)
  refine WL_assign rfl rfl ?_
  refine WL_nil ?_
  refine W_seq ?_
  refine W_seq_reg ?_
  refine WL_assign rfl rfl ?_
  refine WL_nil ?_
  obtain ⟨r1, hr1, hF⟩ := bind_some hF
  refine W_norm (fun l w => ∃ x4 : (List Int), x4 = r1 ∧ l = [(3, (.slice (some ⟨b1, 0, none⟩) (Int.toNat (List.length a1 : Int)) (Int.toNat (List.length a1 : Int))))] ∧ Ctx [] w0 w [Item.own (.slice (some ⟨b1, 0, none⟩) (Int.toNat (List.length a1 : Int)) (Int.toNat (List.length a1 : Int))) (x4 : (List Int))]) ?_ ?_
  · refine W_block ?_
    refine W.sub (l' := [(0, u1), (3, (.slice (some ⟨b1, 0, none⟩) (Int.toNat (List.length a1 : Int)) (Int.toNat (List.length a1 : Int)))), (4, (.int .i64 0))]) ?_ ⟨rfl, rfl, rfl, trivial⟩
    refine W_loop (fun k l w => ∃ x2 : (List Int), ∃ x3 : Int, l = [(0, u1), (3, (.slice (some ⟨b1, 0, none⟩) (Int.toNat (List.length a1 : Int)) (Int.toNat (List.length a1 : Int)))), (4, (.int .i64 x3))] ∧ Ctx [] w0 w [Item.own (.slice (some ⟨b1, 0, none⟩) (Int.toNat (List.length a1 : Int)) (Int.toNat (List.length a1 : Int))) (x2 : (List Int))] ∧ Q.toIntS_l1 a1 k x2 x3 = some r1) FUEL ⟨x1, 0, rfl, hC1, hr1⟩ ?_
    clear hr1
    rintro k1 _ w2 ⟨x2, x3, rfl, hC2, hL1⟩
    cases k1 with
    | zero => rw [Q.toIntS_l1] at hL1; cases hL1
    | succ k1 =>
      rw [Q.toIntS_l1] at hL1
      refine W_seq ?_
      refine W_seq_reg ?_
      refine WL_move rfl rfl ?_
      refine WL_move rfl rfl ?_
      refine WL_len Try.underlying22 g1 rfl rfl ?_
      refine WL_lss rfl rfl rfl ?_
      refine WL_nil ?_
      refine W_cond rfl (fun hc1 => ?_) (fun hc1 => ?_)
      · replace hL1 := ite_t hL1 hc1
        refine W_skip ?_
        refine nrm_normal ?_
        refine W_seq ?_
        refine W_block ?_
        refine W_reg ?_
        refine WL_move rfl rfl ?_
        refine WL_move rfl rfl ?_
        refine WL_move rfl rfl ?_
        refine WL_move rfl rfl ?_
        obtain ⟨x5, hx2, hL1⟩ := bind_some hL1
        refine WL_index Try.underlying22 ty3 g1 hx2 rfl rfl rfl (fun b2 o1 h1 => ?_)
        refine WL_load ty3 h1 hC2.keep rfl rfl (fun v1 h2 => ?_)
        obtain rfl := ro_int h2
        obtain ⟨x6, hx3, hL1⟩ := bind_some hL1
        refine WL_index_own hC2 0 rfl Try.underlying22 ty3 hx3 rfl rfl rfl (fun b3 hE1 => ?_)
        have hC4 := hC2.triv (int_val (x5))
        refine WL_store_elem hC4 0 rfl ty3 hE1 hx3 rfl rfl rfl (fun w3 hC3 => ?_)
        try dsimp only [List.set] at hC3
        refine WL_nil ?_
        refine blk_normal ?_
        refine nrm_normal ?_
        refine W_reg ?_
        refine WL_move rfl rfl ?_
        refine WL_add rfl rfl rfl ?_
        refine WL_assign rfl rfl ?_
        refine WL_nil ?_
        refine nrm_sub (l' := [(0, u1), (3, (.slice (some ⟨b1, 0, none⟩) (Int.toNat (List.length a1 : Int)) (Int.toNat (List.length a1 : Int)))), (4, (.int .i64 (w64 (x3 + 1))))]) ⟨rfl, rfl, rfl, trivial⟩ ?_
        exact ⟨k1, Nat.lt_succ_self _, (List.set x2 (Int.toNat x3) x5), w64 (x3 + 1), rfl, hC3, hL1⟩
      · replace hL1 := ite_f hL1 hc1
        refine W_exit ?_
        refine nrm_exit ?_
        refine nrm_exit ?_
        refine blk_exit ?_
        have hq1 := Option.some.inj hL1
        subst hq1
        refine nrm_sub (l' := [(3, (.slice (some ⟨b1, 0, none⟩) (Int.toNat (List.length a1 : Int)) (Int.toNat (List.length a1 : Int))))]) ⟨rfl, trivial⟩ ?_
        exact ⟨x2, rfl, rfl, hC2⟩
  · rintro l2 _ w4 hs2 ⟨x4, rfl, rfl, hC5⟩
    try dsimp only at hF
    refine nrm_sub' hs2 ?_
    clear hs2
    refine W_seq_reg ?_
    refine WL_move rfl rfl ?_
    refine WL_assign rfl rfl ?_
    refine WL_nil ?_
    refine W_ret ?_
    have hq2 := Option.some.inj hF
    subst hq2
    refine fn_ret1 rfl rfl ?_
    exact ⟨_, rfl, own_res hC5 0 rfl⟩

theorem c_Q_toMethod {w0 : World} (a1 : (Int × (List Int) × Int × Int × Int)) (u1 : Value) (g1 : RO [] w0 u1 a1.2.1) (rr : (Int × (List Int) × Int × Int × Int)) (hF : Q.toMethod a1 = some rr) :
    Calls Try.prog 34 [(.agg #[(.int .i64 a1.1), u1, (.int .i64 a1.2.2.1), (.int .i64 a1.2.2.2.1), (.int .i64 a1.2.2.2.2)])].toArray w0 fun e w' => ∃ v, e = .returned v ∧ Res w0 rr v w' := by
  refine calls_of_W Try.func34 rfl rfl ?_
  have hC0 := Ctx.start w0
  unfold Q.toMethod at hF
  refine W_seq_reg ?_
  refine WL_box (cs := [(.int .i64 a1.1), u1, (.int .i64 a1.2.2.1), (.int .i64 a1.2.2.2.1), (.int .i64 a1.2.2.2.2)]) hC0 rfl rfl rfl (fun b1 w1 hC1 hB1 => ?_)
  refine WL_alloc hC1 zero70 rfl rfl (fun b2 w2 hC2 hB2 => ?_)
  refine WL_nil ?_
  refine W_seq_reg ?_
  refine WL_alloc hC2 zero70 rfl rfl (fun b3 w3 hC3 hB3 => ?_)
  refine WL_nil ?_
  refine W_seq_reg ?_
  refine WL_field Try.underlying60 rfl rfl (fun w => ⟨_, Try.sizeOf3 w⟩) rfl rfl ?_
  refine WL_load_box hC3 2 rfl rfl Try.isAgg3 rfl rfl ?_
  refine WL_field Try.underlying70 rfl rfl (fun w => ⟨_, Try.sizeOf3 w⟩) rfl rfl ?_
  refine WL_store_box (cs' := [(.int .i64 a1.1), (.slice none 0 0), (.int .i64 0), (.int .i64 0), (.int .i64 0)]) hC3 0 rfl rfl rfl rfl Try.sizeOf3 rfl rfl (fun w4 hC4 => ?_)
  try dsimp only [List.set] at hC4
  refine WL_nil ?_
  refine W_seq_reg ?_
  refine WL_field Try.underlying60 rfl rfl (fun w => ⟨_, Try.sizeOf22 w⟩) rfl rfl ?_
  refine WL_load_box hC4 2 rfl rfl Try.isAgg22 rfl rfl ?_
  obtain ⟨x1, hr1, hF⟩ := bind_some hF
  refine WL_call Try.call8 rfl rfl (c_Q_toIntS a1.2.1 u1 (g1.now hC4.keep) x1 hr1) ?_
  rintro v1 w5 ⟨hB4, F1, hv1, hn1, hb1⟩
  have hC5 := hC4.push hB4 (A := Item.own v1 x1) hv1 hn1 hb1
  refine WL_field Try.underlying70 rfl rfl (fun w => ⟨_, Try.sizeOf22 w⟩) rfl rfl ?_
  refine WL_store_box (cs' := [(.int .i64 a1.1), v1, (.int .i64 0), (.int .i64 0), (.int .i64 0)]) hC5 1 rfl rfl (ro_one (hC5.ro 0 rfl)) rfl Try.sizeOf22 rfl rfl (fun w6 hC6 => ?_)
  try dsimp only [List.set] at hC6
  refine WL_nil ?_
  refine W_seq_reg ?_
  refine WL_field Try.underlying60 rfl rfl (fun w => ⟨_, Try.sizeOf3 w⟩) rfl rfl ?_
  refine WL_load_box hC6 3 rfl rfl Try.isAgg3 rfl rfl ?_
  refine WL_field Try.underlying70 rfl rfl (fun w => ⟨_, Try.sizeOf3 w⟩) rfl rfl ?_
  refine WL_store_box (cs' := [(.int .i64 a1.1), v1, (.int .i64 a1.2.2.1), (.int .i64 0), (.int .i64 0)]) hC6 1 rfl rfl rfl rfl Try.sizeOf3 rfl rfl (fun w7 hC7 => ?_)
  try dsimp only [List.set] at hC7
  refine WL_nil ?_
  refine W_seq_reg ?_
  refine WL_field Try.underlying60 rfl rfl (fun w => ⟨_, Try.sizeOf3 w⟩) rfl rfl ?_
  refine WL_load_box hC7 3 rfl rfl Try.isAgg3 rfl rfl ?_
  refine WL_field Try.underlying70 rfl rfl (fun w => ⟨_, Try.sizeOf3 w⟩) rfl rfl ?_
  refine WL_store_box (cs' := [(.int .i64 a1.1), v1, (.int .i64 a1.2.2.1), (.int .i64 a1.2.2.2.1), (.int .i64 0)]) hC7 1 rfl rfl rfl rfl Try.sizeOf3 rfl rfl (fun w8 hC8 => ?_)
  try dsimp only [List.set] at hC8
  refine WL_nil ?_
  refine W_seq_reg ?_
  refine WL_field Try.underlying60 rfl rfl (fun w => ⟨_, Try.sizeOf3 w⟩) rfl rfl ?_
  refine WL_load_box hC8 3 rfl rfl Try.isAgg3 rfl rfl ?_
  refine WL_field Try.underlying70 rfl rfl (fun w => ⟨_, Try.sizeOf3 w⟩) rfl rfl ?_
  refine WL_store_box (cs' := [(.int .i64 a1.1), v1, (.int .i64 a1.2.2.1), (.int .i64 a1.2.2.2.1), (.int .i64 a1.2.2.2.2)]) hC8 1 rfl rfl rfl rfl Try.sizeOf3 rfl rfl (fun w9 hC9 => ?_)
  try dsimp only [List.set] at hC9
  refine WL_nil ?_
  refine W_seq_reg ?_
  refine WL_load_box_agg [(.int .i64 a1.1), v1, (.int .i64 a1.2.2.1), (.int .i64 a1.2.2.2.1), (.int .i64 a1.2.2.2.2)] hC9 1 rfl rfl rfl Try.isAgg70 Try.sizeOf70 rfl rfl ?_
  refine WL_store_box_agg (cs' := [(.int .i64 a1.1), v1, (.int .i64 a1.2.2.1), (.int .i64 a1.2.2.2.1), (.int .i64 a1.2.2.2.2)]) (new := [(.int .i64 a1.1), v1, (.int .i64 a1.2.2.1), (.int .i64 a1.2.2.2.1), (.int .i64 a1.2.2.2.2)]) hC9 2 rfl rfl (by intro v hv; simp only [List.mem_cons, List.not_mem_nil, or_false] at hv; rcases hv with rfl | rfl | rfl | rfl | rfl; exact rfl; exact (ro_one (hC9.ro 0 rfl)); exact rfl; exact rfl; exact rfl) rfl Try.sizeOf70 rfl rfl (fun w10 hC10 => ?_)
  try dsimp only [List.set] at hC10
  refine WL_nil ?_
  refine W_ret ?_
  have hq1 := Option.some.inj hF
  subst hq1
  refine fn_retG1 rfl (rv_cell_agg (cs' := [(.int .i64 a1.1), v1, (.int .i64 a1.2.2.1), (.int .i64 a1.2.2.2.1), (.int .i64 a1.2.2.2.2)]) hC10 (i := 2) rfl rfl rfl Try.isAgg70 Try.sizeOf70 rfl) ?_
  have hC11 := own_st70 a1.1 v1 x1 a1.2.2.1 a1.2.2.2.1 a1.2.2.2.2 hC10
  exact ⟨_, rfl, own_res hC11 0 rfl⟩

theorem c_Q_toMethodS {w0 : World} (a1 : (List (Int × (List Int) × Int × Int × Int))) (u1 : Value) (g1 : RO [] w0 u1 a1) (rr : (List (Int × (List Int) × Int × Int × Int))) (hF : Q.toMethodS a1 = some rr) :
    Calls Try.prog 9 [u1].toArray w0 fun e w' => ∃ v, e = .returned v ∧ Res w0 rr v w' := by
  refine calls_of_W Try.func9 rfl rfl ?_
  have hC0 := Ctx.start w0
  unfold Q.toMethodS at hF
  refine W_seq_reg ?_
  refine WL_assign rfl rfl ?_
  refine WL_nil ?_
  refine W_seq_reg ?_
  refine WL_move rfl rfl ?_
  refine WL_len Try.underlying23 g1 rfl rfl ?_
  obtain ⟨x1, hx1, hF⟩ := bind_some hF
  refine WL_makeSlice hC0 Try.underlying41 ty70 rfl zc70 zr70 hx1 rfl rfl rfl (fun b1 w1 hC1 hB1 => ?_)
  refine WL_assign rfl rfl ?_
  refine WL_nil ?_
  refine W_seq ?_
  refine W_seq_reg ?_
  refine WL_assign rfl rfl ?_
  refine WL_nil ?_
  obtain ⟨r1, hr1, hF⟩ := bind_some hF
  refine W_norm (fun l w => ∃ x4 : (List (Int × (List Int) × Int × Int × Int)), x4 = r1 ∧ l = [(3, (.slice (some ⟨b1, 0, none⟩) (Int.toNat (List.length a1 : Int)) (Int.toNat (List.length a1 : Int))))] ∧ Ctx [] w0 w [Item.own (.slice (some ⟨b1, 0, none⟩) (Int.toNat (List.length a1 : Int)) (Int.toNat (List.length a1 : Int))) (x4 : (List (Int × (List Int) × Int × Int × Int)))]) ?_ ?_
  · refine W_block ?_
    refine W.sub (l' := [(0, u1), (3, (.slice (some ⟨b1, 0, none⟩) (Int.toNat (List.length a1 : Int)) (Int.toNat (List.length a1 : Int)))), (4, (.int .i64 0))]) ?_ ⟨rfl, rfl, rfl, trivial⟩
    refine W_loop (fun k l w => ∃ x2 : (List (Int × (List Int) × Int × Int × Int)), ∃ x3 : Int, l = [(0, u1), (3, (.slice (some ⟨b1, 0, none⟩) (Int.toNat (List.length a1 : Int)) (Int.toNat (List.length a1 : Int)))), (4, (.int .i64 x3))] ∧ Ctx [] w0 w [Item.own (.slice (some ⟨b1, 0, none⟩) (Int.toNat (List.length a1 : Int)) (Int.toNat (List.length a1 : Int))) (x2 : (List (Int × (List Int) × Int × Int × Int)))] ∧ Q.toMethodS_l1 a1 k x2 x3 = some r1) FUEL ⟨x1, 0, rfl, hC1, hr1⟩ ?_
    clear hr1
    rintro k1 _ w2 ⟨x2, x3, rfl, hC2, hL1⟩
    cases k1 with
    | zero => rw [Q.toMethodS_l1] at hL1; cases hL1
    | succ k1 =>
      rw [Q.toMethodS_l1] at hL1
      refine W_seq ?_
      refine W_seq_reg ?_
      refine WL_move rfl rfl ?_
      refine WL_move rfl rfl ?_
      refine WL_len Try.underlying23 g1 rfl rfl ?_
      refine WL_lss rfl rfl rfl ?_
      refine WL_nil ?_
      refine W_cond rfl (fun hc1 => ?_) (fun hc1 => ?_)
      · replace hL1 := ite_t hL1 hc1
        refine W_skip ?_
        refine nrm_normal ?_
        refine W_seq ?_
        refine W_block ?_
        refine W_reg ?_
        refine WL_move rfl rfl ?_
        refine WL_move rfl rfl ?_
        refine WL_move rfl rfl ?_
        refine WL_move rfl rfl ?_
        obtain ⟨x5, hx2, hL1⟩ := bind_some hL1
        refine WL_index Try.underlying23 ty60 g1 hx2 rfl rfl rfl (fun b2 o1 h1 => ?_)
        refine WL_load ty60 h1 hC2.keep rfl rfl (fun v1 h2 => ?_)
        obtain ⟨v2, rfl, h3⟩ := ro_st60 h2
        obtain ⟨x6, hr2, hL1⟩ := bind_some hL1
        refine WL_call Try.call34 rfl rfl (c_Q_toMethod x5 v2 (h3.now hC2.keep) x6 hr2) ?_
        rintro v3 w3 ⟨hB3, F1, hv1, hn1, hb1⟩
        have hC3 := hC2.push hB3 (A := Item.own v3 x6) hv1 hn1 hb1
        obtain ⟨v4, rfl, hC4⟩ := st70_own hC3
        obtain ⟨x7, hx3, hL1⟩ := bind_some hL1
        refine WL_index_own hC4 1 rfl Try.underlying41 ty70 hx3 rfl rfl rfl (fun b3 hE1 => ?_)
        have hC6 := own_st70 x6.1 v4 x6.2.1 x6.2.2.1 x6.2.2.2.1 x6.2.2.2.2 hC4
        refine WL_store_elem hC6 0 rfl ty70 hE1 hx3 rfl rfl rfl (fun w4 hC5 => ?_)
        try dsimp only [List.set] at hC5
        refine WL_nil ?_
        refine blk_normal ?_
        refine nrm_normal ?_
        refine W_reg ?_
        refine WL_move rfl rfl ?_
        refine WL_add rfl rfl rfl ?_
        refine WL_assign rfl rfl ?_
        refine WL_nil ?_
        refine nrm_sub (l' := [(0, u1), (3, (.slice (some ⟨b1, 0, none⟩) (Int.toNat (List.length a1 : Int)) (Int.toNat (List.length a1 : Int)))), (4, (.int .i64 (w64 (x3 + 1))))]) ⟨rfl, rfl, rfl, trivial⟩ ?_
        exact ⟨k1, Nat.lt_succ_self _, (List.set x2 (Int.toNat x3) (x6.1, x6.2.1, x6.2.2.1, x6.2.2.2.1, x6.2.2.2.2)), w64 (x3 + 1), rfl, hC5, hL1⟩
      · replace hL1 := ite_f hL1 hc1
        refine W_exit ?_
        refine nrm_exit ?_
        refine nrm_exit ?_
        refine blk_exit ?_
        have hq1 := Option.some.inj hL1
        subst hq1
        refine nrm_sub (l' := [(3, (.slice (some ⟨b1, 0, none⟩) (Int.toNat (List.length a1 : Int)) (Int.toNat (List.length a1 : Int))))]) ⟨rfl, trivial⟩ ?_
        exact ⟨x2, rfl, rfl, hC2⟩
  · rintro l2 _ w5 hs2 ⟨x4, rfl, rfl, hC8⟩
    try dsimp only at hF
    refine nrm_sub' hs2 ?_
    clear hs2
    refine W_seq_reg ?_
    refine WL_move rfl rfl ?_
    refine WL_assign rfl rfl ?_
    refine WL_nil ?_
    refine W_ret ?_
    have hq2 := Option.some.inj hF
    subst hq2
    refine fn_ret1 rfl rfl ?_
    exact ⟨_, rfl, own_res hC8 0 rfl⟩

theorem c_Q_toFact {w0 : World} (a1 : (Int × (List Int))) (u1 : Value) (g1 : RO [] w0 u1 a1.2) (rr : (Int × (List Int))) (hF : Q.toFact a1 = some rr) :
    Calls Try.prog 58 [(.agg #[(.int .i64 a1.1), u1])].toArray w0 fun e w' => ∃ v, e = .returned v ∧ Res w0 rr v w' := by
  refine calls_of_W Try.func58 rfl rfl ?_
  have hC0 := Ctx.start w0
  unfold Q.toFact at hF
  refine W_seq_reg ?_
  refine WL_box (cs := [(.int .i64 a1.1), u1]) hC0 rfl rfl rfl (fun b1 w1 hC1 hB1 => ?_)
  refine WL_alloc hC1 zero78 rfl rfl (fun b2 w2 hC2 hB2 => ?_)
  refine WL_nil ?_
  refine W_seq_reg ?_
  refine WL_alloc hC2 zero78 rfl rfl (fun b3 w3 hC3 hB3 => ?_)
  refine WL_nil ?_
  refine W_seq_reg ?_
  refine WL_field Try.underlying83 rfl rfl (fun w => ⟨_, Try.sizeOf3 w⟩) rfl rfl ?_
  refine WL_load_box hC3 2 rfl rfl Try.isAgg3 rfl rfl ?_
  refine WL_field Try.underlying78 rfl rfl (fun w => ⟨_, Try.sizeOf3 w⟩) rfl rfl ?_
  refine WL_store_box (cs' := [(.int .i64 a1.1), (.slice none 0 0)]) hC3 0 rfl rfl rfl rfl Try.sizeOf3 rfl rfl (fun w4 hC4 => ?_)
  try dsimp only [List.set] at hC4
  refine WL_nil ?_
  refine W_seq_reg ?_
  refine WL_field Try.underlying83 rfl rfl (fun w => ⟨_, Try.sizeOf22 w⟩) rfl rfl ?_
  refine WL_load_box hC4 2 rfl rfl Try.isAgg22 rfl rfl ?_
  obtain ⟨x1, hr1, hF⟩ := bind_some hF
  refine WL_call Try.call8 rfl rfl (c_Q_toIntS a1.2 u1 (g1.now hC4.keep) x1 hr1) ?_
  rintro v1 w5 ⟨hB4, F1, hv1, hn1, hb1⟩
  have hC5 := hC4.push hB4 (A := Item.own v1 x1) hv1 hn1 hb1
  refine WL_field Try.underlying78 rfl rfl (fun w => ⟨_, Try.sizeOf22 w⟩) rfl rfl ?_
  refine WL_store_box (cs' := [(.int .i64 a1.1), v1]) hC5 1 rfl rfl (ro_one (hC5.ro 0 rfl)) rfl Try.sizeOf22 rfl rfl (fun w6 hC6 => ?_)
  try dsimp only [List.set] at hC6
  refine WL_nil ?_
  refine W_seq_reg ?_
  refine WL_load_box_agg [(.int .i64 a1.1), v1] hC6 1 rfl rfl rfl Try.isAgg78 Try.sizeOf78 rfl rfl ?_
  refine WL_store_box_agg (cs' := [(.int .i64 a1.1), v1]) (new := [(.int .i64 a1.1), v1]) hC6 2 rfl rfl (by intro v hv; simp only [List.mem_cons, List.not_mem_nil, or_false] at hv; rcases hv with rfl | rfl; exact rfl; exact (ro_one (hC6.ro 0 rfl))) rfl Try.sizeOf78 rfl rfl (fun w7 hC7 => ?_)
  try dsimp only [List.set] at hC7
  refine WL_nil ?_
  refine W_ret ?_
  have hq1 := Option.some.inj hF
  subst hq1
  refine fn_retG1 rfl (rv_cell_agg (cs' := [(.int .i64 a1.1), v1]) hC7 (i := 2) rfl rfl rfl Try.isAgg78 Try.sizeOf78 rfl) ?_
  have hC8 := own_st78 a1.1 v1 x1 hC7
  exact ⟨_, rfl, own_res hC8 0 rfl⟩

theorem c_Q_toFactS {w0 : World} (a1 : (List (Int × (List Int)))) (u1 : Value) (g1 : RO [] w0 u1 a1) (rr : (List (Int × (List Int)))) (hF : Q.toFactS a1 = some rr) :
    Calls Try.prog 35 [u1].toArray w0 fun e w' => ∃ v, e = .returned v ∧ Res w0 rr v w' := by
  refine calls_of_W Try.func35 rfl rfl ?_
  have hC0 := Ctx.start w0
  unfold Q.toFactS at hF
  refine W_seq_reg ?_
  refine WL_assign rfl rfl ?_
  refine WL_nil ?_
  refine W_seq_reg ?_
  refine WL_move rfl rfl ?_
  refine WL_len Try.underlying24 g1 rfl rfl ?_
  obtain ⟨x1, hx1, hF⟩ := bind_some hF
  refine WL_makeSlice hC0 Try.underlying34 ty78 rfl zc78 zr78 hx1 rfl rfl rfl (fun b1 w1 hC1 hB1 => ?_)
  refine WL_assign rfl rfl ?_
  refine WL_nil ?_
  refine W_seq ?_
  refine W_seq_reg ?_
  refine WL_assign rfl rfl ?_
  refine WL_nil ?_
  obtain ⟨r1, hr1, hF⟩ := bind_some hF
  refine W_norm (fun l w => ∃ x4 : (List (Int × (List Int))), x4 = r1 ∧ l = [(3, (.slice (some ⟨b1, 0, none⟩) (Int.toNat (List.length a1 : Int)) (Int.toNat (List.length a1 : Int))))] ∧ Ctx [] w0 w [Item.own (.slice (some ⟨b1, 0, none⟩) (Int.toNat (List.length a1 : Int)) (Int.toNat (List.length a1 : Int))) (x4 : (List (Int × (List Int))))]) ?_ ?_
  · refine W_block ?_
    refine W.sub (l' := [(0, u1), (3, (.slice (some ⟨b1, 0, none⟩) (Int.toNat (List.length a1 : Int)) (Int.toNat (List.length a1 : Int)))), (4, (.int .i64 0))]) ?_ ⟨rfl, rfl, rfl, trivial⟩
    refine W_loop (fun k l w => ∃ x2 : (List (Int × (List Int))), ∃ x3 : Int, l = [(0, u1), (3, (.slice (some ⟨b1, 0, none⟩) (Int.toNat (List.length a1 : Int)) (Int.toNat (List.length a1 : Int)))), (4, (.int .i64 x3))] ∧ Ctx [] w0 w [Item.own (.slice (some ⟨b1, 0, none⟩) (Int.toNat (List.length a1 : Int)) (Int.toNat (List.length a1 : Int))) (x2 : (List (Int × (List Int))))] ∧ Q.toFactS_l1 a1 k x2 x3 = some r1) FUEL ⟨x1, 0, rfl, hC1, hr1⟩ ?_
    clear hr1
    rintro k1 _ w2 ⟨x2, x3, rfl, hC2, hL1⟩
    cases k1 with
    | zero => rw [Q.toFactS_l1] at hL1; cases hL1
    | succ k1 =>
      rw [Q.toFactS_l1] at hL1
      refine W_seq ?_
      refine W_seq_reg ?_
      refine WL_move rfl rfl ?_
      refine WL_move rfl rfl ?_
      refine WL_len Try.underlying24 g1 rfl rfl ?_
      refine WL_lss rfl rfl rfl ?_
      refine WL_nil ?_
      refine W_cond rfl (fun hc1 => ?_) (fun hc1 => ?_)
      · replace hL1 := ite_t hL1 hc1
        refine W_skip ?_
        refine nrm_normal ?_
        refine W_seq ?_
        refine W_block ?_
        refine W_reg ?_
        refine WL_move rfl rfl ?_
        refine WL_move rfl rfl ?_
        refine WL_move rfl rfl ?_
        refine WL_move rfl rfl ?_
        obtain ⟨x5, hx2, hL1⟩ := bind_some hL1
        refine WL_index Try.underlying24 ty83 g1 hx2 rfl rfl rfl (fun b2 o1 h1 => ?_)
        refine WL_load ty83 h1 hC2.keep rfl rfl (fun v1 h2 => ?_)
        obtain ⟨v2, rfl, h3⟩ := ro_st83 h2
        obtain ⟨x6, hr2, hL1⟩ := bind_some hL1
        refine WL_call Try.call58 rfl rfl (c_Q_toFact x5 v2 (h3.now hC2.keep) x6 hr2) ?_
        rintro v3 w3 ⟨hB3, F1, hv1, hn1, hb1⟩
        have hC3 := hC2.push hB3 (A := Item.own v3 x6) hv1 hn1 hb1
        obtain ⟨v4, rfl, hC4⟩ := st78_own hC3
        obtain ⟨x7, hx3, hL1⟩ := bind_some hL1
        refine WL_index_own hC4 1 rfl Try.underlying34 ty78 hx3 rfl rfl rfl (fun b3 hE1 => ?_)
        have hC6 := own_st78 x6.1 v4 x6.2 hC4
        refine WL_store_elem hC6 0 rfl ty78 hE1 hx3 rfl rfl rfl (fun w4 hC5 => ?_)
        try dsimp only [List.set] at hC5
        refine WL_nil ?_
        refine blk_normal ?_
        refine nrm_normal ?_
        refine W_reg ?_
        refine WL_move rfl rfl ?_
        refine WL_add rfl rfl rfl ?_
        refine WL_assign rfl rfl ?_
        refine WL_nil ?_
        refine nrm_sub (l' := [(0, u1), (3, (.slice (some ⟨b1, 0, none⟩) (Int.toNat (List.length a1 : Int)) (Int.toNat (List.length a1 : Int)))), (4, (.int .i64 (w64 (x3 + 1))))]) ⟨rfl, rfl, rfl, trivial⟩ ?_
        exact ⟨k1, Nat.lt_succ_self _, (List.set x2 (Int.toNat x3) (x6.1, x6.2)), w64 (x3 + 1), rfl, hC5, hL1⟩
      · replace hL1 := ite_f hL1 hc1
        refine W_exit ?_
        refine nrm_exit ?_
        refine nrm_exit ?_
        refine blk_exit ?_
        have hq1 := Option.some.inj hL1
        subst hq1
        refine nrm_sub (l' := [(3, (.slice (some ⟨b1, 0, none⟩) (Int.toNat (List.length a1 : Int)) (Int.toNat (List.length a1 : Int))))]) ⟨rfl, trivial⟩ ?_
        exact ⟨x2, rfl, rfl, hC2⟩
  · rintro l2 _ w5 hs2 ⟨x4, rfl, rfl, hC8⟩
    try dsimp only at hF
    refine nrm_sub' hs2 ?_
    clear hs2
    refine W_seq_reg ?_
    refine WL_move rfl rfl ?_
    refine WL_assign rfl rfl ?_
    refine WL_nil ?_
    refine W_ret ?_
    have hq2 := Option.some.inj hF
    subst hq2
    refine fn_ret1 rfl rfl ?_
    exact ⟨_, rfl, own_res hC8 0 rfl⟩

theorem c_Q_toSource {w0 : World} (a1 : ((List (Int × (List Int))) × Int)) (u1 : Value) (g1 : RO [] w0 u1 a1.1) (rr : ((List (Int × (List Int))) × Int)) (hF : Q.toSource a1 = some rr) :
    Calls Try.prog 10 [(.agg #[u1, (.int .i64 a1.2)])].toArray w0 fun e w' => ∃ v, e = .returned v ∧ Res w0 rr v w' := by
  refine calls_of_W Try.func10 rfl rfl ?_
  have hC0 := Ctx.start w0
  unfold Q.toSource at hF
  refine W_seq_reg ?_
  refine WL_box (cs := [u1, (.int .i64 a1.2)]) hC0 rfl rfl rfl (fun b1 w1 hC1 hB1 => ?_)
  refine WL_alloc hC1 zero44 rfl rfl (fun b2 w2 hC2 hB2 => ?_)
  refine WL_nil ?_
  refine W_seq_reg ?_
  refine WL_alloc hC2 zero44 rfl rfl (fun b3 w3 hC3 hB3 => ?_)
  refine WL_nil ?_
  refine W_seq_reg ?_
  refine WL_field Try.underlying26 rfl rfl (fun w => ⟨_, Try.sizeOf24 w⟩) rfl rfl ?_
  refine WL_load_box hC3 2 rfl rfl Try.isAgg24 rfl rfl ?_
  obtain ⟨x1, hr1, hF⟩ := bind_some hF
  refine WL_call Try.call35 rfl rfl (c_Q_toFactS a1.1 u1 (g1.now hC3.keep) x1 hr1) ?_
  rintro v1 w4 ⟨hB4, F1, hv1, hn1, hb1⟩
  have hC4 := hC3.push hB4 (A := Item.own v1 x1) hv1 hn1 hb1
  refine WL_field Try.underlying44 rfl rfl (fun w => ⟨_, Try.sizeOf34 w⟩) rfl rfl ?_
  refine WL_store_box (cs' := [v1, (.int .i64 0)]) hC4 1 rfl rfl (ro_one (hC4.ro 0 rfl)) rfl Try.sizeOf34 rfl rfl (fun w5 hC5 => ?_)
  try dsimp only [List.set] at hC5
  refine WL_nil ?_
  refine W_seq_reg ?_
  refine WL_field Try.underlying26 rfl rfl (fun w => ⟨_, Try.sizeOf3 w⟩) rfl rfl ?_
  refine WL_load_box hC5 3 rfl rfl Try.isAgg3 rfl rfl ?_
  refine WL_field Try.underlying44 rfl rfl (fun w => ⟨_, Try.sizeOf3 w⟩) rfl rfl ?_
  refine WL_store_box (cs' := [v1, (.int .i64 a1.2)]) hC5 1 rfl rfl rfl rfl Try.sizeOf3 rfl rfl (fun w6 hC6 => ?_)
  try dsimp only [List.set] at hC6
  refine WL_nil ?_
  refine W_seq_reg ?_
  refine WL_load_box_agg [v1, (.int .i64 a1.2)] hC6 1 rfl rfl rfl Try.isAgg44 Try.sizeOf44 rfl rfl ?_
  refine WL_store_box_agg (cs' := [v1, (.int .i64 a1.2)]) (new := [v1, (.int .i64 a1.2)]) hC6 2 rfl rfl (by intro v hv; simp only [List.mem_cons, List.not_mem_nil, or_false] at hv; rcases hv with rfl | rfl; exact (ro_one (hC6.ro 0 rfl)); exact rfl) rfl Try.sizeOf44 rfl rfl (fun w7 hC7 => ?_)
  try dsimp only [List.set] at hC7
  refine WL_nil ?_
  refine W_ret ?_
  have hq1 := Option.some.inj hF
  subst hq1
  refine fn_retG1 rfl (rv_cell_agg (cs' := [v1, (.int .i64 a1.2)]) hC7 (i := 2) rfl rfl rfl Try.isAgg44 Try.sizeOf44 rfl) ?_
  have hC8 := own_st44 v1 x1 a1.2 hC7
  exact ⟨_, rfl, own_res hC8 0 rfl⟩

theorem c_Q_toAccess {w0 : World} (a1 : (Int × (List Int))) (u1 : Value) (g1 : RO [] w0 u1 a1.2) (rr : (Int × (List Int))) (hF : Q.toAccess a1 = some rr) :
    Calls Try.prog 36 [(.agg #[(.int .i64 a1.1), u1])].toArray w0 fun e w' => ∃ v, e = .returned v ∧ Res w0 rr v w' := by
  refine calls_of_W Try.func36 rfl rfl ?_
  have hC0 := Ctx.start w0
  unfold Q.toAccess at hF
  refine W_seq_reg ?_
  refine WL_box (cs := [(.int .i64 a1.1), u1]) hC0 rfl rfl rfl (fun b1 w1 hC1 hB1 => ?_)
  refine WL_alloc hC1 zero35 rfl rfl (fun b2 w2 hC2 hB2 => ?_)
  refine WL_nil ?_
  refine W_seq_reg ?_
  refine WL_alloc hC2 zero35 rfl rfl (fun b3 w3 hC3 hB3 => ?_)
  refine WL_nil ?_
  refine W_seq_reg ?_
  refine WL_field Try.underlying28 rfl rfl (fun w => ⟨_, Try.sizeOf3 w⟩) rfl rfl ?_
  refine WL_load_box hC3 2 rfl rfl Try.isAgg3 rfl rfl ?_
  refine WL_field Try.underlying35 rfl rfl (fun w => ⟨_, Try.sizeOf3 w⟩) rfl rfl ?_
  refine WL_store_box (cs' := [(.int .i64 a1.1), (.slice none 0 0)]) hC3 0 rfl rfl rfl rfl Try.sizeOf3 rfl rfl (fun w4 hC4 => ?_)
  try dsimp only [List.set] at hC4
  refine WL_nil ?_
  refine W_seq_reg ?_
  refine WL_field Try.underlying28 rfl rfl (fun w => ⟨_, Try.sizeOf22 w⟩) rfl rfl ?_
  refine WL_load_box hC4 2 rfl rfl Try.isAgg22 rfl rfl ?_
  obtain ⟨x1, hr1, hF⟩ := bind_some hF
  refine WL_call Try.call8 rfl rfl (c_Q_toIntS a1.2 u1 (g1.now hC4.keep) x1 hr1) ?_
  rintro v1 w5 ⟨hB4, F1, hv1, hn1, hb1⟩
  have hC5 := hC4.push hB4 (A := Item.own v1 x1) hv1 hn1 hb1
  refine WL_field Try.underlying35 rfl rfl (fun w => ⟨_, Try.sizeOf22 w⟩) rfl rfl ?_
  refine WL_store_box (cs' := [(.int .i64 a1.1), v1]) hC5 1 rfl rfl (ro_one (hC5.ro 0 rfl)) rfl Try.sizeOf22 rfl rfl (fun w6 hC6 => ?_)
  try dsimp only [List.set] at hC6
  refine WL_nil ?_
  refine W_seq_reg ?_
  refine WL_load_box_agg [(.int .i64 a1.1), v1] hC6 1 rfl rfl rfl Try.isAgg35 Try.sizeOf35 rfl rfl ?_
  refine WL_store_box_agg (cs' := [(.int .i64 a1.1), v1]) (new := [(.int .i64 a1.1), v1]) hC6 2 rfl rfl (by intro v hv; simp only [List.mem_cons, List.not_mem_nil, or_false] at hv; rcases hv with rfl | rfl; exact rfl; exact (ro_one (hC6.ro 0 rfl))) rfl Try.sizeOf35 rfl rfl (fun w7 hC7 => ?_)
  try dsimp only [List.set] at hC7
  refine WL_nil ?_
  refine W_ret ?_
  have hq1 := Option.some.inj hF
  subst hq1
  refine fn_retG1 rfl (rv_cell_agg (cs' := [(.int .i64 a1.1), v1]) hC7 (i := 2) rfl rfl rfl Try.isAgg35 Try.sizeOf35 rfl) ?_
  have hC8 := own_st35 a1.1 v1 x1 hC7
  exact ⟨_, rfl, own_res hC8 0 rfl⟩

theorem c_Q_toCursor {w0 : World} (a1 : ((Int × (List Int)) × Int × Int)) (u1 : Value) (g1 : RO [] w0 u1 a1.1.2) (rr : ((Int × (List Int)) × Int × Int)) (hF : Q.toCursor a1 = some rr) :
    Calls Try.prog 11 [(.agg #[(.int .i64 a1.1.1), u1, (.int .i64 a1.2.1), (.int .i64 a1.2.2)])].toArray w0 fun e w' => ∃ v, e = .returned v ∧ Res w0 rr v w' := by
  refine calls_of_W Try.func11 rfl rfl ?_
  have hC0 := Ctx.start w0
  unfold Q.toCursor at hF
  refine W_seq_reg ?_
  refine WL_box (cs := [(.int .i64 a1.1.1), u1, (.int .i64 a1.2.1), (.int .i64 a1.2.2)]) hC0 rfl rfl rfl (fun b1 w1 hC1 hB1 => ?_)
  refine WL_alloc hC1 zero37 rfl rfl (fun b2 w2 hC2 hB2 => ?_)
  refine WL_nil ?_
  refine W_seq_reg ?_
  refine WL_alloc hC2 zero37 rfl rfl (fun b3 w3 hC3 hB3 => ?_)
  refine WL_nil ?_
  refine W_seq_reg ?_
  refine WL_field Try.underlying30 rfl rfl (fun w => ⟨_, Try.sizeOf28 w⟩) rfl rfl ?_
  refine WL_load_box_agg [(.int .i64 a1.1.1), u1] hC3 2 rfl rfl rfl Try.isAgg28 Try.sizeOf28 rfl rfl ?_
  obtain ⟨x1, hr1, hF⟩ := bind_some hF
  refine WL_call Try.call36 rfl rfl (c_Q_toAccess (a1.1.1, a1.1.2) u1 (g1.now hC3.keep) x1 hr1) ?_
  rintro v1 w4 ⟨hB4, F1, hv1, hn1, hb1⟩
  have hC4 := hC3.push hB4 (A := Item.own v1 x1) hv1 hn1 hb1
  obtain ⟨v2, rfl, hC5⟩ := st35_own hC4
  refine WL_field Try.underlying37 rfl rfl (fun w => ⟨_, Try.sizeOf35 w⟩) rfl rfl ?_
  refine WL_store_box_agg (cs' := [(.int .i64 x1.1), v2, (.int .i64 0), (.int .i64 0)]) (new := [(.int .i64 x1.1), v2]) hC5 1 rfl rfl (by intro v hv; simp only [List.mem_cons, List.not_mem_nil, or_false] at hv; rcases hv with rfl | rfl; exact rfl; exact (ro_one (hC5.ro 0 rfl))) rfl Try.sizeOf35 rfl rfl (fun w5 hC6 => ?_)
  try dsimp only [List.set] at hC6
  refine WL_nil ?_
  refine W_seq_reg ?_
  refine WL_field Try.underlying30 rfl rfl (fun w => ⟨_, Try.sizeOf3 w⟩) rfl rfl ?_
  refine WL_load_box hC6 3 rfl rfl Try.isAgg3 rfl rfl ?_
  refine WL_field Try.underlying37 rfl rfl (fun w => ⟨_, Try.sizeOf3 w⟩) rfl rfl ?_
  refine WL_store_box (cs' := [(.int .i64 x1.1), v2, (.int .i64 a1.2.1), (.int .i64 0)]) hC6 1 rfl rfl rfl rfl Try.sizeOf3 rfl rfl (fun w6 hC7 => ?_)
  try dsimp only [List.set] at hC7
  refine WL_nil ?_
  refine W_seq_reg ?_
  refine WL_field Try.underlying30 rfl rfl (fun w => ⟨_, Try.sizeOf3 w⟩) rfl rfl ?_
  refine WL_load_box hC7 3 rfl rfl Try.isAgg3 rfl rfl ?_
  refine WL_field Try.underlying37 rfl rfl (fun w => ⟨_, Try.sizeOf3 w⟩) rfl rfl ?_
  refine WL_store_box (cs' := [(.int .i64 x1.1), v2, (.int .i64 a1.2.1), (.int .i64 a1.2.2)]) hC7 1 rfl rfl rfl rfl Try.sizeOf3 rfl rfl (fun w7 hC8 => ?_)
  try dsimp only [List.set] at hC8
  refine WL_nil ?_
  refine W_seq_reg ?_
  refine WL_load_box_agg [(.int .i64 x1.1), v2, (.int .i64 a1.2.1), (.int .i64 a1.2.2)] hC8 1 rfl rfl rfl Try.isAgg37 Try.sizeOf37 rfl rfl ?_
  refine WL_store_box_agg (cs' := [(.int .i64 x1.1), v2, (.int .i64 a1.2.1), (.int .i64 a1.2.2)]) (new := [(.int .i64 x1.1), v2, (.int .i64 a1.2.1), (.int .i64 a1.2.2)]) hC8 2 rfl rfl (by intro v hv; simp only [List.mem_cons, List.not_mem_nil, or_false] at hv; rcases hv with rfl | rfl | rfl | rfl; exact rfl; exact (ro_one (hC8.ro 0 rfl)); exact rfl; exact rfl) rfl Try.sizeOf37 rfl rfl (fun w8 hC9 => ?_)
  try dsimp only [List.set] at hC9
  refine WL_nil ?_
  refine W_ret ?_
  have hq1 := Option.some.inj hF
  subst hq1
  refine fn_retG1 rfl (rv_cell_agg (cs' := [(.int .i64 x1.1), v2, (.int .i64 a1.2.1), (.int .i64 a1.2.2)]) hC9 (i := 2) rfl rfl rfl Try.isAgg37 Try.sizeOf37 rfl) ?_
  have hC10 := own_st37 x1.1 v2 x1.2 a1.2.1 a1.2.2 hC9
  exact ⟨_, rfl, own_res hC10 0 rfl⟩

theorem c_Slices_Clone_Lint_int {w0 : World} (a1 : (List Int)) (u1 : Value) (g1 : RO [] w0 u1 a1) (rr : (List Int)) (hF : Slices.Clone_Lint_int a1 = some rr) :
    Calls Try.prog 70 [u1].toArray w0 fun e w' => ∃ v, e = .returned v ∧ Res w0 rr v w' := by
  refine calls_of_W Try.func70 rfl rfl ?_
  have hC0 := Ctx.start w0
  unfold Slices.Clone_Lint_int at hF
  refine W_seq_reg ?_
  refine WL_assign rfl rfl ?_
  refine WL_nil ?_
  refine W_seq ?_
  refine W_seq_reg ?_
  refine WL_move rfl rfl ?_
  refine WL_isnil Try.underlying22 g1 rfl rfl (fun bn1 hb1 => ?_)
  refine WL_nil ?_
  rcases btf bn1 with hc1 | hc1
  · have ha := hb1 hc1
    subst hc1
    subst ha
    replace hF : (some ([]) : Option (List Int)) = some rr := by simpa [app] using hF
    refine W_cond_t rfl ?_
    refine W_seq_reg ?_
    refine WL_assign rfl rfl ?_
    refine WL_nil ?_
    refine W_ret ?_
    refine nrm_ret ?_
    have hq1 := Option.some.inj hF
    subst hq1
    refine fn_ret1 rfl rfl ?_
    exact ⟨_, rfl, nil_res hC0⟩
  · subst hc1
    refine W_cond_f rfl ?_
    refine W_skip ?_
    refine nrm_normal ?_
    refine W_seq_reg ?_
    refine WL_buildSlice (vs := []) hC0 Try.underlying22 ty3 rfl rfl rfl rfl (by simp) rfl rfl (fun b1 w1 hC1 hB1 => ?_)
    have hC2 := hC1.row0 (α := Int)
    have hC3 := hC2.front 1 rfl
    dsimp only [List.eraseIdx, List.cons_append, List.nil_append, List.append_nil] at hC3
    have hC4 : Ctx [] w0 w1 (Item.own (.slice (some ⟨b1, 0, none⟩) 0 0) (([] : List Int) : List Int) :: []) := hC3.rowOwn (by simp [maxLen])
    refine WL_move rfl rfl ?_
    obtain ⟨x1, hx1, hF⟩ := bind_some hF
    refine WL_append_flat (α := Int) hC4 0 rfl g1 hC4.keep Try.underlying22 ty3 rfl hx1 rfl rfl rfl (fun v1 w2 hC5 => ?_)
    try dsimp only [List.set] at hC5
    refine WL_assign rfl rfl ?_
    refine WL_nil ?_
    refine W_ret ?_
    have hq2 := Option.some.inj hF
    subst hq2
    refine fn_ret1 rfl rfl ?_
    exact ⟨_, rfl, own_res hC5 0 rfl⟩

theorem c_M_copyAccess {w0 : World} (a1 : (Int × (List Int))) (u1 : Value) (g1 : RO [] w0 u1 a1.2) (rr : (Int × (List Int))) (hF : M.copyAccess a1 = some rr) :
    Calls Try.prog 59 [(.agg #[(.int .i64 a1.1), u1])].toArray w0 fun e w' => ∃ v, e = .returned v ∧ Res w0 rr v w' := by
  refine calls_of_W Try.func59 rfl rfl ?_
  have hC0 := Ctx.start w0
  unfold M.copyAccess at hF
  refine W_seq_reg ?_
  refine WL_box (cs := [(.int .i64 a1.1), u1]) hC0 rfl rfl rfl (fun b1 w1 hC1 hB1 => ?_)
  refine WL_alloc hC1 zero35 rfl rfl (fun b2 w2 hC2 hB2 => ?_)
  refine WL_nil ?_
  refine W_seq ?_
  refine W_drawn 7 rfl hmix (fun w3 hB3 => ?_)
  have hC3 := hC2.grow hB3
  refine WA_take 0 rfl (by kernel_rfl) (by kernel_rfl) (by kernel_rfl) rfl (fl_field Try.underlying35 rfl rfl (fun w => ⟨_, Try.sizeOf3 w⟩) rfl) ?_
  refine WL_field Try.underlying35 rfl rfl (fun w => ⟨_, Try.sizeOf3 w⟩) rfl rfl ?_
  refine WL_nil ?_
  refine WA_take 2 rfl (by kernel_rfl) (by kernel_rfl) (by kernel_rfl) rfl (fl_field Try.underlying35 rfl rfl (fun w => ⟨_, Try.sizeOf22 w⟩) rfl) ?_
  refine WL_field Try.underlying35 rfl rfl (fun w => ⟨_, Try.sizeOf22 w⟩) rfl rfl ?_
  refine WL_nil ?_
  obtain ⟨x1, hr1, hF⟩ := bind_some hF
  refine WA.sub (l' := [(0, (.agg #[(.int .i64 a1.1), u1])), (1, (ptr b1 0)), (2, (ptr b2 0)), (3, (ptr b1 0)), (5, (ptr b1 1))]) ?_ ⟨rfl, rfl, rfl, rfl, rfl, trivial⟩
  refine WA_postsE [⟨1, [], fun vs => PW.val (.int .i64 a1.1), []⟩, ⟨3, [], fun vs => PW.val u1, []⟩, ⟨4, [], fun vs => PW.own x1, []⟩] [[], [], [3]] 2 rfl (by kernel_rfl) (by kernel_rfl) rfl ?_ ?_
  · refine StepsE_cons rfl ?_ ?_
    · intro w5 hB5
      refine DepsE_nil ?_
      refine ⟨_, rfl, ?_⟩
      refine WL_load_box (hC3.grow hB5) 1 rfl rfl Try.isAgg3 rfl rfl ?_
      refine WL_nil ?_
      exact FinE_val (Below.refl _ _) rfl rfl ⟨rfl, rfl⟩
    refine StepsE_cons rfl ?_ ?_
    · intro w5 hB5
      refine DepsE_nil ?_
      refine ⟨_, rfl, ?_⟩
      refine WL_load_box (hC3.grow hB5) 1 rfl rfl Try.isAgg22 rfl rfl ?_
      refine WL_nil ?_
      exact FinE_val (Below.refl _ _) rfl rfl ⟨rfl, rfl⟩
    refine StepsE_cons rfl ?_ ?_
    · intro w5 hB5
      refine DepsE_cons rfl rfl rfl ?_
      rintro _ _ ⟨rfl, rfl⟩ _
      refine DepsE_nil ?_
      refine ⟨_, rfl, ?_⟩
      refine WL_call Try.call70 rfl rfl (c_Slices_Clone_Lint_int a1.2 u1 (g1.now (hC3.keep.then hB5)) x1 hr1) ?_
      rintro v1 w4 ⟨hB4, F1, hv1, hn1, hb1⟩
      refine WL_nil ?_
      exact FinE_own hB4 rfl rfl hv1 hn1 hb1 (Val.inh hv1)
    exact StepsE_nil
  · intro w6 hB6
    refine AllE_cons rfl rfl rfl ?_
    rintro _ _ ⟨rfl, rfl⟩
    refine AllE_cons rfl rfl rfl ?_
    rintro _ _ ⟨rfl, rfl⟩
    refine AllE_cons rfl rfl rfl ?_
    intro v1 F1 hv1
    refine AllE_nil ?_
    intro hn2 hb2
    have hC4 := hC3.pushL hB6 (Bs := [Item.own v1 (x1 : (List Int))]) (Fs := [F1]) ⟨F1, _, rfl, hv1, rfl⟩ (by simpa using hn2) (fun b h => (hb2 b (by simpa using h)).1)
    refine WA_take 5 rfl (by kernel_rfl) (by kernel_rfl) (by kernel_rfl) rfl (fl_build (vs := [(0, (.int .i64 a1.1)), (1, v1)]) rfl rfl (built35_0_1 rfl (ro_cells (hC4.ro 0 rfl)))) ?_
    refine WL_build (vs := [(0, (.int .i64 a1.1)), (1, v1)]) rfl rfl rfl (built35_0_1 rfl (ro_cells (hC4.ro 0 rfl))) ?_
    refine WL_nil ?_
    refine WA_one 6 (by kernel_rfl) rfl ?_
    refine WL_store_box_agg (cs' := [(.int .i64 a1.1), v1]) (new := [(.int .i64 a1.1), v1]) hC4 1 rfl rfl (by intro v hv; simp only [List.mem_cons, List.not_mem_nil, or_false] at hv; rcases hv with rfl | rfl; exact rfl; exact (ro_one (hC4.ro 0 rfl))) rfl Try.sizeOf35 rfl rfl (fun w7 hC5 => ?_)
    try dsimp only [List.set] at hC5
    refine WL_nil ?_
    refine WA_done (by kernel_rfl) ?_
    refine nrm_normal ?_
    refine W_ret ?_
    have hq1 := Option.some.inj hF
    subst hq1
    refine fn_retG1 rfl (rv_cell_agg (cs' := [(.int .i64 a1.1), v1]) hC5 (i := 1) rfl rfl rfl Try.isAgg35 Try.sizeOf35 rfl) ?_
    have hC6 := own_st35 a1.1 v1 x1 hC5
    exact ⟨_, rfl, own_res hC6 0 rfl⟩

theorem c_M_copyCursor {w0 : World} (a1 : ((Int × (List Int)) × Int × Int)) (u1 : Value) (g1 : RO [] w0 u1 a1.1.2) (rr : ((Int × (List Int)) × Int × Int)) (hF : M.copyCursor a1 = some rr) :
    Calls Try.prog 37 [(.agg #[(.int .i64 a1.1.1), u1, (.int .i64 a1.2.1), (.int .i64 a1.2.2)])].toArray w0 fun e w' => ∃ v, e = .returned v ∧ Res w0 rr v w' := by
  refine calls_of_W Try.func37 rfl rfl ?_
  have hC0 := Ctx.start w0
  unfold M.copyCursor at hF
  refine W_seq_reg ?_
  refine WL_box (cs := [(.int .i64 a1.1.1), u1, (.int .i64 a1.2.1), (.int .i64 a1.2.2)]) hC0 rfl rfl rfl (fun b1 w1 hC1 hB1 => ?_)
  refine WL_alloc hC1 zero37 rfl rfl (fun b2 w2 hC2 hB2 => ?_)
  refine WL_nil ?_
  refine W_seq_reg ?_
  refine WL_field Try.underlying37 rfl rfl (fun w => ⟨_, Try.sizeOf35 w⟩) rfl rfl ?_
  refine WL_load_box_agg [(.int .i64 a1.1.1), u1] hC2 1 rfl rfl rfl Try.isAgg35 Try.sizeOf35 rfl rfl ?_
  obtain ⟨x1, hr1, hF⟩ := bind_some hF
  refine WL_call Try.call59 rfl rfl (c_M_copyAccess (a1.1.1, a1.1.2) u1 (g1.now hC2.keep) x1 hr1) ?_
  rintro v1 w3 ⟨hB3, F1, hv1, hn1, hb1⟩
  have hC3 := hC2.push hB3 (A := Item.own v1 x1) hv1 hn1 hb1
  obtain ⟨v2, rfl, hC4⟩ := st35_own hC3
  refine WL_field Try.underlying37 rfl rfl (fun w => ⟨_, Try.sizeOf35 w⟩) rfl rfl ?_
  refine WL_store_box_agg (cs' := [(.int .i64 x1.1), v2, (.int .i64 a1.2.1), (.int .i64 a1.2.2)]) (new := [(.int .i64 x1.1), v2]) hC4 2 rfl rfl (by intro v hv; simp only [List.mem_cons, List.not_mem_nil, or_false] at hv; rcases hv with rfl | rfl; exact rfl; exact (ro_one (hC4.ro 0 rfl))) rfl Try.sizeOf35 rfl rfl (fun w4 hC5 => ?_)
  try dsimp only [List.set] at hC5
  refine WL_nil ?_
  refine W_seq_reg ?_
  refine WL_load_box_agg [(.int .i64 x1.1), v2, (.int .i64 a1.2.1), (.int .i64 a1.2.2)] hC5 2 rfl rfl rfl Try.isAgg37 Try.sizeOf37 rfl rfl ?_
  refine WL_store_box_agg (cs' := [(.int .i64 x1.1), v2, (.int .i64 a1.2.1), (.int .i64 a1.2.2)]) (new := [(.int .i64 x1.1), v2, (.int .i64 a1.2.1), (.int .i64 a1.2.2)]) hC5 1 rfl rfl (by intro v hv; simp only [List.mem_cons, List.not_mem_nil, or_false] at hv; rcases hv with rfl | rfl | rfl | rfl; exact rfl; exact (ro_one (hC5.ro 0 rfl)); exact rfl; exact rfl) rfl Try.sizeOf37 rfl rfl (fun w5 hC6 => ?_)
  try dsimp only [List.set] at hC6
  refine WL_nil ?_
  refine W_ret ?_
  have hq1 := Option.some.inj hF
  subst hq1
  refine fn_retG1 rfl (rv_cell_agg (cs' := [(.int .i64 x1.1), v2, (.int .i64 a1.2.1), (.int .i64 a1.2.2)]) hC6 (i := 1) rfl rfl rfl Try.isAgg37 Try.sizeOf37 rfl) ?_
  have hC7 := own_st37 x1.1 v2 x1.2 a1.2.1 a1.2.2 hC6
  exact ⟨_, rfl, own_res hC7 0 rfl⟩

theorem c_M_within {w0 : World} (a1 : Int) (a2 : Int) (a3 : Int) (rr : Bool) (hF : M.within a1 a2 a3 = some rr) :
    Calls Try.prog 41 [(.int .i64 a1), (.int .i64 a2), (.int .i64 a3)].toArray w0 fun e w' => ∃ v, e = .returned v ∧ Res w0 rr v w' := by
  refine calls_of_W Try.func41 rfl rfl ?_
  have hC0 := Ctx.start w0
  unfold M.within at hF
  refine W_seq_reg ?_
  refine WL_assign rfl rfl ?_
  refine WL_nil ?_
  obtain ⟨r1, hr1, hF⟩ := bind_some hF
  refine W_cut (fun l w => ∃ x1 : Bool, x1 = r1 ∧ l = [(6, (.bool x1))] ∧ Below w0.heap.size w0 w ∧ Ctx [] w0 w []) ?_ ?_
  · refine W_reg ?_
    refine WL_move rfl rfl ?_
    refine WL_move rfl rfl ?_
    refine WL_geq rfl rfl rfl ?_
    refine WL_move rfl rfl ?_
    refine WL_fork (fun hc1 => ?_) (fun hc1 => ?_)
    · replace hr1 := ite_t hr1 hc1
      refine WL_guard rfl rfl ?_
      refine WL_move rfl rfl ?_
      refine WL_guard rfl rfl ?_
      refine WL_move rfl rfl ?_
      refine WL_guard rfl rfl ?_
      refine WL_leq rfl rfl rfl ?_
      refine WL_pick_t rfl rfl rfl ?_
      refine WL_assign rfl rfl ?_
      refine WL_nil ?_
      have hq1 := Option.some.inj hr1
      subst hq1
      refine nrm_sub (l' := [(6, (.bool (decide (a1 ≤ a3))))]) ⟨rfl, trivial⟩ ?_
      exact ⟨(decide (a1 ≤ a3)), rfl, rfl, (Below.refl _ _), hC0⟩
    · replace hr1 := ite_f hr1 hc1
      refine WL_guard_skip rfl rfl (by simp) rfl ?_
      refine WL_guard_skip rfl rfl (by simp) rfl ?_
      refine WL_guard_skip rfl rfl (by simp) rfl ?_
      refine WL_pick_f rfl rfl rfl ?_
      refine WL_assign rfl rfl ?_
      refine WL_nil ?_
      have hq2 := Option.some.inj hr1
      subst hq2
      refine nrm_sub (l' := [(6, (.bool false))]) ⟨rfl, trivial⟩ ?_
      exact ⟨false, rfl, rfl, (Below.refl _ _), hC0⟩
  · rintro _ w1 ⟨x1, rfl, rfl, hB1, hC1⟩
    try dsimp only at hF
    refine W_ret ?_
    have hq3 := Option.some.inj hF
    subst hq3
    refine fn_ret1 rfl rfl ?_
    exact ⟨_, rfl, bool_res hC1 _⟩

theorem c_M_isValue {w0 : World} (a1 : Int) (rr : Bool) (hF : M.isValue a1 = some rr) :
    Calls Try.prog 79 [(.int .i64 a1)].toArray w0 fun e w' => ∃ v, e = .returned v ∧ Res w0 rr v w' := by
  refine calls_of_W Try.func79 rfl rfl ?_
  have hC0 := Ctx.start w0
  unfold M.isValue at hF
  refine W_seq_reg ?_
  refine WL_assign rfl rfl ?_
  refine WL_nil ?_
  refine W_seq_reg ?_
  refine WL_move rfl rfl ?_
  obtain ⟨x1, hr1, hF⟩ := bind_some hF
  refine WL_call Try.call41 rfl rfl (c_M_within a1 0 9 x1 hr1) ?_
  intro _ w1 hv1
  obtain ⟨rfl, hB1⟩ := res_bool hv1
  have hC1 := hC0.grow hB1
  refine WL_assign rfl rfl ?_
  refine WL_nil ?_
  refine W_ret ?_
  have hq1 := Option.some.inj hF
  subst hq1
  refine fn_ret1 rfl rfl ?_
  exact ⟨_, rfl, bool_res hC1 _⟩

theorem c_M_areValues_c1 {w0 : World} (a1 : Int) (rr : Bool) (hF : M.areValues_c1 a1 = some rr) :
    Calls Try.prog 78 [(.int .i64 a1)].toArray w0 fun e w' => ∃ v, e = .returned v ∧ Res w0 rr v w' := by
  refine calls_of_W Try.func78 rfl rfl ?_
  have hC0 := Ctx.start w0
  unfold M.areValues_c1 at hF
  refine W_seq_reg ?_
  refine WL_assign rfl rfl ?_
  refine WL_nil ?_
  refine W_seq_reg ?_
  refine WL_move rfl rfl ?_
  obtain ⟨x1, hr1, hF⟩ := bind_some hF
  refine WL_call Try.call79 rfl rfl (c_M_isValue a1 x1 hr1) ?_
  intro _ w1 hv1
  obtain ⟨rfl, hB1⟩ := res_bool hv1
  have hC1 := hC0.grow hB1
  refine WL_not rfl rfl ?_
  refine WL_assign rfl rfl ?_
  refine WL_nil ?_
  refine W_ret ?_
  have hq1 := Option.some.inj hF
  subst hq1
  refine fn_ret1 rfl rfl ?_
  exact ⟨_, rfl, bool_res hC1 _⟩

theorem c_Slices_IndexFunc_Lint_int_M_areValues_c1 {w0 : World} (a1 : (List Int)) (u1 : Value) (g1 : RO [] w0 u1 a1) (rr : Int) (hF : Slices.IndexFunc_Lint_int_M_areValues_c1 a1 = some rr) :
    Calls Try.prog 89 [u1, (.func (.func 78) #[] #[])].toArray w0 fun e w' => ∃ v, e = .returned v ∧ Res w0 rr v w' := by
  refine calls_of_W Try.func89 rfl rfl ?_
  have hC0 := Ctx.start w0
  unfold Slices.IndexFunc_Lint_int_M_areValues_c1 at hF
  refine W_seq_reg ?_
  refine WL_assign rfl rfl ?_
  refine WL_nil ?_
  refine W_seq ?_
  refine W_seq_reg ?_
  refine WL_move rfl rfl ?_
  refine WL_len Try.underlying22 g1 rfl rfl ?_
  refine WL_move rfl rfl ?_
  refine WL_nil ?_
  obtain ⟨r1, hr1, hF⟩ := bind_some hF
  refine W_norm (fun l w => .inl () = r1 ∧ l = [] ∧ Below w0.heap.size w0 w ∧ Ctx [] w0 w []) ?_ ?_
  · refine W_block ?_
    refine W.sub (l' := [(0, u1), (1, (.func (.func 78) #[] #[])), (7, (.int .i64 (List.length a1 : Int))), (8, (.int .i64 0))]) ?_ ⟨rfl, rfl, rfl, rfl, trivial⟩
    refine W_loop (fun k l w => ∃ x1 : Int, l = [(0, u1), (1, (.func (.func 78) #[] #[])), (7, (.int .i64 (List.length a1 : Int))), (8, (.int .i64 x1))] ∧ Below w0.heap.size w0 w ∧ Ctx [] w0 w [] ∧ Slices.IndexFunc_Lint_int_M_areValues_c1_l1 a1 k x1 = some r1) FUEL ⟨0, rfl, (Below.refl _ _), hC0, hr1⟩ ?_
    clear hr1
    rintro k1 _ w1 ⟨x1, rfl, hB1, hC1, hL1⟩
    cases k1 with
    | zero => rw [Slices.IndexFunc_Lint_int_M_areValues_c1_l1] at hL1; cases hL1
    | succ k1 =>
      rw [Slices.IndexFunc_Lint_int_M_areValues_c1_l1] at hL1
      refine W_seq_reg ?_
      refine WL_lss rfl rfl rfl ?_
      refine WL_nil ?_
      refine W_seq ?_
      refine W_cond rfl (fun hc1 => ?_) (fun hc1 => ?_)
      · replace hL1 := ite_t hL1 hc1
        refine W_skip ?_
        refine nrm_normal ?_
        refine W_seq ?_
        refine W_block ?_
        refine W_seq_reg ?_
        refine WL_move rfl rfl ?_
        refine WL_assign rfl rfl ?_
        refine WL_nil ?_
        refine W_seq_reg ?_
        refine WL_move rfl rfl ?_
        refine WL_move rfl rfl ?_
        refine WL_move rfl rfl ?_
        obtain ⟨x2, hx1, hL1⟩ := bind_some hL1
        refine WL_index Try.underlying22 ty3 g1 hx1 rfl rfl rfl (fun b1 o1 h1 => ?_)
        refine WL_load ty3 h1 hC1.keep rfl rfl (fun v1 h2 => ?_)
        obtain rfl := ro_int h2
        obtain ⟨x3, hr2, hL1⟩ := bind_some hL1
        refine WL_callv (cap := []) Try.call78 rfl rfl rfl (c_M_areValues_c1 x2 x3 hr2) ?_
        intro _ w2 hv1
        obtain ⟨rfl, hB2⟩ := res_bool hv1
        have hC2 := hC1.grow hB2
        refine WL_nil ?_
        refine W_cond rfl (fun hc2 => ?_) (fun hc2 => ?_)
        · replace hL1 := ite_t hL1 hc2
          refine W_seq_reg ?_
          refine WL_move rfl rfl ?_
          refine WL_assign rfl rfl ?_
          refine WL_nil ?_
          refine W_ret ?_
          refine blk_ret ?_
          refine nrm_ret ?_
          refine nrm_ret ?_
          refine blk_ret ?_
          refine nrm_ret ?_
          refine nrm_ret ?_
          have hq1 := Option.some.inj hL1
          subst hq1
          dsimp only at hF
          have hq2 := Option.some.inj hF
          subst hq2
          refine fn_ret1 rfl rfl ?_
          exact ⟨_, rfl, int_res hC2 _⟩
        · replace hL1 := ite_f hL1 hc2
          refine W_skip ?_
          refine blk_normal ?_
          refine nrm_normal ?_
          refine W_reg ?_
          refine WL_add rfl rfl rfl ?_
          refine WL_move rfl rfl ?_
          refine WL_nil ?_
          refine nrm_sub (l' := [(0, u1), (1, (.func (.func 78) #[] #[])), (7, (.int .i64 (List.length a1 : Int))), (8, (.int .i64 (w64 (x1 + 1))))]) ⟨rfl, rfl, rfl, rfl, trivial⟩ ?_
          exact ⟨k1, Nat.lt_succ_self _, w64 (x1 + 1), rfl, ((Keep.of hB1).then hB2).below, hC2, hL1⟩
      · replace hL1 := ite_f hL1 hc1
        refine W_exit ?_
        refine nrm_exit ?_
        refine nrm_exit ?_
        refine blk_exit ?_
        have hq3 := Option.some.inj hL1
        subst hq3
        refine nrm_sub (l' := []) trivial ?_
        exact ⟨rfl, rfl, (Keep.of hB1).below, hC1⟩
  · rintro l2 _ w3 hs2 ⟨rfl, rfl, hB3, hC3⟩
    try dsimp only at hF
    refine nrm_sub' hs2 ?_
    clear hs2
    refine W_seq_reg ?_
    refine WL_assign rfl rfl ?_
    refine WL_nil ?_
    refine W_ret ?_
    have hq4 := Option.some.inj hF
    subst hq4
    refine fn_ret1 rfl rfl ?_
    exact ⟨_, rfl, int_res hC3 _⟩

theorem c_Slices_ContainsFunc_Lint_int_M_areValues_c1 {w0 : World} (a1 : (List Int)) (u1 : Value) (g1 : RO [] w0 u1 a1) (rr : Bool) (hF : Slices.ContainsFunc_Lint_int_M_areValues_c1 a1 = some rr) :
    Calls Try.prog 77 [u1, (.func (.func 78) #[] #[])].toArray w0 fun e w' => ∃ v, e = .returned v ∧ Res w0 rr v w' := by
  refine calls_of_W Try.func77 rfl rfl ?_
  have hC0 := Ctx.start w0
  unfold Slices.ContainsFunc_Lint_int_M_areValues_c1 at hF
  refine W_seq_reg ?_
  refine WL_assign rfl rfl ?_
  refine WL_nil ?_
  refine W_seq_reg ?_
  refine WL_move rfl rfl ?_
  refine WL_move rfl rfl ?_
  obtain ⟨x1, hr1, hF⟩ := bind_some hF
  refine WL_call Try.call89 rfl rfl (c_Slices_IndexFunc_Lint_int_M_areValues_c1 a1 u1 (g1.now hC0.keep) x1 hr1) ?_
  intro _ w1 hv1
  obtain ⟨rfl, hB1⟩ := res_int hv1
  have hC1 := hC0.grow hB1
  refine WL_geq rfl rfl rfl ?_
  refine WL_assign rfl rfl ?_
  refine WL_nil ?_
  refine W_ret ?_
  have hq1 := Option.some.inj hF
  subst hq1
  refine fn_ret1 rfl rfl ?_
  exact ⟨_, rfl, bool_res hC1 _⟩

theorem c_M_areValues {w0 : World} (a1 : (List Int)) (u1 : Value) (g1 : RO [] w0 u1 a1) (rr : Bool) (hF : M.areValues a1 = some rr) :
    Calls Try.prog 62 [u1].toArray w0 fun e w' => ∃ v, e = .returned v ∧ Res w0 rr v w' := by
  refine calls_of_W Try.func62 rfl rfl ?_
  have hC0 := Ctx.start w0
  unfold M.areValues at hF
  refine W_seq_reg ?_
  refine WL_assign rfl rfl ?_
  refine WL_nil ?_
  refine W_seq_reg ?_
  refine WL_move rfl rfl ?_
  obtain ⟨x1, hr1, hF⟩ := bind_some hF
  refine WL_call Try.call77 rfl rfl (c_Slices_ContainsFunc_Lint_int_M_areValues_c1 a1 u1 (g1.now hC0.keep) x1 hr1) ?_
  intro _ w1 hv1
  obtain ⟨rfl, hB1⟩ := res_bool hv1
  have hC1 := hC0.grow hB1
  refine WL_not rfl rfl ?_
  refine WL_assign rfl rfl ?_
  refine WL_nil ?_
  refine W_ret ?_
  have hq1 := Option.some.inj hF
  subst hq1
  refine fn_ret1 rfl rfl ?_
  exact ⟨_, rfl, bool_res hC1 _⟩

theorem c_M_IsSchema_c1 {w0 : World} (a1 : Int) (rr : Bool) (hF : M.IsSchema_c1 a1 = some rr) :
    Calls Try.prog 86 [(.int .i64 a1)].toArray w0 fun e w' => ∃ v, e = .returned v ∧ Res w0 rr v w' := by
  refine calls_of_W Try.func86 rfl rfl ?_
  have hC0 := Ctx.start w0
  unfold M.IsSchema_c1 at hF
  refine W_seq_reg ?_
  refine WL_assign rfl rfl ?_
  refine WL_nil ?_
  refine W_seq_reg ?_
  refine WL_move rfl rfl ?_
  obtain ⟨x1, hr1, hF⟩ := bind_some hF
  refine WL_call Try.call41 rfl rfl (c_M_within a1 1 3 x1 hr1) ?_
  intro _ w1 hv1
  obtain ⟨rfl, hB1⟩ := res_bool hv1
  have hC1 := hC0.grow hB1
  refine WL_not rfl rfl ?_
  refine WL_assign rfl rfl ?_
  refine WL_nil ?_
  refine W_ret ?_
  have hq1 := Option.some.inj hF
  subst hq1
  refine fn_ret1 rfl rfl ?_
  exact ⟨_, rfl, bool_res hC1 _⟩

theorem c_Slices_IndexFunc_Lint_int_M_IsSchema_c1 {w0 : World} (a1 : (List Int)) (u1 : Value) (g1 : RO [] w0 u1 a1) (rr : Int) (hF : Slices.IndexFunc_Lint_int_M_IsSchema_c1 a1 = some rr) :
    Calls Try.prog 89 [u1, (.func (.func 86) #[] #[])].toArray w0 fun e w' => ∃ v, e = .returned v ∧ Res w0 rr v w' := by
  refine calls_of_W Try.func89 rfl rfl ?_
  have hC0 := Ctx.start w0
  unfold Slices.IndexFunc_Lint_int_M_IsSchema_c1 at hF
  refine W_seq_reg ?_
  refine WL_assign rfl rfl ?_
  refine WL_nil ?_
  refine W_seq ?_
  refine W_seq_reg ?_
  refine WL_move rfl rfl ?_
  refine WL_len Try.underlying22 g1 rfl rfl ?_
  refine WL_move rfl rfl ?_
  refine WL_nil ?_
  obtain ⟨r1, hr1, hF⟩ := bind_some hF
  refine W_norm (fun l w => .inl () = r1 ∧ l = [] ∧ Below w0.heap.size w0 w ∧ Ctx [] w0 w []) ?_ ?_
  · refine W_block ?_
    refine W.sub (l' := [(0, u1), (1, (.func (.func 86) #[] #[])), (7, (.int .i64 (List.length a1 : Int))), (8, (.int .i64 0))]) ?_ ⟨rfl, rfl, rfl, rfl, trivial⟩
    refine W_loop (fun k l w => ∃ x1 : Int, l = [(0, u1), (1, (.func (.func 86) #[] #[])), (7, (.int .i64 (List.length a1 : Int))), (8, (.int .i64 x1))] ∧ Below w0.heap.size w0 w ∧ Ctx [] w0 w [] ∧ Slices.IndexFunc_Lint_int_M_IsSchema_c1_l1 a1 k x1 = some r1) FUEL ⟨0, rfl, (Below.refl _ _), hC0, hr1⟩ ?_
    clear hr1
    rintro k1 _ w1 ⟨x1, rfl, hB1, hC1, hL1⟩
    cases k1 with
    | zero => rw [Slices.IndexFunc_Lint_int_M_IsSchema_c1_l1] at hL1; cases hL1
    | succ k1 =>
      rw [Slices.IndexFunc_Lint_int_M_IsSchema_c1_l1] at hL1
      refine W_seq_reg ?_
      refine WL_lss rfl rfl rfl ?_
      refine WL_nil ?_
      refine W_seq ?_
      refine W_cond rfl (fun hc1 => ?_) (fun hc1 => ?_)
      · replace hL1 := ite_t hL1 hc1
        refine W_skip ?_
        refine nrm_normal ?_
        refine W_seq ?_
        refine W_block ?_
        refine W_seq_reg ?_
        refine WL_move rfl rfl ?_
        refine WL_assign rfl rfl ?_
        refine WL_nil ?_
        refine W_seq_reg ?_
        refine WL_move rfl rfl ?_
        refine WL_move rfl rfl ?_
        refine WL_move rfl rfl ?_
        obtain ⟨x2, hx1, hL1⟩ := bind_some hL1
        refine WL_index Try.underlying22 ty3 g1 hx1 rfl rfl rfl (fun b1 o1 h1 => ?_)
        refine WL_load ty3 h1 hC1.keep rfl rfl (fun v1 h2 => ?_)
        obtain rfl := ro_int h2
        obtain ⟨x3, hr2, hL1⟩ := bind_some hL1
        refine WL_callv (cap := []) Try.call86 rfl rfl rfl (c_M_IsSchema_c1 x2 x3 hr2) ?_
        intro _ w2 hv1
        obtain ⟨rfl, hB2⟩ := res_bool hv1
        have hC2 := hC1.grow hB2
        refine WL_nil ?_
        refine W_cond rfl (fun hc2 => ?_) (fun hc2 => ?_)
        · replace hL1 := ite_t hL1 hc2
          refine W_seq_reg ?_
          refine WL_move rfl rfl ?_
          refine WL_assign rfl rfl ?_
          refine WL_nil ?_
          refine W_ret ?_
          refine blk_ret ?_
          refine nrm_ret ?_
          refine nrm_ret ?_
          refine blk_ret ?_
          refine nrm_ret ?_
          refine nrm_ret ?_
          have hq1 := Option.some.inj hL1
          subst hq1
          dsimp only at hF
          have hq2 := Option.some.inj hF
          subst hq2
          refine fn_ret1 rfl rfl ?_
          exact ⟨_, rfl, int_res hC2 _⟩
        · replace hL1 := ite_f hL1 hc2
          refine W_skip ?_
          refine blk_normal ?_
          refine nrm_normal ?_
          refine W_reg ?_
          refine WL_add rfl rfl rfl ?_
          refine WL_move rfl rfl ?_
          refine WL_nil ?_
          refine nrm_sub (l' := [(0, u1), (1, (.func (.func 86) #[] #[])), (7, (.int .i64 (List.length a1 : Int))), (8, (.int .i64 (w64 (x1 + 1))))]) ⟨rfl, rfl, rfl, rfl, trivial⟩ ?_
          exact ⟨k1, Nat.lt_succ_self _, w64 (x1 + 1), rfl, ((Keep.of hB1).then hB2).below, hC2, hL1⟩
      · replace hL1 := ite_f hL1 hc1
        refine W_exit ?_
        refine nrm_exit ?_
        refine nrm_exit ?_
        refine blk_exit ?_
        have hq3 := Option.some.inj hL1
        subst hq3
        refine nrm_sub (l' := []) trivial ?_
        exact ⟨rfl, rfl, (Keep.of hB1).below, hC1⟩
  · rintro l2 _ w3 hs2 ⟨rfl, rfl, hB3, hC3⟩
    try dsimp only at hF
    refine nrm_sub' hs2 ?_
    clear hs2
    refine W_seq_reg ?_
    refine WL_assign rfl rfl ?_
    refine WL_nil ?_
    refine W_ret ?_
    have hq4 := Option.some.inj hF
    subst hq4
    refine fn_ret1 rfl rfl ?_
    exact ⟨_, rfl, int_res hC3 _⟩

theorem c_Slices_ContainsFunc_Lint_int_M_IsSchema_c1 {w0 : World} (a1 : (List Int)) (u1 : Value) (g1 : RO [] w0 u1 a1) (rr : Bool) (hF : Slices.ContainsFunc_Lint_int_M_IsSchema_c1 a1 = some rr) :
    Calls Try.prog 77 [u1, (.func (.func 86) #[] #[])].toArray w0 fun e w' => ∃ v, e = .returned v ∧ Res w0 rr v w' := by
  refine calls_of_W Try.func77 rfl rfl ?_
  have hC0 := Ctx.start w0
  unfold Slices.ContainsFunc_Lint_int_M_IsSchema_c1 at hF
  refine W_seq_reg ?_
  refine WL_assign rfl rfl ?_
  refine WL_nil ?_
  refine W_seq_reg ?_
  refine WL_move rfl rfl ?_
  refine WL_move rfl rfl ?_
  obtain ⟨x1, hr1, hF⟩ := bind_some hF
  refine WL_call Try.call89 rfl rfl (c_Slices_IndexFunc_Lint_int_M_IsSchema_c1 a1 u1 (g1.now hC0.keep) x1 hr1) ?_
  intro _ w1 hv1
  obtain ⟨rfl, hB1⟩ := res_int hv1
  have hC1 := hC0.grow hB1
  refine WL_geq rfl rfl rfl ?_
  refine WL_assign rfl rfl ?_
  refine WL_nil ?_
  refine W_ret ?_
  have hq1 := Option.some.inj hF
  subst hq1
  refine fn_ret1 rfl rfl ?_
  exact ⟨_, rfl, bool_res hC1 _⟩

theorem c_M_IsSchema {w0 : World} (a1 : (List Int)) (u1 : Value) (g1 : RO [] w0 u1 a1) (rr : Bool) (hF : M.IsSchema a1 = some rr) :
    Calls Try.prog 73 [u1].toArray w0 fun e w' => ∃ v, e = .returned v ∧ Res w0 rr v w' := by
  refine calls_of_W Try.func73 rfl rfl ?_
  have hC0 := Ctx.start w0
  unfold M.IsSchema at hF
  refine W_seq_reg ?_
  refine WL_assign rfl rfl ?_
  refine WL_nil ?_
  obtain ⟨r1, hr1, hF⟩ := bind_some hF
  refine W_cut (fun l w => ∃ x1 : Bool, x1 = r1 ∧ l = [(2, (.bool x1))] ∧ Below w0.heap.size w0 w ∧ Ctx [] w0 w []) ?_ ?_
  · refine W_reg ?_
    refine WL_move rfl rfl ?_
    refine WL_len Try.underlying22 g1 rfl rfl ?_
    obtain ⟨x2, hr2, hr1⟩ := bind_some hr1
    refine WL_call Try.call41 rfl rfl (c_M_within (List.length a1 : Int) 1 3 x2 hr2) ?_
    intro _ w2 hv1
    obtain ⟨rfl, hB2⟩ := res_bool hv1
    have hC2 := hC0.grow hB2
    refine WL_move rfl rfl ?_
    refine WL_fork (fun hc1 => ?_) (fun hc1 => ?_)
    · replace hr1 := ite_t hr1 hc1
      refine WL_guard rfl rfl ?_
      refine WL_move rfl rfl ?_
      obtain ⟨x3, hr3, hr1⟩ := bind_some hr1
      refine WL_guard rfl rfl ?_
      refine WL_call Try.call77 rfl rfl (c_Slices_ContainsFunc_Lint_int_M_IsSchema_c1 a1 u1 (g1.now hC2.keep) x3 hr3) ?_
      intro _ w3 hv2
      obtain ⟨rfl, hB3⟩ := res_bool hv2
      have hC3 := hC2.grow hB3
      refine WL_guard rfl rfl ?_
      refine WL_not rfl rfl ?_
      refine WL_pick_t rfl rfl rfl ?_
      refine WL_assign rfl rfl ?_
      refine WL_nil ?_
      have hq1 := Option.some.inj hr1
      subst hq1
      refine nrm_sub (l' := [(2, (.bool (!x3)))]) ⟨rfl, trivial⟩ ?_
      exact ⟨(!x3), rfl, rfl, ((Keep.of hB2).then hB3).below, hC3⟩
    · replace hr1 := ite_f hr1 hc1
      refine WL_guard_skip rfl rfl (by simp) rfl ?_
      refine WL_guard_skip rfl rfl (by simp) rfl ?_
      refine WL_guard_skip rfl rfl (by simp) rfl ?_
      refine WL_pick_f rfl rfl rfl ?_
      refine WL_assign rfl rfl ?_
      refine WL_nil ?_
      have hq2 := Option.some.inj hr1
      subst hq2
      refine nrm_sub (l' := [(2, (.bool false))]) ⟨rfl, trivial⟩ ?_
      exact ⟨false, rfl, rfl, (Keep.of hB2).below, hC2⟩
  · rintro _ w1 ⟨x1, rfl, rfl, hB1, hC1⟩
    try dsimp only at hF
    refine W_ret ?_
    have hq3 := Option.some.inj hF
    subst hq3
    refine fn_ret1 rfl rfl ?_
    exact ⟨_, rfl, bool_res hC1 _⟩

theorem c_M_hasRel {w0 : World} (a1 : (List Int)) (u1 : Value) (g1 : RO [] w0 u1 a1) (a2 : Int) (rr : Bool) (hF : M.hasRel a1 a2 = some rr) :
    Calls Try.prog 82 [u1, (.int .i64 a2)].toArray w0 fun e w' => ∃ v, e = .returned v ∧ Res w0 rr v w' := by
  refine calls_of_W Try.func82 rfl rfl ?_
  have hC0 := Ctx.start w0
  unfold M.hasRel at hF
  refine W_seq_reg ?_
  refine WL_assign rfl rfl ?_
  refine WL_nil ?_
  obtain ⟨r1, hr1, hF⟩ := bind_some hF
  refine W_cut (fun l w => ∃ x1 : Bool, x1 = r1 ∧ l = [(4, (.bool x1))] ∧ Below w0.heap.size w0 w ∧ Ctx [] w0 w []) ?_ ?_
  · refine W_reg ?_
    refine WL_move rfl rfl ?_
    obtain ⟨x2, hr2, hr1⟩ := bind_some hr1
    refine WL_call Try.call73 rfl rfl (c_M_IsSchema a1 u1 (g1.now hC0.keep) x2 hr2) ?_
    intro _ w2 hv1
    obtain ⟨rfl, hB2⟩ := res_bool hv1
    have hC2 := hC0.grow hB2
    refine WL_move rfl rfl ?_
    refine WL_fork (fun hc1 => ?_) (fun hc1 => ?_)
    · replace hr1 := ite_t hr1 hc1
      refine WL_guard rfl rfl ?_
      refine WL_move rfl rfl ?_
      refine WL_guard rfl rfl ?_
      refine WL_move rfl rfl ?_
      refine WL_guard rfl rfl ?_
      refine WL_len Try.underlying22 g1 rfl rfl ?_
      refine WL_guard rfl rfl ?_
      refine WL_sub rfl rfl rfl ?_
      obtain ⟨x3, hr3, hr1⟩ := bind_some hr1
      refine WL_guard rfl rfl ?_
      refine WL_call Try.call41 rfl rfl (c_M_within a2 0 (w64 ((List.length a1 : Int) - 1)) x3 hr3) ?_
      intro _ w3 hv2
      obtain ⟨rfl, hB3⟩ := res_bool hv2
      have hC3 := hC2.grow hB3
      refine WL_pick_t rfl rfl rfl ?_
      refine WL_assign rfl rfl ?_
      refine WL_nil ?_
      have hq1 := Option.some.inj hr1
      subst hq1
      refine nrm_sub (l' := [(4, (.bool x3))]) ⟨rfl, trivial⟩ ?_
      exact ⟨x3, rfl, rfl, ((Keep.of hB2).then hB3).below, hC3⟩
    · replace hr1 := ite_f hr1 hc1
      refine WL_guard_skip rfl rfl (by simp) rfl ?_
      refine WL_guard_skip rfl rfl (by simp) rfl ?_
      refine WL_guard_skip rfl rfl (by simp) rfl ?_
      refine WL_guard_skip rfl rfl (by simp) rfl ?_
      refine WL_guard_skip rfl rfl (by simp) rfl ?_
      refine WL_pick_f rfl rfl rfl ?_
      refine WL_assign rfl rfl ?_
      refine WL_nil ?_
      have hq2 := Option.some.inj hr1
      subst hq2
      refine nrm_sub (l' := [(4, (.bool false))]) ⟨rfl, trivial⟩ ?_
      exact ⟨false, rfl, rfl, (Keep.of hB2).below, hC2⟩
  · rintro _ w1 ⟨x1, rfl, rfl, hB1, hC1⟩
    try dsimp only at hF
    refine W_ret ?_
    have hq3 := Option.some.inj hF
    subst hq3
    refine fn_ret1 rfl rfl ?_
    exact ⟨_, rfl, bool_res hC1 _⟩

theorem c_M_IsFact {w0 : World} (a1 : (List Int)) (u1 : Value) (g1 : RO [] w0 u1 a1) (a2 : (Int × (List Int))) (u2 : Value) (g2 : RO [] w0 u2 a2.2) (rr : Bool) (hF : M.IsFact a1 a2 = some rr) :
    Calls Try.prog 71 [u1, (.agg #[(.int .i64 a2.1), u2])].toArray w0 fun e w' => ∃ v, e = .returned v ∧ Res w0 rr v w' := by
  refine calls_of_W Try.func71 rfl rfl ?_
  have hC0 := Ctx.start w0
  unfold M.IsFact at hF
  refine W_seq_reg ?_
  refine WL_box (cs := [(.int .i64 a2.1), u2]) hC0 rfl rfl rfl (fun b1 w1 hC1 hB1 => ?_)
  refine WL_assign rfl rfl ?_
  refine WL_nil ?_
  obtain ⟨r1, hr1, hF⟩ := bind_some hF
  refine W_cut (fun l w => ∃ x1 : Bool, x1 = r1 ∧ l = [(4, (.bool x1))] ∧ Below w1.heap.size w1 w ∧ Ctx [] w0 w []) ?_ ?_
  · refine W_drawn 21 rfl hmix (fun w3 hB3 => ?_)
    have hC3 := hC1.grow hB3
    refine WA_take 0 rfl (by kernel_rfl) (by kernel_rfl) (by kernel_rfl) rfl (fl_move rfl) ?_
    refine WL_move rfl rfl ?_
    refine WL_nil ?_
    refine WA_take 1 rfl (by kernel_rfl) (by kernel_rfl) (by kernel_rfl) rfl (fl_field Try.underlying78 rfl rfl (fun w => ⟨_, Try.sizeOf3 w⟩) rfl) ?_
    refine WL_field Try.underlying78 rfl rfl (fun w => ⟨_, Try.sizeOf3 w⟩) rfl rfl ?_
    refine WL_nil ?_
    refine WA_one 2 (by kernel_rfl) rfl ?_
    refine WL_load_box hC3 0 rfl rfl Try.isAgg3 rfl rfl ?_
    refine WL_nil ?_
    obtain ⟨x2, hr2, hr1⟩ := bind_some hr1
    refine WA_one 3 (by kernel_rfl) rfl ?_
    refine WL_call Try.call82 rfl rfl (c_M_hasRel a1 u1 (g1.now hC3.keep) a2.1 x2 hr2) ?_
    intro _ w4 hv1
    obtain ⟨rfl, hB4⟩ := res_bool hv1
    have hC4 := hC3.grow hB4
    refine WL_nil ?_
    refine WA_take 4 rfl (by kernel_rfl) (by kernel_rfl) (by kernel_rfl) rfl (fl_move rfl) ?_
    refine WL_move rfl rfl ?_
    refine WL_nil ?_
    refine WA_fork (fun hc1 => ?_) (fun hc1 => ?_)
    · replace hr1 := ite_t hr1 hc1
      refine WA_takeG 5 rfl (by kernel_rfl) (by kernel_rfl) (by kernel_rfl) rfl rfl rfl (fl_field Try.underlying78 rfl rfl (fun w => ⟨_, Try.sizeOf22 w⟩) rfl) ?_
      refine WL_guard rfl rfl ?_
      refine WL_field Try.underlying78 rfl rfl (fun w => ⟨_, Try.sizeOf22 w⟩) rfl rfl ?_
      refine WL_nil ?_
      refine WA_takeG 8 rfl (by kernel_rfl) (by kernel_rfl) (by kernel_rfl) rfl rfl rfl (fl_move rfl) ?_
      refine WL_guard rfl rfl ?_
      refine WL_move rfl rfl ?_
      refine WL_nil ?_
      refine WA_takeG 9 rfl (by kernel_rfl) (by kernel_rfl) (by kernel_rfl) rfl rfl rfl (fl_field Try.underlying78 rfl rfl (fun w => ⟨_, Try.sizeOf3 w⟩) rfl) ?_
      refine WL_guard rfl rfl ?_
      refine WL_field Try.underlying78 rfl rfl (fun w => ⟨_, Try.sizeOf3 w⟩) rfl rfl ?_
      refine WL_nil ?_
      obtain ⟨x3, hx1, hr1⟩ := bind_some hr1
      refine WA.sub (l' := [(0, u1), (1, (.agg #[(.int .i64 a2.1), u2])), (3, (ptr b1 0)), (4, (.bool false)), (5, u1), (6, (ptr b1 0)), (7, (.int .i64 a2.1)), (8, (.bool x2)), (9, (.bool true)), (10, (ptr b1 1)), (13, u1), (14, (ptr b1 0))]) ?_ ⟨rfl, rfl, rfl, rfl, rfl, rfl, rfl, rfl, rfl, rfl, rfl, rfl, trivial⟩
      refine WA_postsE [⟨6, [], fun vs => PW.val u2, []⟩, ⟨7, [], fun vs => PW.val (.int .i64 (List.length a2.2 : Int)), []⟩, ⟨10, [], fun vs => PW.val (.int .i64 a2.1), []⟩, ⟨11, [], fun vs => PW.at [] w0 x3, []⟩, ⟨12, [], fun vs => PW.val (.int .i64 x3), []⟩] [[], [6], [], [10], [11]] 8 rfl (by kernel_rfl) (by kernel_rfl) rfl ?_ ?_
      · refine StepsE_cons rfl ?_ ?_
        · intro w5 hB5
          refine DepsE_nil ?_
          refine ⟨_, rfl, ?_⟩
          refine WL_guard rfl rfl ?_
          refine WL_load_box (hC4.grow hB5) 0 rfl rfl Try.isAgg22 rfl rfl ?_
          refine WL_nil ?_
          exact FinE_val (Below.refl _ _) rfl rfl ⟨rfl, rfl⟩
        refine StepsE_cons rfl ?_ ?_
        · intro w5 hB5
          refine DepsE_cons rfl rfl rfl ?_
          rintro _ _ ⟨rfl, rfl⟩ _
          refine DepsE_nil ?_
          refine ⟨_, rfl, ?_⟩
          refine WL_guard rfl rfl ?_
          refine WL_len Try.underlying22 g2 rfl rfl ?_
          refine WL_nil ?_
          exact FinE_val (Below.refl _ _) rfl rfl ⟨rfl, rfl⟩
        refine StepsE_cons rfl ?_ ?_
        · intro w5 hB5
          refine DepsE_nil ?_
          refine ⟨_, rfl, ?_⟩
          refine WL_guard rfl rfl ?_
          refine WL_load_box (hC4.grow hB5) 0 rfl rfl Try.isAgg3 rfl rfl ?_
          refine WL_nil ?_
          exact FinE_val (Below.refl _ _) rfl rfl ⟨rfl, rfl⟩
        refine StepsE_cons rfl ?_ ?_
        · intro w5 hB5
          refine DepsE_cons rfl rfl rfl ?_
          rintro _ _ ⟨rfl, rfl⟩ _
          refine DepsE_nil ?_
          refine ⟨_, rfl, ?_⟩
          refine WL_guard rfl rfl ?_
          refine WL_index Try.underlying22 ty3 g1 hx1 rfl rfl rfl (fun b2 o1 h1 => ?_)
          refine WL_nil ?_
          exact FinE_val (Below.refl _ _) rfl rfl ⟨rfl, _, _, rfl, h1⟩
        refine StepsE_cons rfl ?_ ?_
        · intro w5 hB5
          refine DepsE_cons rfl rfl rfl ?_
          rintro _ _ ⟨rfl, b2, o1, rfl, h1⟩ _
          refine DepsE_nil ?_
          refine ⟨_, rfl, ?_⟩
          refine WL_guard rfl rfl ?_
          refine WL_load ty3 h1 (hC4.keep.then hB5) rfl rfl (fun v1 h2 => ?_)
          obtain rfl := ro_int h2
          refine WL_nil ?_
          exact FinE_val (Below.refl _ _) rfl rfl ⟨rfl, rfl⟩
        exact StepsE_nil
      · intro w6 hB6
        refine AllE_cons rfl rfl rfl ?_
        rintro _ _ ⟨rfl, rfl⟩
        refine AllE_cons rfl rfl rfl ?_
        rintro _ _ ⟨rfl, rfl⟩
        refine AllE_cons rfl rfl rfl ?_
        rintro _ _ ⟨rfl, rfl⟩
        refine AllE_cons rfl rfl rfl ?_
        rintro _ _ ⟨rfl, b2, o1, rfl, h1⟩
        refine AllE_cons rfl rfl rfl ?_
        rintro _ _ ⟨rfl, rfl⟩
        refine AllE_nil ?_
        intro hn1 hb1
        have hC5 := hC4.grow hB6
        refine WA_takeG 13 rfl (by kernel_rfl) (by kernel_rfl) (by kernel_rfl) rfl rfl rfl (fl_eql rfl rfl) ?_
        refine WL_guard rfl rfl ?_
        refine WL_eql rfl rfl rfl ?_
        refine WL_nil ?_
        refine WA_take 14 rfl (by kernel_rfl) (by kernel_rfl) (by kernel_rfl) rfl (fl_pick_t rfl rfl) ?_
        refine WL_pick_t rfl rfl rfl ?_
        refine WL_nil ?_
        refine WA_take 15 rfl (by kernel_rfl) (by kernel_rfl) (by kernel_rfl) rfl (fl_move rfl) ?_
        refine WL_move rfl rfl ?_
        refine WL_nil ?_
        refine WA_fork (fun hc2 => ?_) (fun hc2 => ?_)
        · replace hr1 := ite_t hr1 hc2
          refine WA_takeG 16 rfl (by kernel_rfl) (by kernel_rfl) (by kernel_rfl) rfl rfl rfl (fl_field Try.underlying78 rfl rfl (fun w => ⟨_, Try.sizeOf22 w⟩) rfl) ?_
          refine WL_guard rfl rfl ?_
          refine WL_field Try.underlying78 rfl rfl (fun w => ⟨_, Try.sizeOf22 w⟩) rfl rfl ?_
          refine WL_nil ?_
          refine WA_one 17 (by kernel_rfl) rfl ?_
          refine WL_guard rfl rfl ?_
          refine WL_load_box hC5 0 rfl rfl Try.isAgg22 rfl rfl ?_
          refine WL_nil ?_
          obtain ⟨x4, hr3, hr1⟩ := bind_some hr1
          refine WA_one 18 (by kernel_rfl) rfl ?_
          refine WL_guard rfl rfl ?_
          refine WL_call Try.call62 rfl rfl (c_M_areValues a2.2 u2 (g2.now hC5.keep) x4 hr3) ?_
          intro _ w7 hv2
          obtain ⟨rfl, hB7⟩ := res_bool hv2
          have hC6 := hC5.grow hB7
          refine WL_nil ?_
          refine WA_take 19 rfl (by kernel_rfl) (by kernel_rfl) (by kernel_rfl) rfl (fl_pick_t rfl rfl) ?_
          refine WL_pick_t rfl rfl rfl ?_
          refine WL_nil ?_
          refine WA_take 20 rfl (by kernel_rfl) (by kernel_rfl) (by kernel_rfl) rfl (fl_assign rfl) ?_
          refine WL_assign rfl rfl ?_
          refine WL_nil ?_
          refine WA_done (by kernel_rfl) ?_
          have hq1 := Option.some.inj hr1
          subst hq1
          have hC7 : Ctx [] w0 _ [] := hC6.headN 0
          refine nrm_sub (l' := [(4, (.bool x4))]) ⟨rfl, trivial⟩ ?_
          exact ⟨x4, rfl, rfl, ((((Keep.of hB3).then hB4).then hB6).then hB7).below, hC7⟩
        · replace hr1 := ite_f hr1 hc2
          refine WA_skip 16 rfl (by kernel_rfl) (by kernel_rfl) (by kernel_rfl) rfl rfl rfl (by simp) rfl rfl ?_
          refine WA_skip 17 rfl (by kernel_rfl) (by kernel_rfl) (by kernel_rfl) rfl rfl rfl (by simp) rfl rfl ?_
          refine WA_skip 18 rfl (by kernel_rfl) (by kernel_rfl) (by kernel_rfl) rfl rfl rfl (by simp) rfl rfl ?_
          refine WA_take 19 rfl (by kernel_rfl) (by kernel_rfl) (by kernel_rfl) rfl (fl_pick_f rfl rfl) ?_
          refine WL_pick_f rfl rfl rfl ?_
          refine WL_nil ?_
          refine WA_take 20 rfl (by kernel_rfl) (by kernel_rfl) (by kernel_rfl) rfl (fl_assign rfl) ?_
          refine WL_assign rfl rfl ?_
          refine WL_nil ?_
          refine WA_done (by kernel_rfl) ?_
          have hq2 := Option.some.inj hr1
          subst hq2
          have hC8 : Ctx [] w0 _ [] := hC5.headN 0
          refine nrm_sub (l' := [(4, (.bool false))]) ⟨rfl, trivial⟩ ?_
          exact ⟨false, rfl, rfl, (((Keep.of hB3).then hB4).then hB6).below, hC8⟩
    · replace hr1 := ite_f hr1 hc1
      refine WA_skip 5 rfl (by kernel_rfl) (by kernel_rfl) (by kernel_rfl) rfl rfl rfl (by simp) rfl rfl ?_
      refine WA_skip 6 rfl (by kernel_rfl) (by kernel_rfl) (by kernel_rfl) rfl rfl rfl (by simp) rfl rfl ?_
      refine WA_skip 7 rfl (by kernel_rfl) (by kernel_rfl) (by kernel_rfl) rfl rfl rfl (by simp) rfl rfl ?_
      refine WA_skip 8 rfl (by kernel_rfl) (by kernel_rfl) (by kernel_rfl) rfl rfl rfl (by simp) rfl rfl ?_
      refine WA_skip 9 rfl (by kernel_rfl) (by kernel_rfl) (by kernel_rfl) rfl rfl rfl (by simp) rfl rfl ?_
      refine WA_skip 10 rfl (by kernel_rfl) (by kernel_rfl) (by kernel_rfl) rfl rfl rfl (by simp) rfl rfl ?_
      refine WA_skip 11 rfl (by kernel_rfl) (by kernel_rfl) (by kernel_rfl) rfl rfl rfl (by simp) rfl rfl ?_
      refine WA_skip 12 rfl (by kernel_rfl) (by kernel_rfl) (by kernel_rfl) rfl rfl rfl (by simp) rfl rfl ?_
      refine WA_skip 13 rfl (by kernel_rfl) (by kernel_rfl) (by kernel_rfl) rfl rfl rfl (by simp) rfl rfl ?_
      refine WA_take 14 rfl (by kernel_rfl) (by kernel_rfl) (by kernel_rfl) rfl (fl_pick_f rfl rfl) ?_
      refine WL_pick_f rfl rfl rfl ?_
      refine WL_nil ?_
      refine WA_take 15 rfl (by kernel_rfl) (by kernel_rfl) (by kernel_rfl) rfl (fl_move rfl) ?_
      refine WL_move rfl rfl ?_
      refine WL_nil ?_
      refine WA_skip 16 rfl (by kernel_rfl) (by kernel_rfl) (by kernel_rfl) rfl rfl rfl (by simp) rfl rfl ?_
      refine WA_skip 17 rfl (by kernel_rfl) (by kernel_rfl) (by kernel_rfl) rfl rfl rfl (by simp) rfl rfl ?_
      refine WA_skip 18 rfl (by kernel_rfl) (by kernel_rfl) (by kernel_rfl) rfl rfl rfl (by simp) rfl rfl ?_
      refine WA_take 19 rfl (by kernel_rfl) (by kernel_rfl) (by kernel_rfl) rfl (fl_pick_f rfl rfl) ?_
      refine WL_pick_f rfl rfl rfl ?_
      refine WL_nil ?_
      refine WA_take 20 rfl (by kernel_rfl) (by kernel_rfl) (by kernel_rfl) rfl (fl_assign rfl) ?_
      refine WL_assign rfl rfl ?_
      refine WL_nil ?_
      refine WA_done (by kernel_rfl) ?_
      have hq3 := Option.some.inj hr1
      subst hq3
      have hC9 : Ctx [] w0 _ [] := hC4.headN 0
      refine nrm_sub (l' := [(4, (.bool false))]) ⟨rfl, trivial⟩ ?_
      exact ⟨false, rfl, rfl, ((Keep.of hB3).then hB4).below, hC9⟩
  · rintro _ w2 ⟨x1, rfl, rfl, hB2, hC2⟩
    try dsimp only at hF
    refine W_ret ?_
    have hq4 := Option.some.inj hF
    subst hq4
    refine fn_ret1 rfl rfl ?_
    exact ⟨_, rfl, bool_res hC2 _⟩

theorem c_Cmp_Or_int {w0 : World} (a1 : (List Int)) (u1 : Value) (g1 : RO [] w0 u1 a1) (rr : Int) (hF : Cmp.Or_int a1 = some rr) :
    Calls Try.prog 83 [u1].toArray w0 fun e w' => ∃ v, e = .returned v ∧ Res w0 rr v w' := by
  refine calls_of_W Try.func83 rfl rfl ?_
  have hC0 := Ctx.start w0
  unfold Cmp.Or_int at hF
  refine W_seq_reg ?_
  refine WL_assign rfl rfl ?_
  refine WL_nil ?_
  refine W_seq_reg ?_
  refine WL_assign rfl rfl ?_
  refine WL_nil ?_
  refine W_seq ?_
  refine W_seq_reg ?_
  refine WL_move rfl rfl ?_
  refine WL_len Try.underlying22 g1 rfl rfl ?_
  refine WL_move rfl rfl ?_
  refine WL_nil ?_
  obtain ⟨r1, hr1, hF⟩ := bind_some hF
  refine W_norm (fun l w => .inl () = r1 ∧ l = [(3, (.int .i64 0))] ∧ Below w0.heap.size w0 w ∧ Ctx [] w0 w []) ?_ ?_
  · refine W_block ?_
    refine W.sub (l' := [(3, (.int .i64 0)), (6, u1), (7, (.int .i64 (List.length a1 : Int))), (8, (.int .i64 0))]) ?_ ⟨rfl, rfl, rfl, rfl, trivial⟩
    refine W_loop (fun k l w => ∃ x1 : Int, l = [(3, (.int .i64 0)), (6, u1), (7, (.int .i64 (List.length a1 : Int))), (8, (.int .i64 x1))] ∧ Below w0.heap.size w0 w ∧ Ctx [] w0 w [] ∧ Cmp.Or_int_l1 a1 k x1 = some r1) FUEL ⟨0, rfl, (Below.refl _ _), hC0, hr1⟩ ?_
    clear hr1
    rintro k1 _ w1 ⟨x1, rfl, hB1, hC1, hL1⟩
    cases k1 with
    | zero => rw [Cmp.Or_int_l1] at hL1; cases hL1
    | succ k1 =>
      rw [Cmp.Or_int_l1] at hL1
      refine W_seq_reg ?_
      refine WL_lss rfl rfl rfl ?_
      refine WL_nil ?_
      refine W_seq ?_
      refine W_cond rfl (fun hc1 => ?_) (fun hc1 => ?_)
      · replace hL1 := ite_t hL1 hc1
        refine W_skip ?_
        refine nrm_normal ?_
        refine W_seq ?_
        refine W_block ?_
        refine W_seq_reg ?_
        obtain ⟨x2, hx1, hL1⟩ := bind_some hL1
        refine WL_index Try.underlying22 ty3 g1 hx1 rfl rfl rfl (fun b1 o1 h1 => ?_)
        refine WL_load ty3 h1 hC1.keep rfl rfl (fun v1 h2 => ?_)
        obtain rfl := ro_int h2
        refine WL_assign rfl rfl ?_
        refine WL_nil ?_
        refine W_seq_reg ?_
        refine WL_move rfl rfl ?_
        refine WL_move rfl rfl ?_
        refine WL_neq rfl rfl rfl ?_
        refine WL_nil ?_
        refine W_cond rfl (fun hc2 => ?_) (fun hc2 => ?_)
        · replace hL1 := ite_t hL1 hc2
          refine W_seq_reg ?_
          refine WL_move rfl rfl ?_
          refine WL_assign rfl rfl ?_
          refine WL_nil ?_
          refine W_ret ?_
          refine blk_ret ?_
          refine nrm_ret ?_
          refine nrm_ret ?_
          refine blk_ret ?_
          refine nrm_ret ?_
          refine nrm_ret ?_
          have hq1 := Option.some.inj hL1
          subst hq1
          dsimp only at hF
          have hq2 := Option.some.inj hF
          subst hq2
          refine fn_ret1 rfl rfl ?_
          exact ⟨_, rfl, int_res hC1 _⟩
        · replace hL1 := ite_f hL1 hc2
          refine W_skip ?_
          refine blk_normal ?_
          refine nrm_normal ?_
          refine W_reg ?_
          refine WL_add rfl rfl rfl ?_
          refine WL_move rfl rfl ?_
          refine WL_nil ?_
          refine nrm_sub (l' := [(3, (.int .i64 0)), (6, u1), (7, (.int .i64 (List.length a1 : Int))), (8, (.int .i64 (w64 (x1 + 1))))]) ⟨rfl, rfl, rfl, rfl, trivial⟩ ?_
          exact ⟨k1, Nat.lt_succ_self _, w64 (x1 + 1), rfl, (Keep.of hB1).below, hC1, hL1⟩
      · replace hL1 := ite_f hL1 hc1
        refine W_exit ?_
        refine nrm_exit ?_
        refine nrm_exit ?_
        refine blk_exit ?_
        have hq3 := Option.some.inj hL1
        subst hq3
        refine nrm_sub (l' := [(3, (.int .i64 0))]) ⟨rfl, trivial⟩ ?_
        exact ⟨rfl, rfl, (Keep.of hB1).below, hC1⟩
  · rintro l2 _ w2 hs2 ⟨rfl, rfl, hB2, hC2⟩
    try dsimp only at hF
    refine nrm_sub' hs2 ?_
    clear hs2
    refine W_seq_reg ?_
    refine WL_move rfl rfl ?_
    refine WL_assign rfl rfl ?_
    refine WL_nil ?_
    refine W_ret ?_
    have hq4 := Option.some.inj hF
    subst hq4
    refine fn_ret1 rfl rfl ?_
    exact ⟨_, rfl, int_res hC2 _⟩

theorem c_Cmp_isNaN_int {w0 : World} (a1 : Int) (rr : Bool) (hF : Cmp.isNaN_int a1 = some rr) :
    Calls Try.prog 90 [(.int .i64 a1)].toArray w0 fun e w' => ∃ v, e = .returned v ∧ Res w0 rr v w' := by
  refine calls_of_W Try.func90 rfl rfl ?_
  have hC0 := Ctx.start w0
  unfold Cmp.isNaN_int at hF
  refine W_seq_reg ?_
  refine WL_assign rfl rfl ?_
  refine WL_nil ?_
  refine W_seq_reg ?_
  refine WL_move rfl rfl ?_
  refine WL_move rfl rfl ?_
  refine WL_neq rfl rfl rfl ?_
  refine WL_assign rfl rfl ?_
  refine WL_nil ?_
  refine W_ret ?_
  have hq1 := Option.some.inj hF
  subst hq1
  refine fn_ret1 rfl rfl ?_
  exact ⟨_, rfl, bool_res hC0 _⟩

theorem c_Cmp_Compare_int {w0 : World} (a1 : Int) (a2 : Int) (rr : Int) (hF : Cmp.Compare_int a1 a2 = some rr) :
    Calls Try.prog 84 [(.int .i64 a1), (.int .i64 a2)].toArray w0 fun e w' => ∃ v, e = .returned v ∧ Res w0 rr v w' := by
  refine calls_of_W Try.func84 rfl rfl ?_
  have hC0 := Ctx.start w0
  unfold Cmp.Compare_int at hF
  refine W_seq_reg ?_
  refine WL_assign rfl rfl ?_
  refine WL_nil ?_
  refine W_seq_reg ?_
  refine WL_move rfl rfl ?_
  obtain ⟨x1, hr1, hF⟩ := bind_some hF
  refine WL_call Try.call90 rfl rfl (c_Cmp_isNaN_int a1 x1 hr1) ?_
  intro _ w1 hv1
  obtain ⟨rfl, hB1⟩ := res_bool hv1
  have hC1 := hC0.grow hB1
  refine WL_assign rfl rfl ?_
  refine WL_nil ?_
  refine W_seq_reg ?_
  refine WL_move rfl rfl ?_
  obtain ⟨x2, hr2, hF⟩ := bind_some hF
  refine WL_call Try.call90 rfl rfl (c_Cmp_isNaN_int a2 x2 hr2) ?_
  intro _ w2 hv2
  obtain ⟨rfl, hB2⟩ := res_bool hv2
  have hC2 := hC1.grow hB2
  refine WL_assign rfl rfl ?_
  refine WL_nil ?_
  refine W_seq ?_
  refine W_seq_reg ?_
  refine WL_move rfl rfl ?_
  refine WL_nil ?_
  refine W_cond rfl (fun hc1 => ?_) (fun hc1 => ?_)
  · replace hF := ite_t hF hc1
    refine W_seq ?_
    refine W_seq_reg ?_
    refine WL_move rfl rfl ?_
    refine WL_nil ?_
    refine W_cond rfl (fun hc2 => ?_) (fun hc2 => ?_)
    · replace hF := ite_t hF hc2
      refine W_seq_reg ?_
      refine WL_assign rfl rfl ?_
      refine WL_nil ?_
      refine W_ret ?_
      refine nrm_ret ?_
      refine nrm_ret ?_
      have hq1 := Option.some.inj hF
      subst hq1
      refine fn_ret1 rfl rfl ?_
      exact ⟨_, rfl, int_res hC2 _⟩
    · replace hF := ite_f hF hc2
      refine W_skip ?_
      refine nrm_normal ?_
      refine W_seq_reg ?_
      refine WL_assign rfl rfl ?_
      refine WL_nil ?_
      refine W_ret ?_
      refine nrm_ret ?_
      have hq2 := Option.some.inj hF
      subst hq2
      refine fn_ret1 rfl rfl ?_
      exact ⟨_, rfl, int_res hC2 _⟩
  · replace hF := ite_f hF hc1
    refine W_skip ?_
    refine nrm_normal ?_
    refine W_seq ?_
    refine W_seq_reg ?_
    refine WL_move rfl rfl ?_
    refine WL_nil ?_
    refine W_cond rfl (fun hc3 => ?_) (fun hc3 => ?_)
    · replace hF := ite_t hF hc3
      refine W_seq_reg ?_
      refine WL_assign rfl rfl ?_
      refine WL_nil ?_
      refine W_ret ?_
      refine nrm_ret ?_
      have hq3 := Option.some.inj hF
      subst hq3
      refine fn_ret1 rfl rfl ?_
      exact ⟨_, rfl, int_res hC2 _⟩
    · replace hF := ite_f hF hc3
      refine W_skip ?_
      refine nrm_normal ?_
      refine W_seq ?_
      refine W_seq_reg ?_
      refine WL_move rfl rfl ?_
      refine WL_move rfl rfl ?_
      refine WL_lss rfl rfl rfl ?_
      refine WL_nil ?_
      refine W_cond rfl (fun hc4 => ?_) (fun hc4 => ?_)
      · replace hF := ite_t hF hc4
        refine W_seq_reg ?_
        refine WL_assign rfl rfl ?_
        refine WL_nil ?_
        refine W_ret ?_
        refine nrm_ret ?_
        have hq4 := Option.some.inj hF
        subst hq4
        refine fn_ret1 rfl rfl ?_
        exact ⟨_, rfl, int_res hC2 _⟩
      · replace hF := ite_f hF hc4
        refine W_skip ?_
        refine nrm_normal ?_
        refine W_seq ?_
        refine W_seq_reg ?_
        refine WL_move rfl rfl ?_
        refine WL_move rfl rfl ?_
        refine WL_gtr rfl rfl rfl ?_
        refine WL_nil ?_
        refine W_cond rfl (fun hc5 => ?_) (fun hc5 => ?_)
        · replace hF := ite_t hF hc5
          refine W_seq_reg ?_
          refine WL_assign rfl rfl ?_
          refine WL_nil ?_
          refine W_ret ?_
          refine nrm_ret ?_
          have hq5 := Option.some.inj hF
          subst hq5
          refine fn_ret1 rfl rfl ?_
          exact ⟨_, rfl, int_res hC2 _⟩
        · replace hF := ite_f hF hc5
          refine W_skip ?_
          refine nrm_normal ?_
          refine W_seq_reg ?_
          refine WL_assign rfl rfl ?_
          refine WL_nil ?_
          refine W_ret ?_
          have hq6 := Option.some.inj hF
          subst hq6
          refine fn_ret1 rfl rfl ?_
          exact ⟨_, rfl, int_res hC2 _⟩

theorem c_Slices_Compare_Lint_int {w0 : World} (a1 : (List Int)) (u1 : Value) (g1 : RO [] w0 u1 a1) (a2 : (List Int)) (u2 : Value) (g2 : RO [] w0 u2 a2) (rr : Int) (hF : Slices.Compare_Lint_int a1 a2 = some rr) :
    Calls Try.prog 85 [u1, u2].toArray w0 fun e w' => ∃ v, e = .returned v ∧ Res w0 rr v w' := by
  refine calls_of_W Try.func85 rfl rfl ?_
  have hC0 := Ctx.start w0
  unfold Slices.Compare_Lint_int at hF
  refine W_seq_reg ?_
  refine WL_assign rfl rfl ?_
  refine WL_nil ?_
  refine W_seq ?_
  refine W_seq_reg ?_
  refine WL_move rfl rfl ?_
  refine WL_len Try.underlying22 g1 rfl rfl ?_
  refine WL_move rfl rfl ?_
  refine WL_nil ?_
  obtain ⟨r1, hr1, hF⟩ := bind_some hF
  refine W_norm (fun l w => .inl () = r1 ∧ l = [(0, u1), (1, u2)] ∧ Below w0.heap.size w0 w ∧ Ctx [] w0 w []) ?_ ?_
  · refine W_block ?_
    refine W.sub (l' := [(0, u1), (1, u2), (9, u1), (10, (.int .i64 (List.length a1 : Int))), (11, (.int .i64 0))]) ?_ ⟨rfl, rfl, rfl, rfl, rfl, trivial⟩
    refine W_loop (fun k l w => ∃ x1 : Int, l = [(0, u1), (1, u2), (9, u1), (10, (.int .i64 (List.length a1 : Int))), (11, (.int .i64 x1))] ∧ Below w0.heap.size w0 w ∧ Ctx [] w0 w [] ∧ Slices.Compare_Lint_int_l1 a1 a2 k x1 = some r1) FUEL ⟨0, rfl, (Below.refl _ _), hC0, hr1⟩ ?_
    clear hr1
    rintro k1 _ w1 ⟨x1, rfl, hB1, hC1, hL1⟩
    cases k1 with
    | zero => rw [Slices.Compare_Lint_int_l1] at hL1; cases hL1
    | succ k1 =>
      rw [Slices.Compare_Lint_int_l1] at hL1
      refine W_seq_reg ?_
      refine WL_lss rfl rfl rfl ?_
      refine WL_nil ?_
      refine W_seq ?_
      refine W_cond rfl (fun hc1 => ?_) (fun hc1 => ?_)
      · replace hL1 := ite_t hL1 hc1
        refine W_skip ?_
        refine nrm_normal ?_
        refine W_seq ?_
        refine W_block ?_
        refine W_seq_reg ?_
        refine WL_move rfl rfl ?_
        obtain ⟨x2, hx1, hL1⟩ := bind_some hL1
        refine WL_index Try.underlying22 ty3 g1 hx1 rfl rfl rfl (fun b1 o1 h1 => ?_)
        refine WL_load ty3 h1 hC1.keep rfl rfl (fun v1 h2 => ?_)
        obtain rfl := ro_int h2
        refine WL_assign rfl rfl ?_
        refine WL_assign rfl rfl ?_
        refine WL_nil ?_
        refine W_seq ?_
        refine W_seq_reg ?_
        refine WL_move rfl rfl ?_
        refine WL_move rfl rfl ?_
        refine WL_len Try.underlying22 g2 rfl rfl ?_
        refine WL_geq rfl rfl rfl ?_
        refine WL_nil ?_
        refine W_cond rfl (fun hc2 => ?_) (fun hc2 => ?_)
        · replace hL1 := ite_t hL1 hc2
          refine W_seq_reg ?_
          refine WL_assign rfl rfl ?_
          refine WL_nil ?_
          refine W_ret ?_
          refine nrm_ret ?_
          refine blk_ret ?_
          refine nrm_ret ?_
          refine nrm_ret ?_
          refine blk_ret ?_
          refine nrm_ret ?_
          refine nrm_ret ?_
          have hq1 := Option.some.inj hL1
          subst hq1
          dsimp only at hF
          have hq2 := Option.some.inj hF
          subst hq2
          refine fn_ret1 rfl rfl ?_
          exact ⟨_, rfl, int_res hC1 _⟩
        · replace hL1 := ite_f hL1 hc2
          refine W_skip ?_
          refine nrm_normal ?_
          refine W_seq_reg ?_
          refine WL_move rfl rfl ?_
          refine WL_move rfl rfl ?_
          obtain ⟨x3, hx2, hL1⟩ := bind_some hL1
          refine WL_index Try.underlying22 ty3 g2 hx2 rfl rfl rfl (fun b2 o2 h3 => ?_)
          refine WL_load ty3 h3 hC1.keep rfl rfl (fun v2 h4 => ?_)
          obtain rfl := ro_int h4
          refine WL_assign rfl rfl ?_
          refine WL_nil ?_
          refine W_seq_reg ?_
          refine WL_move rfl rfl ?_
          refine WL_move rfl rfl ?_
          obtain ⟨x4, hr2, hL1⟩ := bind_some hL1
          refine WL_call Try.call84 rfl rfl (c_Cmp_Compare_int x2 x3 x4 hr2) ?_
          intro _ w2 hv1
          obtain ⟨rfl, hB2⟩ := res_int hv1
          have hC2 := hC1.grow hB2
          refine WL_assign rfl rfl ?_
          refine WL_nil ?_
          refine W_seq_reg ?_
          refine WL_move rfl rfl ?_
          refine WL_neq rfl rfl rfl ?_
          refine WL_nil ?_
          refine W_cond rfl (fun hc3 => ?_) (fun hc3 => ?_)
          · replace hL1 := ite_t hL1 hc3
            refine W_seq_reg ?_
            refine WL_move rfl rfl ?_
            refine WL_assign rfl rfl ?_
            refine WL_nil ?_
            refine W_ret ?_
            refine blk_ret ?_
            refine nrm_ret ?_
            refine nrm_ret ?_
            refine blk_ret ?_
            refine nrm_ret ?_
            refine nrm_ret ?_
            have hq3 := Option.some.inj hL1
            subst hq3
            dsimp only at hF
            have hq4 := Option.some.inj hF
            subst hq4
            refine fn_ret1 rfl rfl ?_
            exact ⟨_, rfl, int_res hC2 _⟩
          · replace hL1 := ite_f hL1 hc3
            refine W_skip ?_
            refine blk_normal ?_
            refine nrm_normal ?_
            refine W_reg ?_
            refine WL_add rfl rfl rfl ?_
            refine WL_move rfl rfl ?_
            refine WL_nil ?_
            refine nrm_sub (l' := [(0, u1), (1, u2), (9, u1), (10, (.int .i64 (List.length a1 : Int))), (11, (.int .i64 (w64 (x1 + 1))))]) ⟨rfl, rfl, rfl, rfl, rfl, trivial⟩ ?_
            exact ⟨k1, Nat.lt_succ_self _, w64 (x1 + 1), rfl, ((Keep.of hB1).then hB2).below, hC2, hL1⟩
      · replace hL1 := ite_f hL1 hc1
        refine W_exit ?_
        refine nrm_exit ?_
        refine nrm_exit ?_
        refine blk_exit ?_
        have hq5 := Option.some.inj hL1
        subst hq5
        refine nrm_sub (l' := [(0, u1), (1, u2)]) ⟨rfl, rfl, trivial⟩ ?_
        exact ⟨rfl, rfl, (Keep.of hB1).below, hC1⟩
  · rintro l2 _ w3 hs2 ⟨rfl, rfl, hB3, hC3⟩
    try dsimp only at hF
    refine nrm_sub' hs2 ?_
    clear hs2
    refine W_seq ?_
    refine W_seq_reg ?_
    refine WL_move rfl rfl ?_
    refine WL_len Try.underlying22 g1 rfl rfl ?_
    refine WL_move rfl rfl ?_
    refine WL_len Try.underlying22 g2 rfl rfl ?_
    refine WL_lss rfl rfl rfl ?_
    refine WL_nil ?_
    refine W_cond rfl (fun hc4 => ?_) (fun hc4 => ?_)
    · replace hF := ite_t hF hc4
      refine W_seq_reg ?_
      refine WL_assign rfl rfl ?_
      refine WL_nil ?_
      refine W_ret ?_
      refine nrm_ret ?_
      have hq6 := Option.some.inj hF
      subst hq6
      refine fn_ret1 rfl rfl ?_
      exact ⟨_, rfl, int_res hC3 _⟩
    · replace hF := ite_f hF hc4
      refine W_skip ?_
      refine nrm_normal ?_
      refine W_seq_reg ?_
      refine WL_assign rfl rfl ?_
      refine WL_nil ?_
      refine W_ret ?_
      have hq7 := Option.some.inj hF
      subst hq7
      refine fn_ret1 rfl rfl ?_
      exact ⟨_, rfl, int_res hC3 _⟩

theorem c_M_CompareFacts {w0 : World} (a1 : (Int × (List Int))) (u1 : Value) (g1 : RO [] w0 u1 a1.2) (a2 : (Int × (List Int))) (u2 : Value) (g2 : RO [] w0 u2 a2.2) (rr : Int) (hF : M.CompareFacts a1 a2 = some rr) :
    Calls Try.prog 72 [(.agg #[(.int .i64 a1.1), u1]), (.agg #[(.int .i64 a2.1), u2])].toArray w0 fun e w' => ∃ v, e = .returned v ∧ Res w0 rr v w' := by
  refine calls_of_W Try.func72 rfl rfl ?_
  have hC0 := Ctx.start w0
  unfold M.CompareFacts at hF
  refine W_seq_reg ?_
  refine WL_box (cs := [(.int .i64 a1.1), u1]) hC0 rfl rfl rfl (fun b1 w1 hC1 hB1 => ?_)
  refine WL_box (cs := [(.int .i64 a2.1), u2]) hC1 rfl rfl rfl (fun b2 w2 hC2 hB2 => ?_)
  refine WL_assign rfl rfl ?_
  refine WL_nil ?_
  refine W_seq ?_
  refine W_drawn 13 rfl hmix (fun w3 hB3 => ?_)
  have hC3 := hC2.grow hB3
  refine WA_take 0 rfl (by kernel_rfl) (by kernel_rfl) (by kernel_rfl) rfl (fl_field Try.underlying78 rfl rfl (fun w => ⟨_, Try.sizeOf3 w⟩) rfl) ?_
  refine WL_field Try.underlying78 rfl rfl (fun w => ⟨_, Try.sizeOf3 w⟩) rfl rfl ?_
  refine WL_nil ?_
  refine WA_take 2 rfl (by kernel_rfl) (by kernel_rfl) (by kernel_rfl) rfl (fl_field Try.underlying78 rfl rfl (fun w => ⟨_, Try.sizeOf3 w⟩) rfl) ?_
  refine WL_field Try.underlying78 rfl rfl (fun w => ⟨_, Try.sizeOf3 w⟩) rfl rfl ?_
  refine WL_nil ?_
  refine WA_take 5 rfl (by kernel_rfl) (by kernel_rfl) (by kernel_rfl) rfl (fl_field Try.underlying78 rfl rfl (fun w => ⟨_, Try.sizeOf22 w⟩) rfl) ?_
  refine WL_field Try.underlying78 rfl rfl (fun w => ⟨_, Try.sizeOf22 w⟩) rfl rfl ?_
  refine WL_nil ?_
  refine WA_take 7 rfl (by kernel_rfl) (by kernel_rfl) (by kernel_rfl) rfl (fl_field Try.underlying78 rfl rfl (fun w => ⟨_, Try.sizeOf22 w⟩) rfl) ?_
  refine WL_field Try.underlying78 rfl rfl (fun w => ⟨_, Try.sizeOf22 w⟩) rfl rfl ?_
  refine WL_nil ?_
  obtain ⟨x1, hr1, hF⟩ := bind_some hF
  refine WA.sub (l' := [(0, (.agg #[(.int .i64 a1.1), u1])), (1, (.agg #[(.int .i64 a2.1), u2])), (2, (ptr b1 0)), (3, (ptr b2 0)), (4, (.int .i64 0)), (5, (ptr b1 0)), (7, (ptr b2 0)), (10, (ptr b1 1)), (12, (ptr b2 1))]) ?_ ⟨rfl, rfl, rfl, rfl, rfl, rfl, rfl, rfl, rfl, trivial⟩
  refine WA_postsE [⟨1, [], fun vs => PW.val (.int .i64 a1.1), []⟩, ⟨3, [], fun vs => PW.val (.int .i64 a2.1), []⟩, ⟨4, [], fun vs => PW.val (.int .i64 x1), []⟩, ⟨6, [], fun vs => PW.val u1, []⟩, ⟨8, [], fun vs => PW.val u2, []⟩] [[], [], [1, 3], [], []] 4 rfl (by kernel_rfl) (by kernel_rfl) rfl ?_ ?_
  · refine StepsE_cons rfl ?_ ?_
    · intro w5 hB5
      refine DepsE_nil ?_
      refine ⟨_, rfl, ?_⟩
      refine WL_load_box (hC3.grow hB5) 1 rfl rfl Try.isAgg3 rfl rfl ?_
      refine WL_nil ?_
      exact FinE_val (Below.refl _ _) rfl rfl ⟨rfl, rfl⟩
    refine StepsE_cons rfl ?_ ?_
    · intro w5 hB5
      refine DepsE_nil ?_
      refine ⟨_, rfl, ?_⟩
      refine WL_load_box (hC3.grow hB5) 0 rfl rfl Try.isAgg3 rfl rfl ?_
      refine WL_nil ?_
      exact FinE_val (Below.refl _ _) rfl rfl ⟨rfl, rfl⟩
    refine StepsE_cons rfl ?_ ?_
    · intro w5 hB5
      refine DepsE_cons rfl rfl rfl ?_
      rintro _ _ ⟨rfl, rfl⟩ _
      refine DepsE_cons rfl rfl rfl ?_
      rintro _ _ ⟨rfl, rfl⟩ _
      refine DepsE_nil ?_
      refine ⟨_, rfl, ?_⟩
      refine WL_call Try.call84 rfl rfl (c_Cmp_Compare_int a1.1 a2.1 x1 hr1) ?_
      intro _ w4 hv1
      obtain ⟨rfl, hB4⟩ := res_int hv1
      refine WL_nil ?_
      exact FinE_val hB4 rfl rfl ⟨rfl, rfl⟩
    refine StepsE_cons rfl ?_ ?_
    · intro w5 hB5
      refine DepsE_nil ?_
      refine ⟨_, rfl, ?_⟩
      refine WL_load_box (hC3.grow hB5) 1 rfl rfl Try.isAgg22 rfl rfl ?_
      refine WL_nil ?_
      exact FinE_val (Below.refl _ _) rfl rfl ⟨rfl, rfl⟩
    refine StepsE_cons rfl ?_ ?_
    · intro w5 hB5
      refine DepsE_nil ?_
      refine ⟨_, rfl, ?_⟩
      refine WL_load_box (hC3.grow hB5) 0 rfl rfl Try.isAgg22 rfl rfl ?_
      refine WL_nil ?_
      exact FinE_val (Below.refl _ _) rfl rfl ⟨rfl, rfl⟩
    exact StepsE_nil
  · intro w6 hB6
    refine AllE_cons rfl rfl rfl ?_
    rintro _ _ ⟨rfl, rfl⟩
    refine AllE_cons rfl rfl rfl ?_
    rintro _ _ ⟨rfl, rfl⟩
    refine AllE_cons rfl rfl rfl ?_
    rintro _ _ ⟨rfl, rfl⟩
    refine AllE_cons rfl rfl rfl ?_
    rintro _ _ ⟨rfl, rfl⟩
    refine AllE_cons rfl rfl rfl ?_
    rintro _ _ ⟨rfl, rfl⟩
    refine AllE_nil ?_
    intro hn1 hb1
    have hC4 := hC3.grow hB6
    obtain ⟨x2, hr2, hF⟩ := bind_some hF
    refine WA_one 9 (by kernel_rfl) rfl ?_
    refine WL_call Try.call85 rfl rfl (c_Slices_Compare_Lint_int a1.2 u1 (g1.now hC4.keep) a2.2 u2 (g2.now hC4.keep) x2 hr2) ?_
    intro _ w7 hv2
    obtain ⟨rfl, hB7⟩ := res_int hv2
    have hC5 := hC4.grow hB7
    refine WL_nil ?_
    refine WA_one 10 (by kernel_rfl) rfl ?_
    refine WL_buildSlice (vs := [(.int .i64 x1), (.int .i64 x2)]) hC5 Try.underlying22 ty3 rfl rfl rfl rfl (by intro v hv; simp only [List.mem_cons, List.not_mem_nil, or_false] at hv; rcases hv with rfl | rfl <;> rfl) rfl rfl (fun b3 w8 hC6 hB8 => ?_)
    have hC7 := hC6.row0 (α := Int)
    have hC8 := hC7.triv (int_val (x2))
    have hC9 := hC8.row1
    have hC10 := hC9.triv (int_val (x1))
    have hC11 := hC10.row1
    have hC12 := hC11.front 1 rfl
    dsimp only [List.eraseIdx, List.cons_append, List.nil_append, List.append_nil] at hC12
    have hC13 : Ctx [] w0 w8 (Item.own (.slice (some ⟨b3, 0, none⟩) 2 2) ([x1, x2] : List Int) :: [Item.box b2 [(.int .i64 a2.1), u2], Item.box b1 [(.int .i64 a1.1), u1]]) := hC12.rowOwn (by simp [maxLen])
    refine WL_nil ?_
    obtain ⟨x3, hr3, hF⟩ := bind_some hF
    refine WA_one 11 (by kernel_rfl) rfl ?_
    refine WL_call Try.call83 rfl rfl (c_Cmp_Or_int ([x1, x2]) (.slice (some ⟨b3, 0, none⟩) 2 2) ((hC13.ro 0 rfl).now (Keep.refl _ _)) x3 hr3) ?_
    intro _ w9 hv3
    obtain ⟨rfl, hB9⟩ := res_int hv3
    have hC14 := hC13.grow hB9
    refine WL_nil ?_
    refine WA_take 12 rfl (by kernel_rfl) (by kernel_rfl) (by kernel_rfl) rfl (fl_assign rfl) ?_
    refine WL_assign rfl rfl ?_
    refine WL_nil ?_
    refine WA_done (by kernel_rfl) ?_
    refine nrm_normal ?_
    refine W_ret ?_
    have hq1 := Option.some.inj hF
    subst hq1
    refine fn_ret1 rfl rfl ?_
    exact ⟨_, rfl, int_res hC14 _⟩

theorem c_M_AreFacts {w0 : World} (a1 : (List Int)) (u1 : Value) (g1 : RO [] w0 u1 a1) (a2 : (List (Int × (List Int)))) (u2 : Value) (g2 : RO [] w0 u2 a2) (rr : Bool) (hF : M.AreFacts a1 a2 = some rr) :
    Calls Try.prog 60 [u1, u2].toArray w0 fun e w' => ∃ v, e = .returned v ∧ Res w0 rr v w' := by
  refine calls_of_W Try.func60 rfl rfl ?_
  have hC0 := Ctx.start w0
  unfold M.AreFacts at hF
  refine W_seq_reg ?_
  refine WL_assign rfl rfl ?_
  refine WL_nil ?_
  refine W_seq ?_
  refine W_seq_reg ?_
  refine WL_move rfl rfl ?_
  refine WL_len Try.underlying34 g2 rfl rfl ?_
  refine WL_move rfl rfl ?_
  refine WL_nil ?_
  obtain ⟨r1, hr1, hF⟩ := bind_some hF
  refine W_norm (fun l w => .inl () = r1 ∧ l = [(0, u1), (1, u2)] ∧ Ctx [] w0 w []) ?_ ?_
  · refine W_block ?_
    refine W.sub (l' := [(0, u1), (1, u2), (7, u2), (8, (.int .i64 (List.length a2 : Int))), (9, (.int .i64 0))]) ?_ ⟨rfl, rfl, rfl, rfl, rfl, trivial⟩
    refine W_loop (fun k l w => ∃ x1 : Int, l = [(0, u1), (1, u2), (7, u2), (8, (.int .i64 (List.length a2 : Int))), (9, (.int .i64 x1))] ∧ Ctx [] w0 w [] ∧ M.AreFacts_l1 a2 a1 k x1 = some r1) FUEL ⟨0, rfl, hC0, hr1⟩ ?_
    clear hr1
    rintro k1 _ w1 ⟨x1, rfl, hC1, hL1⟩
    cases k1 with
    | zero => rw [M.AreFacts_l1] at hL1; cases hL1
    | succ k1 =>
      rw [M.AreFacts_l1] at hL1
      refine W_seq_reg ?_
      refine WL_lss rfl rfl rfl ?_
      refine WL_nil ?_
      refine W_seq ?_
      refine W_cond rfl (fun hc1 => ?_) (fun hc1 => ?_)
      · replace hL1 := ite_t hL1 hc1
        refine W_skip ?_
        refine nrm_normal ?_
        refine W_seq ?_
        refine W_block ?_
        refine W_seq_reg ?_
        refine WL_move rfl rfl ?_
        obtain ⟨x2, hx1, hL1⟩ := bind_some hL1
        refine WL_index Try.underlying34 ty78 g2 hx1 rfl rfl rfl (fun b1 o1 h1 => ?_)
        refine WL_load ty78 h1 hC1.keep rfl rfl (fun v1 h2 => ?_)
        obtain ⟨v2, rfl, h3⟩ := ro_st78 h2
        refine WL_alloc hC1 zero78 rfl rfl (fun b2 w2 hC2 hB2 => ?_)
        refine WL_assign rfl rfl ?_
        refine WL_store_box_agg (cs' := [(.int .i64 x2.1), v2]) (new := [(.int .i64 x2.1), v2]) hC2 0 rfl rfl (by intro v hv; simp only [List.mem_cons, List.not_mem_nil, or_false] at hv; rcases hv with rfl | rfl; exact rfl; exact (ro_one h3)) rfl Try.sizeOf78 rfl rfl (fun w3 hC3 => ?_)
        try dsimp only [List.set] at hC3
        refine WL_nil ?_
        obtain ⟨r2, hr2, hL1⟩ := bind_some hL1
        refine W_cut (fun l w => ∃ x3 : Bool, x3 = r2 ∧ l = [(0, u1), (1, u2), (7, u2), (8, (.int .i64 (List.length a2 : Int))), (9, (.int .i64 x1)), (31, (.bool x3))] ∧ Below w3.heap.size w3 w ∧ Ctx [] w0 w []) ?_ ?_
        · refine W_drawn 18 rfl hmix (fun w5 hB4 => ?_)
          have hC5 := hC3.grow hB4
          refine WA_take 0 rfl (by kernel_rfl) (by kernel_rfl) (by kernel_rfl) rfl (fl_move rfl) ?_
          refine WL_move rfl rfl ?_
          refine WL_nil ?_
          refine WA_one 1 (by kernel_rfl) rfl ?_
          refine WL_load_box_agg [(.int .i64 x2.1), v2] hC5 0 rfl rfl rfl Try.isAgg78 Try.sizeOf78 rfl rfl ?_
          refine WL_nil ?_
          obtain ⟨x4, hr3, hr2⟩ := bind_some hr2
          refine WA_one 2 (by kernel_rfl) rfl ?_
          refine WL_call Try.call71 rfl rfl (c_M_IsFact a1 u1 (g1.now hC5.keep) (x2.1, x2.2) v2 (h3.now hC5.keep) x4 hr3) ?_
          intro _ w6 hv1
          obtain ⟨rfl, hB5⟩ := res_bool hv1
          have hC6 := hC5.grow hB5
          refine WL_nil ?_
          refine WA_take 3 rfl (by kernel_rfl) (by kernel_rfl) (by kernel_rfl) rfl (fl_not rfl) ?_
          refine WL_not rfl rfl ?_
          refine WL_nil ?_
          refine WA_take 4 rfl (by kernel_rfl) (by kernel_rfl) (by kernel_rfl) rfl (fl_move rfl) ?_
          refine WL_move rfl rfl ?_
          refine WL_nil ?_
          refine WA_fork (fun hc2 => ?_) (fun hc2 => ?_)
          · replace hr2 := ite_t hr2 hc2
            refine WA_skip 5 rfl (by kernel_rfl) (by kernel_rfl) (by kernel_rfl) rfl rfl rfl (by simp) rfl rfl ?_
            refine WA_skip 6 rfl (by kernel_rfl) (by kernel_rfl) (by kernel_rfl) rfl rfl rfl (by simp) rfl rfl ?_
            refine WA_skip 7 rfl (by kernel_rfl) (by kernel_rfl) (by kernel_rfl) rfl rfl rfl (by simp) rfl rfl ?_
            refine WA_skip 8 rfl (by kernel_rfl) (by kernel_rfl) (by kernel_rfl) rfl rfl rfl (by simp [undef]) rfl rfl ?_
            refine WA_skip 9 rfl (by kernel_rfl) (by kernel_rfl) (by kernel_rfl) rfl rfl rfl (by simp [undef]) rfl rfl ?_
            refine WA_skip 10 rfl (by kernel_rfl) (by kernel_rfl) (by kernel_rfl) rfl rfl rfl (by simp [undef]) rfl rfl ?_
            refine WA_skip 11 rfl (by kernel_rfl) (by kernel_rfl) (by kernel_rfl) rfl rfl rfl (by simp [undef]) rfl rfl ?_
            refine WA_skip 12 rfl (by kernel_rfl) (by kernel_rfl) (by kernel_rfl) rfl rfl rfl (by simp [undef]) rfl rfl ?_
            refine WA_skip 13 rfl (by kernel_rfl) (by kernel_rfl) (by kernel_rfl) rfl rfl rfl (by simp [undef]) rfl rfl ?_
            refine WA_skip 14 rfl (by kernel_rfl) (by kernel_rfl) (by kernel_rfl) rfl rfl rfl (by simp [undef]) rfl rfl ?_
            refine WA_skip 15 rfl (by kernel_rfl) (by kernel_rfl) (by kernel_rfl) rfl rfl rfl (by simp [undef]) rfl rfl ?_
            refine WA_skip 16 rfl (by kernel_rfl) (by kernel_rfl) (by kernel_rfl) rfl rfl rfl (by simp) rfl rfl ?_
            refine WA_take 17 rfl (by kernel_rfl) (by kernel_rfl) (by kernel_rfl) rfl (fl_pick_t rfl rfl) ?_
            refine WL_pick_t rfl rfl rfl ?_
            refine WL_nil ?_
            refine WA_done (by kernel_rfl) ?_
            have hq1 := Option.some.inj hr2
            subst hq1
            have hC7 : Ctx [] w0 _ [] := hC6.headN 0
            refine nrm_sub (l' := [(0, u1), (1, u2), (7, u2), (8, (.int .i64 (List.length a2 : Int))), (9, (.int .i64 x1)), (31, (.bool true))]) ⟨rfl, rfl, rfl, rfl, rfl, rfl, trivial⟩ ?_
            exact ⟨true, rfl, rfl, ((Keep.of hB4).then hB5).below, hC7⟩
          · replace hr2 := ite_f hr2 hc2
            refine WA_takeG 5 rfl (by kernel_rfl) (by kernel_rfl) (by kernel_rfl) rfl rfl rfl (fl_move rfl) ?_
            refine WL_guard rfl rfl ?_
            refine WL_move rfl rfl ?_
            refine WL_nil ?_
            refine WA_takeG 6 rfl (by kernel_rfl) (by kernel_rfl) (by kernel_rfl) rfl rfl rfl (fl_gtr rfl rfl) ?_
            refine WL_guard rfl rfl ?_
            refine WL_gtr rfl rfl rfl ?_
            refine WL_nil ?_
            refine WA_takeG 7 rfl (by kernel_rfl) (by kernel_rfl) (by kernel_rfl) rfl rfl rfl (fl_move rfl) ?_
            refine WL_guard rfl rfl ?_
            refine WL_move rfl rfl ?_
            refine WL_nil ?_
            refine WA_fork (fun hc3 => ?_) (fun hc3 => ?_)
            · replace hr2 := ite_t hr2 hc3
              refine WA_takeG 8 rfl (by kernel_rfl) (by kernel_rfl) (by kernel_rfl) rfl rfl rfl (fl_move rfl) ?_
              refine WL_guard rfl rfl ?_
              refine WL_move rfl rfl ?_
              refine WL_nil ?_
              refine WA_takeG 9 rfl (by kernel_rfl) (by kernel_rfl) (by kernel_rfl) rfl rfl rfl (fl_move rfl) ?_
              refine WL_guard rfl rfl ?_
              refine WL_move rfl rfl ?_
              refine WL_nil ?_
              refine WA_takeG 10 rfl (by kernel_rfl) (by kernel_rfl) (by kernel_rfl) rfl rfl rfl (fl_sub rfl rfl) ?_
              refine WL_guard rfl rfl ?_
              refine WL_sub rfl rfl rfl ?_
              refine WL_nil ?_
              obtain ⟨x5, hx2, hr2⟩ := bind_some hr2
              refine WA_takeG 11 rfl (by kernel_rfl) (by kernel_rfl) (by kernel_rfl) rfl rfl rfl (fl_index Try.underlying34 ty78 g2 hx2 rfl rfl) ?_
              refine WL_guard rfl rfl ?_
              refine WL_index Try.underlying34 ty78 g2 hx2 rfl rfl rfl (fun b3 o2 h4 => ?_)
              refine WL_nil ?_
              refine WA.sub (l' := [(0, u1), (1, u2), (5, (.int .i64 x1)), (6, (ptr b2 0)), (7, u2), (8, (.int .i64 (List.length a2 : Int))), (9, (.int .i64 x1)), (10, (.bool (decide (x1 < (List.length a2 : Int))))), (11, (.int .i64 x1)), (12, (ptr b1 o1)), (13, (.agg #[(.int .i64 x2.1), v2])), (14, u1), (15, (.agg #[(.int .i64 x2.1), v2])), (16, (.bool x4)), (17, (.bool (!x4))), (18, (.bool false)), (19, (.int .i64 x1)), (20, (.bool (decide (0 < x1)))), (21, (.bool true)), (22, u2), (23, (.int .i64 x1)), (24, (.int .i64 (w64 (x1 - 1)))), (25, (ptr b3 o2))]) ?_ ⟨rfl, rfl, rfl, rfl, rfl, rfl, rfl, rfl, rfl, rfl, rfl, rfl, rfl, rfl, rfl, rfl, rfl, rfl, rfl, rfl, rfl, rfl, rfl, trivial⟩
              refine WA_postsE [⟨12, [], fun vs => PW.ro [] w0 x5, []⟩, ⟨13, [], fun vs => PW.val (.agg #[(.int .i64 x2.1), v2]), []⟩] [[], []] 4 rfl (by kernel_rfl) (by kernel_rfl) rfl ?_ ?_
              · refine StepsE_cons rfl ?_ ?_
                · intro w7 hB6
                  refine DepsE_nil ?_
                  refine ⟨_, rfl, ?_⟩
                  refine WL_guard rfl rfl ?_
                  refine WL_load ty78 h4 (hC6.keep.then hB6) rfl rfl (fun v5 h7 => ?_)
                  refine WL_nil ?_
                  exact FinE_val (Below.refl _ _) rfl rfl ⟨rfl, h7⟩
                refine StepsE_cons rfl ?_ ?_
                · intro w7 hB6
                  refine DepsE_nil ?_
                  refine ⟨_, rfl, ?_⟩
                  refine WL_guard rfl rfl ?_
                  refine WL_load_box_agg [(.int .i64 x2.1), v2] (hC6.grow hB6) 0 rfl rfl rfl Try.isAgg78 Try.sizeOf78 rfl rfl ?_
                  refine WL_nil ?_
                  exact FinE_val (Below.refl _ _) rfl rfl ⟨rfl, rfl⟩
                exact StepsE_nil
              · intro w8 hB7
                refine AllE_cons rfl rfl rfl ?_
                rintro v5 _ ⟨rfl, h7⟩
                obtain ⟨v4, rfl, h6⟩ := ro_st78 h7
                refine AllE_cons rfl rfl rfl ?_
                rintro _ _ ⟨rfl, rfl⟩
                refine AllE_nil ?_
                intro hn1 hb1
                have hC8 := hC6.grow hB7
                obtain ⟨x6, hr4, hr2⟩ := bind_some hr2
                refine WA_one 14 (by kernel_rfl) rfl ?_
                refine WL_guard rfl rfl ?_
                refine WL_call Try.call72 rfl rfl (c_M_CompareFacts x5 v4 (h6.now hC8.keep) (x2.1, x2.2) v2 (h3.now hC8.keep) x6 hr4) ?_
                intro _ w9 hv2
                obtain ⟨rfl, hB8⟩ := res_int hv2
                have hC9 := hC8.grow hB8
                refine WL_nil ?_
                refine WA_takeG 15 rfl (by kernel_rfl) (by kernel_rfl) (by kernel_rfl) rfl rfl rfl (fl_geq rfl rfl) ?_
                refine WL_guard rfl rfl ?_
                refine WL_geq rfl rfl rfl ?_
                refine WL_nil ?_
                refine WA_takeG 16 rfl (by kernel_rfl) (by kernel_rfl) (by kernel_rfl) rfl rfl rfl (fl_pick_t rfl rfl) ?_
                refine WL_guard rfl rfl ?_
                refine WL_pick_t rfl rfl rfl ?_
                refine WL_nil ?_
                refine WA_take 17 rfl (by kernel_rfl) (by kernel_rfl) (by kernel_rfl) rfl (fl_pick_f rfl rfl) ?_
                refine WL_pick_f rfl rfl rfl ?_
                refine WL_nil ?_
                refine WA_done (by kernel_rfl) ?_
                have hq2 := Option.some.inj hr2
                subst hq2
                have hC10 : Ctx [] w0 _ [] := hC9.headN 0
                refine nrm_sub (l' := [(0, u1), (1, u2), (7, u2), (8, (.int .i64 (List.length a2 : Int))), (9, (.int .i64 x1)), (31, (.bool (decide (0 ≤ x6))))]) ⟨rfl, rfl, rfl, rfl, rfl, rfl, trivial⟩ ?_
                exact ⟨(decide (0 ≤ x6)), rfl, rfl, ((((Keep.of hB4).then hB5).then hB7).then hB8).below, hC10⟩
            · replace hr2 := ite_f hr2 hc3
              refine WA_skip 8 rfl (by kernel_rfl) (by kernel_rfl) (by kernel_rfl) rfl rfl rfl (by simp) rfl rfl ?_
              refine WA_skip 9 rfl (by kernel_rfl) (by kernel_rfl) (by kernel_rfl) rfl rfl rfl (by simp) rfl rfl ?_
              refine WA_skip 10 rfl (by kernel_rfl) (by kernel_rfl) (by kernel_rfl) rfl rfl rfl (by simp) rfl rfl ?_
              refine WA_skip 11 rfl (by kernel_rfl) (by kernel_rfl) (by kernel_rfl) rfl rfl rfl (by simp) rfl rfl ?_
              refine WA_skip 12 rfl (by kernel_rfl) (by kernel_rfl) (by kernel_rfl) rfl rfl rfl (by simp) rfl rfl ?_
              refine WA_skip 13 rfl (by kernel_rfl) (by kernel_rfl) (by kernel_rfl) rfl rfl rfl (by simp) rfl rfl ?_
              refine WA_skip 14 rfl (by kernel_rfl) (by kernel_rfl) (by kernel_rfl) rfl rfl rfl (by simp) rfl rfl ?_
              refine WA_skip 15 rfl (by kernel_rfl) (by kernel_rfl) (by kernel_rfl) rfl rfl rfl (by simp) rfl rfl ?_
              refine WA_takeG 16 rfl (by kernel_rfl) (by kernel_rfl) (by kernel_rfl) rfl rfl rfl (fl_pick_f rfl rfl) ?_
              refine WL_guard rfl rfl ?_
              refine WL_pick_f rfl rfl rfl ?_
              refine WL_nil ?_
              refine WA_take 17 rfl (by kernel_rfl) (by kernel_rfl) (by kernel_rfl) rfl (fl_pick_f rfl rfl) ?_
              refine WL_pick_f rfl rfl rfl ?_
              refine WL_nil ?_
              refine WA_done (by kernel_rfl) ?_
              have hq3 := Option.some.inj hr2
              subst hq3
              have hC11 : Ctx [] w0 _ [] := hC6.headN 0
              refine nrm_sub (l' := [(0, u1), (1, u2), (7, u2), (8, (.int .i64 (List.length a2 : Int))), (9, (.int .i64 x1)), (31, (.bool false))]) ⟨rfl, rfl, rfl, rfl, rfl, rfl, trivial⟩ ?_
              exact ⟨false, rfl, rfl, ((Keep.of hB4).then hB5).below, hC11⟩
        · rintro _ w4 ⟨x3, rfl, rfl, hB3, hC4⟩
          try dsimp only at hL1
          refine W_cond rfl (fun hc4 => ?_) (fun hc4 => ?_)
          · replace hL1 := ite_t hL1 hc4
            refine W_seq_reg ?_
            refine WL_assign rfl rfl ?_
            refine WL_nil ?_
            refine W_ret ?_
            refine blk_ret ?_
            refine nrm_ret ?_
            refine nrm_ret ?_
            refine blk_ret ?_
            refine nrm_ret ?_
            refine nrm_ret ?_
            have hq4 := Option.some.inj hL1
            subst hq4
            dsimp only at hF
            have hq5 := Option.some.inj hF
            subst hq5
            refine fn_ret1 rfl rfl ?_
            exact ⟨_, rfl, bool_res hC4 _⟩
          · replace hL1 := ite_f hL1 hc4
            refine W_skip ?_
            refine blk_normal ?_
            refine nrm_normal ?_
            refine W_reg ?_
            refine WL_add rfl rfl rfl ?_
            refine WL_move rfl rfl ?_
            refine WL_nil ?_
            refine nrm_sub (l' := [(0, u1), (1, u2), (7, u2), (8, (.int .i64 (List.length a2 : Int))), (9, (.int .i64 (w64 (x1 + 1))))]) ⟨rfl, rfl, rfl, rfl, rfl, trivial⟩ ?_
            exact ⟨k1, Nat.lt_succ_self _, w64 (x1 + 1), rfl, hC4, hL1⟩
      · replace hL1 := ite_f hL1 hc1
        refine W_exit ?_
        refine nrm_exit ?_
        refine nrm_exit ?_
        refine blk_exit ?_
        have hq6 := Option.some.inj hL1
        subst hq6
        refine nrm_sub (l' := [(0, u1), (1, u2)]) ⟨rfl, rfl, trivial⟩ ?_
        exact ⟨rfl, rfl, hC1⟩
  · rintro l3 _ w10 hs3 ⟨rfl, rfl, hC12⟩
    try dsimp only at hF
    refine nrm_sub' hs3 ?_
    clear hs3
    obtain ⟨r3, hr5, hF⟩ := bind_some hF
    refine W_cut (fun l w => ∃ x7 : Bool, x7 = r3 ∧ l = [(4, (.bool x7))] ∧ Below w10.heap.size w10 w ∧ Ctx [] w0 w []) ?_ ?_
    · refine W_reg ?_
      refine WL_move rfl rfl ?_
      obtain ⟨x8, hr6, hr5⟩ := bind_some hr5
      refine WL_call Try.call73 rfl rfl (c_M_IsSchema a1 u1 (g1.now hC12.keep) x8 hr6) ?_
      intro _ w12 hv3
      obtain ⟨rfl, hB11⟩ := res_bool hv3
      have hC14 := hC12.grow hB11
      refine WL_move rfl rfl ?_
      refine WL_fork (fun hc5 => ?_) (fun hc5 => ?_)
      · replace hr5 := ite_t hr5 hc5
        refine WL_guard rfl rfl ?_
        refine WL_move rfl rfl ?_
        refine WL_guard rfl rfl ?_
        refine WL_len Try.underlying34 g2 rfl rfl ?_
        refine WL_guard rfl rfl ?_
        refine WL_leq rfl rfl rfl ?_
        refine WL_pick_t rfl rfl rfl ?_
        refine WL_assign rfl rfl ?_
        refine WL_nil ?_
        have hq7 := Option.some.inj hr5
        subst hq7
        refine nrm_sub (l' := [(4, (.bool (decide ((List.length a2 : Int) ≤ 24))))]) ⟨rfl, trivial⟩ ?_
        exact ⟨(decide ((List.length a2 : Int) ≤ 24)), rfl, rfl, (Keep.of hB11).below, hC14⟩
      · replace hr5 := ite_f hr5 hc5
        refine WL_guard_skip rfl rfl (by simp) rfl ?_
        refine WL_guard_skip rfl rfl (by simp) rfl ?_
        refine WL_guard_skip rfl rfl (by simp) rfl ?_
        refine WL_pick_f rfl rfl rfl ?_
        refine WL_assign rfl rfl ?_
        refine WL_nil ?_
        have hq8 := Option.some.inj hr5
        subst hq8
        refine nrm_sub (l' := [(4, (.bool false))]) ⟨rfl, trivial⟩ ?_
        exact ⟨false, rfl, rfl, (Keep.of hB11).below, hC14⟩
    · rintro _ w11 ⟨x7, rfl, rfl, hB10, hC13⟩
      try dsimp only at hF
      refine W_ret ?_
      have hq9 := Option.some.inj hF
      subst hq9
      refine fn_ret1 rfl rfl ?_
      exact ⟨_, rfl, bool_res hC13 _⟩

theorem c_M_IsSource {w0 : World} (a1 : (List Int)) (u1 : Value) (g1 : RO [] w0 u1 a1) (a2 : ((List (Int × (List Int))) × Int)) (u2 : Value) (g2 : RO [] w0 u2 a2.1) (rr : Bool) (hF : M.IsSource a1 a2 = some rr) :
    Calls Try.prog 38 [u1, (.agg #[u2, (.int .i64 a2.2)])].toArray w0 fun e w' => ∃ v, e = .returned v ∧ Res w0 rr v w' := by
  refine calls_of_W Try.func38 rfl rfl ?_
  have hC0 := Ctx.start w0
  unfold M.IsSource at hF
  refine W_seq_reg ?_
  refine WL_box (cs := [u2, (.int .i64 a2.2)]) hC0 rfl rfl rfl (fun b1 w1 hC1 hB1 => ?_)
  refine WL_assign rfl rfl ?_
  refine WL_nil ?_
  obtain ⟨r1, hr1, hF⟩ := bind_some hF
  refine W_cut (fun l w => ∃ x1 : Bool, x1 = r1 ∧ l = [(4, (.bool x1))] ∧ Below w1.heap.size w1 w ∧ Ctx [] w0 w []) ?_ ?_
  · refine W_reg ?_
    refine WL_move rfl rfl ?_
    refine WL_field Try.underlying44 rfl rfl (fun w => ⟨_, Try.sizeOf34 w⟩) rfl rfl ?_
    refine WL_load_box hC1 0 rfl rfl Try.isAgg34 rfl rfl ?_
    obtain ⟨x2, hr2, hr1⟩ := bind_some hr1
    refine WL_call Try.call60 rfl rfl (c_M_AreFacts a1 u1 (g1.now hC1.keep) a2.1 u2 (g2.now hC1.keep) x2 hr2) ?_
    intro _ w3 hv1
    obtain ⟨rfl, hB3⟩ := res_bool hv1
    have hC3 := hC1.grow hB3
    refine WL_move rfl rfl ?_
    refine WL_fork (fun hc1 => ?_) (fun hc1 => ?_)
    · replace hr1 := ite_t hr1 hc1
      refine WL_guard rfl rfl ?_
      refine WL_field Try.underlying44 rfl rfl (fun w => ⟨_, Try.sizeOf3 w⟩) rfl rfl ?_
      refine WL_guard rfl rfl ?_
      refine WL_load_box hC3 0 rfl rfl Try.isAgg3 rfl rfl ?_
      obtain ⟨x3, hr3, hr1⟩ := bind_some hr1
      refine WL_guard rfl rfl ?_
      refine WL_call Try.call41 rfl rfl (c_M_within a2.2 0 1000 x3 hr3) ?_
      intro _ w4 hv2
      obtain ⟨rfl, hB4⟩ := res_bool hv2
      have hC4 := hC3.grow hB4
      refine WL_pick_t rfl rfl rfl ?_
      refine WL_assign rfl rfl ?_
      refine WL_nil ?_
      have hq1 := Option.some.inj hr1
      subst hq1
      have hC5 : Ctx [] w0 _ [] := hC4.headN 0
      refine nrm_sub (l' := [(4, (.bool x3))]) ⟨rfl, trivial⟩ ?_
      exact ⟨x3, rfl, rfl, ((Keep.of hB3).then hB4).below, hC5⟩
    · replace hr1 := ite_f hr1 hc1
      refine WL_guard_skip rfl rfl (by simp) rfl ?_
      refine WL_guard_skip rfl rfl (by simp) rfl ?_
      refine WL_guard_skip rfl rfl (by simp) rfl ?_
      refine WL_pick_f rfl rfl rfl ?_
      refine WL_assign rfl rfl ?_
      refine WL_nil ?_
      have hq2 := Option.some.inj hr1
      subst hq2
      have hC6 : Ctx [] w0 _ [] := hC3.headN 0
      refine nrm_sub (l' := [(4, (.bool false))]) ⟨rfl, trivial⟩ ?_
      exact ⟨false, rfl, rfl, (Keep.of hB3).below, hC6⟩
  · rintro _ w2 ⟨x1, rfl, rfl, hB2, hC2⟩
    try dsimp only at hF
    refine W_ret ?_
    have hq3 := Option.some.inj hF
    subst hq3
    refine fn_ret1 rfl rfl ?_
    exact ⟨_, rfl, bool_res hC2 _⟩

theorem c_M_ascending {w0 : World} (a1 : (List Int)) (u1 : Value) (g1 : RO [] w0 u1 a1) (rr : Bool) (hF : M.ascending a1 = some rr) :
    Calls Try.prog 91 [u1].toArray w0 fun e w' => ∃ v, e = .returned v ∧ Res w0 rr v w' := by
  refine calls_of_W Try.func91 rfl rfl ?_
  have hC0 := Ctx.start w0
  unfold M.ascending at hF
  refine W_seq_reg ?_
  refine WL_assign rfl rfl ?_
  refine WL_nil ?_
  refine W_seq ?_
  refine W_seq_reg ?_
  refine WL_move rfl rfl ?_
  refine WL_len Try.underlying22 g1 rfl rfl ?_
  refine WL_move rfl rfl ?_
  refine WL_nil ?_
  obtain ⟨r1, hr1, hF⟩ := bind_some hF
  refine W_norm (fun l w => .inl () = r1 ∧ l = [] ∧ Below w0.heap.size w0 w ∧ Ctx [] w0 w []) ?_ ?_
  · refine W_block ?_
    refine W.sub (l' := [(0, u1), (5, (.int .i64 (List.length a1 : Int))), (6, (.int .i64 0))]) ?_ ⟨rfl, rfl, rfl, trivial⟩
    refine W_loop (fun k l w => ∃ x1 : Int, l = [(0, u1), (5, (.int .i64 (List.length a1 : Int))), (6, (.int .i64 x1))] ∧ Below w0.heap.size w0 w ∧ Ctx [] w0 w [] ∧ M.ascending_l1 a1 k x1 = some r1) FUEL ⟨0, rfl, (Below.refl _ _), hC0, hr1⟩ ?_
    clear hr1
    rintro k1 _ w1 ⟨x1, rfl, hB1, hC1, hL1⟩
    cases k1 with
    | zero => rw [M.ascending_l1] at hL1; cases hL1
    | succ k1 =>
      rw [M.ascending_l1] at hL1
      refine W_seq_reg ?_
      refine WL_lss rfl rfl rfl ?_
      refine WL_nil ?_
      refine W_seq ?_
      refine W_cond rfl (fun hc1 => ?_) (fun hc1 => ?_)
      · replace hL1 := ite_t hL1 hc1
        refine W_skip ?_
        refine nrm_normal ?_
        refine W_seq ?_
        refine W_block ?_
        refine W_seq_reg ?_
        refine WL_move rfl rfl ?_
        refine WL_assign rfl rfl ?_
        refine WL_nil ?_
        obtain ⟨r2, hr2, hL1⟩ := bind_some hL1
        refine W_cut (fun l w => ∃ x2 : Bool, x2 = r2 ∧ l = [(0, u1), (5, (.int .i64 (List.length a1 : Int))), (6, (.int .i64 x1)), (22, (.bool x2))] ∧ Below w1.heap.size w1 w ∧ Ctx [] w0 w []) ?_ ?_
        · refine W_drawn 14 rfl hmix (fun w3 hB3 => ?_)
          have hC3 := hC1.grow hB3
          refine WA_take 0 rfl (by kernel_rfl) (by kernel_rfl) (by kernel_rfl) rfl (fl_move rfl) ?_
          refine WL_move rfl rfl ?_
          refine WL_nil ?_
          refine WA_take 1 rfl (by kernel_rfl) (by kernel_rfl) (by kernel_rfl) rfl (fl_gtr rfl rfl) ?_
          refine WL_gtr rfl rfl rfl ?_
          refine WL_nil ?_
          refine WA_take 2 rfl (by kernel_rfl) (by kernel_rfl) (by kernel_rfl) rfl (fl_move rfl) ?_
          refine WL_move rfl rfl ?_
          refine WL_nil ?_
          refine WA_fork (fun hc2 => ?_) (fun hc2 => ?_)
          · replace hr2 := ite_t hr2 hc2
            refine WA_takeG 3 rfl (by kernel_rfl) (by kernel_rfl) (by kernel_rfl) rfl rfl rfl (fl_move rfl) ?_
            refine WL_guard rfl rfl ?_
            refine WL_move rfl rfl ?_
            refine WL_nil ?_
            refine WA_takeG 4 rfl (by kernel_rfl) (by kernel_rfl) (by kernel_rfl) rfl rfl rfl (fl_move rfl) ?_
            refine WL_guard rfl rfl ?_
            refine WL_move rfl rfl ?_
            refine WL_nil ?_
            obtain ⟨x3, hx1, hr2⟩ := bind_some hr2
            refine WA_takeG 5 rfl (by kernel_rfl) (by kernel_rfl) (by kernel_rfl) rfl rfl rfl (fl_index Try.underlying22 ty3 g1 hx1 rfl rfl) ?_
            refine WL_guard rfl rfl ?_
            refine WL_index Try.underlying22 ty3 g1 hx1 rfl rfl rfl (fun b1 o1 h1 => ?_)
            refine WL_nil ?_
            refine WA_takeG 7 rfl (by kernel_rfl) (by kernel_rfl) (by kernel_rfl) rfl rfl rfl (fl_move rfl) ?_
            refine WL_guard rfl rfl ?_
            refine WL_move rfl rfl ?_
            refine WL_nil ?_
            refine WA_takeG 8 rfl (by kernel_rfl) (by kernel_rfl) (by kernel_rfl) rfl rfl rfl (fl_move rfl) ?_
            refine WL_guard rfl rfl ?_
            refine WL_move rfl rfl ?_
            refine WL_nil ?_
            refine WA_takeG 9 rfl (by kernel_rfl) (by kernel_rfl) (by kernel_rfl) rfl rfl rfl (fl_sub rfl rfl) ?_
            refine WL_guard rfl rfl ?_
            refine WL_sub rfl rfl rfl ?_
            refine WL_nil ?_
            obtain ⟨x4, hx2, hr2⟩ := bind_some hr2
            refine WA_takeG 10 rfl (by kernel_rfl) (by kernel_rfl) (by kernel_rfl) rfl rfl rfl (fl_index Try.underlying22 ty3 g1 hx2 rfl rfl) ?_
            refine WL_guard rfl rfl ?_
            refine WL_index Try.underlying22 ty3 g1 hx2 rfl rfl rfl (fun b2 o2 h2 => ?_)
            refine WL_nil ?_
            refine WA.sub (l' := [(0, u1), (3, (.int .i64 x1)), (5, (.int .i64 (List.length a1 : Int))), (6, (.int .i64 x1)), (7, (.bool (decide (x1 < (List.length a1 : Int))))), (8, (.int .i64 x1)), (9, (.int .i64 x1)), (10, (.bool (decide (0 < x1)))), (11, (.bool true)), (12, u1), (13, (.int .i64 x1)), (14, (ptr b1 o1)), (16, u1), (17, (.int .i64 x1)), (18, (.int .i64 (w64 (x1 - 1)))), (19, (ptr b2 o2))]) ?_ ⟨rfl, rfl, rfl, rfl, rfl, rfl, rfl, rfl, rfl, rfl, rfl, rfl, rfl, rfl, rfl, rfl, trivial⟩
            refine WA_postsE [⟨6, [], fun vs => PW.val (.int .i64 x3), []⟩, ⟨11, [], fun vs => PW.val (.int .i64 x4), []⟩] [[], []] 2 rfl (by kernel_rfl) (by kernel_rfl) rfl ?_ ?_
            · refine StepsE_cons rfl ?_ ?_
              · intro w4 hB4
                refine DepsE_nil ?_
                refine ⟨_, rfl, ?_⟩
                refine WL_guard rfl rfl ?_
                refine WL_load ty3 h1 (hC3.keep.then hB4) rfl rfl (fun v1 h3 => ?_)
                obtain rfl := ro_int h3
                refine WL_nil ?_
                exact FinE_val (Below.refl _ _) rfl rfl ⟨rfl, rfl⟩
              refine StepsE_cons rfl ?_ ?_
              · intro w4 hB4
                refine DepsE_nil ?_
                refine ⟨_, rfl, ?_⟩
                refine WL_guard rfl rfl ?_
                refine WL_load ty3 h2 (hC3.keep.then hB4) rfl rfl (fun v2 h4 => ?_)
                obtain rfl := ro_int h4
                refine WL_nil ?_
                exact FinE_val (Below.refl _ _) rfl rfl ⟨rfl, rfl⟩
              exact StepsE_nil
            · intro w5 hB5
              refine AllE_cons rfl rfl rfl ?_
              rintro _ _ ⟨rfl, rfl⟩
              refine AllE_cons rfl rfl rfl ?_
              rintro _ _ ⟨rfl, rfl⟩
              refine AllE_nil ?_
              intro hn1 hb1
              have hC4 := hC3.grow hB5
              refine WA_takeG 12 rfl (by kernel_rfl) (by kernel_rfl) (by kernel_rfl) rfl rfl rfl (fl_leq rfl rfl) ?_
              refine WL_guard rfl rfl ?_
              refine WL_leq rfl rfl rfl ?_
              refine WL_nil ?_
              refine WA_take 13 rfl (by kernel_rfl) (by kernel_rfl) (by kernel_rfl) rfl (fl_pick_t rfl rfl) ?_
              refine WL_pick_t rfl rfl rfl ?_
              refine WL_nil ?_
              refine WA_done (by kernel_rfl) ?_
              have hq1 := Option.some.inj hr2
              subst hq1
              refine nrm_sub (l' := [(0, u1), (5, (.int .i64 (List.length a1 : Int))), (6, (.int .i64 x1)), (22, (.bool (decide (x3 ≤ x4))))]) ⟨rfl, rfl, rfl, rfl, trivial⟩ ?_
              exact ⟨(decide (x3 ≤ x4)), rfl, rfl, ((Keep.of hB3).then hB5).below, hC4⟩
          · replace hr2 := ite_f hr2 hc2
            refine WA_skip 3 rfl (by kernel_rfl) (by kernel_rfl) (by kernel_rfl) rfl rfl rfl (by simp) rfl rfl ?_
            refine WA_skip 4 rfl (by kernel_rfl) (by kernel_rfl) (by kernel_rfl) rfl rfl rfl (by simp) rfl rfl ?_
            refine WA_skip 5 rfl (by kernel_rfl) (by kernel_rfl) (by kernel_rfl) rfl rfl rfl (by simp) rfl rfl ?_
            refine WA_skip 6 rfl (by kernel_rfl) (by kernel_rfl) (by kernel_rfl) rfl rfl rfl (by simp) rfl rfl ?_
            refine WA_skip 7 rfl (by kernel_rfl) (by kernel_rfl) (by kernel_rfl) rfl rfl rfl (by simp) rfl rfl ?_
            refine WA_skip 8 rfl (by kernel_rfl) (by kernel_rfl) (by kernel_rfl) rfl rfl rfl (by simp) rfl rfl ?_
            refine WA_skip 9 rfl (by kernel_rfl) (by kernel_rfl) (by kernel_rfl) rfl rfl rfl (by simp) rfl rfl ?_
            refine WA_skip 10 rfl (by kernel_rfl) (by kernel_rfl) (by kernel_rfl) rfl rfl rfl (by simp) rfl rfl ?_
            refine WA_skip 11 rfl (by kernel_rfl) (by kernel_rfl) (by kernel_rfl) rfl rfl rfl (by simp) rfl rfl ?_
            refine WA_skip 12 rfl (by kernel_rfl) (by kernel_rfl) (by kernel_rfl) rfl rfl rfl (by simp) rfl rfl ?_
            refine WA_take 13 rfl (by kernel_rfl) (by kernel_rfl) (by kernel_rfl) rfl (fl_pick_f rfl rfl) ?_
            refine WL_pick_f rfl rfl rfl ?_
            refine WL_nil ?_
            refine WA_done (by kernel_rfl) ?_
            have hq2 := Option.some.inj hr2
            subst hq2
            refine nrm_sub (l' := [(0, u1), (5, (.int .i64 (List.length a1 : Int))), (6, (.int .i64 x1)), (22, (.bool false))]) ⟨rfl, rfl, rfl, rfl, trivial⟩ ?_
            exact ⟨false, rfl, rfl, (Keep.of hB3).below, hC3⟩
        · rintro _ w2 ⟨x2, rfl, rfl, hB2, hC2⟩
          try dsimp only at hL1
          refine W_cond rfl (fun hc3 => ?_) (fun hc3 => ?_)
          · replace hL1 := ite_t hL1 hc3
            refine W_seq_reg ?_
            refine WL_assign rfl rfl ?_
            refine WL_nil ?_
            refine W_ret ?_
            refine blk_ret ?_
            refine nrm_ret ?_
            refine nrm_ret ?_
            refine blk_ret ?_
            refine nrm_ret ?_
            refine nrm_ret ?_
            have hq3 := Option.some.inj hL1
            subst hq3
            dsimp only at hF
            have hq4 := Option.some.inj hF
            subst hq4
            refine fn_ret1 rfl rfl ?_
            exact ⟨_, rfl, bool_res hC2 _⟩
          · replace hL1 := ite_f hL1 hc3
            refine W_skip ?_
            refine blk_normal ?_
            refine nrm_normal ?_
            refine W_reg ?_
            refine WL_add rfl rfl rfl ?_
            refine WL_move rfl rfl ?_
            refine WL_nil ?_
            refine nrm_sub (l' := [(0, u1), (5, (.int .i64 (List.length a1 : Int))), (6, (.int .i64 (w64 (x1 + 1))))]) ⟨rfl, rfl, rfl, trivial⟩ ?_
            exact ⟨k1, Nat.lt_succ_self _, w64 (x1 + 1), rfl, ((Keep.of hB1).then hB2).below, hC2, hL1⟩
      · replace hL1 := ite_f hL1 hc1
        refine W_exit ?_
        refine nrm_exit ?_
        refine nrm_exit ?_
        refine blk_exit ?_
        have hq5 := Option.some.inj hL1
        subst hq5
        refine nrm_sub (l' := []) trivial ?_
        exact ⟨rfl, rfl, (Keep.of hB1).below, hC1⟩
  · rintro l3 _ w6 hs3 ⟨rfl, rfl, hB6, hC5⟩
    try dsimp only at hF
    refine nrm_sub' hs3 ?_
    clear hs3
    refine W_seq_reg ?_
    refine WL_assign rfl rfl ?_
    refine WL_nil ?_
    refine W_ret ?_
    have hq6 := Option.some.inj hF
    subst hq6
    refine fn_ret1 rfl rfl ?_
    exact ⟨_, rfl, bool_res hC5 _⟩

theorem c_M_Method_fits_c1 {w0 : World} (a1 : Int) (pb1 : Nat) (ax1 : Int) (g1 : ROAt [] w0 pb1 0 ax1) (rr : Bool) (hF : M.Method_fits_c1 a1 ax1 = some rr) :
    Calls Try.prog 92 [(.int .i64 a1), (ptr pb1 0)].toArray w0 fun e w' => ∃ v, e = .returned v ∧ Res w0 rr v w' := by
  refine calls_of_W Try.func92 rfl rfl ?_
  have hC0 := Ctx.start w0
  unfold M.Method_fits_c1 at hF
  refine W_seq_reg ?_
  refine WL_assign rfl rfl ?_
  refine WL_nil ?_
  refine W_seq_reg ?_
  refine WL_move rfl rfl ?_
  refine WL_load ty3 g1 hC0.keep rfl rfl (fun v1 h1 => ?_)
  obtain rfl := ro_int h1
  refine WL_sub rfl rfl rfl ?_
  obtain ⟨x1, hr1, hF⟩ := bind_some hF
  refine WL_call Try.call41 rfl rfl (c_M_within a1 0 (w64 (ax1 - 1)) x1 hr1) ?_
  intro _ w1 hv1
  obtain ⟨rfl, hB1⟩ := res_bool hv1
  have hC1 := hC0.grow hB1
  refine WL_not rfl rfl ?_
  refine WL_assign rfl rfl ?_
  refine WL_nil ?_
  refine W_ret ?_
  have hq1 := Option.some.inj hF
  subst hq1
  refine fn_ret1 rfl rfl ?_
  exact ⟨_, rfl, bool_res hC1 _⟩

theorem c_M_isCost {w0 : World} (a1 : Int) (rr : Bool) (hF : M.isCost a1 = some rr) :
    Calls Try.prog 93 [(.int .i64 a1)].toArray w0 fun e w' => ∃ v, e = .returned v ∧ Res w0 rr v w' := by
  refine calls_of_W Try.func93 rfl rfl ?_
  have hC0 := Ctx.start w0
  unfold M.isCost at hF
  refine W_seq_reg ?_
  refine WL_assign rfl rfl ?_
  refine WL_nil ?_
  refine W_seq_reg ?_
  refine WL_move rfl rfl ?_
  obtain ⟨x1, hr1, hF⟩ := bind_some hF
  refine WL_call Try.call41 rfl rfl (c_M_within a1 0 99 x1 hr1) ?_
  intro _ w1 hv1
  obtain ⟨rfl, hB1⟩ := res_bool hv1
  have hC1 := hC0.grow hB1
  refine WL_assign rfl rfl ?_
  refine WL_nil ?_
  refine W_ret ?_
  have hq1 := Option.some.inj hF
  subst hq1
  refine fn_ret1 rfl rfl ?_
  exact ⟨_, rfl, bool_res hC1 _⟩

theorem c_Slices_IndexFunc_Lint_int_M_Method_fits_c1 {w0 : World} (a1 : (List Int)) (u1 : Value) (g1 : RO [] w0 u1 a1) (pb1 : Nat) (ax1 : Int) (g2 : ROAt [] w0 pb1 0 ax1) (rr : Int) (hF : Slices.IndexFunc_Lint_int_M_Method_fits_c1 a1 ax1 = some rr) :
    Calls Try.prog 89 [u1, (.func (.func 92) #[] #[(ptr pb1 0)])].toArray w0 fun e w' => ∃ v, e = .returned v ∧ Res w0 rr v w' := by
  refine calls_of_W Try.func89 rfl rfl ?_
  have hC0 := Ctx.start w0
  unfold Slices.IndexFunc_Lint_int_M_Method_fits_c1 at hF
  refine W_seq_reg ?_
  refine WL_assign rfl rfl ?_
  refine WL_nil ?_
  refine W_seq ?_
  refine W_seq_reg ?_
  refine WL_move rfl rfl ?_
  refine WL_len Try.underlying22 g1 rfl rfl ?_
  refine WL_move rfl rfl ?_
  refine WL_nil ?_
  obtain ⟨r1, hr1, hF⟩ := bind_some hF
  refine W_norm (fun l w => .inl () = r1 ∧ l = [] ∧ Below w0.heap.size w0 w ∧ Ctx [] w0 w []) ?_ ?_
  · refine W_block ?_
    refine W.sub (l' := [(0, u1), (1, (.func (.func 92) #[] #[(ptr pb1 0)])), (7, (.int .i64 (List.length a1 : Int))), (8, (.int .i64 0))]) ?_ ⟨rfl, rfl, rfl, rfl, trivial⟩
    refine W_loop (fun k l w => ∃ x1 : Int, l = [(0, u1), (1, (.func (.func 92) #[] #[(ptr pb1 0)])), (7, (.int .i64 (List.length a1 : Int))), (8, (.int .i64 x1))] ∧ Below w0.heap.size w0 w ∧ Ctx [] w0 w [] ∧ Slices.IndexFunc_Lint_int_M_Method_fits_c1_l1 a1 ax1 k x1 = some r1) FUEL ⟨0, rfl, (Below.refl _ _), hC0, hr1⟩ ?_
    clear hr1
    rintro k1 _ w1 ⟨x1, rfl, hB1, hC1, hL1⟩
    cases k1 with
    | zero => rw [Slices.IndexFunc_Lint_int_M_Method_fits_c1_l1] at hL1; cases hL1
    | succ k1 =>
      rw [Slices.IndexFunc_Lint_int_M_Method_fits_c1_l1] at hL1
      refine W_seq_reg ?_
      refine WL_lss rfl rfl rfl ?_
      refine WL_nil ?_
      refine W_seq ?_
      refine W_cond rfl (fun hc1 => ?_) (fun hc1 => ?_)
      · replace hL1 := ite_t hL1 hc1
        refine W_skip ?_
        refine nrm_normal ?_
        refine W_seq ?_
        refine W_block ?_
        refine W_seq_reg ?_
        refine WL_move rfl rfl ?_
        refine WL_assign rfl rfl ?_
        refine WL_nil ?_
        refine W_seq_reg ?_
        refine WL_move rfl rfl ?_
        refine WL_move rfl rfl ?_
        refine WL_move rfl rfl ?_
        obtain ⟨x2, hx1, hL1⟩ := bind_some hL1
        refine WL_index Try.underlying22 ty3 g1 hx1 rfl rfl rfl (fun b1 o1 h1 => ?_)
        refine WL_load ty3 h1 hC1.keep rfl rfl (fun v1 h2 => ?_)
        obtain rfl := ro_int h2
        obtain ⟨x3, hr2, hL1⟩ := bind_some hL1
        refine WL_callv (cap := [(ptr pb1 0)]) Try.call92 rfl rfl rfl (c_M_Method_fits_c1 x2 pb1 ax1 (g2.now hC1.keep) x3 hr2) ?_
        intro _ w2 hv1
        obtain ⟨rfl, hB2⟩ := res_bool hv1
        have hC2 := hC1.grow hB2
        refine WL_nil ?_
        refine W_cond rfl (fun hc2 => ?_) (fun hc2 => ?_)
        · replace hL1 := ite_t hL1 hc2
          refine W_seq_reg ?_
          refine WL_move rfl rfl ?_
          refine WL_assign rfl rfl ?_
          refine WL_nil ?_
          refine W_ret ?_
          refine blk_ret ?_
          refine nrm_ret ?_
          refine nrm_ret ?_
          refine blk_ret ?_
          refine nrm_ret ?_
          refine nrm_ret ?_
          have hq1 := Option.some.inj hL1
          subst hq1
          dsimp only at hF
          have hq2 := Option.some.inj hF
          subst hq2
          refine fn_ret1 rfl rfl ?_
          exact ⟨_, rfl, int_res hC2 _⟩
        · replace hL1 := ite_f hL1 hc2
          refine W_skip ?_
          refine blk_normal ?_
          refine nrm_normal ?_
          refine W_reg ?_
          refine WL_add rfl rfl rfl ?_
          refine WL_move rfl rfl ?_
          refine WL_nil ?_
          refine nrm_sub (l' := [(0, u1), (1, (.func (.func 92) #[] #[(ptr pb1 0)])), (7, (.int .i64 (List.length a1 : Int))), (8, (.int .i64 (w64 (x1 + 1))))]) ⟨rfl, rfl, rfl, rfl, trivial⟩ ?_
          exact ⟨k1, Nat.lt_succ_self _, w64 (x1 + 1), rfl, ((Keep.of hB1).then hB2).below, hC2, hL1⟩
      · replace hL1 := ite_f hL1 hc1
        refine W_exit ?_
        refine nrm_exit ?_
        refine nrm_exit ?_
        refine blk_exit ?_
        have hq3 := Option.some.inj hL1
        subst hq3
        refine nrm_sub (l' := []) trivial ?_
        exact ⟨rfl, rfl, (Keep.of hB1).below, hC1⟩
  · rintro l2 _ w3 hs2 ⟨rfl, rfl, hB3, hC3⟩
    try dsimp only at hF
    refine nrm_sub' hs2 ?_
    clear hs2
    refine W_seq_reg ?_
    refine WL_assign rfl rfl ?_
    refine WL_nil ?_
    refine W_ret ?_
    have hq4 := Option.some.inj hF
    subst hq4
    refine fn_ret1 rfl rfl ?_
    exact ⟨_, rfl, int_res hC3 _⟩

theorem c_Slices_ContainsFunc_Lint_int_M_Method_fits_c1 {w0 : World} (a1 : (List Int)) (u1 : Value) (g1 : RO [] w0 u1 a1) (pb1 : Nat) (ax1 : Int) (g2 : ROAt [] w0 pb1 0 ax1) (rr : Bool) (hF : Slices.ContainsFunc_Lint_int_M_Method_fits_c1 a1 ax1 = some rr) :
    Calls Try.prog 77 [u1, (.func (.func 92) #[] #[(ptr pb1 0)])].toArray w0 fun e w' => ∃ v, e = .returned v ∧ Res w0 rr v w' := by
  refine calls_of_W Try.func77 rfl rfl ?_
  have hC0 := Ctx.start w0
  unfold Slices.ContainsFunc_Lint_int_M_Method_fits_c1 at hF
  refine W_seq_reg ?_
  refine WL_assign rfl rfl ?_
  refine WL_nil ?_
  refine W_seq_reg ?_
  refine WL_move rfl rfl ?_
  refine WL_move rfl rfl ?_
  obtain ⟨x1, hr1, hF⟩ := bind_some hF
  refine WL_call Try.call89 rfl rfl (c_Slices_IndexFunc_Lint_int_M_Method_fits_c1 a1 u1 (g1.now hC0.keep) pb1 ax1 (g2.now hC0.keep) x1 hr1) ?_
  intro _ w1 hv1
  obtain ⟨rfl, hB1⟩ := res_int hv1
  have hC1 := hC0.grow hB1
  refine WL_geq rfl rfl rfl ?_
  refine WL_assign rfl rfl ?_
  refine WL_nil ?_
  refine W_ret ?_
  have hq1 := Option.some.inj hF
  subst hq1
  refine fn_ret1 rfl rfl ?_
  exact ⟨_, rfl, bool_res hC1 _⟩

theorem c_M_Method_fits {w0 : World} (a1 : (Int × (List Int) × Int × Int × Int)) (u1 : Value) (g1 : RO [] w0 u1 a1.2.1) (a2 : Int) (rr : Bool) (hF : M.Method_fits a1 a2 = some rr) :
    Calls Try.prog 88 [(.agg #[(.int .i64 a1.1), u1, (.int .i64 a1.2.2.1), (.int .i64 a1.2.2.2.1), (.int .i64 a1.2.2.2.2)]), (.int .i64 a2)].toArray w0 fun e w' => ∃ v, e = .returned v ∧ Res w0 rr v w' := by
  refine calls_of_W Try.func88 rfl rfl ?_
  have hC0 := Ctx.start w0
  unfold M.Method_fits at hF
  refine W_seq_reg ?_
  refine WL_box (cs := [(.int .i64 a1.1), u1, (.int .i64 a1.2.2.1), (.int .i64 a1.2.2.2.1), (.int .i64 a1.2.2.2.2)]) hC0 rfl rfl rfl (fun b1 w1 hC1 hB1 => ?_)
  refine WL_box (cs := [(.int .i64 a2)]) hC1 rfl rfl rfl (fun b2 w2 hC2 hB2 => ?_)
  refine WL_assign rfl rfl ?_
  refine WL_nil ?_
  obtain ⟨r1, hr1, hF⟩ := bind_some hF
  refine W_cut (fun l w => ∃ x1 : Bool, x1 = r1 ∧ l = [(4, (.bool x1))] ∧ Below w2.heap.size w2 w ∧ Ctx [] w0 w []) ?_ ?_
  · refine W_reg ?_
    refine WL_field Try.underlying70 rfl rfl (fun w => ⟨_, Try.sizeOf22 w⟩) rfl rfl ?_
    refine WL_load_box hC2 1 rfl rfl Try.isAgg22 rfl rfl ?_
    obtain ⟨x2, hr2, hr1⟩ := bind_some hr1
    refine WL_call Try.call91 rfl rfl (c_M_ascending a1.2.1 u1 (g1.now hC2.keep) x2 hr2) ?_
    intro _ w4 hv1
    obtain ⟨rfl, hB4⟩ := res_bool hv1
    have hC4 := hC2.grow hB4
    refine WL_move rfl rfl ?_
    refine WL_fork (fun hc1 => ?_) (fun hc1 => ?_)
    · replace hr1 := ite_t hr1 hc1
      refine WL_guard rfl rfl ?_
      refine WL_field Try.underlying70 rfl rfl (fun w => ⟨_, Try.sizeOf22 w⟩) rfl rfl ?_
      refine WL_guard rfl rfl ?_
      refine WL_load_box hC4 1 rfl rfl Try.isAgg22 rfl rfl ?_
      refine WL_guard rfl rfl ?_
      refine WL_makeFunc rfl rfl ?_
      obtain ⟨x3, hr3, hr1⟩ := bind_some hr1
      refine WL_guard rfl rfl ?_
      refine WL_call Try.call77 rfl rfl (c_Slices_ContainsFunc_Lint_int_M_Method_fits_c1 a1.2.1 u1 (g1.now hC4.keep) b2 a2 (hC4.boxAt 0 rfl repw_int) x3 hr3) ?_
      intro _ w5 hv2
      obtain ⟨rfl, hB5⟩ := res_bool hv2
      have hC5 := hC4.grow hB5
      refine WL_guard rfl rfl ?_
      refine WL_not rfl rfl ?_
      refine WL_pick_t rfl rfl rfl ?_
      refine WL_move rfl rfl ?_
      refine WL_fork (fun hc2 => ?_) (fun hc2 => ?_)
      · replace hr1 := ite_t hr1 hc2
        refine WL_guard rfl rfl ?_
        refine WL_field Try.underlying70 rfl rfl (fun w => ⟨_, Try.sizeOf3 w⟩) rfl rfl ?_
        refine WL_guard rfl rfl ?_
        refine WL_load_box hC5 1 rfl rfl Try.isAgg3 rfl rfl ?_
        obtain ⟨x4, hr4, hr1⟩ := bind_some hr1
        refine WL_guard rfl rfl ?_
        refine WL_call Try.call41 rfl rfl (c_M_within a1.2.2.1 0 9 x4 hr4) ?_
        intro _ w6 hv3
        obtain ⟨rfl, hB6⟩ := res_bool hv3
        have hC6 := hC5.grow hB6
        refine WL_pick_t rfl rfl rfl ?_
        refine WL_move rfl rfl ?_
        refine WL_fork (fun hc3 => ?_) (fun hc3 => ?_)
        · replace hr1 := ite_t hr1 hc3
          refine WL_guard rfl rfl ?_
          refine WL_field Try.underlying70 rfl rfl (fun w => ⟨_, Try.sizeOf3 w⟩) rfl rfl ?_
          refine WL_guard rfl rfl ?_
          refine WL_load_box hC6 1 rfl rfl Try.isAgg3 rfl rfl ?_
          obtain ⟨x5, hr5, hr1⟩ := bind_some hr1
          refine WL_guard rfl rfl ?_
          refine WL_call Try.call93 rfl rfl (c_M_isCost a1.2.2.2.1 x5 hr5) ?_
          intro _ w7 hv4
          obtain ⟨rfl, hB7⟩ := res_bool hv4
          have hC7 := hC6.grow hB7
          refine WL_pick_t rfl rfl rfl ?_
          refine WL_move rfl rfl ?_
          refine WL_fork (fun hc4 => ?_) (fun hc4 => ?_)
          · replace hr1 := ite_t hr1 hc4
            refine WL_guard rfl rfl ?_
            refine WL_field Try.underlying70 rfl rfl (fun w => ⟨_, Try.sizeOf3 w⟩) rfl rfl ?_
            refine WL_guard rfl rfl ?_
            refine WL_load_box hC7 1 rfl rfl Try.isAgg3 rfl rfl ?_
            obtain ⟨x6, hr6, hr1⟩ := bind_some hr1
            refine WL_guard rfl rfl ?_
            refine WL_call Try.call41 rfl rfl (c_M_within a1.2.2.2.2 1 99 x6 hr6) ?_
            intro _ w8 hv5
            obtain ⟨rfl, hB8⟩ := res_bool hv5
            have hC8 := hC7.grow hB8
            refine WL_pick_t rfl rfl rfl ?_
            refine WL_assign rfl rfl ?_
            refine WL_nil ?_
            have hq1 := Option.some.inj hr1
            subst hq1
            have hC9 : Ctx [] w0 _ [] := hC8.headN 0
            refine nrm_sub (l' := [(4, (.bool x6))]) ⟨rfl, trivial⟩ ?_
            exact ⟨x6, rfl, rfl, (((((Keep.of hB4).then hB5).then hB6).then hB7).then hB8).below, hC9⟩
          · replace hr1 := ite_f hr1 hc4
            refine WL_guard_skip rfl rfl (by simp) rfl ?_
            refine WL_guard_skip rfl rfl (by simp) rfl ?_
            refine WL_guard_skip rfl rfl (by simp) rfl ?_
            refine WL_pick_f rfl rfl rfl ?_
            refine WL_assign rfl rfl ?_
            refine WL_nil ?_
            have hq2 := Option.some.inj hr1
            subst hq2
            have hC10 : Ctx [] w0 _ [] := hC7.headN 0
            refine nrm_sub (l' := [(4, (.bool false))]) ⟨rfl, trivial⟩ ?_
            exact ⟨false, rfl, rfl, ((((Keep.of hB4).then hB5).then hB6).then hB7).below, hC10⟩
        · replace hr1 := ite_f hr1 hc3
          refine WL_guard_skip rfl rfl (by simp) rfl ?_
          refine WL_guard_skip rfl rfl (by simp) rfl ?_
          refine WL_guard_skip rfl rfl (by simp) rfl ?_
          refine WL_pick_f rfl rfl rfl ?_
          refine WL_move rfl rfl ?_
          refine WL_guard_skip rfl rfl (by simp) rfl ?_
          refine WL_guard_skip rfl rfl (by simp) rfl ?_
          refine WL_guard_skip rfl rfl (by simp) rfl ?_
          refine WL_pick_f rfl rfl rfl ?_
          refine WL_assign rfl rfl ?_
          refine WL_nil ?_
          have hq3 := Option.some.inj hr1
          subst hq3
          have hC11 : Ctx [] w0 _ [] := hC6.headN 0
          refine nrm_sub (l' := [(4, (.bool false))]) ⟨rfl, trivial⟩ ?_
          exact ⟨false, rfl, rfl, (((Keep.of hB4).then hB5).then hB6).below, hC11⟩
      · replace hr1 := ite_f hr1 hc2
        refine WL_guard_skip rfl rfl (by simp) rfl ?_
        refine WL_guard_skip rfl rfl (by simp) rfl ?_
        refine WL_guard_skip rfl rfl (by simp) rfl ?_
        refine WL_pick_f rfl rfl rfl ?_
        refine WL_move rfl rfl ?_
        refine WL_guard_skip rfl rfl (by simp) rfl ?_
        refine WL_guard_skip rfl rfl (by simp) rfl ?_
        refine WL_guard_skip rfl rfl (by simp) rfl ?_
        refine WL_pick_f rfl rfl rfl ?_
        refine WL_move rfl rfl ?_
        refine WL_guard_skip rfl rfl (by simp) rfl ?_
        refine WL_guard_skip rfl rfl (by simp) rfl ?_
        refine WL_guard_skip rfl rfl (by simp) rfl ?_
        refine WL_pick_f rfl rfl rfl ?_
        refine WL_assign rfl rfl ?_
        refine WL_nil ?_
        have hq4 := Option.some.inj hr1
        subst hq4
        have hC12 : Ctx [] w0 _ [] := hC5.headN 0
        refine nrm_sub (l' := [(4, (.bool false))]) ⟨rfl, trivial⟩ ?_
        exact ⟨false, rfl, rfl, ((Keep.of hB4).then hB5).below, hC12⟩
    · replace hr1 := ite_f hr1 hc1
      refine WL_guard_skip rfl rfl (by simp) rfl ?_
      refine WL_guard_skip rfl rfl (by simp) rfl ?_
      refine WL_guard_skip rfl rfl (by simp) rfl ?_
      refine WL_guard_skip rfl rfl (by simp) rfl ?_
      refine WL_guard_skip rfl rfl (by simp) rfl ?_
      refine WL_pick_f rfl rfl rfl ?_
      refine WL_move rfl rfl ?_
      refine WL_guard_skip rfl rfl (by simp) rfl ?_
      refine WL_guard_skip rfl rfl (by simp) rfl ?_
      refine WL_guard_skip rfl rfl (by simp) rfl ?_
      refine WL_pick_f rfl rfl rfl ?_
      refine WL_move rfl rfl ?_
      refine WL_guard_skip rfl rfl (by simp) rfl ?_
      refine WL_guard_skip rfl rfl (by simp) rfl ?_
      refine WL_guard_skip rfl rfl (by simp) rfl ?_
      refine WL_pick_f rfl rfl rfl ?_
      refine WL_move rfl rfl ?_
      refine WL_guard_skip rfl rfl (by simp) rfl ?_
      refine WL_guard_skip rfl rfl (by simp) rfl ?_
      refine WL_guard_skip rfl rfl (by simp) rfl ?_
      refine WL_pick_f rfl rfl rfl ?_
      refine WL_assign rfl rfl ?_
      refine WL_nil ?_
      have hq5 := Option.some.inj hr1
      subst hq5
      have hC13 : Ctx [] w0 _ [] := hC4.headN 0
      refine nrm_sub (l' := [(4, (.bool false))]) ⟨rfl, trivial⟩ ?_
      exact ⟨false, rfl, rfl, (Keep.of hB4).below, hC13⟩
  · rintro _ w3 ⟨x1, rfl, rfl, hB3, hC3⟩
    try dsimp only at hF
    refine W_ret ?_
    have hq6 := Option.some.inj hF
    subst hq6
    refine fn_ret1 rfl rfl ?_
    exact ⟨_, rfl, bool_res hC3 _⟩

theorem c_M_IsMethod {w0 : World} (a1 : (List Int)) (u1 : Value) (g1 : RO [] w0 u1 a1) (a2 : (Int × (List Int) × Int × Int × Int)) (u2 : Value) (g2 : RO [] w0 u2 a2.2.1) (rr : Bool) (hF : M.IsMethod a1 a2 = some rr) :
    Calls Try.prog 76 [u1, (.agg #[(.int .i64 a2.1), u2, (.int .i64 a2.2.2.1), (.int .i64 a2.2.2.2.1), (.int .i64 a2.2.2.2.2)])].toArray w0 fun e w' => ∃ v, e = .returned v ∧ Res w0 rr v w' := by
  refine calls_of_W Try.func76 rfl rfl ?_
  have hC0 := Ctx.start w0
  unfold M.IsMethod at hF
  refine W_seq_reg ?_
  refine WL_box (cs := [(.int .i64 a2.1), u2, (.int .i64 a2.2.2.1), (.int .i64 a2.2.2.2.1), (.int .i64 a2.2.2.2.2)]) hC0 rfl rfl rfl (fun b1 w1 hC1 hB1 => ?_)
  refine WL_assign rfl rfl ?_
  refine WL_nil ?_
  obtain ⟨r1, hr1, hF⟩ := bind_some hF
  refine W_cut (fun l w => ∃ x1 : Bool, x1 = r1 ∧ l = [(4, (.bool x1))] ∧ Below w1.heap.size w1 w ∧ Ctx [] w0 w []) ?_ ?_
  · refine W_drawn 14 rfl hmix (fun w3 hB3 => ?_)
    have hC3 := hC1.grow hB3
    refine WA_take 0 rfl (by kernel_rfl) (by kernel_rfl) (by kernel_rfl) rfl (fl_move rfl) ?_
    refine WL_move rfl rfl ?_
    refine WL_nil ?_
    refine WA_take 1 rfl (by kernel_rfl) (by kernel_rfl) (by kernel_rfl) rfl (fl_field Try.underlying70 rfl rfl (fun w => ⟨_, Try.sizeOf3 w⟩) rfl) ?_
    refine WL_field Try.underlying70 rfl rfl (fun w => ⟨_, Try.sizeOf3 w⟩) rfl rfl ?_
    refine WL_nil ?_
    refine WA_one 2 (by kernel_rfl) rfl ?_
    refine WL_load_box hC3 0 rfl rfl Try.isAgg3 rfl rfl ?_
    refine WL_nil ?_
    obtain ⟨x2, hr2, hr1⟩ := bind_some hr1
    refine WA_one 3 (by kernel_rfl) rfl ?_
    refine WL_call Try.call82 rfl rfl (c_M_hasRel a1 u1 (g1.now hC3.keep) a2.1 x2 hr2) ?_
    intro _ w4 hv1
    obtain ⟨rfl, hB4⟩ := res_bool hv1
    have hC4 := hC3.grow hB4
    refine WL_nil ?_
    refine WA_take 4 rfl (by kernel_rfl) (by kernel_rfl) (by kernel_rfl) rfl (fl_move rfl) ?_
    refine WL_move rfl rfl ?_
    refine WL_nil ?_
    refine WA_fork (fun hc1 => ?_) (fun hc1 => ?_)
    · replace hr1 := ite_t hr1 hc1
      refine WA_takeG 6 rfl (by kernel_rfl) (by kernel_rfl) (by kernel_rfl) rfl rfl rfl (fl_move rfl) ?_
      refine WL_guard rfl rfl ?_
      refine WL_move rfl rfl ?_
      refine WL_nil ?_
      refine WA_takeG 7 rfl (by kernel_rfl) (by kernel_rfl) (by kernel_rfl) rfl rfl rfl (fl_field Try.underlying70 rfl rfl (fun w => ⟨_, Try.sizeOf3 w⟩) rfl) ?_
      refine WL_guard rfl rfl ?_
      refine WL_field Try.underlying70 rfl rfl (fun w => ⟨_, Try.sizeOf3 w⟩) rfl rfl ?_
      refine WL_nil ?_
      obtain ⟨x3, hx1, hr1⟩ := bind_some hr1
      refine WA.sub (l' := [(0, u1), (1, (.agg #[(.int .i64 a2.1), u2, (.int .i64 a2.2.2.1), (.int .i64 a2.2.2.2.1), (.int .i64 a2.2.2.2.2)])), (3, (ptr b1 0)), (4, (.bool false)), (5, u1), (6, (ptr b1 0)), (7, (.int .i64 a2.1)), (8, (.bool x2)), (9, (.bool true)), (11, u1), (12, (ptr b1 0))]) ?_ ⟨rfl, rfl, rfl, rfl, rfl, rfl, rfl, rfl, rfl, rfl, rfl, trivial⟩
      refine WA_postsE [⟨5, [], fun vs => PW.val (.agg #[(.int .i64 a2.1), u2, (.int .i64 a2.2.2.1), (.int .i64 a2.2.2.2.1), (.int .i64 a2.2.2.2.2)]), []⟩, ⟨8, [], fun vs => PW.val (.int .i64 a2.1), []⟩, ⟨9, [], fun vs => PW.at [] w0 x3, []⟩, ⟨10, [], fun vs => PW.val (.int .i64 x3), []⟩] [[], [], [8], [9]] 3 rfl (by kernel_rfl) (by kernel_rfl) rfl ?_ ?_
      · refine StepsE_cons rfl ?_ ?_
        · intro w5 hB5
          refine DepsE_nil ?_
          refine ⟨_, rfl, ?_⟩
          refine WL_guard rfl rfl ?_
          refine WL_load_box_agg [(.int .i64 a2.1), u2, (.int .i64 a2.2.2.1), (.int .i64 a2.2.2.2.1), (.int .i64 a2.2.2.2.2)] (hC4.grow hB5) 0 rfl rfl rfl Try.isAgg70 Try.sizeOf70 rfl rfl ?_
          refine WL_nil ?_
          exact FinE_val (Below.refl _ _) rfl rfl ⟨rfl, rfl⟩
        refine StepsE_cons rfl ?_ ?_
        · intro w5 hB5
          refine DepsE_nil ?_
          refine ⟨_, rfl, ?_⟩
          refine WL_guard rfl rfl ?_
          refine WL_load_box (hC4.grow hB5) 0 rfl rfl Try.isAgg3 rfl rfl ?_
          refine WL_nil ?_
          exact FinE_val (Below.refl _ _) rfl rfl ⟨rfl, rfl⟩
        refine StepsE_cons rfl ?_ ?_
        · intro w5 hB5
          refine DepsE_cons rfl rfl rfl ?_
          rintro _ _ ⟨rfl, rfl⟩ _
          refine DepsE_nil ?_
          refine ⟨_, rfl, ?_⟩
          refine WL_guard rfl rfl ?_
          refine WL_index Try.underlying22 ty3 g1 hx1 rfl rfl rfl (fun b2 o1 h1 => ?_)
          refine WL_nil ?_
          exact FinE_val (Below.refl _ _) rfl rfl ⟨rfl, _, _, rfl, h1⟩
        refine StepsE_cons rfl ?_ ?_
        · intro w5 hB5
          refine DepsE_cons rfl rfl rfl ?_
          rintro _ _ ⟨rfl, b2, o1, rfl, h1⟩ _
          refine DepsE_nil ?_
          refine ⟨_, rfl, ?_⟩
          refine WL_guard rfl rfl ?_
          refine WL_load ty3 h1 (hC4.keep.then hB5) rfl rfl (fun v1 h2 => ?_)
          obtain rfl := ro_int h2
          refine WL_nil ?_
          exact FinE_val (Below.refl _ _) rfl rfl ⟨rfl, rfl⟩
        exact StepsE_nil
      · intro w6 hB6
        refine AllE_cons rfl rfl rfl ?_
        rintro _ _ ⟨rfl, rfl⟩
        refine AllE_cons rfl rfl rfl ?_
        rintro _ _ ⟨rfl, rfl⟩
        refine AllE_cons rfl rfl rfl ?_
        rintro _ _ ⟨rfl, b2, o1, rfl, h1⟩
        refine AllE_cons rfl rfl rfl ?_
        rintro _ _ ⟨rfl, rfl⟩
        refine AllE_nil ?_
        intro hn1 hb1
        have hC5 := hC4.grow hB6
        obtain ⟨x4, hr3, hr1⟩ := bind_some hr1
        refine WA_one 11 (by kernel_rfl) rfl ?_
        refine WL_guard rfl rfl ?_
        refine WL_call Try.call88 rfl rfl (c_M_Method_fits (a2.1, a2.2.1, a2.2.2.1, a2.2.2.2.1, a2.2.2.2.2) u2 (g2.now hC5.keep) x3 x4 hr3) ?_
        intro _ w7 hv2
        obtain ⟨rfl, hB7⟩ := res_bool hv2
        have hC6 := hC5.grow hB7
        refine WL_nil ?_
        refine WA_take 12 rfl (by kernel_rfl) (by kernel_rfl) (by kernel_rfl) rfl (fl_pick_t rfl rfl) ?_
        refine WL_pick_t rfl rfl rfl ?_
        refine WL_nil ?_
        refine WA_take 13 rfl (by kernel_rfl) (by kernel_rfl) (by kernel_rfl) rfl (fl_assign rfl) ?_
        refine WL_assign rfl rfl ?_
        refine WL_nil ?_
        refine WA_done (by kernel_rfl) ?_
        have hq1 := Option.some.inj hr1
        subst hq1
        have hC7 : Ctx [] w0 _ [] := hC6.headN 0
        refine nrm_sub (l' := [(4, (.bool x4))]) ⟨rfl, trivial⟩ ?_
        exact ⟨x4, rfl, rfl, ((((Keep.of hB3).then hB4).then hB6).then hB7).below, hC7⟩
    · replace hr1 := ite_f hr1 hc1
      refine WA_skip 5 rfl (by kernel_rfl) (by kernel_rfl) (by kernel_rfl) rfl rfl rfl (by simp) rfl rfl ?_
      refine WA_skip 6 rfl (by kernel_rfl) (by kernel_rfl) (by kernel_rfl) rfl rfl rfl (by simp) rfl rfl ?_
      refine WA_skip 7 rfl (by kernel_rfl) (by kernel_rfl) (by kernel_rfl) rfl rfl rfl (by simp) rfl rfl ?_
      refine WA_skip 8 rfl (by kernel_rfl) (by kernel_rfl) (by kernel_rfl) rfl rfl rfl (by simp) rfl rfl ?_
      refine WA_skip 9 rfl (by kernel_rfl) (by kernel_rfl) (by kernel_rfl) rfl rfl rfl (by simp) rfl rfl ?_
      refine WA_skip 10 rfl (by kernel_rfl) (by kernel_rfl) (by kernel_rfl) rfl rfl rfl (by simp) rfl rfl ?_
      refine WA_skip 11 rfl (by kernel_rfl) (by kernel_rfl) (by kernel_rfl) rfl rfl rfl (by simp) rfl rfl ?_
      refine WA_take 12 rfl (by kernel_rfl) (by kernel_rfl) (by kernel_rfl) rfl (fl_pick_f rfl rfl) ?_
      refine WL_pick_f rfl rfl rfl ?_
      refine WL_nil ?_
      refine WA_take 13 rfl (by kernel_rfl) (by kernel_rfl) (by kernel_rfl) rfl (fl_assign rfl) ?_
      refine WL_assign rfl rfl ?_
      refine WL_nil ?_
      refine WA_done (by kernel_rfl) ?_
      have hq2 := Option.some.inj hr1
      subst hq2
      have hC8 : Ctx [] w0 _ [] := hC4.headN 0
      refine nrm_sub (l' := [(4, (.bool false))]) ⟨rfl, trivial⟩ ?_
      exact ⟨false, rfl, rfl, ((Keep.of hB3).then hB4).below, hC8⟩
  · rintro _ w2 ⟨x1, rfl, rfl, hB2, hC2⟩
    try dsimp only at hF
    refine W_ret ?_
    have hq3 := Option.some.inj hF
    subst hq3
    refine fn_ret1 rfl rfl ?_
    exact ⟨_, rfl, bool_res hC2 _⟩

theorem c_M_AreMethods_c1 {w0 : World} (a1 : (Int × (List Int) × Int × Int × Int)) (u1 : Value) (g1 : RO [] w0 u1 a1.2.1) (pb1 : Nat) (ax1 : (List Int)) (g2 : ROAt [] w0 pb1 0 ax1) (rr : Bool) (hF : M.AreMethods_c1 a1 ax1 = some rr) :
    Calls Try.prog 75 [(.agg #[(.int .i64 a1.1), u1, (.int .i64 a1.2.2.1), (.int .i64 a1.2.2.2.1), (.int .i64 a1.2.2.2.2)]), (ptr pb1 0)].toArray w0 fun e w' => ∃ v, e = .returned v ∧ Res w0 rr v w' := by
  refine calls_of_W Try.func75 rfl rfl ?_
  have hC0 := Ctx.start w0
  unfold M.AreMethods_c1 at hF
  refine W_seq_reg ?_
  refine WL_box (cs := [(.int .i64 a1.1), u1, (.int .i64 a1.2.2.1), (.int .i64 a1.2.2.2.1), (.int .i64 a1.2.2.2.2)]) hC0 rfl rfl rfl (fun b1 w1 hC1 hB1 => ?_)
  refine WL_assign rfl rfl ?_
  refine WL_nil ?_
  refine W_seq_reg ?_
  refine WL_load ty22 g2 hC1.keep rfl rfl (fun v1 h1 => ?_)
  refine WL_load_box_agg [(.int .i64 a1.1), u1, (.int .i64 a1.2.2.1), (.int .i64 a1.2.2.2.1), (.int .i64 a1.2.2.2.2)] hC1 0 rfl rfl rfl Try.isAgg70 Try.sizeOf70 rfl rfl ?_
  obtain ⟨x1, hr1, hF⟩ := bind_some hF
  refine WL_call Try.call76 rfl rfl (c_M_IsMethod ax1 v1 (h1.now hC1.keep) (a1.1, a1.2.1, a1.2.2.1, a1.2.2.2.1, a1.2.2.2.2) u1 (g1.now hC1.keep) x1 hr1) ?_
  intro _ w2 hv1
  obtain ⟨rfl, hB2⟩ := res_bool hv1
  have hC2 := hC1.grow hB2
  refine WL_not rfl rfl ?_
  refine WL_assign rfl rfl ?_
  refine WL_nil ?_
  refine W_ret ?_
  have hq1 := Option.some.inj hF
  subst hq1
  refine fn_ret1 rfl rfl ?_
  exact ⟨_, rfl, bool_res hC2 _⟩

theorem c_Slices_IndexFunc_Limpl_Method_impl_Method_M_AreMethods_c1 {w0 : World} (a1 : (List (Int × (List Int) × Int × Int × Int))) (u1 : Value) (g1 : RO [] w0 u1 a1) (pb1 : Nat) (ax1 : (List Int)) (g2 : ROAt [] w0 pb1 0 ax1) (rr : Int) (hF : Slices.IndexFunc_Limpl_Method_impl_Method_M_AreMethods_c1 a1 ax1 = some rr) :
    Calls Try.prog 87 [u1, (.func (.func 75) #[] #[(ptr pb1 0)])].toArray w0 fun e w' => ∃ v, e = .returned v ∧ Res w0 rr v w' := by
  refine calls_of_W Try.func87 rfl rfl ?_
  have hC0 := Ctx.start w0
  unfold Slices.IndexFunc_Limpl_Method_impl_Method_M_AreMethods_c1 at hF
  refine W_seq_reg ?_
  refine WL_assign rfl rfl ?_
  refine WL_nil ?_
  refine W_seq ?_
  refine W_seq_reg ?_
  refine WL_move rfl rfl ?_
  refine WL_len Try.underlying41 g1 rfl rfl ?_
  refine WL_move rfl rfl ?_
  refine WL_nil ?_
  obtain ⟨r1, hr1, hF⟩ := bind_some hF
  refine W_norm (fun l w => .inl () = r1 ∧ l = [] ∧ Below w0.heap.size w0 w ∧ Ctx [] w0 w []) ?_ ?_
  · refine W_block ?_
    refine W.sub (l' := [(0, u1), (1, (.func (.func 75) #[] #[(ptr pb1 0)])), (7, (.int .i64 (List.length a1 : Int))), (8, (.int .i64 0))]) ?_ ⟨rfl, rfl, rfl, rfl, trivial⟩
    refine W_loop (fun k l w => ∃ x1 : Int, l = [(0, u1), (1, (.func (.func 75) #[] #[(ptr pb1 0)])), (7, (.int .i64 (List.length a1 : Int))), (8, (.int .i64 x1))] ∧ Below w0.heap.size w0 w ∧ Ctx [] w0 w [] ∧ Slices.IndexFunc_Limpl_Method_impl_Method_M_AreMethods_c1_l1 a1 ax1 k x1 = some r1) FUEL ⟨0, rfl, (Below.refl _ _), hC0, hr1⟩ ?_
    clear hr1
    rintro k1 _ w1 ⟨x1, rfl, hB1, hC1, hL1⟩
    cases k1 with
    | zero => rw [Slices.IndexFunc_Limpl_Method_impl_Method_M_AreMethods_c1_l1] at hL1; cases hL1
    | succ k1 =>
      rw [Slices.IndexFunc_Limpl_Method_impl_Method_M_AreMethods_c1_l1] at hL1
      refine W_seq_reg ?_
      refine WL_lss rfl rfl rfl ?_
      refine WL_nil ?_
      refine W_seq ?_
      refine W_cond rfl (fun hc1 => ?_) (fun hc1 => ?_)
      · replace hL1 := ite_t hL1 hc1
        refine W_skip ?_
        refine nrm_normal ?_
        refine W_seq ?_
        refine W_block ?_
        refine W_seq_reg ?_
        refine WL_move rfl rfl ?_
        refine WL_assign rfl rfl ?_
        refine WL_nil ?_
        refine W_seq_reg ?_
        refine WL_move rfl rfl ?_
        refine WL_move rfl rfl ?_
        refine WL_move rfl rfl ?_
        obtain ⟨x2, hx1, hL1⟩ := bind_some hL1
        refine WL_index Try.underlying41 ty70 g1 hx1 rfl rfl rfl (fun b1 o1 h1 => ?_)
        refine WL_load ty70 h1 hC1.keep rfl rfl (fun v1 h2 => ?_)
        obtain ⟨v2, rfl, h3⟩ := ro_st70 h2
        obtain ⟨x3, hr2, hL1⟩ := bind_some hL1
        refine WL_callv (cap := [(ptr pb1 0)]) Try.call75 rfl rfl rfl (c_M_AreMethods_c1 x2 v2 (h3.now hC1.keep) pb1 ax1 (g2.now hC1.keep) x3 hr2) ?_
        intro _ w2 hv1
        obtain ⟨rfl, hB2⟩ := res_bool hv1
        have hC2 := hC1.grow hB2
        refine WL_nil ?_
        refine W_cond rfl (fun hc2 => ?_) (fun hc2 => ?_)
        · replace hL1 := ite_t hL1 hc2
          refine W_seq_reg ?_
          refine WL_move rfl rfl ?_
          refine WL_assign rfl rfl ?_
          refine WL_nil ?_
          refine W_ret ?_
          refine blk_ret ?_
          refine nrm_ret ?_
          refine nrm_ret ?_
          refine blk_ret ?_
          refine nrm_ret ?_
          refine nrm_ret ?_
          have hq1 := Option.some.inj hL1
          subst hq1
          dsimp only at hF
          have hq2 := Option.some.inj hF
          subst hq2
          refine fn_ret1 rfl rfl ?_
          exact ⟨_, rfl, int_res hC2 _⟩
        · replace hL1 := ite_f hL1 hc2
          refine W_skip ?_
          refine blk_normal ?_
          refine nrm_normal ?_
          refine W_reg ?_
          refine WL_add rfl rfl rfl ?_
          refine WL_move rfl rfl ?_
          refine WL_nil ?_
          refine nrm_sub (l' := [(0, u1), (1, (.func (.func 75) #[] #[(ptr pb1 0)])), (7, (.int .i64 (List.length a1 : Int))), (8, (.int .i64 (w64 (x1 + 1))))]) ⟨rfl, rfl, rfl, rfl, trivial⟩ ?_
          exact ⟨k1, Nat.lt_succ_self _, w64 (x1 + 1), rfl, ((Keep.of hB1).then hB2).below, hC2, hL1⟩
      · replace hL1 := ite_f hL1 hc1
        refine W_exit ?_
        refine nrm_exit ?_
        refine nrm_exit ?_
        refine blk_exit ?_
        have hq3 := Option.some.inj hL1
        subst hq3
        refine nrm_sub (l' := []) trivial ?_
        exact ⟨rfl, rfl, (Keep.of hB1).below, hC1⟩
  · rintro l2 _ w3 hs2 ⟨rfl, rfl, hB3, hC3⟩
    try dsimp only at hF
    refine nrm_sub' hs2 ?_
    clear hs2
    refine W_seq_reg ?_
    refine WL_assign rfl rfl ?_
    refine WL_nil ?_
    refine W_ret ?_
    have hq4 := Option.some.inj hF
    subst hq4
    refine fn_ret1 rfl rfl ?_
    exact ⟨_, rfl, int_res hC3 _⟩

theorem c_Slices_ContainsFunc_Limpl_Method_impl_Method_M_AreMethods_c1 {w0 : World} (a1 : (List (Int × (List Int) × Int × Int × Int))) (u1 : Value) (g1 : RO [] w0 u1 a1) (pb1 : Nat) (ax1 : (List Int)) (g2 : ROAt [] w0 pb1 0 ax1) (rr : Bool) (hF : Slices.ContainsFunc_Limpl_Method_impl_Method_M_AreMethods_c1 a1 ax1 = some rr) :
    Calls Try.prog 74 [u1, (.func (.func 75) #[] #[(ptr pb1 0)])].toArray w0 fun e w' => ∃ v, e = .returned v ∧ Res w0 rr v w' := by
  refine calls_of_W Try.func74 rfl rfl ?_
  have hC0 := Ctx.start w0
  unfold Slices.ContainsFunc_Limpl_Method_impl_Method_M_AreMethods_c1 at hF
  refine W_seq_reg ?_
  refine WL_assign rfl rfl ?_
  refine WL_nil ?_
  refine W_seq_reg ?_
  refine WL_move rfl rfl ?_
  refine WL_move rfl rfl ?_
  obtain ⟨x1, hr1, hF⟩ := bind_some hF
  refine WL_call Try.call87 rfl rfl (c_Slices_IndexFunc_Limpl_Method_impl_Method_M_AreMethods_c1 a1 u1 (g1.now hC0.keep) pb1 ax1 (g2.now hC0.keep) x1 hr1) ?_
  intro _ w1 hv1
  obtain ⟨rfl, hB1⟩ := res_int hv1
  have hC1 := hC0.grow hB1
  refine WL_geq rfl rfl rfl ?_
  refine WL_assign rfl rfl ?_
  refine WL_nil ?_
  refine W_ret ?_
  have hq1 := Option.some.inj hF
  subst hq1
  refine fn_ret1 rfl rfl ?_
  exact ⟨_, rfl, bool_res hC1 _⟩

theorem c_M_AreMethods {w0 : World} (a1 : (List Int)) (u1 : Value) (g1 : RO [] w0 u1 a1) (a2 : (List (Int × (List Int) × Int × Int × Int))) (u2 : Value) (g2 : RO [] w0 u2 a2) (rr : Bool) (hF : M.AreMethods a1 a2 = some rr) :
    Calls Try.prog 61 [u1, u2].toArray w0 fun e w' => ∃ v, e = .returned v ∧ Res w0 rr v w' := by
  refine calls_of_W Try.func61 rfl rfl ?_
  have hC0 := Ctx.start w0
  unfold M.AreMethods at hF
  refine W_seq_reg ?_
  refine WL_box (cs := [u1]) hC0 (ro_cells g1) rfl rfl (fun b1 w1 hC1 hB1 => ?_)
  refine WL_assign rfl rfl ?_
  refine WL_nil ?_
  obtain ⟨r1, hr1, hF⟩ := bind_some hF
  refine W_cut (fun l w => ∃ x1 : Bool, x1 = r1 ∧ l = [(4, (.bool x1))] ∧ Below w1.heap.size w1 w ∧ Ctx [] w0 w []) ?_ ?_
  · refine W_reg ?_
    refine WL_load_box hC1 0 rfl rfl Try.isAgg22 rfl rfl ?_
    obtain ⟨x2, hr2, hr1⟩ := bind_some hr1
    refine WL_call Try.call73 rfl rfl (c_M_IsSchema a1 u1 (g1.now hC1.keep) x2 hr2) ?_
    intro _ w3 hv1
    obtain ⟨rfl, hB3⟩ := res_bool hv1
    have hC3 := hC1.grow hB3
    refine WL_move rfl rfl ?_
    refine WL_fork (fun hc1 => ?_) (fun hc1 => ?_)
    · replace hr1 := ite_t hr1 hc1
      refine WL_guard rfl rfl ?_
      refine WL_move rfl rfl ?_
      refine WL_guard rfl rfl ?_
      refine WL_len Try.underlying41 g2 rfl rfl ?_
      refine WL_guard rfl rfl ?_
      refine WL_leq rfl rfl rfl ?_
      refine WL_pick_t rfl rfl rfl ?_
      refine WL_move rfl rfl ?_
      refine WL_fork (fun hc2 => ?_) (fun hc2 => ?_)
      · replace hr1 := ite_t hr1 hc2
        refine WL_guard rfl rfl ?_
        refine WL_move rfl rfl ?_
        refine WL_guard rfl rfl ?_
        refine WL_makeFunc rfl rfl ?_
        obtain ⟨x3, hr3, hr1⟩ := bind_some hr1
        refine WL_guard rfl rfl ?_
        refine WL_call Try.call74 rfl rfl (c_Slices_ContainsFunc_Limpl_Method_impl_Method_M_AreMethods_c1 a2 u2 (g2.now hC3.keep) b1 a1 (hC3.boxAt 0 rfl (repw_slice (g1.now hC3.keep))) x3 hr3) ?_
        intro _ w4 hv2
        obtain ⟨rfl, hB4⟩ := res_bool hv2
        have hC4 := hC3.grow hB4
        refine WL_guard rfl rfl ?_
        refine WL_not rfl rfl ?_
        refine WL_pick_t rfl rfl rfl ?_
        refine WL_assign rfl rfl ?_
        refine WL_nil ?_
        have hq1 := Option.some.inj hr1
        subst hq1
        have hC5 : Ctx [] w0 _ [] := hC4.headN 0
        refine nrm_sub (l' := [(4, (.bool (!x3)))]) ⟨rfl, trivial⟩ ?_
        exact ⟨(!x3), rfl, rfl, ((Keep.of hB3).then hB4).below, hC5⟩
      · replace hr1 := ite_f hr1 hc2
        refine WL_guard_skip rfl rfl (by simp) rfl ?_
        refine WL_guard_skip rfl rfl (by simp) rfl ?_
        refine WL_guard_skip rfl rfl (by simp) rfl ?_
        refine WL_guard_skip rfl rfl (by simp) rfl ?_
        refine WL_pick_f rfl rfl rfl ?_
        refine WL_assign rfl rfl ?_
        refine WL_nil ?_
        have hq2 := Option.some.inj hr1
        subst hq2
        have hC6 : Ctx [] w0 _ [] := hC3.headN 0
        refine nrm_sub (l' := [(4, (.bool false))]) ⟨rfl, trivial⟩ ?_
        exact ⟨false, rfl, rfl, (Keep.of hB3).below, hC6⟩
    · replace hr1 := ite_f hr1 hc1
      refine WL_guard_skip rfl rfl (by simp) rfl ?_
      refine WL_guard_skip rfl rfl (by simp) rfl ?_
      refine WL_guard_skip rfl rfl (by simp) rfl ?_
      refine WL_pick_f rfl rfl rfl ?_
      refine WL_move rfl rfl ?_
      refine WL_guard_skip rfl rfl (by simp) rfl ?_
      refine WL_guard_skip rfl rfl (by simp) rfl ?_
      refine WL_guard_skip rfl rfl (by simp) rfl ?_
      refine WL_guard_skip rfl rfl (by simp) rfl ?_
      refine WL_pick_f rfl rfl rfl ?_
      refine WL_assign rfl rfl ?_
      refine WL_nil ?_
      have hq3 := Option.some.inj hr1
      subst hq3
      have hC7 : Ctx [] w0 _ [] := hC3.headN 0
      refine nrm_sub (l' := [(4, (.bool false))]) ⟨rfl, trivial⟩ ?_
      exact ⟨false, rfl, rfl, (Keep.of hB3).below, hC7⟩
  · rintro _ w2 ⟨x1, rfl, rfl, hB2, hC2⟩
    try dsimp only at hF
    refine W_ret ?_
    have hq4 := Option.some.inj hF
    subst hq4
    refine fn_ret1 rfl rfl ?_
    exact ⟨_, rfl, bool_res hC2 _⟩

theorem c_M_IsAccess {w0 : World} (a1 : (List Int)) (u1 : Value) (g1 : RO [] w0 u1 a1) (a2 : (List (Int × (List Int) × Int × Int × Int))) (u2 : Value) (g2 : RO [] w0 u2 a2) (a3 : (Int × (List Int))) (u3 : Value) (g3 : RO [] w0 u3 a3.2) (rr : Bool) (hF : M.IsAccess a1 a2 a3 = some rr) :
    Calls Try.prog 39 [u1, u2, (.agg #[(.int .i64 a3.1), u3])].toArray w0 fun e w' => ∃ v, e = .returned v ∧ Res w0 rr v w' := by
  refine calls_of_W Try.func39 rfl rfl ?_
  have hC0 := Ctx.start w0
  unfold M.IsAccess at hF
  refine W_seq_reg ?_
  refine WL_box (cs := [(.int .i64 a3.1), u3]) hC0 rfl rfl rfl (fun b1 w1 hC1 hB1 => ?_)
  refine WL_assign rfl rfl ?_
  refine WL_nil ?_
  obtain ⟨r1, hr1, hF⟩ := bind_some hF
  refine W_cut (fun l w => ∃ x1 : Bool, x1 = r1 ∧ l = [(6, (.bool x1))] ∧ Below w1.heap.size w1 w ∧ Ctx [] w0 w []) ?_ ?_
  · refine W_drawn 30 rfl hmix (fun w3 hB3 => ?_)
    have hC3 := hC1.grow hB3
    refine WA_take 0 rfl (by kernel_rfl) (by kernel_rfl) (by kernel_rfl) rfl (fl_move rfl) ?_
    refine WL_move rfl rfl ?_
    refine WL_nil ?_
    refine WA_take 1 rfl (by kernel_rfl) (by kernel_rfl) (by kernel_rfl) rfl (fl_move rfl) ?_
    refine WL_move rfl rfl ?_
    refine WL_nil ?_
    obtain ⟨x2, hr2, hr1⟩ := bind_some hr1
    refine WA_one 2 (by kernel_rfl) rfl ?_
    refine WL_call Try.call61 rfl rfl (c_M_AreMethods a1 u1 (g1.now hC3.keep) a2 u2 (g2.now hC3.keep) x2 hr2) ?_
    intro _ w4 hv1
    obtain ⟨rfl, hB4⟩ := res_bool hv1
    have hC4 := hC3.grow hB4
    refine WL_nil ?_
    refine WA_take 3 rfl (by kernel_rfl) (by kernel_rfl) (by kernel_rfl) rfl (fl_move rfl) ?_
    refine WL_move rfl rfl ?_
    refine WL_nil ?_
    refine WA_fork (fun hc1 => ?_) (fun hc1 => ?_)
    · replace hr1 := ite_t hr1 hc1
      refine WA_takeG 4 rfl (by kernel_rfl) (by kernel_rfl) (by kernel_rfl) rfl rfl rfl (fl_field Try.underlying35 rfl rfl (fun w => ⟨_, Try.sizeOf3 w⟩) rfl) ?_
      refine WL_guard rfl rfl ?_
      refine WL_field Try.underlying35 rfl rfl (fun w => ⟨_, Try.sizeOf3 w⟩) rfl rfl ?_
      refine WL_nil ?_
      refine WA_takeG 6 rfl (by kernel_rfl) (by kernel_rfl) (by kernel_rfl) rfl rfl rfl (fl_move rfl) ?_
      refine WL_guard rfl rfl ?_
      refine WL_move rfl rfl ?_
      refine WL_nil ?_
      refine WA_takeG 7 rfl (by kernel_rfl) (by kernel_rfl) (by kernel_rfl) rfl rfl rfl (fl_len Try.underlying41 g2 rfl) ?_
      refine WL_guard rfl rfl ?_
      refine WL_len Try.underlying41 g2 rfl rfl ?_
      refine WL_nil ?_
      refine WA_takeG 8 rfl (by kernel_rfl) (by kernel_rfl) (by kernel_rfl) rfl rfl rfl (fl_sub rfl rfl) ?_
      refine WL_guard rfl rfl ?_
      refine WL_sub rfl rfl rfl ?_
      refine WL_nil ?_
      refine WA_one 5 (by kernel_rfl) rfl ?_
      refine WL_guard rfl rfl ?_
      refine WL_load_box hC4 0 rfl rfl Try.isAgg3 rfl rfl ?_
      refine WL_nil ?_
      obtain ⟨x3, hr3, hr1⟩ := bind_some hr1
      refine WA_one 9 (by kernel_rfl) rfl ?_
      refine WL_guard rfl rfl ?_
      refine WL_call Try.call41 rfl rfl (c_M_within a3.1 0 (w64 ((List.length a2 : Int) - 1)) x3 hr3) ?_
      intro _ w5 hv2
      obtain ⟨rfl, hB5⟩ := res_bool hv2
      have hC5 := hC4.grow hB5
      refine WL_nil ?_
      refine WA_take 10 rfl (by kernel_rfl) (by kernel_rfl) (by kernel_rfl) rfl (fl_pick_t rfl rfl) ?_
      refine WL_pick_t rfl rfl rfl ?_
      refine WL_nil ?_
      refine WA_take 11 rfl (by kernel_rfl) (by kernel_rfl) (by kernel_rfl) rfl (fl_move rfl) ?_
      refine WL_move rfl rfl ?_
      refine WL_nil ?_
      refine WA_fork (fun hc2 => ?_) (fun hc2 => ?_)
      · replace hr1 := ite_t hr1 hc2
        refine WA_takeG 12 rfl (by kernel_rfl) (by kernel_rfl) (by kernel_rfl) rfl rfl rfl (fl_field Try.underlying35 rfl rfl (fun w => ⟨_, Try.sizeOf22 w⟩) rfl) ?_
        refine WL_guard rfl rfl ?_
        refine WL_field Try.underlying35 rfl rfl (fun w => ⟨_, Try.sizeOf22 w⟩) rfl rfl ?_
        refine WL_nil ?_
        refine WA_takeG 15 rfl (by kernel_rfl) (by kernel_rfl) (by kernel_rfl) rfl rfl rfl (fl_move rfl) ?_
        refine WL_guard rfl rfl ?_
        refine WL_move rfl rfl ?_
        refine WL_nil ?_
        refine WA_takeG 16 rfl (by kernel_rfl) (by kernel_rfl) (by kernel_rfl) rfl rfl rfl (fl_field Try.underlying35 rfl rfl (fun w => ⟨_, Try.sizeOf3 w⟩) rfl) ?_
        refine WL_guard rfl rfl ?_
        refine WL_field Try.underlying35 rfl rfl (fun w => ⟨_, Try.sizeOf3 w⟩) rfl rfl ?_
        refine WL_nil ?_
        obtain ⟨x4, hx1, hr1⟩ := bind_some hr1
        refine WA.sub (l' := [(0, u1), (1, u2), (2, (.agg #[(.int .i64 a3.1), u3])), (5, (ptr b1 0)), (6, (.bool false)), (7, u1), (8, u2), (9, (.bool x2)), (10, (.bool true)), (11, (ptr b1 0)), (12, (.int .i64 a3.1)), (13, u2), (14, (.int .i64 (List.length a2 : Int))), (15, (.int .i64 (w64 ((List.length a2 : Int) - 1)))), (16, (.bool x3)), (17, (.bool x3)), (18, (.bool true)), (19, (ptr b1 1)), (22, u2), (23, (ptr b1 0))]) ?_ ⟨rfl, rfl, rfl, rfl, rfl, rfl, rfl, rfl, rfl, rfl, rfl, rfl, rfl, rfl, rfl, rfl, rfl, rfl, rfl, rfl, trivial⟩
        refine WA_postsE [⟨13, [], fun vs => PW.val u3, []⟩, ⟨14, [], fun vs => PW.val (.int .i64 (List.length a3.2 : Int)), []⟩, ⟨17, [], fun vs => PW.val (.int .i64 a3.1), []⟩, ⟨18, [], fun vs => PW.at [] w0 x4, []⟩, ⟨19, [], fun vs => PW.at [] w0 x4.2.1, []⟩, ⟨20, [], fun vs => PW.ro [] w0 x4.2.1, []⟩, ⟨21, [], fun vs => PW.val (.int .i64 (List.length x4.2.1 : Int)), []⟩] [[], [13], [], [17], [18], [19], [20]] 8 rfl (by kernel_rfl) (by kernel_rfl) rfl ?_ ?_
        · refine StepsE_cons rfl ?_ ?_
          · intro w6 hB6
            refine DepsE_nil ?_
            refine ⟨_, rfl, ?_⟩
            refine WL_guard rfl rfl ?_
            refine WL_load_box (hC5.grow hB6) 0 rfl rfl Try.isAgg22 rfl rfl ?_
            refine WL_nil ?_
            exact FinE_val (Below.refl _ _) rfl rfl ⟨rfl, rfl⟩
          refine StepsE_cons rfl ?_ ?_
          · intro w6 hB6
            refine DepsE_cons rfl rfl rfl ?_
            rintro _ _ ⟨rfl, rfl⟩ _
            refine DepsE_nil ?_
            refine ⟨_, rfl, ?_⟩
            refine WL_guard rfl rfl ?_
            refine WL_len Try.underlying22 g3 rfl rfl ?_
            refine WL_nil ?_
            exact FinE_val (Below.refl _ _) rfl rfl ⟨rfl, rfl⟩
          refine StepsE_cons rfl ?_ ?_
          · intro w6 hB6
            refine DepsE_nil ?_
            refine ⟨_, rfl, ?_⟩
            refine WL_guard rfl rfl ?_
            refine WL_load_box (hC5.grow hB6) 0 rfl rfl Try.isAgg3 rfl rfl ?_
            refine WL_nil ?_
            exact FinE_val (Below.refl _ _) rfl rfl ⟨rfl, rfl⟩
          refine StepsE_cons rfl ?_ ?_
          · intro w6 hB6
            refine DepsE_cons rfl rfl rfl ?_
            rintro _ _ ⟨rfl, rfl⟩ _
            refine DepsE_nil ?_
            refine ⟨_, rfl, ?_⟩
            refine WL_guard rfl rfl ?_
            refine WL_index Try.underlying41 ty70 g2 hx1 rfl rfl rfl (fun b2 o1 h1 => ?_)
            refine WL_nil ?_
            exact FinE_val (Below.refl _ _) rfl rfl ⟨rfl, _, _, rfl, h1⟩
          refine StepsE_cons rfl ?_ ?_
          · intro w6 hB6
            refine DepsE_cons rfl rfl rfl ?_
            rintro _ _ ⟨rfl, b2, o1, rfl, h1⟩ _
            refine DepsE_nil ?_
            refine ⟨_, rfl, ?_⟩
            refine WL_guard rfl rfl ?_
            refine WL_field Try.underlying70 rfl rfl (fun w => ⟨_, Try.sizeOf22 w⟩) rfl rfl ?_
            refine WL_nil ?_
            exact FinE_val (Below.refl _ _) rfl rfl ⟨rfl, _, _, rfl, h1.snd.fst⟩
          refine StepsE_cons rfl ?_ ?_
          · intro w6 hB6
            refine DepsE_cons rfl rfl rfl ?_
            rintro _ _ ⟨rfl, b3, o2, rfl, h2⟩ _
            refine DepsE_nil ?_
            refine ⟨_, rfl, ?_⟩
            refine WL_guard rfl rfl ?_
            refine WL_load ty22 h2 (hC5.keep.then hB6) rfl rfl (fun v1 h3 => ?_)
            refine WL_nil ?_
            exact FinE_val (Below.refl _ _) rfl rfl ⟨rfl, h3⟩
          refine StepsE_cons rfl ?_ ?_
          · intro w6 hB6
            refine DepsE_cons rfl rfl rfl ?_
            rintro v1 _ ⟨rfl, h3⟩ _
            refine DepsE_nil ?_
            refine ⟨_, rfl, ?_⟩
            refine WL_guard rfl rfl ?_
            refine WL_len Try.underlying22 h3 rfl rfl ?_
            refine WL_nil ?_
            exact FinE_val (Below.refl _ _) rfl rfl ⟨rfl, rfl⟩
          exact StepsE_nil
        · intro w7 hB7
          refine AllE_cons rfl rfl rfl ?_
          rintro _ _ ⟨rfl, rfl⟩
          refine AllE_cons rfl rfl rfl ?_
          rintro _ _ ⟨rfl, rfl⟩
          refine AllE_cons rfl rfl rfl ?_
          rintro _ _ ⟨rfl, rfl⟩
          refine AllE_cons rfl rfl rfl ?_
          rintro _ _ ⟨rfl, b2, o1, rfl, h1⟩
          refine AllE_cons rfl rfl rfl ?_
          rintro _ _ ⟨rfl, b3, o2, rfl, h2⟩
          refine AllE_cons rfl rfl rfl ?_
          rintro v1 _ ⟨rfl, h3⟩
          refine AllE_cons rfl rfl rfl ?_
          rintro _ _ ⟨rfl, rfl⟩
          refine AllE_nil ?_
          intro hn1 hb1
          have hC6 := hC5.grow hB7
          refine WA_takeG 22 rfl (by kernel_rfl) (by kernel_rfl) (by kernel_rfl) rfl rfl rfl (fl_eql rfl rfl) ?_
          refine WL_guard rfl rfl ?_
          refine WL_eql rfl rfl rfl ?_
          refine WL_nil ?_
          refine WA_take 23 rfl (by kernel_rfl) (by kernel_rfl) (by kernel_rfl) rfl (fl_pick_t rfl rfl) ?_
          refine WL_pick_t rfl rfl rfl ?_
          refine WL_nil ?_
          refine WA_take 24 rfl (by kernel_rfl) (by kernel_rfl) (by kernel_rfl) rfl (fl_move rfl) ?_
          refine WL_move rfl rfl ?_
          refine WL_nil ?_
          refine WA_fork (fun hc3 => ?_) (fun hc3 => ?_)
          · replace hr1 := ite_t hr1 hc3
            refine WA_takeG 25 rfl (by kernel_rfl) (by kernel_rfl) (by kernel_rfl) rfl rfl rfl (fl_field Try.underlying35 rfl rfl (fun w => ⟨_, Try.sizeOf22 w⟩) rfl) ?_
            refine WL_guard rfl rfl ?_
            refine WL_field Try.underlying35 rfl rfl (fun w => ⟨_, Try.sizeOf22 w⟩) rfl rfl ?_
            refine WL_nil ?_
            refine WA_one 26 (by kernel_rfl) rfl ?_
            refine WL_guard rfl rfl ?_
            refine WL_load_box hC6 0 rfl rfl Try.isAgg22 rfl rfl ?_
            refine WL_nil ?_
            obtain ⟨x5, hr4, hr1⟩ := bind_some hr1
            refine WA_one 27 (by kernel_rfl) rfl ?_
            refine WL_guard rfl rfl ?_
            refine WL_call Try.call62 rfl rfl (c_M_areValues a3.2 u3 (g3.now hC6.keep) x5 hr4) ?_
            intro _ w8 hv3
            obtain ⟨rfl, hB8⟩ := res_bool hv3
            have hC7 := hC6.grow hB8
            refine WL_nil ?_
            refine WA_take 28 rfl (by kernel_rfl) (by kernel_rfl) (by kernel_rfl) rfl (fl_pick_t rfl rfl) ?_
            refine WL_pick_t rfl rfl rfl ?_
            refine WL_nil ?_
            refine WA_take 29 rfl (by kernel_rfl) (by kernel_rfl) (by kernel_rfl) rfl (fl_assign rfl) ?_
            refine WL_assign rfl rfl ?_
            refine WL_nil ?_
            refine WA_done (by kernel_rfl) ?_
            have hq1 := Option.some.inj hr1
            subst hq1
            have hC8 : Ctx [] w0 _ [] := hC7.headN 0
            refine nrm_sub (l' := [(6, (.bool x5))]) ⟨rfl, trivial⟩ ?_
            exact ⟨x5, rfl, rfl, (((((Keep.of hB3).then hB4).then hB5).then hB7).then hB8).below, hC8⟩
          · replace hr1 := ite_f hr1 hc3
            refine WA_skip 25 rfl (by kernel_rfl) (by kernel_rfl) (by kernel_rfl) rfl rfl rfl (by simp) rfl rfl ?_
            refine WA_skip 26 rfl (by kernel_rfl) (by kernel_rfl) (by kernel_rfl) rfl rfl rfl (by simp) rfl rfl ?_
            refine WA_skip 27 rfl (by kernel_rfl) (by kernel_rfl) (by kernel_rfl) rfl rfl rfl (by simp) rfl rfl ?_
            refine WA_take 28 rfl (by kernel_rfl) (by kernel_rfl) (by kernel_rfl) rfl (fl_pick_f rfl rfl) ?_
            refine WL_pick_f rfl rfl rfl ?_
            refine WL_nil ?_
            refine WA_take 29 rfl (by kernel_rfl) (by kernel_rfl) (by kernel_rfl) rfl (fl_assign rfl) ?_
            refine WL_assign rfl rfl ?_
            refine WL_nil ?_
            refine WA_done (by kernel_rfl) ?_
            have hq2 := Option.some.inj hr1
            subst hq2
            have hC9 : Ctx [] w0 _ [] := hC6.headN 0
            refine nrm_sub (l' := [(6, (.bool false))]) ⟨rfl, trivial⟩ ?_
            exact ⟨false, rfl, rfl, ((((Keep.of hB3).then hB4).then hB5).then hB7).below, hC9⟩
      · replace hr1 := ite_f hr1 hc2
        refine WA_skip 12 rfl (by kernel_rfl) (by kernel_rfl) (by kernel_rfl) rfl rfl rfl (by simp) rfl rfl ?_
        refine WA_skip 13 rfl (by kernel_rfl) (by kernel_rfl) (by kernel_rfl) rfl rfl rfl (by simp) rfl rfl ?_
        refine WA_skip 14 rfl (by kernel_rfl) (by kernel_rfl) (by kernel_rfl) rfl rfl rfl (by simp) rfl rfl ?_
        refine WA_skip 15 rfl (by kernel_rfl) (by kernel_rfl) (by kernel_rfl) rfl rfl rfl (by simp) rfl rfl ?_
        refine WA_skip 16 rfl (by kernel_rfl) (by kernel_rfl) (by kernel_rfl) rfl rfl rfl (by simp) rfl rfl ?_
        refine WA_skip 17 rfl (by kernel_rfl) (by kernel_rfl) (by kernel_rfl) rfl rfl rfl (by simp) rfl rfl ?_
        refine WA_skip 18 rfl (by kernel_rfl) (by kernel_rfl) (by kernel_rfl) rfl rfl rfl (by simp) rfl rfl ?_
        refine WA_skip 19 rfl (by kernel_rfl) (by kernel_rfl) (by kernel_rfl) rfl rfl rfl (by simp) rfl rfl ?_
        refine WA_skip 20 rfl (by kernel_rfl) (by kernel_rfl) (by kernel_rfl) rfl rfl rfl (by simp) rfl rfl ?_
        refine WA_skip 21 rfl (by kernel_rfl) (by kernel_rfl) (by kernel_rfl) rfl rfl rfl (by simp) rfl rfl ?_
        refine WA_skip 22 rfl (by kernel_rfl) (by kernel_rfl) (by kernel_rfl) rfl rfl rfl (by simp) rfl rfl ?_
        refine WA_take 23 rfl (by kernel_rfl) (by kernel_rfl) (by kernel_rfl) rfl (fl_pick_f rfl rfl) ?_
        refine WL_pick_f rfl rfl rfl ?_
        refine WL_nil ?_
        refine WA_take 24 rfl (by kernel_rfl) (by kernel_rfl) (by kernel_rfl) rfl (fl_move rfl) ?_
        refine WL_move rfl rfl ?_
        refine WL_nil ?_
        refine WA_skip 25 rfl (by kernel_rfl) (by kernel_rfl) (by kernel_rfl) rfl rfl rfl (by simp) rfl rfl ?_
        refine WA_skip 26 rfl (by kernel_rfl) (by kernel_rfl) (by kernel_rfl) rfl rfl rfl (by simp) rfl rfl ?_
        refine WA_skip 27 rfl (by kernel_rfl) (by kernel_rfl) (by kernel_rfl) rfl rfl rfl (by simp) rfl rfl ?_
        refine WA_take 28 rfl (by kernel_rfl) (by kernel_rfl) (by kernel_rfl) rfl (fl_pick_f rfl rfl) ?_
        refine WL_pick_f rfl rfl rfl ?_
        refine WL_nil ?_
        refine WA_take 29 rfl (by kernel_rfl) (by kernel_rfl) (by kernel_rfl) rfl (fl_assign rfl) ?_
        refine WL_assign rfl rfl ?_
        refine WL_nil ?_
        refine WA_done (by kernel_rfl) ?_
        have hq3 := Option.some.inj hr1
        subst hq3
        have hC10 : Ctx [] w0 _ [] := hC5.headN 0
        refine nrm_sub (l' := [(6, (.bool false))]) ⟨rfl, trivial⟩ ?_
        exact ⟨false, rfl, rfl, (((Keep.of hB3).then hB4).then hB5).below, hC10⟩
    · replace hr1 := ite_f hr1 hc1
      refine WA_skip 4 rfl (by kernel_rfl) (by kernel_rfl) (by kernel_rfl) rfl rfl rfl (by simp) rfl rfl ?_
      refine WA_skip 5 rfl (by kernel_rfl) (by kernel_rfl) (by kernel_rfl) rfl rfl rfl (by simp) rfl rfl ?_
      refine WA_skip 6 rfl (by kernel_rfl) (by kernel_rfl) (by kernel_rfl) rfl rfl rfl (by simp) rfl rfl ?_
      refine WA_skip 7 rfl (by kernel_rfl) (by kernel_rfl) (by kernel_rfl) rfl rfl rfl (by simp) rfl rfl ?_
      refine WA_skip 8 rfl (by kernel_rfl) (by kernel_rfl) (by kernel_rfl) rfl rfl rfl (by simp) rfl rfl ?_
      refine WA_skip 9 rfl (by kernel_rfl) (by kernel_rfl) (by kernel_rfl) rfl rfl rfl (by simp) rfl rfl ?_
      refine WA_take 10 rfl (by kernel_rfl) (by kernel_rfl) (by kernel_rfl) rfl (fl_pick_f rfl rfl) ?_
      refine WL_pick_f rfl rfl rfl ?_
      refine WL_nil ?_
      refine WA_take 11 rfl (by kernel_rfl) (by kernel_rfl) (by kernel_rfl) rfl (fl_move rfl) ?_
      refine WL_move rfl rfl ?_
      refine WL_nil ?_
      refine WA_skip 12 rfl (by kernel_rfl) (by kernel_rfl) (by kernel_rfl) rfl rfl rfl (by simp) rfl rfl ?_
      refine WA_skip 13 rfl (by kernel_rfl) (by kernel_rfl) (by kernel_rfl) rfl rfl rfl (by simp) rfl rfl ?_
      refine WA_skip 14 rfl (by kernel_rfl) (by kernel_rfl) (by kernel_rfl) rfl rfl rfl (by simp) rfl rfl ?_
      refine WA_skip 15 rfl (by kernel_rfl) (by kernel_rfl) (by kernel_rfl) rfl rfl rfl (by simp) rfl rfl ?_
      refine WA_skip 16 rfl (by kernel_rfl) (by kernel_rfl) (by kernel_rfl) rfl rfl rfl (by simp) rfl rfl ?_
      refine WA_skip 17 rfl (by kernel_rfl) (by kernel_rfl) (by kernel_rfl) rfl rfl rfl (by simp) rfl rfl ?_
      refine WA_skip 18 rfl (by kernel_rfl) (by kernel_rfl) (by kernel_rfl) rfl rfl rfl (by simp) rfl rfl ?_
      refine WA_skip 19 rfl (by kernel_rfl) (by kernel_rfl) (by kernel_rfl) rfl rfl rfl (by simp) rfl rfl ?_
      refine WA_skip 20 rfl (by kernel_rfl) (by kernel_rfl) (by kernel_rfl) rfl rfl rfl (by simp) rfl rfl ?_
      refine WA_skip 21 rfl (by kernel_rfl) (by kernel_rfl) (by kernel_rfl) rfl rfl rfl (by simp) rfl rfl ?_
      refine WA_skip 22 rfl (by kernel_rfl) (by kernel_rfl) (by kernel_rfl) rfl rfl rfl (by simp) rfl rfl ?_
      refine WA_take 23 rfl (by kernel_rfl) (by kernel_rfl) (by kernel_rfl) rfl (fl_pick_f rfl rfl) ?_
      refine WL_pick_f rfl rfl rfl ?_
      refine WL_nil ?_
      refine WA_take 24 rfl (by kernel_rfl) (by kernel_rfl) (by kernel_rfl) rfl (fl_move rfl) ?_
      refine WL_move rfl rfl ?_
      refine WL_nil ?_
      refine WA_skip 25 rfl (by kernel_rfl) (by kernel_rfl) (by kernel_rfl) rfl rfl rfl (by simp) rfl rfl ?_
      refine WA_skip 26 rfl (by kernel_rfl) (by kernel_rfl) (by kernel_rfl) rfl rfl rfl (by simp) rfl rfl ?_
      refine WA_skip 27 rfl (by kernel_rfl) (by kernel_rfl) (by kernel_rfl) rfl rfl rfl (by simp) rfl rfl ?_
      refine WA_take 28 rfl (by kernel_rfl) (by kernel_rfl) (by kernel_rfl) rfl (fl_pick_f rfl rfl) ?_
      refine WL_pick_f rfl rfl rfl ?_
      refine WL_nil ?_
      refine WA_take 29 rfl (by kernel_rfl) (by kernel_rfl) (by kernel_rfl) rfl (fl_assign rfl) ?_
      refine WL_assign rfl rfl ?_
      refine WL_nil ?_
      refine WA_done (by kernel_rfl) ?_
      have hq4 := Option.some.inj hr1
      subst hq4
      have hC11 : Ctx [] w0 _ [] := hC4.headN 0
      refine nrm_sub (l' := [(6, (.bool false))]) ⟨rfl, trivial⟩ ?_
      exact ⟨false, rfl, rfl, ((Keep.of hB3).then hB4).below, hC11⟩
  · rintro _ w2 ⟨x1, rfl, rfl, hB2, hC2⟩
    try dsimp only at hF
    refine W_ret ?_
    have hq5 := Option.some.inj hF
    subst hq5
    refine fn_ret1 rfl rfl ?_
    exact ⟨_, rfl, bool_res hC2 _⟩

theorem c_M_isPage {w0 : World} (a1 : Int) (rr : Bool) (hF : M.isPage a1 = some rr) :
    Calls Try.prog 40 [(.int .i64 a1)].toArray w0 fun e w' => ∃ v, e = .returned v ∧ Res w0 rr v w' := by
  refine calls_of_W Try.func40 rfl rfl ?_
  have hC0 := Ctx.start w0
  unfold M.isPage at hF
  refine W_seq_reg ?_
  refine WL_assign rfl rfl ?_
  refine WL_nil ?_
  refine W_seq_reg ?_
  refine WL_move rfl rfl ?_
  obtain ⟨x1, hr1, hF⟩ := bind_some hF
  refine WL_call Try.call41 rfl rfl (c_M_within a1 1 9 x1 hr1) ?_
  intro _ w1 hv1
  obtain ⟨rfl, hB1⟩ := res_bool hv1
  have hC1 := hC0.grow hB1
  refine WL_assign rfl rfl ?_
  refine WL_nil ?_
  refine W_ret ?_
  have hq1 := Option.some.inj hF
  subst hq1
  refine fn_ret1 rfl rfl ?_
  exact ⟨_, rfl, bool_res hC1 _⟩

end Go.Gx.Px
