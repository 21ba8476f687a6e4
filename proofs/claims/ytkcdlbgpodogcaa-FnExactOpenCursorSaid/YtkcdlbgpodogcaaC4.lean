/- The contracts of the Go functions against the pure functions, printed by program. Conditions: each says them. -/
import Derived.Test.YtkcdlbgpodogcaaC3
set_option linter.unusedVariables false
set_option linter.unusedSimpArgs false
set_option maxRecDepth 100000
set_option maxHeartbeats 4000000
namespace Go.Gx.Px
open Go.Proofs Go.RowKit

theorem c_M_FitsSelf {w0 : World} (a1 : (List Int)) (u1 : Value) (g1 : RO [] w0 u1 a1) (a2 : (List (Int × (List Int) × Int × Int × Int))) (u2 : Value) (g2 : RO [] w0 u2 a2) (a3 : ((Int × (List Int)) × (List (Int × (List Int))))) (u3 : Value) (g3 : RO [] w0 u3 a3.1.2) (u4 : Value) (g4 : RO [] w0 u4 a3.2) (rr : Bool) (hF : M.FitsSelf a1 a2 a3 = some rr) :
    Calls Try.prog 18 [u1, u2, (.agg #[(.int .i64 a3.1.1), u3, u4])].toArray w0 fun e w' => ∃ v, e = .returned v ∧ Res w0 rr v w' := by
  refine calls_of_W Try.func18 rfl rfl ?_
  have hC0 := Ctx.start w0
  unfold M.FitsSelf at hF
  refine W_seq_reg ?_
  refine WL_box (cs := [(.int .i64 a3.1.1), u3, u4]) hC0 rfl rfl rfl (fun b1 w1 hC1 hB1 => ?_)
  refine WL_assign rfl rfl ?_
  refine WL_nil ?_
  refine W_seq ?_
  refine W_seq_reg ?_
  refine WL_move rfl rfl ?_
  refine WL_move rfl rfl ?_
  refine WL_load_box_agg [(.int .i64 a3.1.1), u3, u4] hC1 0 rfl rfl rfl Try.isAgg38 Try.sizeOf38 rfl rfl ?_
  obtain ⟨x1, hr1, hF⟩ := bind_some hF
  refine WL_call Try.call73 rfl rfl (c_M_IsTold a1 u1 (g1.now hC1.keep) a2 u2 (g2.now hC1.keep) ((a3.1.1, a3.1.2), a3.2) u3 (g3.now hC1.keep) u4 (g4.now hC1.keep) x1 hr1) ?_
  intro _ w2 hv1
  obtain ⟨rfl, hB2⟩ := res_bool hv1
  have hC2 := hC1.grow hB2
  refine WL_not rfl rfl ?_
  refine WL_nil ?_
  refine W_cond rfl (fun hc1 => ?_) (fun hc1 => ?_)
  · replace hF := ite_t hF hc1
    refine W_seq_reg ?_
    refine WL_assign rfl rfl ?_
    refine WL_nil ?_
    refine W_ret ?_
    refine nrm_ret ?_
    have hq1 := Option.some.inj hF
    subst hq1
    refine fn_ret1 rfl rfl ?_
    exact ⟨_, rfl, bool_res hC2 _⟩
  · replace hF := ite_f hF hc1
    refine W_skip ?_
    refine nrm_normal ?_
    refine W_seq_reg ?_
    refine WL_move rfl rfl ?_
    refine WL_field Try.underlying38 rfl rfl (fun w => ⟨_, Try.sizeOf35 w⟩) rfl rfl ?_
    refine WL_field Try.underlying35 rfl rfl (fun w => ⟨_, Try.sizeOf3 w⟩) rfl rfl ?_
    refine WL_load_box hC2 0 rfl rfl Try.isAgg3 rfl rfl ?_
    obtain ⟨x2, hx1, hF⟩ := bind_some hF
    refine WL_index Try.underlying33 ty110 g2 hx1 rfl rfl rfl (fun b2 o1 h1 => ?_)
    refine WL_field Try.underlying110 rfl rfl (fun w => ⟨_, Try.sizeOf3 w⟩) rfl rfl ?_
    refine WL_load ty3 h1.snd.snd.fst hC2.keep rfl rfl (fun v1 h2 => ?_)
    obtain rfl := ro_int h2
    refine WL_assign rfl rfl ?_
    refine WL_nil ?_
    obtain ⟨r1, hr2, hF⟩ := bind_some hF
    refine W_cut (fun l w => ∃ x3 : Bool, x3 = r1 ∧ l = [(6, (.bool x3))] ∧ Below w2.heap.size w2 w ∧ Ctx [] w0 w []) ?_ ?_
    · refine W_drawn 23 rfl hmix (fun w4 hB4 => ?_)
      have hC4 := hC2.grow hB4
      refine WA_take 0 rfl (by kernel_rfl) (by kernel_rfl) (by kernel_rfl) rfl (fl_move rfl) ?_
      refine WL_move rfl rfl ?_
      refine WL_nil ?_
      refine WA_take 1 rfl (by kernel_rfl) (by kernel_rfl) (by kernel_rfl) rfl (fl_field Try.underlying38 rfl rfl (fun w => ⟨_, Try.sizeOf36 w⟩) rfl) ?_
      refine WL_field Try.underlying38 rfl rfl (fun w => ⟨_, Try.sizeOf36 w⟩) rfl rfl ?_
      refine WL_nil ?_
      refine WA_take 3 rfl (by kernel_rfl) (by kernel_rfl) (by kernel_rfl) rfl (fl_field Try.underlying38 rfl rfl (fun w => ⟨_, Try.sizeOf35 w⟩) rfl) ?_
      refine WL_field Try.underlying38 rfl rfl (fun w => ⟨_, Try.sizeOf35 w⟩) rfl rfl ?_
      refine WL_nil ?_
      refine WA_take 7 rfl (by kernel_rfl) (by kernel_rfl) (by kernel_rfl) rfl (fl_field Try.underlying38 rfl rfl (fun w => ⟨_, Try.sizeOf36 w⟩) rfl) ?_
      refine WL_field Try.underlying38 rfl rfl (fun w => ⟨_, Try.sizeOf36 w⟩) rfl rfl ?_
      refine WL_nil ?_
      obtain ⟨x4, hr3, hr2⟩ := bind_some hr2
      refine WA.sub (l' := [(0, u1), (1, u2), (2, (.agg #[(.int .i64 a3.1.1), u3, u4])), (5, (ptr b1 0)), (6, (.bool false)), (7, (.int .i64 x2.2.2.1)), (8, u1), (9, u2), (10, (.agg #[(.int .i64 a3.1.1), u3, u4])), (11, (.bool x1)), (12, (.bool (!x1))), (13, u2), (14, (ptr b1 0)), (15, (ptr b1 0)), (16, (.int .i64 a3.1.1)), (17, (ptr b2 o1)), (18, (ptr b2 (o1 + 2))), (19, (.int .i64 x2.2.2.1)), (20, u2), (21, (ptr b1 2)), (23, (ptr b1 0)), (27, (ptr b1 2))]) ?_ ⟨rfl, rfl, rfl, rfl, rfl, rfl, rfl, rfl, rfl, rfl, rfl, rfl, rfl, rfl, rfl, rfl, rfl, rfl, rfl, rfl, rfl, rfl, trivial⟩
      refine WA_postsE [⟨2, [], fun vs => PW.val u4, []⟩, ⟨4, [], fun vs => PW.val (.agg #[(.int .i64 a3.1.1), u3]), []⟩, ⟨5, [], fun vs => PW.own x4, []⟩, ⟨6, [], fun vs => PW.val (.int .i64 (List.length x4 : Int)), []⟩, ⟨8, [], fun vs => PW.val u4, []⟩, ⟨9, [], fun vs => PW.val (.int .i64 (List.length a3.2 : Int)), []⟩] [[], [], [2, 4], [5], [], [8]] 13 rfl (by kernel_rfl) (by kernel_rfl) rfl ?_ ?_
      · refine StepsE_cons rfl ?_ ?_
        · intro w6 hB6
          refine DepsE_nil ?_
          refine ⟨_, rfl, ?_⟩
          refine WL_load_box (hC4.grow hB6) 0 rfl rfl Try.isAgg36 rfl rfl ?_
          refine WL_nil ?_
          exact FinE_val (Below.refl _ _) rfl rfl ⟨rfl, rfl⟩
        refine StepsE_cons rfl ?_ ?_
        · intro w6 hB6
          refine DepsE_nil ?_
          refine ⟨_, rfl, ?_⟩
          refine WL_load_box_agg [(.int .i64 a3.1.1), u3] (hC4.grow hB6) 0 rfl rfl rfl Try.isAgg35 Try.sizeOf35 rfl rfl ?_
          refine WL_nil ?_
          exact FinE_val (Below.refl _ _) rfl rfl ⟨rfl, rfl⟩
        refine StepsE_cons rfl ?_ ?_
        · intro w6 hB6
          refine DepsE_cons rfl rfl rfl ?_
          rintro _ _ ⟨rfl, rfl⟩ _
          refine DepsE_cons rfl rfl rfl ?_
          rintro _ _ ⟨rfl, rfl⟩ _
          refine DepsE_nil ?_
          refine ⟨_, rfl, ?_⟩
          refine WL_call Try.call74 rfl rfl (c_M_matches a2 u2 (g2.now (hC4.keep.then hB6)) a3.2 u4 (g4.now (hC4.keep.then hB6)) (a3.1.1, a3.1.2) u3 (g3.now (hC4.keep.then hB6)) x4 hr3) ?_
          rintro v2 w5 ⟨hB5, F1, hv2, hn1, hb1⟩
          refine WL_nil ?_
          exact FinE_own hB5 rfl rfl hv2 hn1 hb1 (Val.inh hv2)
        refine StepsE_cons rfl ?_ ?_
        · intro w6 hB6
          refine DepsE_cons rfl rfl rfl ?_
          intro v2 F1 hv2 _
          refine DepsE_nil ?_
          refine ⟨_, rfl, ?_⟩
          refine WL_len Try.underlying36 (ro_of_own hv2) rfl rfl ?_
          refine WL_nil ?_
          exact FinE_val (Below.refl _ _) rfl rfl ⟨rfl, rfl⟩
        refine StepsE_cons rfl ?_ ?_
        · intro w6 hB6
          refine DepsE_nil ?_
          refine ⟨_, rfl, ?_⟩
          refine WL_load_box (hC4.grow hB6) 0 rfl rfl Try.isAgg36 rfl rfl ?_
          refine WL_nil ?_
          exact FinE_val (Below.refl _ _) rfl rfl ⟨rfl, rfl⟩
        refine StepsE_cons rfl ?_ ?_
        · intro w6 hB6
          refine DepsE_cons rfl rfl rfl ?_
          rintro _ _ ⟨rfl, rfl⟩ _
          refine DepsE_nil ?_
          refine ⟨_, rfl, ?_⟩
          refine WL_len Try.underlying36 g4 rfl rfl ?_
          refine WL_nil ?_
          exact FinE_val (Below.refl _ _) rfl rfl ⟨rfl, rfl⟩
        exact StepsE_nil
      · intro w7 hB7
        refine AllE_cons rfl rfl rfl ?_
        rintro _ _ ⟨rfl, rfl⟩
        refine AllE_cons rfl rfl rfl ?_
        rintro _ _ ⟨rfl, rfl⟩
        refine AllE_cons rfl rfl rfl ?_
        intro v2 F1 hv2
        refine AllE_cons rfl rfl rfl ?_
        rintro _ _ ⟨rfl, rfl⟩
        refine AllE_cons rfl rfl rfl ?_
        rintro _ _ ⟨rfl, rfl⟩
        refine AllE_cons rfl rfl rfl ?_
        rintro _ _ ⟨rfl, rfl⟩
        refine AllE_nil ?_
        intro hn2 hb2
        have hC5 := hC4.pushL hB7 (Bs := [Item.own v2 (x4 : (List (Int × (List Int))))]) (Fs := [F1]) ⟨F1, _, rfl, hv2, rfl⟩ (by simpa using hn2) (fun b h => (hb2 b (by simpa using h)).1)
        refine WA_take 10 rfl (by kernel_rfl) (by kernel_rfl) (by kernel_rfl) rfl (fl_eql rfl rfl) ?_
        refine WL_eql rfl rfl rfl ?_
        refine WL_nil ?_
        refine WA_take 11 rfl (by kernel_rfl) (by kernel_rfl) (by kernel_rfl) rfl (fl_move rfl) ?_
        refine WL_move rfl rfl ?_
        refine WL_nil ?_
        refine WA_fork (fun hc2 => ?_) (fun hc2 => ?_)
        · replace hr2 := ite_t hr2 hc2
          refine WA_takeG 12 rfl (by kernel_rfl) (by kernel_rfl) (by kernel_rfl) rfl rfl rfl (fl_move rfl) ?_
          refine WL_guard rfl rfl ?_
          refine WL_move rfl rfl ?_
          refine WL_nil ?_
          refine WA_takeG 13 rfl (by kernel_rfl) (by kernel_rfl) (by kernel_rfl) rfl rfl rfl (fl_eql rfl rfl) ?_
          refine WL_guard rfl rfl ?_
          refine WL_eql rfl rfl rfl ?_
          refine WL_nil ?_
          refine WA_takeG 14 rfl (by kernel_rfl) (by kernel_rfl) (by kernel_rfl) rfl rfl rfl (fl_move rfl) ?_
          refine WL_guard rfl rfl ?_
          refine WL_move rfl rfl ?_
          refine WL_nil ?_
          refine WA_fork (fun hc3 => ?_) (fun hc3 => ?_)
          · replace hr2 := ite_t hr2 hc3
            refine WA_skip 15 rfl (by kernel_rfl) (by kernel_rfl) (by kernel_rfl) rfl rfl rfl (by simp) rfl rfl ?_
            refine WA_skip 16 rfl (by kernel_rfl) (by kernel_rfl) (by kernel_rfl) rfl rfl rfl (by simp) rfl rfl ?_
            refine WA_skip 17 rfl (by kernel_rfl) (by kernel_rfl) (by kernel_rfl) rfl rfl rfl (by simp) rfl rfl ?_
            refine WA_skip 18 rfl (by kernel_rfl) (by kernel_rfl) (by kernel_rfl) rfl rfl rfl (by simp) rfl rfl ?_
            refine WA_skip 19 rfl (by kernel_rfl) (by kernel_rfl) (by kernel_rfl) rfl rfl rfl (by simp) rfl rfl ?_
            refine WA_takeG 20 rfl (by kernel_rfl) (by kernel_rfl) (by kernel_rfl) rfl rfl rfl (fl_pick_t rfl rfl) ?_
            refine WL_guard rfl rfl ?_
            refine WL_pick_t rfl rfl rfl ?_
            refine WL_nil ?_
            refine WA_take 21 rfl (by kernel_rfl) (by kernel_rfl) (by kernel_rfl) rfl (fl_pick_t rfl rfl) ?_
            refine WL_pick_t rfl rfl rfl ?_
            refine WL_nil ?_
            refine WA_take 22 rfl (by kernel_rfl) (by kernel_rfl) (by kernel_rfl) rfl (fl_assign rfl) ?_
            refine WL_assign rfl rfl ?_
            refine WL_nil ?_
            refine WA_done (by kernel_rfl) ?_
            have hq2 := Option.some.inj hr2
            subst hq2
            have hC6 : Ctx [] w0 _ [] := hC5.headN 0
            refine nrm_sub (l' := [(6, (.bool true))]) ⟨rfl, trivial⟩ ?_
            exact ⟨true, rfl, rfl, ((Keep.of hB4).then hB7).below, hC6⟩
          · replace hr2 := ite_f hr2 hc3
            refine WA_takeG 15 rfl (by kernel_rfl) (by kernel_rfl) (by kernel_rfl) rfl rfl rfl (fl_field Try.underlying38 rfl rfl (fun w => ⟨_, Try.sizeOf36 w⟩) rfl) ?_
            refine WL_guard rfl rfl ?_
            refine WL_field Try.underlying38 rfl rfl (fun w => ⟨_, Try.sizeOf36 w⟩) rfl rfl ?_
            refine WL_nil ?_
            refine WA_takeG 18 rfl (by kernel_rfl) (by kernel_rfl) (by kernel_rfl) rfl rfl rfl (fl_move rfl) ?_
            refine WL_guard rfl rfl ?_
            refine WL_move rfl rfl ?_
            refine WL_nil ?_
            refine WA_one 16 (by kernel_rfl) rfl ?_
            refine WL_guard rfl rfl ?_
            refine WL_load_box hC5 1 rfl rfl Try.isAgg36 rfl rfl ?_
            refine WL_nil ?_
            refine WA_takeG 17 rfl (by kernel_rfl) (by kernel_rfl) (by kernel_rfl) rfl rfl rfl (fl_len Try.underlying36 g4 rfl) ?_
            refine WL_guard rfl rfl ?_
            refine WL_len Try.underlying36 g4 rfl rfl ?_
            refine WL_nil ?_
            refine WA_takeG 19 rfl (by kernel_rfl) (by kernel_rfl) (by kernel_rfl) rfl rfl rfl (fl_leq rfl rfl) ?_
            refine WL_guard rfl rfl ?_
            refine WL_leq rfl rfl rfl ?_
            refine WL_nil ?_
            refine WA_takeG 20 rfl (by kernel_rfl) (by kernel_rfl) (by kernel_rfl) rfl rfl rfl (fl_pick_f rfl rfl) ?_
            refine WL_guard rfl rfl ?_
            refine WL_pick_f rfl rfl rfl ?_
            refine WL_nil ?_
            refine WA_take 21 rfl (by kernel_rfl) (by kernel_rfl) (by kernel_rfl) rfl (fl_pick_t rfl rfl) ?_
            refine WL_pick_t rfl rfl rfl ?_
            refine WL_nil ?_
            refine WA_take 22 rfl (by kernel_rfl) (by kernel_rfl) (by kernel_rfl) rfl (fl_assign rfl) ?_
            refine WL_assign rfl rfl ?_
            refine WL_nil ?_
            refine WA_done (by kernel_rfl) ?_
            have hq3 := Option.some.inj hr2
            subst hq3
            have hC7 : Ctx [] w0 _ [] := hC5.headN 0
            refine nrm_sub (l' := [(6, (.bool (decide ((List.length a3.2 : Int) ≤ x2.2.2.1))))]) ⟨rfl, trivial⟩ ?_
            exact ⟨(decide ((List.length a3.2 : Int) ≤ x2.2.2.1)), rfl, rfl, ((Keep.of hB4).then hB7).below, hC7⟩
        · replace hr2 := ite_f hr2 hc2
          refine WA_skip 12 rfl (by kernel_rfl) (by kernel_rfl) (by kernel_rfl) rfl rfl rfl (by simp) rfl rfl ?_
          refine WA_skip 13 rfl (by kernel_rfl) (by kernel_rfl) (by kernel_rfl) rfl rfl rfl (by simp) rfl rfl ?_
          refine WA_skip 14 rfl (by kernel_rfl) (by kernel_rfl) (by kernel_rfl) rfl rfl rfl (by simp) rfl rfl ?_
          refine WA_skip 15 rfl (by kernel_rfl) (by kernel_rfl) (by kernel_rfl) rfl rfl rfl (by simp [undef]) rfl rfl ?_
          refine WA_skip 16 rfl (by kernel_rfl) (by kernel_rfl) (by kernel_rfl) rfl rfl rfl (by simp [undef]) rfl rfl ?_
          refine WA_skip 17 rfl (by kernel_rfl) (by kernel_rfl) (by kernel_rfl) rfl rfl rfl (by simp [undef]) rfl rfl ?_
          refine WA_skip 18 rfl (by kernel_rfl) (by kernel_rfl) (by kernel_rfl) rfl rfl rfl (by simp [undef]) rfl rfl ?_
          refine WA_skip 19 rfl (by kernel_rfl) (by kernel_rfl) (by kernel_rfl) rfl rfl rfl (by simp [undef]) rfl rfl ?_
          refine WA_skip 20 rfl (by kernel_rfl) (by kernel_rfl) (by kernel_rfl) rfl rfl rfl (by simp) rfl rfl ?_
          refine WA_take 21 rfl (by kernel_rfl) (by kernel_rfl) (by kernel_rfl) rfl (fl_pick_f rfl rfl) ?_
          refine WL_pick_f rfl rfl rfl ?_
          refine WL_nil ?_
          refine WA_take 22 rfl (by kernel_rfl) (by kernel_rfl) (by kernel_rfl) rfl (fl_assign rfl) ?_
          refine WL_assign rfl rfl ?_
          refine WL_nil ?_
          refine WA_done (by kernel_rfl) ?_
          have hq4 := Option.some.inj hr2
          subst hq4
          have hC8 : Ctx [] w0 _ [] := hC5.headN 0
          refine nrm_sub (l' := [(6, (.bool false))]) ⟨rfl, trivial⟩ ?_
          exact ⟨false, rfl, rfl, ((Keep.of hB4).then hB7).below, hC8⟩
    · rintro _ w3 ⟨x3, rfl, rfl, hB3, hC3⟩
      try dsimp only at hF
      refine W_ret ?_
      have hq5 := Option.some.inj hF
      subst hq5
      refine fn_ret1 rfl rfl ?_
      exact ⟨_, rfl, bool_res hC3 _⟩

theorem c_Q_eqTold {w0 : World} (a1 : ((Int × (List Int)) × (List (Int × (List Int))))) (u1 : Value) (g1 : RO [] w0 u1 a1.1.2) (u2 : Value) (g2 : RO [] w0 u2 a1.2) (a2 : ((Int × (List Int)) × (List (Int × (List Int))))) (u3 : Value) (g3 : RO [] w0 u3 a2.1.2) (u4 : Value) (g4 : RO [] w0 u4 a2.2) (rr : Bool) (hF : Q.eqTold a1 a2 = some rr) :
    Calls Try.prog 21 [(.agg #[(.int .i64 a1.1.1), u1, u2]), (.agg #[(.int .i64 a2.1.1), u3, u4])].toArray w0 fun e w' => ∃ v, e = .returned v ∧ Res w0 rr v w' := by
  refine calls_of_W Try.func21 rfl rfl ?_
  have hC0 := Ctx.start w0
  unfold Q.eqTold at hF
  refine W_seq_reg ?_
  refine WL_box (cs := [(.int .i64 a1.1.1), u1, u2]) hC0 rfl rfl rfl (fun b1 w1 hC1 hB1 => ?_)
  refine WL_box (cs := [(.int .i64 a2.1.1), u3, u4]) hC1 rfl rfl rfl (fun b2 w2 hC2 hB2 => ?_)
  refine WL_assign rfl rfl ?_
  refine WL_nil ?_
  refine W_seq ?_
  refine W_seq_reg ?_
  refine WL_field Try.underlying38 rfl rfl (fun w => ⟨_, Try.sizeOf35 w⟩) rfl rfl ?_
  refine WL_load_box_agg [(.int .i64 a1.1.1), u1] hC2 1 rfl rfl rfl Try.isAgg35 Try.sizeOf35 rfl rfl ?_
  refine WL_field Try.underlying38 rfl rfl (fun w => ⟨_, Try.sizeOf35 w⟩) rfl rfl ?_
  refine WL_load_box_agg [(.int .i64 a2.1.1), u3] hC2 0 rfl rfl rfl Try.isAgg35 Try.sizeOf35 rfl rfl ?_
  obtain ⟨x1, hr1, hF⟩ := bind_some hF
  refine WL_call Try.call64 rfl rfl (c_Q_eqAccess (a1.1.1, a1.1.2) u1 (g1.now hC2.keep) (a2.1.1, a2.1.2) u3 (g3.now hC2.keep) x1 hr1) ?_
  intro _ w3 hv1
  obtain ⟨rfl, hB3⟩ := res_bool hv1
  have hC3 := hC2.grow hB3
  refine WL_not rfl rfl ?_
  refine WL_nil ?_
  refine W_cond rfl (fun hc1 => ?_) (fun hc1 => ?_)
  · replace hF := ite_t hF hc1
    refine W_seq_reg ?_
    refine WL_assign rfl rfl ?_
    refine WL_nil ?_
    refine W_ret ?_
    refine nrm_ret ?_
    have hq1 := Option.some.inj hF
    subst hq1
    refine fn_ret1 rfl rfl ?_
    exact ⟨_, rfl, bool_res hC3 _⟩
  · replace hF := ite_f hF hc1
    refine W_skip ?_
    refine nrm_normal ?_
    refine W_seq ?_
    refine W_seq_reg ?_
    refine WL_field Try.underlying38 rfl rfl (fun w => ⟨_, Try.sizeOf36 w⟩) rfl rfl ?_
    refine WL_load_box hC3 1 rfl rfl Try.isAgg36 rfl rfl ?_
    refine WL_field Try.underlying38 rfl rfl (fun w => ⟨_, Try.sizeOf36 w⟩) rfl rfl ?_
    refine WL_load_box hC3 0 rfl rfl Try.isAgg36 rfl rfl ?_
    obtain ⟨x2, hr2, hF⟩ := bind_some hF
    refine WL_call Try.call26 rfl rfl (c_Q_eqFactS a1.2 u2 (g2.now hC3.keep) a2.2 u4 (g4.now hC3.keep) x2 hr2) ?_
    intro _ w4 hv2
    obtain ⟨rfl, hB4⟩ := res_bool hv2
    have hC4 := hC3.grow hB4
    refine WL_not rfl rfl ?_
    refine WL_nil ?_
    refine W_cond rfl (fun hc2 => ?_) (fun hc2 => ?_)
    · replace hF := ite_t hF hc2
      refine W_seq_reg ?_
      refine WL_assign rfl rfl ?_
      refine WL_nil ?_
      refine W_ret ?_
      refine nrm_ret ?_
      have hq2 := Option.some.inj hF
      subst hq2
      refine fn_ret1 rfl rfl ?_
      exact ⟨_, rfl, bool_res hC4 _⟩
    · replace hF := ite_f hF hc2
      refine W_skip ?_
      refine nrm_normal ?_
      refine W_seq_reg ?_
      refine WL_assign rfl rfl ?_
      refine WL_nil ?_
      refine W_ret ?_
      have hq3 := Option.some.inj hF
      subst hq3
      refine fn_ret1 rfl rfl ?_
      exact ⟨_, rfl, bool_res hC4 _⟩

theorem c_Q_FnExactFitsSelf {w0 : World} (a1 : (List Int)) (u1 : Value) (g1 : RO [] w0 u1 a1) (a2 : (List (Int × (List Int) × Int × Int × Int))) (u2 : Value) (g2 : RO [] w0 u2 a2) (a3 : ((Int × (List Int)) × (List (Int × (List Int))))) (u3 : Value) (g3 : RO [] w0 u3 a3.1.2) (u4 : Value) (g4 : RO [] w0 u4 a3.2) (rr : Bool) (hF : Q.FnExactFitsSelf a1 a2 a3 = some rr) :
    Calls Try.prog 3 [u1, u2, (.agg #[(.int .i64 a3.1.1), u3, u4])].toArray w0 fun e w' => ∃ v, e = .returned v ∧ Res w0 rr v w' := by
  refine calls_of_W Try.func3 rfl rfl ?_
  have hC0 := Ctx.start w0
  unfold Q.FnExactFitsSelf at hF
  refine W_seq_reg ?_
  refine WL_box (cs := [(.int .i64 a3.1.1), u3, u4]) hC0 rfl rfl rfl (fun b1 w1 hC1 hB1 => ?_)
  refine WL_assign rfl rfl ?_
  refine WL_nil ?_
  refine W_seq ?_
  refine W_seq_reg ?_
  refine WL_move rfl rfl ?_
  refine WL_len Try.underlying22 g1 rfl rfl ?_
  refine WL_gtr rfl rfl rfl ?_
  refine WL_nil ?_
  refine W_cond rfl (fun hc1 => ?_) (fun hc1 => ?_)
  · replace hF := ite_t hF hc1
    refine W_seq_reg ?_
    refine WL_assign rfl rfl ?_
    refine WL_nil ?_
    refine W_ret ?_
    refine nrm_ret ?_
    have hq1 := Option.some.inj hF
    subst hq1
    refine fn_ret1 rfl rfl ?_
    exact ⟨_, rfl, bool_res hC1 _⟩
  · replace hF := ite_f hF hc1
    refine W_skip ?_
    refine nrm_normal ?_
    refine W_seq_reg ?_
    refine WL_assign rfl rfl ?_
    refine WL_nil ?_
    refine W_seq_reg ?_
    refine WL_move rfl rfl ?_
    refine WL_move rfl rfl ?_
    obtain ⟨x1, hr1, hF⟩ := bind_some hF
    refine WL_call Try.call12 rfl rfl (c_Q_szMethodS a2 u2 (g2.now hC1.keep) 1048576 x1 hr1) ?_
    intro _ w2 hv1
    obtain ⟨rfl, hB2⟩ := res_int hv1
    have hC2 := hC1.grow hB2
    refine WL_assign rfl rfl ?_
    refine WL_nil ?_
    refine W_seq ?_
    refine W_seq_reg ?_
    refine WL_move rfl rfl ?_
    refine WL_lss rfl rfl rfl ?_
    refine WL_nil ?_
    refine W_cond rfl (fun hc2 => ?_) (fun hc2 => ?_)
    · replace hF := ite_t hF hc2
      refine W_seq_reg ?_
      refine WL_assign rfl rfl ?_
      refine WL_nil ?_
      refine W_ret ?_
      refine nrm_ret ?_
      have hq2 := Option.some.inj hF
      subst hq2
      refine fn_ret1 rfl rfl ?_
      exact ⟨_, rfl, bool_res hC2 _⟩
    · replace hF := ite_f hF hc2
      refine W_skip ?_
      refine nrm_normal ?_
      refine W_seq_reg ?_
      refine WL_load_box_agg [(.int .i64 a3.1.1), u3, u4] hC2 0 rfl rfl rfl Try.isAgg28 Try.sizeOf28 rfl rfl ?_
      refine WL_move rfl rfl ?_
      obtain ⟨x2, hr2, hF⟩ := bind_some hF
      refine WL_call Try.call13 rfl rfl (c_Q_szTold ((a3.1.1, a3.1.2), a3.2) u3 (g3.now hC2.keep) u4 (g4.now hC2.keep) x1 x2 hr2) ?_
      intro _ w3 hv2
      obtain ⟨rfl, hB3⟩ := res_int hv2
      have hC3 := hC2.grow hB3
      refine WL_assign rfl rfl ?_
      refine WL_nil ?_
      refine W_seq ?_
      refine W_seq_reg ?_
      refine WL_move rfl rfl ?_
      refine WL_lss rfl rfl rfl ?_
      refine WL_nil ?_
      refine W_cond rfl (fun hc3 => ?_) (fun hc3 => ?_)
      · replace hF := ite_t hF hc3
        refine W_seq_reg ?_
        refine WL_assign rfl rfl ?_
        refine WL_nil ?_
        refine W_ret ?_
        refine nrm_ret ?_
        have hq3 := Option.some.inj hF
        subst hq3
        refine fn_ret1 rfl rfl ?_
        exact ⟨_, rfl, bool_res hC3 _⟩
      · replace hF := ite_f hF hc3
        refine W_skip ?_
        refine nrm_normal ?_
        refine W_seq ?_
        refine W_drawn 8 rfl hmix (fun w4 hB4 => ?_)
        have hC4 := hC3.grow hB4
        refine WA_take 0 rfl (by kernel_rfl) (by kernel_rfl) (by kernel_rfl) rfl (fl_move rfl) ?_
        refine WL_move rfl rfl ?_
        refine WL_nil ?_
        refine WA_take 2 rfl (by kernel_rfl) (by kernel_rfl) (by kernel_rfl) rfl (fl_move rfl) ?_
        refine WL_move rfl rfl ?_
        refine WL_nil ?_
        obtain ⟨x3, hr3, hF⟩ := bind_some hF
        obtain ⟨x4, hr4, hF⟩ := bind_some hF
        refine WA.sub (l' := [(0, u1), (1, u2), (2, (.agg #[(.int .i64 a3.1.1), u3, u4])), (5, (ptr b1 0)), (6, (.bool false)), (7, (.int .i64 x2)), (13, u1), (14, (.int .i64 (List.length a1 : Int))), (15, (.bool (decide (1048576 < (List.length a1 : Int))))), (16, u2), (17, (.int .i64 1048576)), (18, (.int .i64 x1)), (19, (.int .i64 x1)), (20, (.bool (decide (x1 < 0)))), (21, (.agg #[(.int .i64 a3.1.1), u3, u4])), (22, (.int .i64 x1)), (23, (.int .i64 x2)), (24, (.int .i64 x2)), (25, (.bool (decide (x2 < 0)))), (26, u1), (28, u2)]) ?_ ⟨rfl, rfl, rfl, rfl, rfl, rfl, rfl, rfl, rfl, rfl, rfl, rfl, rfl, rfl, rfl, rfl, rfl, rfl, rfl, rfl, rfl, trivial⟩
        refine WA_postsE [⟨1, [], fun vs => PW.own x3, []⟩, ⟨3, [], fun vs => PW.own x4, []⟩, ⟨4, [], fun vs => PW.val (.agg #[(.int .i64 a3.1.1), u3, u4]), []⟩] [[], [], []] 3 rfl (by kernel_rfl) (by kernel_rfl) rfl ?_ ?_
        · refine StepsE_cons rfl ?_ ?_
          · intro w7 hB7
            refine DepsE_nil ?_
            refine ⟨_, rfl, ?_⟩
            refine WL_call Try.call15 rfl rfl (c_Q_toIntS a1 u1 (g1.now (hC4.keep.then hB7)) x3 hr3) ?_
            rintro v1 w5 ⟨hB5, F1, hv3, hn1, hb1⟩
            refine WL_nil ?_
            exact FinE_own hB5 rfl rfl hv3 hn1 hb1 (Val.inh hv3)
          refine StepsE_cons rfl ?_ ?_
          · intro w7 hB7
            refine DepsE_nil ?_
            refine ⟨_, rfl, ?_⟩
            refine WL_call Try.call16 rfl rfl (c_Q_toMethodS a2 u2 (g2.now (hC4.keep.then hB7)) x4 hr4) ?_
            rintro v2 w6 ⟨hB6, F2, hv4, hn2, hb2⟩
            refine WL_nil ?_
            exact FinE_own hB6 rfl rfl hv4 hn2 hb2 (Val.inh hv4)
          refine StepsE_cons rfl ?_ ?_
          · intro w7 hB7
            refine DepsE_nil ?_
            refine ⟨_, rfl, ?_⟩
            refine WL_load_box_agg [(.int .i64 a3.1.1), u3, u4] (hC4.grow hB7) 0 rfl rfl rfl Try.isAgg28 Try.sizeOf28 rfl rfl ?_
            refine WL_nil ?_
            exact FinE_val (Below.refl _ _) rfl rfl ⟨rfl, rfl⟩
          exact StepsE_nil
        · intro w8 hB8
          refine AllE_cons rfl rfl rfl ?_
          intro v1 F1 hv3
          refine AllE_cons rfl rfl rfl ?_
          intro v2 F2 hv4
          refine AllE_cons rfl rfl rfl ?_
          rintro _ _ ⟨rfl, rfl⟩
          refine AllE_nil ?_
          intro hn3 hb3
          have hC5 := hC4.pushL hB8 (Bs := [Item.own v2 (x4 : (List (Int × (List Int) × Int × Int × Int))), Item.own v1 (x3 : (List Int))]) (Fs := [F2, F1]) ⟨F2, _, rfl, hv4, F1, _, rfl, hv3, rfl⟩ (by simpa using hn3) (fun b h => (hb3 b (by simpa using h)).1)
          obtain ⟨x5, hr5, hF⟩ := bind_some hF
          refine WA_one 5 (by kernel_rfl) rfl ?_
          refine WL_call Try.call17 rfl rfl (c_Q_toTold ((a3.1.1, a3.1.2), a3.2) u3 (g3.now hC5.keep) u4 (g4.now hC5.keep) x5 hr5) ?_
          rintro v3 w9 ⟨hB9, F3, hv5, hn4, hb4⟩
          have hC6 := hC5.push hB9 (A := Item.own v3 x5) hv5 hn4 hb4
          obtain ⟨v4, v5, rfl, hC7⟩ := st38_own hC6
          refine WL_nil ?_
          obtain ⟨x6, hr6, hF⟩ := bind_some hF
          refine WA_one 6 (by kernel_rfl) rfl ?_
          refine WL_call Try.call14 rfl rfl (c_S_FitsSelf x3 v1 ((hC7.ro 3 rfl).now (Keep.refl _ _)) x4 v2 ((hC7.ro 2 rfl).now (Keep.refl _ _)) x5 v4 ((hC7.ro 0 rfl).now (Keep.refl _ _)) v5 ((hC7.ro 1 rfl).now (Keep.refl _ _)) x6 hr6) ?_
          intro _ w10 hv6
          obtain ⟨rfl, hB10⟩ := res_bool hv6
          have hC8 := hC7.grow hB10
          refine WL_nil ?_
          refine WA_take 7 rfl (by kernel_rfl) (by kernel_rfl) (by kernel_rfl) rfl (fl_assign rfl) ?_
          refine WL_assign rfl rfl ?_
          refine WL_nil ?_
          refine WA_done (by kernel_rfl) ?_
          refine nrm_normal ?_
          refine W_seq_reg ?_
          refine WL_move rfl rfl ?_
          obtain ⟨x7, hr7, hF⟩ := bind_some hF
          refine WL_call Try.call15 rfl rfl (c_Q_toIntS a1 u1 (g1.now hC8.keep) x7 hr7) ?_
          rintro v6 w11 ⟨hB11, F4, hv7, hn5, hb5⟩
          have hC9 := hC8.push hB11 (A := Item.own v6 x7) hv7 hn5 hb5
          refine WL_assign rfl rfl ?_
          refine WL_nil ?_
          refine W_seq_reg ?_
          refine WL_move rfl rfl ?_
          obtain ⟨x8, hr8, hF⟩ := bind_some hF
          refine WL_call Try.call16 rfl rfl (c_Q_toMethodS a2 u2 (g2.now hC9.keep) x8 hr8) ?_
          rintro v7 w12 ⟨hB12, F5, hv8, hn6, hb6⟩
          have hC10 := hC9.push hB12 (A := Item.own v7 x8) hv8 hn6 hb6
          refine WL_assign rfl rfl ?_
          refine WL_nil ?_
          refine W_seq_reg ?_
          refine WL_load_box_agg [(.int .i64 a3.1.1), u3, u4] hC10 6 rfl rfl rfl Try.isAgg28 Try.sizeOf28 rfl rfl ?_
          obtain ⟨x9, hr9, hF⟩ := bind_some hF
          refine WL_call Try.call17 rfl rfl (c_Q_toTold ((a3.1.1, a3.1.2), a3.2) u3 (g3.now hC10.keep) u4 (g4.now hC10.keep) x9 hr9) ?_
          rintro v8 w13 ⟨hB13, F6, hv9, hn7, hb7⟩
          have hC11 := hC10.push hB13 (A := Item.own v8 x9) hv9 hn7 hb7
          obtain ⟨v9, v10, rfl, hC12⟩ := st38_own hC11
          refine WL_alloc hC12 zero38 rfl rfl (fun b2 w14 hC13 hB14 => ?_)
          refine WL_store_box_agg (cs' := [(.int .i64 x9.1.1), v9, v10]) (new := [(.int .i64 x9.1.1), v9, v10]) hC13 0 rfl rfl (by intro v hv; simp only [List.mem_cons, List.not_mem_nil, or_false] at hv; rcases hv with rfl | rfl | rfl; exact rfl; exact (ro_one (hC13.ro 1 rfl)); exact (ro_one (hC13.ro 2 rfl))) rfl Try.sizeOf38 rfl rfl (fun w15 hC14 => ?_)
          try dsimp only [List.set] at hC14
          refine WL_nil ?_
          refine W_seq_reg ?_
          refine WL_move rfl rfl ?_
          refine WL_move rfl rfl ?_
          refine WL_load_box_agg [(.int .i64 x9.1.1), v9, v10] hC14 0 rfl rfl rfl Try.isAgg38 Try.sizeOf38 rfl rfl ?_
          obtain ⟨x10, hr10, hF⟩ := bind_some hF
          refine WL_call Try.call18 rfl rfl (c_M_FitsSelf x7 v6 ((hC14.ro 4 rfl).now (Keep.refl _ _)) x8 v7 ((hC14.ro 3 rfl).now (Keep.refl _ _)) ((x9.1.1, x9.1.2), x9.2) v9 ((hC14.ro 1 rfl).now (Keep.refl _ _)) v10 ((hC14.ro 2 rfl).now (Keep.refl _ _)) x10 hr10) ?_
          intro _ w16 hv10
          obtain ⟨rfl, hB15⟩ := res_bool hv10
          have hC15 := hC14.grow hB15
          refine WL_assign rfl rfl ?_
          refine WL_nil ?_
          refine W_seq ?_
          refine W_seq_reg ?_
          refine WL_move rfl rfl ?_
          refine WL_move rfl rfl ?_
          refine WL_bool_neq Try.underlying4 rfl rfl rfl ?_
          refine WL_nil ?_
          refine W_cond rfl (fun hc4 => ?_) (fun hc4 => ?_)
          · replace hF := ite_t hF hc4
            refine W_seq_reg ?_
            refine WL_assign rfl rfl ?_
            refine WL_nil ?_
            refine W_ret ?_
            refine nrm_ret ?_
            have hq4 := Option.some.inj hF
            subst hq4
            refine fn_ret1 rfl rfl ?_
            exact ⟨_, rfl, bool_res hC15 _⟩
          · replace hF := ite_f hF hc4
            refine W_skip ?_
            refine nrm_normal ?_
            refine W_seq ?_
            refine W_seq_reg ?_
            refine WL_move rfl rfl ?_
            refine WL_move rfl rfl ?_
            obtain ⟨x11, hr11, hF⟩ := bind_some hF
            refine WL_call Try.call15 rfl rfl (c_Q_toIntS a1 u1 (g1.now hC15.keep) x11 hr11) ?_
            rintro v11 w17 ⟨hB16, F7, hv11, hn8, hb8⟩
            have hC16 := hC15.push hB16 (A := Item.own v11 x11) hv11 hn8 hb8
            obtain ⟨x12, hr12, hF⟩ := bind_some hF
            refine WL_call Try.call19 rfl rfl (c_Q_eqIntS x7 v6 ((hC16.ro 5 rfl).now (Keep.refl _ _)) x11 v11 ((hC16.ro 0 rfl).now (Keep.refl _ _)) x12 hr12) ?_
            intro _ w18 hv12
            obtain ⟨rfl, hB17⟩ := res_bool hv12
            have hC17 := hC16.grow hB17
            refine WL_not rfl rfl ?_
            refine WL_nil ?_
            refine W_cond rfl (fun hc5 => ?_) (fun hc5 => ?_)
            · replace hF := ite_t hF hc5
              refine W_seq_reg ?_
              refine WL_assign rfl rfl ?_
              refine WL_nil ?_
              refine W_ret ?_
              refine nrm_ret ?_
              have hq5 := Option.some.inj hF
              subst hq5
              refine fn_ret1 rfl rfl ?_
              exact ⟨_, rfl, bool_res hC17 _⟩
            · replace hF := ite_f hF hc5
              refine W_skip ?_
              refine nrm_normal ?_
              refine W_seq ?_
              refine W_seq_reg ?_
              refine WL_move rfl rfl ?_
              refine WL_move rfl rfl ?_
              obtain ⟨x13, hr13, hF⟩ := bind_some hF
              refine WL_call Try.call16 rfl rfl (c_Q_toMethodS a2 u2 (g2.now hC17.keep) x13 hr13) ?_
              rintro v12 w19 ⟨hB18, F8, hv13, hn9, hb9⟩
              have hC18 := hC17.push hB18 (A := Item.own v12 x13) hv13 hn9 hb9
              obtain ⟨x14, hr14, hF⟩ := bind_some hF
              refine WL_call Try.call20 rfl rfl (c_Q_eqMethodS x8 v7 ((hC18.ro 5 rfl).now (Keep.refl _ _)) x13 v12 ((hC18.ro 0 rfl).now (Keep.refl _ _)) x14 hr14) ?_
              intro _ w20 hv14
              obtain ⟨rfl, hB19⟩ := res_bool hv14
              have hC19 := hC18.grow hB19
              refine WL_not rfl rfl ?_
              refine WL_nil ?_
              refine W_cond rfl (fun hc6 => ?_) (fun hc6 => ?_)
              · replace hF := ite_t hF hc6
                refine W_seq_reg ?_
                refine WL_assign rfl rfl ?_
                refine WL_nil ?_
                refine W_ret ?_
                refine nrm_ret ?_
                have hq6 := Option.some.inj hF
                subst hq6
                refine fn_ret1 rfl rfl ?_
                exact ⟨_, rfl, bool_res hC19 _⟩
              · replace hF := ite_f hF hc6
                refine W_skip ?_
                refine nrm_normal ?_
                refine W_seq ?_
                refine W_seq ?_
                refine W_drawn 5 rfl hmix (fun w21 hB20 => ?_)
                have hC20 := hC19.grow hB20
                obtain ⟨x15, hr15, hF⟩ := bind_some hF
                refine WA.sub (l' := [(0, u1), (1, u2), (2, (.agg #[(.int .i64 a3.1.1), u3, u4])), (5, (ptr b1 0)), (6, (.bool false)), (7, (.int .i64 x2)), (8, (.bool x6)), (9, v6), (10, v7), (11, (ptr b2 0)), (12, (.bool x10)), (13, u1), (14, (.int .i64 (List.length a1 : Int))), (15, (.bool (decide (1048576 < (List.length a1 : Int))))), (16, u2), (17, (.int .i64 1048576)), (18, (.int .i64 x1)), (19, (.int .i64 x1)), (20, (.bool (decide (x1 < 0)))), (21, (.agg #[(.int .i64 a3.1.1), u3, u4])), (22, (.int .i64 x1)), (23, (.int .i64 x2)), (24, (.int .i64 x2)), (25, (.bool (decide (x2 < 0)))), (26, u1), (27, v1), (28, u2), (29, v2), (30, (.agg #[(.int .i64 a3.1.1), u3, u4])), (31, (.agg #[(.int .i64 x5.1.1), v4, v5])), (32, (.bool x6)), (33, u1), (34, v6), (35, u2), (36, v7), (37, (.agg #[(.int .i64 a3.1.1), u3, u4])), (38, (.agg #[(.int .i64 x9.1.1), v9, v10])), (39, v6), (40, v7), (41, (.agg #[(.int .i64 x9.1.1), v9, v10])), (42, (.bool x10)), (43, (.bool x10)), (44, (.bool x6)), (45, (.bool (!decide (x10 = x6)))), (46, v6), (47, u1), (48, v11), (49, (.bool x12)), (50, (.bool (!x12))), (51, v7), (52, u2), (53, v12), (54, (.bool x14)), (55, (.bool (!x14)))]) ?_ ⟨rfl, rfl, rfl, rfl, rfl, rfl, rfl, rfl, rfl, rfl, rfl, rfl, rfl, rfl, rfl, rfl, rfl, rfl, rfl, rfl, rfl, rfl, rfl, rfl, rfl, rfl, rfl, rfl, rfl, rfl, rfl, rfl, rfl, rfl, rfl, rfl, rfl, rfl, rfl, rfl, rfl, rfl, rfl, rfl, rfl, rfl, rfl, rfl, rfl, rfl, rfl, rfl, rfl, rfl, trivial⟩
                refine WA_postsE [⟨0, [], fun vs => PW.val (.agg #[(.int .i64 x9.1.1), v9, v10]), []⟩, ⟨1, [], fun vs => PW.val (.agg #[(.int .i64 a3.1.1), u3, u4]), []⟩, ⟨2, [], fun vs => PW.own x15, []⟩] [[], [], [1]] 2 rfl (by kernel_rfl) (by kernel_rfl) rfl ?_ ?_
                · refine StepsE_cons rfl ?_ ?_
                  · intro w23 hB22
                    refine DepsE_nil ?_
                    refine ⟨_, rfl, ?_⟩
                    refine WL_load_box_agg [(.int .i64 x9.1.1), v9, v10] (hC20.grow hB22) 2 rfl rfl rfl Try.isAgg38 Try.sizeOf38 rfl rfl ?_
                    refine WL_nil ?_
                    exact FinE_val (Below.refl _ _) rfl rfl ⟨rfl, rfl⟩
                  refine StepsE_cons rfl ?_ ?_
                  · intro w23 hB22
                    refine DepsE_nil ?_
                    refine ⟨_, rfl, ?_⟩
                    refine WL_load_box_agg [(.int .i64 a3.1.1), u3, u4] (hC20.grow hB22) 11 rfl rfl rfl Try.isAgg28 Try.sizeOf28 rfl rfl ?_
                    refine WL_nil ?_
                    exact FinE_val (Below.refl _ _) rfl rfl ⟨rfl, rfl⟩
                  refine StepsE_cons rfl ?_ ?_
                  · intro w23 hB22
                    refine DepsE_cons rfl rfl rfl ?_
                    rintro _ _ ⟨rfl, rfl⟩ _
                    refine DepsE_nil ?_
                    refine ⟨_, rfl, ?_⟩
                    refine WL_call Try.call17 rfl rfl (c_Q_toTold ((a3.1.1, a3.1.2), a3.2) u3 (g3.now (hC20.keep.then hB22)) u4 (g4.now (hC20.keep.then hB22)) x15 hr15) ?_
                    rintro v13 w22 ⟨hB21, F9, hv15, hn10, hb10⟩
                    refine WL_nil ?_
                    exact FinE_own hB21 rfl rfl hv15 hn10 hb10 (Val.inh hv15)
                  exact StepsE_nil
                · intro w24 hB23
                  refine AllE_cons rfl rfl rfl ?_
                  rintro _ _ ⟨rfl, rfl⟩
                  refine AllE_cons rfl rfl rfl ?_
                  rintro _ _ ⟨rfl, rfl⟩
                  refine AllE_cons rfl rfl rfl ?_
                  intro v13 F9 hv15
                  refine AllE_nil ?_
                  intro hn11 hb11
                  have hC21 := hC20.pushL hB23 (Bs := [Item.own v13 (x15 : ((Int × (List Int)) × (List (Int × (List Int)))))]) (Fs := [F9]) ⟨F9, _, rfl, hv15, rfl⟩ (by simpa using hn11) (fun b h => (hb11 b (by simpa using h)).1)
                  obtain ⟨v16, v17, rfl, hC22⟩ := st38_own hC21
                  obtain ⟨x16, hr16, hF⟩ := bind_some hF
                  refine WA_one 3 (by kernel_rfl) rfl ?_
                  refine WL_call Try.call21 rfl rfl (c_Q_eqTold ((x9.1.1, x9.1.2), x9.2) v9 ((hC22.ro 5 rfl).now (Keep.refl _ _)) v10 ((hC22.ro 6 rfl).now (Keep.refl _ _)) x15 v16 ((hC22.ro 0 rfl).now (Keep.refl _ _)) v17 ((hC22.ro 1 rfl).now (Keep.refl _ _)) x16 hr16) ?_
                  intro _ w25 hv16
                  obtain ⟨rfl, hB24⟩ := res_bool hv16
                  have hC23 := hC22.grow hB24
                  refine WL_nil ?_
                  refine WA_take 4 rfl (by kernel_rfl) (by kernel_rfl) (by kernel_rfl) rfl (fl_not rfl) ?_
                  refine WL_not rfl rfl ?_
                  refine WL_nil ?_
                  refine WA_done (by kernel_rfl) ?_
                  refine nrm_normal ?_
                  refine W_cond rfl (fun hc7 => ?_) (fun hc7 => ?_)
                  · replace hF := ite_t hF hc7
                    refine W_seq_reg ?_
                    refine WL_assign rfl rfl ?_
                    refine WL_nil ?_
                    refine W_ret ?_
                    refine nrm_ret ?_
                    have hq7 := Option.some.inj hF
                    subst hq7
                    refine fn_ret1 rfl rfl ?_
                    exact ⟨_, rfl, bool_res hC23 _⟩
                  · replace hF := ite_f hF hc7
                    refine W_skip ?_
                    refine nrm_normal ?_
                    refine W_seq_reg ?_
                    refine WL_assign rfl rfl ?_
                    refine WL_nil ?_
                    refine W_ret ?_
                    have hq8 := Option.some.inj hF
                    subst hq8
                    refine fn_ret1 rfl rfl ?_
                    exact ⟨_, rfl, bool_res hC23 _⟩

end Go.Gx.Px
