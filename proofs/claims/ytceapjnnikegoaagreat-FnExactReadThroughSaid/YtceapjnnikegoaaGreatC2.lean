/- The contracts of the Go functions against the pure functions, printed by program. Conditions: each says them. -/
import Derived.Test.YtceapjnnikegoaaGreatC1
set_option linter.unusedVariables false
set_option linter.unusedSimpArgs false
set_option maxRecDepth 100000
set_option maxHeartbeats 4000000
namespace Go.Gx.Px
open Go.Proofs Go.RowKit

theorem c_S_NextPage {w0 : World} (a1 : (List Int)) (u1 : Value) (g1 : RO [] w0 u1 a1) (a2 : (List (Int × (List Int) × Int × Int × Int))) (u2 : Value) (g2 : RO [] w0 u2 a2) (a3 : ((List (Int × (List Int))) × Int)) (u3 : Value) (g3 : RO [] w0 u3 a3.1) (a4 : ((Int × (List Int)) × Int × Int)) (u4 : Value) (g4 : RO [] w0 u4 a4.1.2) (a5 : Int) (rr : ((List (Int × (List Int))) × ((Int × (List Int)) × Int × Int) × Int)) (hF : S.NextPage a1 a2 a3 a4 a5 = some rr) :
 Calls Tryz.prog 36 [u1, u2, (.agg #[u3, (.int .i64 a3.2)]), (.agg #[(.int .i64 a4.1.1), u4, (.int .i64 a4.2.1), (.int .i64 a4.2.2)]), (.int .i64 a5)].toArray w0 fun e w' => ∃ v, e = .returned v ∧ Res3 w0 rr.1 rr.2.1 rr.2.2 v w' := by
 refine calls_of_W Tryz.func36 rfl rfl ?_
 have hC0 := Ctx.start w0
 unfold S.NextPage at hF
 refine W_seq_reg ?_
 refine WL_box (cs := [u3, (.int .i64 a3.2)]) hC0 rfl rfl rfl (fun b1 w1 hC1 hB1 => ?_)
 refine WL_box (cs := [(.int .i64 a4.1.1), u4, (.int .i64 a4.2.1), (.int .i64 a4.2.2)]) hC1 rfl rfl rfl (fun b2 w2 hC2 hB2 => ?_)
 refine WL_assign rfl rfl ?_
 refine WL_alloc hC2 zero73 rfl rfl (fun b3 w3 hC3 hB3 => ?_)
 refine WL_assign rfl rfl ?_
 refine WL_nil ?_
 refine W_seq_reg ?_
 refine WL_load_box_agg [(.int .i64 a4.1.1), u4, (.int .i64 a4.2.1), (.int .i64 a4.2.2)] hC3 1 rfl rfl rfl Tryz.isAgg73 Tryz.sizeOf73 rfl rfl ?_
 obtain ⟨x1, hr1, hF⟩ := bind_some hF
 refine WL_call Tryz.call57 rfl rfl (c_S_l25Cursor ((a4.1.1, a4.1.2), a4.2.1, a4.2.2) u4 (g4.now hC3.keep) x1 hr1) ?_
 rintro v1 w4 ⟨hB4, F1, hv1, hn1, hb1⟩
 have hC4 := hC3.push hB4 (A := Item.own v1 x1) hv1 hn1 hb1
 obtain ⟨v2, rfl, hC5⟩ := st73_own hC4
 refine WL_alloc hC5 zero73 rfl rfl (fun b4 w5 hC6 hB5 => ?_)
 refine WL_store_box_agg (cs' := [(.int .i64 x1.1.1), v2, (.int .i64 x1.2.1), (.int .i64 x1.2.2)]) (new := [(.int .i64 x1.1.1), v2, (.int .i64 x1.2.1), (.int .i64 x1.2.2)]) hC6 0 rfl rfl (by intro v hv; simp only [List.mem_cons, List.not_mem_nil, or_false] at hv; rcases hv with rfl | rfl | rfl | rfl; exact rfl; exact (ro_one (hC6.ro 1 rfl)); exact rfl; exact rfl) rfl Tryz.sizeOf73 rfl rfl (fun w6 hC7 => ?_)
 try dsimp only [List.set] at hC7
 refine WL_nil ?_
 refine W_seq ?_
 obtain ⟨r1, hr2, hF⟩ := bind_some hF
 refine W_cut (fun l w => ∃ x2 : Bool, x2 = r1 ∧ l = [(1, u2), (4, (.int .i64 a5)), (7, (ptr b1 0)), (8, (ptr b2 0)), (11, (ptr b3 0)), (13, (ptr b4 0)), (41, (.bool x2))] ∧ Below w6.heap.size w6 w ∧ Ctx [] w0 w [Item.box b4 [(.int .i64 x1.1.1), v2, (.int .i64 x1.2.1), (.int .i64 x1.2.2)], Item.own v2 (x1.1.2 : (List Int)), Item.box b3 [(.int .i64 0), (.slice none 0 0), (.int .i64 0), (.int .i64 0)], Item.box b2 [(.int .i64 a4.1.1), u4, (.int .i64 a4.2.1), (.int .i64 a4.2.2)], Item.box b1 [u3, (.int .i64 a3.2)]]) ?_ ?_
 ·refine W_reg ?_
  refine WL_move rfl rfl ?_
  refine WL_load_box_agg [u3, (.int .i64 a3.2)] hC7 4 rfl rfl rfl Tryz.isAgg38 Tryz.sizeOf38 rfl rfl ?_
  obtain ⟨x3, hr3, hr2⟩ := bind_some hr2
  refine WL_call Tryz.call54 rfl rfl (c_S_IsSource a1 u1 (g1.now hC7.keep) (a3.1, a3.2) u3 (g3.now hC7.keep) x3 hr3) ?_
  intro _ w9 hv2
  obtain ⟨rfl, hB7⟩ := res_bool hv2
  have hC9 := hC7.grow hB7
  refine WL_not rfl rfl ?_
  refine WL_move rfl rfl ?_
  refine WL_fork (fun hc1 => ?_) (fun hc1 => ?_)
  ·replace hr2 := ite_t hr2 hc1
   refine WL_guard_skip rfl rfl (by simp) rfl ?_
   refine WL_guard_skip rfl rfl (by simp) rfl ?_
   refine WL_guard_skip rfl rfl (by simp) rfl ?_
   refine WL_guard_skip rfl rfl (by simp) rfl ?_
   refine WL_guard_skip rfl rfl (by simp) rfl ?_
   refine WL_guard_skip rfl rfl (by simp) rfl ?_
   refine WL_pick_t rfl rfl rfl ?_
   refine WL_move rfl rfl ?_
   refine WL_guard_skip rfl rfl (by simp) rfl ?_
   refine WL_guard_skip rfl rfl (by simp) rfl ?_
   refine WL_guard_skip rfl rfl (by simp) rfl ?_
   refine WL_pick_t rfl rfl rfl ?_
   refine WL_move rfl rfl ?_
   refine WL_guard_skip rfl rfl (by simp) rfl ?_
   refine WL_guard_skip rfl rfl (by simp) rfl ?_
   refine WL_guard_skip rfl rfl (by simp) rfl ?_
   refine WL_guard_skip rfl rfl (by simp) rfl ?_
   refine WL_pick_t rfl rfl rfl ?_
   refine WL_nil ?_
   have hq1 := Option.some.inj hr2
   subst hq1
   refine nrm_sub (l' := [(1, u2), (4, (.int .i64 a5)), (7, (ptr b1 0)), (8, (ptr b2 0)), (11, (ptr b3 0)), (13, (ptr b4 0)), (41, (.bool true))]) ⟨rfl, rfl, rfl, rfl, rfl, rfl, rfl, trivial⟩ ?_
   exact ⟨true, rfl, rfl, (Keep.of hB7).below, hC9⟩
  replace hr2 := ite_f hr2 hc1
  refine WL_guard rfl rfl ?_
  refine WL_move rfl rfl ?_
  refine WL_guard rfl rfl ?_
  refine WL_move rfl rfl ?_
  refine WL_guard rfl rfl ?_
  refine WL_field Tryz.underlying73 rfl rfl (fun w => ⟨_, Tryz.sizeOf45 w⟩) rfl rfl ?_
  refine WL_guard rfl rfl ?_
  refine WL_load_box_agg [(.int .i64 a4.1.1), u4] hC9 3 rfl rfl rfl Tryz.isAgg45 Tryz.sizeOf45 rfl rfl ?_
  obtain ⟨x4, hr4, hr2⟩ := bind_some hr2
  refine WL_guard rfl rfl ?_
  refine WL_call Tryz.call55 rfl rfl (c_S_IsAccess a1 u1 (g1.now hC9.keep) a2 u2 (g2.now hC9.keep) (a4.1.1, a4.1.2) u4 (g4.now hC9.keep) x4 hr4) ?_
  intro _ w10 hv3
  obtain ⟨rfl, hB8⟩ := res_bool hv3
  have hC10 := hC9.grow hB8
  refine WL_guard rfl rfl ?_
  refine WL_not rfl rfl ?_
  refine WL_pick_f rfl rfl rfl ?_
  refine WL_move rfl rfl ?_
  refine WL_fork (fun hc2 => ?_) (fun hc2 => ?_)
  ·replace hr2 := ite_t hr2 hc2
   refine WL_guard_skip rfl rfl (by simp) rfl ?_
   refine WL_guard_skip rfl rfl (by simp) rfl ?_
   refine WL_guard_skip rfl rfl (by simp) rfl ?_
   refine WL_pick_t rfl rfl rfl ?_
   refine WL_move rfl rfl ?_
   refine WL_guard_skip rfl rfl (by simp) rfl ?_
   refine WL_guard_skip rfl rfl (by simp) rfl ?_
   refine WL_guard_skip rfl rfl (by simp) rfl ?_
   refine WL_guard_skip rfl rfl (by simp) rfl ?_
   refine WL_pick_t rfl rfl rfl ?_
   refine WL_nil ?_
   have hq2 := Option.some.inj hr2
   subst hq2
   refine nrm_sub (l' := [(1, u2), (4, (.int .i64 a5)), (7, (ptr b1 0)), (8, (ptr b2 0)), (11, (ptr b3 0)), (13, (ptr b4 0)), (41, (.bool true))]) ⟨rfl, rfl, rfl, rfl, rfl, rfl, rfl, trivial⟩ ?_
   exact ⟨true, rfl, rfl, ((Keep.of hB7).then hB8).below, hC10⟩
  replace hr2 := ite_f hr2 hc2
  refine WL_guard rfl rfl ?_
  refine WL_move rfl rfl ?_
  obtain ⟨x5, hr5, hr2⟩ := bind_some hr2
  refine WL_guard rfl rfl ?_
  refine WL_call Tryz.call35 rfl rfl (c_S_l1In a5 1 9 x5 hr5) ?_
  intro _ w11 hv4
  obtain ⟨rfl, hB9⟩ := res_bool hv4
  have hC11 := hC10.grow hB9
  refine WL_guard rfl rfl ?_
  refine WL_not rfl rfl ?_
  refine WL_pick_f rfl rfl rfl ?_
  refine WL_move rfl rfl ?_
  refine WL_fork (fun hc3 => ?_) (fun hc3 => ?_)
  ·replace hr2 := ite_t hr2 hc3
   refine WL_guard_skip rfl rfl (by simp) rfl ?_
   refine WL_guard_skip rfl rfl (by simp) rfl ?_
   refine WL_guard_skip rfl rfl (by simp) rfl ?_
   refine WL_guard_skip rfl rfl (by simp) rfl ?_
   refine WL_pick_t rfl rfl rfl ?_
   refine WL_nil ?_
   have hq3 := Option.some.inj hr2
   subst hq3
   refine nrm_sub (l' := [(1, u2), (4, (.int .i64 a5)), (7, (ptr b1 0)), (8, (ptr b2 0)), (11, (ptr b3 0)), (13, (ptr b4 0)), (41, (.bool true))]) ⟨rfl, rfl, rfl, rfl, rfl, rfl, rfl, trivial⟩ ?_
   exact ⟨true, rfl, rfl, (((Keep.of hB7).then hB8).then hB9).below, hC11⟩
  replace hr2 := ite_f hr2 hc3
  refine WL_guard rfl rfl ?_
  refine WL_field Tryz.underlying73 rfl rfl (fun w => ⟨_, Tryz.sizeOf3 w⟩) rfl rfl ?_
  refine WL_guard rfl rfl ?_
  refine WL_load_box hC11 3 rfl rfl Tryz.isAgg3 rfl rfl ?_
  obtain ⟨x6, hr6, hr2⟩ := bind_some hr2
  refine WL_guard rfl rfl ?_
  refine WL_call Tryz.call35 rfl rfl (c_S_l1In a4.2.1 0 1000 x6 hr6) ?_
  intro _ w12 hv5
  obtain ⟨rfl, hB10⟩ := res_bool hv5
  have hC12 := hC11.grow hB10
  refine WL_guard rfl rfl ?_
  refine WL_not rfl rfl ?_
  refine WL_pick_f rfl rfl rfl ?_
  refine WL_nil ?_
  have hq4 := Option.some.inj hr2
  subst hq4
  refine nrm_sub (l' := [(1, u2), (4, (.int .i64 a5)), (7, (ptr b1 0)), (8, (ptr b2 0)), (11, (ptr b3 0)), (13, (ptr b4 0)), (41, (.bool (!x6)))]) ⟨rfl, rfl, rfl, rfl, rfl, rfl, rfl, trivial⟩ ?_
  exact ⟨(!x6), rfl, rfl, ((((Keep.of hB7).then hB8).then hB9).then hB10).below, hC12⟩
 rintro _ w7 ⟨x2, rfl, rfl, hB6, hC8⟩
 try dsimp only at hF
 refine W_cond rfl (fun hc4 => ?_) (fun hc4 => ?_)
 ·replace hF := ite_t hF hc4
  refine W_seq ?_
  refine W_drawn 5 rfl hmix (fun w13 hB11 => ?_)
  have hC13 := hC8.grow hB11
  refine WA.sub (l' := [(1, u2), (4, (.int .i64 a5)), (7, (ptr b1 0)), (8, (ptr b2 0)), (11, (ptr b3 0)), (13, (ptr b4 0)), (41, (.bool x2))]) ?_ ⟨rfl, rfl, rfl, rfl, rfl, rfl, rfl, trivial⟩
  refine WA_postsE [⟨0, [], fun vs => PW.own (([] : List (Int × (List Int))) : (List (Int × (List Int)))), []⟩, ⟨1, [], fun vs => PW.val (.agg #[(.int .i64 x1.1.1), v2, (.int .i64 x1.2.1), (.int .i64 x1.2.2)]), []⟩, ⟨2, [42], fun vs => PW.val (vs.getD 0 undef), []⟩] [[], [], [0]] 2 rfl (by kernel_rfl) (by kernel_rfl) rfl ?_ ?_
  ·refine StepsE_cons rfl ?_ ?_
   ·intro w15 hB13
    refine DepsE_nil ?_
    refine ⟨_, rfl, ?_⟩
    refine WL_buildSlice (vs := []) (Ctx.start w15) Tryz.underlying34 ty81 rfl rfl rfl rfl (by simp) rfl rfl (fun b5 w14 hC14 hB12 => ?_)
    have hC15 := hC14.row0 (α := (Int × (List Int)))
    have hC16 := hC15.front 1 rfl
    dsimp only [List.eraseIdx, List.cons_append, List.nil_append, List.append_nil] at hC16
    have hC17 : Ctx [] w15 w14 (Item.own (.slice (some ⟨b5, 0, none⟩) 0 0) (([] : List (Int × (List Int))) : List (Int × (List Int))) :: []) := hC16.rowOwn (by simp [maxLen])
    refine WL_nil ?_
    exact FinE_ctx hC17 rfl rfl (fun F h => h)
   refine StepsE_cons rfl ?_ ?_
   ·intro w15 hB13
    refine DepsE_nil ?_
    refine ⟨_, rfl, ?_⟩
    refine WL_load_box_agg [(.int .i64 x1.1.1), v2, (.int .i64 x1.2.1), (.int .i64 x1.2.2)] (hC13.grow hB13) 0 rfl rfl rfl Tryz.isAgg73 Tryz.sizeOf73 rfl rfl ?_
    refine WL_nil ?_
    exact FinE_val (Below.refl _ _) rfl rfl ⟨rfl, rfl⟩
   refine StepsE_cons rfl ?_ ?_
   ·intro w15 hB13
    refine DepsE_cons rfl rfl rfl ?_
    intro v3 F2 hv6 _
    refine DepsE_nil ?_
    refine ⟨_, rfl, ?_⟩
    refine WL_assign rfl rfl ?_
    refine WL_nil ?_
    exact FinE_val (Below.refl _ _) rfl rfl ⟨rfl, rfl⟩
   exact StepsE_nil
  intro w16 hB14
  refine AllE_cons rfl rfl rfl ?_
  intro v3 F2 hv6
  refine AllE_cons rfl rfl rfl ?_
  rintro _ _ ⟨rfl, rfl⟩
  refine AllE_cons rfl rfl rfl ?_
  rintro _ _ ⟨rfl, rfl⟩
  refine AllE_nil ?_
  intro hn2 hb2
  have hC18 := hC13.pushL hB14 (Bs := [Item.own v3 (([] : List (Int × (List Int))) : (List (Int × (List Int))))]) (Fs := [F2]) ⟨F2, _, rfl, hv6, rfl⟩ (by simpa using hn2) (fun b h => (hb2 b (by simpa using h)).1)
  refine WA_one 3 (by kernel_rfl) rfl ?_
  refine WL_store_box_agg (cs' := [(.int .i64 x1.1.1), v2, (.int .i64 x1.2.1), (.int .i64 x1.2.2)]) (new := [(.int .i64 x1.1.1), v2, (.int .i64 x1.2.1), (.int .i64 x1.2.2)]) hC18 3 rfl rfl (by intro v hv; simp only [List.mem_cons, List.not_mem_nil, or_false] at hv; rcases hv with rfl | rfl | rfl | rfl; exact rfl; exact (ro_one (hC18.ro 2 rfl)); exact rfl; exact rfl) rfl Tryz.sizeOf73 rfl rfl (fun w17 hC19 => ?_)
  try dsimp only [List.set] at hC19
  refine WL_nil ?_
  refine WA_tk 4 (by kernel_rfl) rfl rfl (fl_assign rfl) ?_
  refine WL_assign rfl rfl ?_
  refine WL_nil ?_
  refine WA_done (by kernel_rfl) ?_
  refine nrm_normal ?_
  refine W_ret ?_
  refine nrm_ret ?_
  have hq5 := Option.some.inj hF
  subst hq5
  refine fn_retG3 rfl (rv_tmp rfl) (rv_cell_agg (cs' := [(.int .i64 x1.1.1), v2, (.int .i64 x1.2.1), (.int .i64 x1.2.2)]) hC19 (i := 3) rfl rfl rfl Tryz.isAgg73 Tryz.sizeOf73 rfl) (rv_tmp rfl) ?_
  have hC20 := hC19.triv (int_val (3))
  have hC22 := hC20.f3
  have hC21 := own_st73 x1.1.1 v2 x1.1.2 x1.2.1 x1.2.2 hC22
  have hC23 := hC21.f2
  exact ⟨_, rfl, res3_of hC23⟩
 replace hF := ite_f hF hc4
 refine W_skip ?_
 refine nrm_normal ?_
 refine W_seq ?_
 refine W_seq_reg ?_
 refine WL_field Tryz.underlying73 rfl rfl (fun w => ⟨_, Tryz.sizeOf3 w⟩) rfl rfl ?_
 refine WL_load_box hC8 3 rfl rfl Tryz.isAgg3 rfl rfl ?_
 refine WL_field Tryz.underlying38 rfl rfl (fun w => ⟨_, Tryz.sizeOf3 w⟩) rfl rfl ?_
 refine WL_load_box hC8 4 rfl rfl Tryz.isAgg3 rfl rfl ?_
 refine WL_neq rfl rfl rfl ?_
 refine WL_nil ?_
 refine W_cond rfl (fun hc5 => ?_) (fun hc5 => ?_)
 ·replace hF := ite_t hF hc5
  refine W_seq ?_
  refine W_drawn 5 rfl hmix (fun w18 hB15 => ?_)
  have hC24 := hC8.grow hB15
  refine WA.sub (l' := [(1, u2), (4, (.int .i64 a5)), (7, (ptr b1 0)), (8, (ptr b2 0)), (11, (ptr b3 0)), (13, (ptr b4 0)), (41, (.bool x2)), (44, (ptr b2 3)), (45, (.int .i64 a4.2.2)), (46, (ptr b1 1)), (47, (.int .i64 a3.2)), (48, (.bool (!decide (a4.2.2 = a3.2))))]) ?_ ⟨rfl, rfl, rfl, rfl, rfl, rfl, rfl, rfl, rfl, rfl, rfl, rfl, trivial⟩
  refine WA_postsE [⟨0, [], fun vs => PW.own (([] : List (Int × (List Int))) : (List (Int × (List Int)))), []⟩, ⟨1, [], fun vs => PW.val (.agg #[(.int .i64 x1.1.1), v2, (.int .i64 x1.2.1), (.int .i64 x1.2.2)]), []⟩, ⟨2, [49], fun vs => PW.val (vs.getD 0 undef), []⟩] [[], [], [0]] 2 rfl (by kernel_rfl) (by kernel_rfl) rfl ?_ ?_
  ·refine StepsE_cons rfl ?_ ?_
   ·intro w20 hB17
    refine DepsE_nil ?_
    refine ⟨_, rfl, ?_⟩
    refine WL_buildSlice (vs := []) (Ctx.start w20) Tryz.underlying34 ty81 rfl rfl rfl rfl (by simp) rfl rfl (fun b6 w19 hC25 hB16 => ?_)
    have hC26 := hC25.row0 (α := (Int × (List Int)))
    have hC27 := hC26.front 1 rfl
    dsimp only [List.eraseIdx, List.cons_append, List.nil_append, List.append_nil] at hC27
    have hC28 : Ctx [] w20 w19 (Item.own (.slice (some ⟨b6, 0, none⟩) 0 0) (([] : List (Int × (List Int))) : List (Int × (List Int))) :: []) := hC27.rowOwn (by simp [maxLen])
    refine WL_nil ?_
    exact FinE_ctx hC28 rfl rfl (fun F h => h)
   refine StepsE_cons rfl ?_ ?_
   ·intro w20 hB17
    refine DepsE_nil ?_
    refine ⟨_, rfl, ?_⟩
    refine WL_load_box_agg [(.int .i64 x1.1.1), v2, (.int .i64 x1.2.1), (.int .i64 x1.2.2)] (hC24.grow hB17) 0 rfl rfl rfl Tryz.isAgg73 Tryz.sizeOf73 rfl rfl ?_
    refine WL_nil ?_
    exact FinE_val (Below.refl _ _) rfl rfl ⟨rfl, rfl⟩
   refine StepsE_cons rfl ?_ ?_
   ·intro w20 hB17
    refine DepsE_cons rfl rfl rfl ?_
    intro v4 F3 hv7 _
    refine DepsE_nil ?_
    refine ⟨_, rfl, ?_⟩
    refine WL_assign rfl rfl ?_
    refine WL_nil ?_
    exact FinE_val (Below.refl _ _) rfl rfl ⟨rfl, rfl⟩
   exact StepsE_nil
  intro w21 hB18
  refine AllE_cons rfl rfl rfl ?_
  intro v4 F3 hv7
  refine AllE_cons rfl rfl rfl ?_
  rintro _ _ ⟨rfl, rfl⟩
  refine AllE_cons rfl rfl rfl ?_
  rintro _ _ ⟨rfl, rfl⟩
  refine AllE_nil ?_
  intro hn3 hb3
  have hC29 := hC24.pushL hB18 (Bs := [Item.own v4 (([] : List (Int × (List Int))) : (List (Int × (List Int))))]) (Fs := [F3]) ⟨F3, _, rfl, hv7, rfl⟩ (by simpa using hn3) (fun b h => (hb3 b (by simpa using h)).1)
  refine WA_one 3 (by kernel_rfl) rfl ?_
  refine WL_store_box_agg (cs' := [(.int .i64 x1.1.1), v2, (.int .i64 x1.2.1), (.int .i64 x1.2.2)]) (new := [(.int .i64 x1.1.1), v2, (.int .i64 x1.2.1), (.int .i64 x1.2.2)]) hC29 3 rfl rfl (by intro v hv; simp only [List.mem_cons, List.not_mem_nil, or_false] at hv; rcases hv with rfl | rfl | rfl | rfl; exact rfl; exact (ro_one (hC29.ro 2 rfl)); exact rfl; exact rfl) rfl Tryz.sizeOf73 rfl rfl (fun w22 hC30 => ?_)
  try dsimp only [List.set] at hC30
  refine WL_nil ?_
  refine WA_tk 4 (by kernel_rfl) rfl rfl (fl_assign rfl) ?_
  refine WL_assign rfl rfl ?_
  refine WL_nil ?_
  refine WA_done (by kernel_rfl) ?_
  refine nrm_normal ?_
  refine W_ret ?_
  refine nrm_ret ?_
  have hq6 := Option.some.inj hF
  subst hq6
  refine fn_retG3 rfl (rv_tmp rfl) (rv_cell_agg (cs' := [(.int .i64 x1.1.1), v2, (.int .i64 x1.2.1), (.int .i64 x1.2.2)]) hC30 (i := 3) rfl rfl rfl Tryz.isAgg73 Tryz.sizeOf73 rfl) (rv_tmp rfl) ?_
  have hC31 := hC30.triv (int_val (2))
  have hC33 := hC31.f3
  have hC32 := own_st73 x1.1.1 v2 x1.1.2 x1.2.1 x1.2.2 hC33
  have hC34 := hC32.f2
  exact ⟨_, rfl, res3_of hC34⟩
 replace hF := ite_f hF hc5
 refine W_skip ?_
 refine nrm_normal ?_
 refine W_seq ?_
 refine W_drawn 23 rfl hmix (fun w23 hB19 => ?_)
 have hC35 := hC8.grow hB19
 refine WA_tk 0 (by kernel_rfl) rfl rfl (fl_move rfl) ?_
 refine WL_move rfl rfl ?_
 refine WL_nil ?_
 refine WA_tk 1 (by kernel_rfl) rfl rfl (fl_field Tryz.underlying73 rfl rfl (fun w => ⟨_, Tryz.sizeOf45 w⟩) rfl) ?_
 refine WL_field Tryz.underlying73 rfl rfl (fun w => ⟨_, Tryz.sizeOf45 w⟩) rfl rfl ?_
 refine WL_nil ?_
 refine WA_tk 2 (by kernel_rfl) rfl rfl (fl_field Tryz.underlying45 rfl rfl (fun w => ⟨_, Tryz.sizeOf3 w⟩) rfl) ?_
 refine WL_field Tryz.underlying45 rfl rfl (fun w => ⟨_, Tryz.sizeOf3 w⟩) rfl rfl ?_
 refine WL_nil ?_
 refine WA_tk 6 (by kernel_rfl) rfl rfl (fl_field Tryz.underlying73 rfl rfl (fun w => ⟨_, Tryz.sizeOf45 w⟩) rfl) ?_
 refine WL_field Tryz.underlying73 rfl rfl (fun w => ⟨_, Tryz.sizeOf45 w⟩) rfl rfl ?_
 refine WL_nil ?_
 refine WA_tk 7 (by kernel_rfl) rfl rfl (fl_field Tryz.underlying45 rfl rfl (fun w => ⟨_, Tryz.sizeOf22 w⟩) rfl) ?_
 refine WL_field Tryz.underlying45 rfl rfl (fun w => ⟨_, Tryz.sizeOf22 w⟩) rfl rfl ?_
 refine WL_nil ?_
 refine WA_tk 9 (by kernel_rfl) rfl rfl (fl_field Tryz.underlying38 rfl rfl (fun w => ⟨_, Tryz.sizeOf34 w⟩) rfl) ?_
 refine WL_field Tryz.underlying38 rfl rfl (fun w => ⟨_, Tryz.sizeOf34 w⟩) rfl rfl ?_
 refine WL_nil ?_
 refine WA_tk 12 (by kernel_rfl) rfl rfl (fl_field Tryz.underlying73 rfl rfl (fun w => ⟨_, Tryz.sizeOf3 w⟩) rfl) ?_
 refine WL_field Tryz.underlying73 rfl rfl (fun w => ⟨_, Tryz.sizeOf3 w⟩) rfl rfl ?_
 refine WL_nil ?_
 refine WA_tk 14 (by kernel_rfl) rfl rfl (fl_move rfl) ?_
 refine WL_move rfl rfl ?_
 refine WL_nil ?_
 obtain ⟨x7, hx1, hF⟩ := bind_some hF
 obtain ⟨x8, hr7, hF⟩ := bind_some hF
 refine WA.sub (l' := [(1, u2), (4, (.int .i64 a5)), (7, (ptr b1 0)), (8, (ptr b2 0)), (11, (ptr b3 0)), (13, (ptr b4 0)), (41, (.bool x2)), (44, (ptr b2 3)), (45, (.int .i64 a4.2.2)), (46, (ptr b1 1)), (47, (.int .i64 a3.2)), (48, (.bool (!decide (a4.2.2 = a3.2)))), (52, u2), (53, (ptr b2 0)), (54, (ptr b2 0)), (58, (ptr b2 0)), (59, (ptr b2 1)), (61, (ptr b1 0)), (64, (ptr b2 2)), (66, (.int .i64 a5))]) ?_ ⟨rfl, rfl, rfl, rfl, rfl, rfl, rfl, rfl, rfl, rfl, rfl, rfl, rfl, rfl, rfl, rfl, rfl, rfl, rfl, rfl, trivial⟩
 refine WA_postsE [⟨3, [], fun vs => PW.val (.int .i64 a4.1.1), []⟩, ⟨4, [], fun vs => PW.at [] w0 x7, []⟩, ⟨5, [], fun vs => PW.ro [] w0 x7, []⟩, ⟨8, [], fun vs => PW.val u4, []⟩, ⟨10, [], fun vs => PW.val u3, []⟩, ⟨11, [], fun vs => PW.own x8, []⟩, ⟨13, [], fun vs => PW.val (.int .i64 a4.2.1), []⟩] [[], [3], [4], [], [], [5, 8, 10], []] 8 rfl (by kernel_rfl) (by kernel_rfl) rfl ?_ ?_
 ·refine StepsE_cons rfl ?_ ?_
  ·intro w25 hB21
   refine DepsE_nil ?_
   refine ⟨_, rfl, ?_⟩
   refine WL_load_box (hC35.grow hB21) 3 rfl rfl Tryz.isAgg3 rfl rfl ?_
   refine WL_nil ?_
   exact FinE_val (Below.refl _ _) rfl rfl ⟨rfl, rfl⟩
  refine StepsE_cons rfl ?_ ?_
  ·intro w25 hB21
   refine DepsE_cons rfl rfl rfl ?_
   rintro _ _ ⟨rfl, rfl⟩ _
   refine DepsE_nil ?_
   refine ⟨_, rfl, ?_⟩
   refine WL_index Tryz.underlying42 ty84 g2 hx1 rfl rfl rfl (fun b7 o1 h1 => ?_)
   refine WL_nil ?_
   exact FinE_val (Below.refl _ _) rfl rfl ⟨rfl, _, _, rfl, h1⟩
  refine StepsE_cons rfl ?_ ?_
  ·intro w25 hB21
   refine DepsE_cons rfl rfl rfl ?_
   rintro _ _ ⟨rfl, b7, o1, rfl, h1⟩ _
   refine DepsE_nil ?_
   refine ⟨_, rfl, ?_⟩
   refine WL_load ty84 h1 (hC35.keep.then hB21) rfl rfl (fun v7 h4 => ?_)
   refine WL_nil ?_
   exact FinE_val (Below.refl _ _) rfl rfl ⟨rfl, h4⟩
  refine StepsE_cons rfl ?_ ?_
  ·intro w25 hB21
   refine DepsE_nil ?_
   refine ⟨_, rfl, ?_⟩
   refine WL_load_box (hC35.grow hB21) 3 rfl rfl Tryz.isAgg22 rfl rfl ?_
   refine WL_nil ?_
   exact FinE_val (Below.refl _ _) rfl rfl ⟨rfl, rfl⟩
  refine StepsE_cons rfl ?_ ?_
  ·intro w25 hB21
   refine DepsE_nil ?_
   refine ⟨_, rfl, ?_⟩
   refine WL_load_box (hC35.grow hB21) 4 rfl rfl Tryz.isAgg34 rfl rfl ?_
   refine WL_nil ?_
   exact FinE_val (Below.refl _ _) rfl rfl ⟨rfl, rfl⟩
  refine StepsE_cons rfl ?_ ?_
  ·intro w25 hB21
   refine DepsE_cons rfl rfl rfl ?_
   rintro v7 _ ⟨rfl, h4⟩ _
   obtain ⟨v6, rfl, h3⟩ := ro_st84 h4
   refine DepsE_cons rfl rfl rfl ?_
   rintro _ _ ⟨rfl, rfl⟩ _
   refine DepsE_cons rfl rfl rfl ?_
   rintro _ _ ⟨rfl, rfl⟩ _
   refine DepsE_nil ?_
   refine ⟨_, rfl, ?_⟩
   refine WL_call Tryz.call59 rfl rfl (c_S_l5Matches x7 v6 (h3.now (hC35.keep.then hB21)) a4.1.2 u4 (g4.now (hC35.keep.then hB21)) a3.1 u3 (g3.now (hC35.keep.then hB21)) x8 hr7) ?_
   rintro v8 w24 ⟨hB20, F4, hv8, hn4, hb4⟩
   refine WL_nil ?_
   exact FinE_own hB20 rfl rfl hv8 hn4 hb4 (Val.inh hv8)
  refine StepsE_cons rfl ?_ ?_
  ·intro w25 hB21
   refine DepsE_nil ?_
   refine ⟨_, rfl, ?_⟩
   refine WL_load_box (hC35.grow hB21) 3 rfl rfl Tryz.isAgg3 rfl rfl ?_
   refine WL_nil ?_
   exact FinE_val (Below.refl _ _) rfl rfl ⟨rfl, rfl⟩
  exact StepsE_nil
 intro w26 hB22
 refine AllE_cons rfl rfl rfl ?_
 rintro _ _ ⟨rfl, rfl⟩
 refine AllE_cons rfl rfl rfl ?_
 rintro _ _ ⟨rfl, b7, o1, rfl, h1⟩
 refine AllE_cons rfl rfl rfl ?_
 rintro v7 _ ⟨rfl, h4⟩
 obtain ⟨v6, rfl, h3⟩ := ro_st84 h4
 refine AllE_cons rfl rfl rfl ?_
 rintro _ _ ⟨rfl, rfl⟩
 refine AllE_cons rfl rfl rfl ?_
 rintro _ _ ⟨rfl, rfl⟩
 refine AllE_cons rfl rfl rfl ?_
 intro v8 F4 hv8
 refine AllE_cons rfl rfl rfl ?_
 rintro _ _ ⟨rfl, rfl⟩
 refine AllE_nil ?_
 intro hn5 hb5
 have hC36 := hC35.pushL hB22 (Bs := [Item.own v8 (x8 : (List (Int × (List Int))))]) (Fs := [F4]) ⟨F4, _, rfl, hv8, rfl⟩ (by simpa using hn5) (fun b h => (hb5 b (by simpa using h)).1)
 obtain ⟨x9, hr8, hF⟩ := bind_some hF
 refine WA_one 15 (by kernel_rfl) rfl ?_
 refine WL_call Tryz.call58 rfl rfl (c_S_PageAt x8 v8 ((hC36.ro 0 rfl).now (Keep.refl _ _)) a4.2.1 a5 x9 hr8) ?_
 rintro _ w27 ⟨hB23, v9, v10, v11, F5, F6, F7, rfl, hv9, hv10, hv11, hn6, hb6⟩
 obtain ⟨rfl, rfl⟩ := val_int hv10
 obtain ⟨rfl, rfl⟩ := val_bool hv11
 have hC37 := hC36.pushL hB23 (Bs := [Item.own v9 x9.1]) (Fs := [F5]) ⟨F5, _, rfl, hv9, rfl⟩ (by simpa using hn6) (fun b h => hb6 b (by simpa using h))
 refine WL_nil ?_
 refine WA_tk 16 (by kernel_rfl) rfl rfl (fl_move rfl) ?_
 refine WL_move rfl rfl ?_
 refine WL_nil ?_
 refine WA_tk 17 (by kernel_rfl) rfl rfl (fl_extract rfl rfl) ?_
 refine WL_extract rfl rfl rfl ?_
 refine WL_nil ?_
 refine WA_tk 18 (by kernel_rfl) rfl rfl (fl_extract rfl rfl) ?_
 refine WL_extract rfl rfl rfl ?_
 refine WL_nil ?_
 refine WA_tk 19 (by kernel_rfl) rfl rfl (fl_extract rfl rfl) ?_
 refine WL_extract rfl rfl rfl ?_
 refine WL_nil ?_
 refine WA_tk 20 (by kernel_rfl) rfl rfl (fl_assign rfl) ?_
 refine WL_assign rfl rfl ?_
 refine WL_nil ?_
 refine WA_tk 21 (by kernel_rfl) rfl rfl (fl_assign rfl) ?_
 refine WL_assign rfl rfl ?_
 refine WL_nil ?_
 refine WA_tk 22 (by kernel_rfl) rfl rfl (fl_assign rfl) ?_
 refine WL_assign rfl rfl ?_
 refine WL_nil ?_
 refine WA_done (by kernel_rfl) ?_
 refine nrm_normal ?_
 refine W_seq ?_
 refine W_seq_reg ?_
 refine WL_move rfl rfl ?_
 refine WL_not rfl rfl ?_
 refine WL_nil ?_
 refine W_cond rfl (fun hc6 => ?_) (fun hc6 => ?_)
 ·replace hF := ite_t hF hc6
  refine W_seq ?_
  refine W_drawn 5 rfl hmix (fun w28 hB24 => ?_)
  have hC38 := hC37.grow hB24
  refine WA.sub (l' := [(1, u2), (4, (.int .i64 a5)), (7, (ptr b1 0)), (8, (ptr b2 0)), (11, (ptr b3 0)), (13, (ptr b4 0)), (14, v9), (15, (.int .i64 x9.2.1)), (16, (.bool x9.2.2)), (41, (.bool x2)), (44, (ptr b2 3)), (45, (.int .i64 a4.2.2)), (46, (ptr b1 1)), (47, (.int .i64 a3.2)), (48, (.bool (!decide (a4.2.2 = a3.2)))), (51, (.tuple #[v9, (.int .i64 x9.2.1), (.bool x9.2.2)])), (52, u2), (53, (ptr b2 0)), (54, (ptr b2 0)), (55, (.int .i64 a4.1.1)), (56, (ptr b7 o1)), (57, (.agg #[(.int .i64 x7.1), v6, (.int .i64 x7.2.2.1), (.int .i64 x7.2.2.2.1), (.int .i64 x7.2.2.2.2)])), (58, (ptr b2 0)), (59, (ptr b2 1)), (60, u4), (61, (ptr b1 0)), (62, u3), (63, v8), (64, (ptr b2 2)), (65, (.int .i64 a4.2.1)), (66, (.int .i64 a5)), (67, (.tuple #[v9, (.int .i64 x9.2.1), (.bool x9.2.2)])), (68, v9), (69, (.int .i64 x9.2.1)), (70, (.bool x9.2.2)), (71, (.bool x9.2.2)), (72, (.bool (!x9.2.2)))]) ?_ ⟨rfl, rfl, rfl, rfl, rfl, rfl, rfl, rfl, rfl, rfl, rfl, rfl, rfl, rfl, rfl, rfl, rfl, rfl, rfl, rfl, rfl, rfl, rfl, rfl, rfl, rfl, rfl, rfl, rfl, rfl, rfl, rfl, rfl, rfl, rfl, rfl, rfl, trivial⟩
  refine WA_postsE [⟨0, [], fun vs => PW.own (([] : List (Int × (List Int))) : (List (Int × (List Int)))), []⟩, ⟨1, [], fun vs => PW.val (.agg #[(.int .i64 x1.1.1), v2, (.int .i64 x1.2.1), (.int .i64 x1.2.2)]), []⟩, ⟨2, [73], fun vs => PW.val (vs.getD 0 undef), []⟩] [[], [], [0]] 2 rfl (by kernel_rfl) (by kernel_rfl) rfl ?_ ?_
  ·refine StepsE_cons rfl ?_ ?_
   ·intro w30 hB26
    refine DepsE_nil ?_
    refine ⟨_, rfl, ?_⟩
    refine WL_buildSlice (vs := []) (Ctx.start w30) Tryz.underlying34 ty81 rfl rfl rfl rfl (by simp) rfl rfl (fun b8 w29 hC39 hB25 => ?_)
    have hC40 := hC39.row0 (α := (Int × (List Int)))
    have hC41 := hC40.front 1 rfl
    dsimp only [List.eraseIdx, List.cons_append, List.nil_append, List.append_nil] at hC41
    have hC42 : Ctx [] w30 w29 (Item.own (.slice (some ⟨b8, 0, none⟩) 0 0) (([] : List (Int × (List Int))) : List (Int × (List Int))) :: []) := hC41.rowOwn (by simp [maxLen])
    refine WL_nil ?_
    exact FinE_ctx hC42 rfl rfl (fun F h => h)
   refine StepsE_cons rfl ?_ ?_
   ·intro w30 hB26
    refine DepsE_nil ?_
    refine ⟨_, rfl, ?_⟩
    refine WL_load_box_agg [(.int .i64 x1.1.1), v2, (.int .i64 x1.2.1), (.int .i64 x1.2.2)] (hC38.grow hB26) 2 rfl rfl rfl Tryz.isAgg73 Tryz.sizeOf73 rfl rfl ?_
    refine WL_nil ?_
    exact FinE_val (Below.refl _ _) rfl rfl ⟨rfl, rfl⟩
   refine StepsE_cons rfl ?_ ?_
   ·intro w30 hB26
    refine DepsE_cons rfl rfl rfl ?_
    intro v12 F8 hv12 _
    refine DepsE_nil ?_
    refine ⟨_, rfl, ?_⟩
    refine WL_assign rfl rfl ?_
    refine WL_nil ?_
    exact FinE_val (Below.refl _ _) rfl rfl ⟨rfl, rfl⟩
   exact StepsE_nil
  intro w31 hB27
  refine AllE_cons rfl rfl rfl ?_
  intro v12 F8 hv12
  refine AllE_cons rfl rfl rfl ?_
  rintro _ _ ⟨rfl, rfl⟩
  refine AllE_cons rfl rfl rfl ?_
  rintro _ _ ⟨rfl, rfl⟩
  refine AllE_nil ?_
  intro hn7 hb7
  have hC43 := hC38.pushL hB27 (Bs := [Item.own v12 (([] : List (Int × (List Int))) : (List (Int × (List Int))))]) (Fs := [F8]) ⟨F8, _, rfl, hv12, rfl⟩ (by simpa using hn7) (fun b h => (hb7 b (by simpa using h)).1)
  refine WA_one 3 (by kernel_rfl) rfl ?_
  refine WL_store_box_agg (cs' := [(.int .i64 x1.1.1), v2, (.int .i64 x1.2.1), (.int .i64 x1.2.2)]) (new := [(.int .i64 x1.1.1), v2, (.int .i64 x1.2.1), (.int .i64 x1.2.2)]) hC43 5 rfl rfl (by intro v hv; simp only [List.mem_cons, List.not_mem_nil, or_false] at hv; rcases hv with rfl | rfl | rfl | rfl; exact rfl; exact (ro_one (hC43.ro 4 rfl)); exact rfl; exact rfl) rfl Tryz.sizeOf73 rfl rfl (fun w32 hC44 => ?_)
  try dsimp only [List.set] at hC44
  refine WL_nil ?_
  refine WA_tk 4 (by kernel_rfl) rfl rfl (fl_assign rfl) ?_
  refine WL_assign rfl rfl ?_
  refine WL_nil ?_
  refine WA_done (by kernel_rfl) ?_
  refine nrm_normal ?_
  refine W_ret ?_
  refine nrm_ret ?_
  have hq7 := Option.some.inj hF
  subst hq7
  refine fn_retG3 rfl (rv_tmp rfl) (rv_cell_agg (cs' := [(.int .i64 x1.1.1), v2, (.int .i64 x1.2.1), (.int .i64 x1.2.2)]) hC44 (i := 5) rfl rfl rfl Tryz.isAgg73 Tryz.sizeOf73 rfl) (rv_tmp rfl) ?_
  have hC45 := hC44.triv (int_val (3))
  have hC47 := hC45.f5
  have hC46 := own_st73 x1.1.1 v2 x1.1.2 x1.2.1 x1.2.2 hC47
  have hC48 := hC46.f2
  exact ⟨_, rfl, res3_of hC48⟩
 replace hF := ite_f hF hc6
 refine W_skip ?_
 refine nrm_normal ?_
 refine W_seq_reg ?_
 refine WL_move rfl rfl ?_
 refine WL_field Tryz.underlying73 rfl rfl (fun w => ⟨_, Tryz.sizeOf3 w⟩) rfl rfl ?_
 refine WL_store_box (cs' := [(.int .i64 x1.1.1), v2, (.int .i64 x9.2.1), (.int .i64 x1.2.2)]) hC37 2 rfl rfl rfl rfl Tryz.sizeOf3 rfl rfl (fun w33 hC49 => ?_)
 try dsimp only [List.set] at hC49
 refine WL_nil ?_
 refine W_seq ?_
 refine W_seq ?_
 refine W_drawn 15 rfl hmix (fun w34 hB28 => ?_)
 have hC50 := hC49.grow hB28
 refine WA_tk 0 (by kernel_rfl) rfl rfl (fl_move rfl) ?_
 refine WL_move rfl rfl ?_
 refine WL_nil ?_
 refine WA_tk 1 (by kernel_rfl) rfl rfl (fl_move rfl) ?_
 refine WL_move rfl rfl ?_
 refine WL_nil ?_
 refine WA_tk 2 (by kernel_rfl) rfl rfl (fl_field Tryz.underlying73 rfl rfl (fun w => ⟨_, Tryz.sizeOf45 w⟩) rfl) ?_
 refine WL_field Tryz.underlying73 rfl rfl (fun w => ⟨_, Tryz.sizeOf45 w⟩) rfl rfl ?_
 refine WL_nil ?_
 refine WA_tk 3 (by kernel_rfl) rfl rfl (fl_field Tryz.underlying45 rfl rfl (fun w => ⟨_, Tryz.sizeOf3 w⟩) rfl) ?_
 refine WL_field Tryz.underlying45 rfl rfl (fun w => ⟨_, Tryz.sizeOf3 w⟩) rfl rfl ?_
 refine WL_nil ?_
 refine WA_tk 7 (by kernel_rfl) rfl rfl (fl_field Tryz.underlying73 rfl rfl (fun w => ⟨_, Tryz.sizeOf45 w⟩) rfl) ?_
 refine WL_field Tryz.underlying73 rfl rfl (fun w => ⟨_, Tryz.sizeOf45 w⟩) rfl rfl ?_
 refine WL_nil ?_
 refine WA_tk 8 (by kernel_rfl) rfl rfl (fl_field Tryz.underlying45 rfl rfl (fun w => ⟨_, Tryz.sizeOf22 w⟩) rfl) ?_
 refine WL_field Tryz.underlying45 rfl rfl (fun w => ⟨_, Tryz.sizeOf22 w⟩) rfl rfl ?_
 refine WL_nil ?_
 refine WA_tk 10 (by kernel_rfl) rfl rfl (fl_field Tryz.underlying38 rfl rfl (fun w => ⟨_, Tryz.sizeOf34 w⟩) rfl) ?_
 refine WL_field Tryz.underlying38 rfl rfl (fun w => ⟨_, Tryz.sizeOf34 w⟩) rfl rfl ?_
 refine WL_nil ?_
 obtain ⟨x10, hx2, hF⟩ := bind_some hF
 refine WA.sub (l' := [(1, u2), (4, (.int .i64 a5)), (7, (ptr b1 0)), (8, (ptr b2 0)), (11, (ptr b3 0)), (13, (ptr b4 0)), (14, v9), (15, (.int .i64 x9.2.1)), (16, (.bool x9.2.2)), (41, (.bool x2)), (44, (ptr b2 3)), (45, (.int .i64 a4.2.2)), (46, (ptr b1 1)), (47, (.int .i64 a3.2)), (48, (.bool (!decide (a4.2.2 = a3.2)))), (51, (.tuple #[v9, (.int .i64 x9.2.1), (.bool x9.2.2)])), (52, u2), (53, (ptr b2 0)), (54, (ptr b2 0)), (55, (.int .i64 a4.1.1)), (56, (ptr b7 o1)), (57, (.agg #[(.int .i64 x7.1), v6, (.int .i64 x7.2.2.1), (.int .i64 x7.2.2.2.1), (.int .i64 x7.2.2.2.2)])), (58, (ptr b2 0)), (59, (ptr b2 1)), (60, u4), (61, (ptr b1 0)), (62, u3), (63, v8), (64, (ptr b2 2)), (65, (.int .i64 a4.2.1)), (66, (.int .i64 a5)), (67, (.tuple #[v9, (.int .i64 x9.2.1), (.bool x9.2.2)])), (68, v9), (69, (.int .i64 x9.2.1)), (70, (.bool x9.2.2)), (71, (.bool x9.2.2)), (72, (.bool (!x9.2.2))), (75, (.int .i64 x9.2.1)), (76, (ptr b4 2)), (77, (.int .i64 x9.2.1)), (78, u2), (79, (ptr b2 0)), (80, (ptr b2 0)), (84, (ptr b2 0)), (85, (ptr b2 1)), (87, (ptr b1 0))]) ?_ ⟨rfl, rfl, rfl, rfl, rfl, rfl, rfl, rfl, rfl, rfl, rfl, rfl, rfl, rfl, rfl, rfl, rfl, rfl, rfl, rfl, rfl, rfl, rfl, rfl, rfl, rfl, rfl, rfl, rfl, rfl, rfl, rfl, rfl, rfl, rfl, rfl, rfl, rfl, rfl, rfl, rfl, rfl, rfl, rfl, rfl, rfl, trivial⟩
 refine WA_postsE [⟨4, [], fun vs => PW.val (.int .i64 a4.1.1), []⟩, ⟨5, [], fun vs => PW.at [] w0 x10, []⟩, ⟨6, [], fun vs => PW.ro [] w0 x10, []⟩, ⟨9, [], fun vs => PW.val u4, []⟩, ⟨11, [], fun vs => PW.val u3, []⟩] [[], [4], [5], [], []] 3 rfl (by kernel_rfl) (by kernel_rfl) rfl ?_ ?_
 ·refine StepsE_cons rfl ?_ ?_
  ·intro w35 hB29
   refine DepsE_nil ?_
   refine ⟨_, rfl, ?_⟩
   refine WL_load_box (hC50.grow hB29) 5 rfl rfl Tryz.isAgg3 rfl rfl ?_
   refine WL_nil ?_
   exact FinE_val (Below.refl _ _) rfl rfl ⟨rfl, rfl⟩
  refine StepsE_cons rfl ?_ ?_
  ·intro w35 hB29
   refine DepsE_cons rfl rfl rfl ?_
   rintro _ _ ⟨rfl, rfl⟩ _
   refine DepsE_nil ?_
   refine ⟨_, rfl, ?_⟩
   refine WL_index Tryz.underlying42 ty84 g2 hx2 rfl rfl rfl (fun b9 o2 h5 => ?_)
   refine WL_nil ?_
   exact FinE_val (Below.refl _ _) rfl rfl ⟨rfl, _, _, rfl, h5⟩
  refine StepsE_cons rfl ?_ ?_
  ·intro w35 hB29
   refine DepsE_cons rfl rfl rfl ?_
   rintro _ _ ⟨rfl, b9, o2, rfl, h5⟩ _
   refine DepsE_nil ?_
   refine ⟨_, rfl, ?_⟩
   refine WL_load ty84 h5 (hC50.keep.then hB29) rfl rfl (fun v15 h8 => ?_)
   refine WL_nil ?_
   exact FinE_val (Below.refl _ _) rfl rfl ⟨rfl, h8⟩
  refine StepsE_cons rfl ?_ ?_
  ·intro w35 hB29
   refine DepsE_nil ?_
   refine ⟨_, rfl, ?_⟩
   refine WL_load_box (hC50.grow hB29) 5 rfl rfl Tryz.isAgg22 rfl rfl ?_
   refine WL_nil ?_
   exact FinE_val (Below.refl _ _) rfl rfl ⟨rfl, rfl⟩
  refine StepsE_cons rfl ?_ ?_
  ·intro w35 hB29
   refine DepsE_nil ?_
   refine ⟨_, rfl, ?_⟩
   refine WL_load_box (hC50.grow hB29) 6 rfl rfl Tryz.isAgg34 rfl rfl ?_
   refine WL_nil ?_
   exact FinE_val (Below.refl _ _) rfl rfl ⟨rfl, rfl⟩
  exact StepsE_nil
 intro w36 hB30
 refine AllE_cons rfl rfl rfl ?_
 rintro _ _ ⟨rfl, rfl⟩
 refine AllE_cons rfl rfl rfl ?_
 rintro _ _ ⟨rfl, b9, o2, rfl, h5⟩
 refine AllE_cons rfl rfl rfl ?_
 rintro v15 _ ⟨rfl, h8⟩
 obtain ⟨v14, rfl, h7⟩ := ro_st84 h8
 refine AllE_cons rfl rfl rfl ?_
 rintro _ _ ⟨rfl, rfl⟩
 refine AllE_cons rfl rfl rfl ?_
 rintro _ _ ⟨rfl, rfl⟩
 refine AllE_nil ?_
 intro hn8 hb8
 have hC51 := hC50.grow hB30
 obtain ⟨x11, hr9, hF⟩ := bind_some hF
 refine WA_one 12 (by kernel_rfl) rfl ?_
 refine WL_call Tryz.call59 rfl rfl (c_S_l5Matches x10 v14 (h7.now hC51.keep) a4.1.2 u4 (g4.now hC51.keep) a3.1 u3 (g3.now hC51.keep) x11 hr9) ?_
 rintro v16 w37 ⟨hB31, F9, hv13, hn9, hb9⟩
 have hC52 := hC51.push hB31 (A := Item.own v16 x11) hv13 hn9 hb9
 refine WL_nil ?_
 refine WA_tk 13 (by kernel_rfl) rfl rfl (fl_len Tryz.underlying34 (hC52.ro 0 rfl) rfl) ?_
 refine WL_len Tryz.underlying34 (hC52.ro 0 rfl) rfl rfl ?_
 refine WL_nil ?_
 refine WA_tk 14 (by kernel_rfl) rfl rfl (fl_eql rfl rfl) ?_
 refine WL_eql rfl rfl rfl ?_
 refine WL_nil ?_
 refine WA_done (by kernel_rfl) ?_
 refine nrm_normal ?_
 refine W_cond rfl (fun hc7 => ?_) (fun hc7 => ?_)
 ·replace hF := ite_t hF hc7
  refine W_seq ?_
  refine W_drawn 5 rfl hmix (fun w38 hB32 => ?_)
  have hC53 := hC52.grow hB32
  refine WA_tk 0 (by kernel_rfl) rfl rfl (fl_move rfl) ?_
  refine WL_move rfl rfl ?_
  refine WL_nil ?_
  refine WA_tk 2 (by kernel_rfl) rfl rfl (fl_assign rfl) ?_
  refine WL_assign rfl rfl ?_
  refine WL_nil ?_
  refine WA_one 1 (by kernel_rfl) rfl ?_
  refine WL_load_box_agg [(.int .i64 x1.1.1), v2, (.int .i64 x9.2.1), (.int .i64 x1.2.2)] hC53 3 rfl rfl rfl Tryz.isAgg73 Tryz.sizeOf73 rfl rfl ?_
  refine WL_nil ?_
  refine WA_one 3 (by kernel_rfl) rfl ?_
  refine WL_store_box_agg (cs' := [(.int .i64 x1.1.1), v2, (.int .i64 x9.2.1), (.int .i64 x1.2.2)]) (new := [(.int .i64 x1.1.1), v2, (.int .i64 x9.2.1), (.int .i64 x1.2.2)]) hC53 5 rfl rfl (by intro v hv; simp only [List.mem_cons, List.not_mem_nil, or_false] at hv; rcases hv with rfl | rfl | rfl | rfl; exact rfl; exact (ro_one (hC53.ro 4 rfl)); exact rfl; exact rfl) rfl Tryz.sizeOf73 rfl rfl (fun w39 hC54 => ?_)
  try dsimp only [List.set] at hC54
  refine WL_nil ?_
  refine WA_tk 4 (by kernel_rfl) rfl rfl (fl_assign rfl) ?_
  refine WL_assign rfl rfl ?_
  refine WL_nil ?_
  refine WA_done (by kernel_rfl) ?_
  refine nrm_normal ?_
  refine W_ret ?_
  refine nrm_ret ?_
  have hq8 := Option.some.inj hF
  subst hq8
  refine fn_retG3 rfl (rv_tmp rfl) (rv_cell_agg (cs' := [(.int .i64 x1.1.1), v2, (.int .i64 x9.2.1), (.int .i64 x1.2.2)]) hC54 (i := 5) rfl rfl rfl Tryz.isAgg73 Tryz.sizeOf73 rfl) (rv_tmp rfl) ?_
  have hC55 := hC54.triv (int_val (1))
  have hC57 := hC55.f5
  have hC56 := own_st73 x1.1.1 v2 x1.1.2 x9.2.1 x1.2.2 hC57
  have hC58 := hC56.f3
  exact ⟨_, rfl, res3_of hC58⟩
 replace hF := ite_f hF hc7
 refine W_skip ?_
 refine nrm_normal ?_
 refine W_seq ?_
 refine W_drawn 5 rfl hmix (fun w40 hB33 => ?_)
 have hC59 := hC52.grow hB33
 refine WA_tk 0 (by kernel_rfl) rfl rfl (fl_move rfl) ?_
 refine WL_move rfl rfl ?_
 refine WL_nil ?_
 refine WA_tk 2 (by kernel_rfl) rfl rfl (fl_assign rfl) ?_
 refine WL_assign rfl rfl ?_
 refine WL_nil ?_
 refine WA_one 1 (by kernel_rfl) rfl ?_
 refine WL_load_box_agg [(.int .i64 x1.1.1), v2, (.int .i64 x9.2.1), (.int .i64 x1.2.2)] hC59 3 rfl rfl rfl Tryz.isAgg73 Tryz.sizeOf73 rfl rfl ?_
 refine WL_nil ?_
 refine WA_one 3 (by kernel_rfl) rfl ?_
 refine WL_store_box_agg (cs' := [(.int .i64 x1.1.1), v2, (.int .i64 x9.2.1), (.int .i64 x1.2.2)]) (new := [(.int .i64 x1.1.1), v2, (.int .i64 x9.2.1), (.int .i64 x1.2.2)]) hC59 5 rfl rfl (by intro v hv; simp only [List.mem_cons, List.not_mem_nil, or_false] at hv; rcases hv with rfl | rfl | rfl | rfl; exact rfl; exact (ro_one (hC59.ro 4 rfl)); exact rfl; exact rfl) rfl Tryz.sizeOf73 rfl rfl (fun w41 hC60 => ?_)
 try dsimp only [List.set] at hC60
 refine WL_nil ?_
 refine WA_tk 4 (by kernel_rfl) rfl rfl (fl_assign rfl) ?_
 refine WL_assign rfl rfl ?_
 refine WL_nil ?_
 refine WA_done (by kernel_rfl) ?_
 refine nrm_normal ?_
 refine W_ret ?_
 have hq9 := Option.some.inj hF
 subst hq9
 refine fn_retG3 rfl (rv_tmp rfl) (rv_cell_agg (cs' := [(.int .i64 x1.1.1), v2, (.int .i64 x9.2.1), (.int .i64 x1.2.2)]) hC60 (i := 5) rfl rfl rfl Tryz.isAgg73 Tryz.sizeOf73 rfl) (rv_tmp rfl) ?_
 have hC61 := hC60.triv (int_val (0))
 have hC63 := hC61.f5
 have hC62 := own_st73 x1.1.1 v2 x1.1.2 x9.2.1 x1.2.2 hC63
 have hC64 := hC62.f3
 exact ⟨_, rfl, res3_of hC64⟩

theorem c_S_HasFact {w0 : World} (a1 : (List (Int × (List Int)))) (u1 : Value) (g1 : RO [] w0 u1 a1) (a2 : (Int × (List Int))) (u2 : Value) (g2 : RO [] w0 u2 a2.2) (rr : Bool) (hF : S.HasFact a1 a2 = some rr) :
 Calls Tryz.prog 61 [u1, (.agg #[(.int .i64 a2.1), u2])].toArray w0 fun e w' => ∃ v, e = .returned v ∧ Res w0 rr v w' := by
 refine calls_of_W Tryz.func61 rfl rfl ?_
 have hC0 := Ctx.start w0
 unfold S.HasFact at hF
 refine W_seq_reg ?_
 refine WL_box (cs := [(.int .i64 a2.1), u2]) hC0 rfl rfl rfl (fun b1 w1 hC1 hB1 => ?_)
 refine WL_assign rfl rfl ?_
 refine WL_nil ?_
 refine W_seq ?_
 refine W_seq_reg ?_
 refine WL_assign rfl rfl ?_
 refine WL_nil ?_
 obtain ⟨r1, hr1, hF⟩ := bind_some hF
 refine W_norm (fun l w => .inl () = r1 ∧ l = [] ∧ Below w1.heap.size w1 w ∧ Ctx [] w0 w []) ?_ ?_
 ·refine W_block ?_
  refine W.sub (l' := [(0, u1), (3, (ptr b1 0)), (5, (.int .i64 0))]) ?_ ⟨rfl, rfl, rfl, trivial⟩
  refine W_loop (fun k l w => ∃ x1 : Int, l = [(0, u1), (3, (ptr b1 0)), (5, (.int .i64 x1))] ∧ Below w1.heap.size w1 w ∧ Ctx [] w0 w [Item.box b1 [(.int .i64 a2.1), u2]] ∧ S.HasFact_l1 a1 a2 k x1 = some r1) FUEL ⟨0, rfl, (Below.refl _ _), hC1, hr1⟩ ?_
  clear hr1
  rintro k1 _ w2 ⟨x1, rfl, hB2, hC2, hL1⟩
  cases k1 with
  | zero => rw [S.HasFact_l1] at hL1; cases hL1
  | succ k1 =>
   rw [S.HasFact_l1] at hL1
   refine W_seq ?_
   refine W_seq_reg ?_
   refine WL_move rfl rfl ?_
   refine WL_move rfl rfl ?_
   refine WL_len Tryz.underlying34 g1 rfl rfl ?_
   refine WL_lss rfl rfl rfl ?_
   refine WL_nil ?_
   refine W_cond rfl (fun hc1 => ?_) (fun hc1 => ?_)
   ·replace hL1 := ite_t hL1 hc1
    refine W_skip ?_
    refine nrm_normal ?_
    refine W_seq ?_
    refine W_block ?_
    refine W_seq ?_
    refine W_drawn 7 rfl hmix (fun w3 hB3 => ?_)
    have hC3 := hC2.grow hB3
    refine WA_tk 0 (by kernel_rfl) rfl rfl (fl_move rfl) ?_
    refine WL_move rfl rfl ?_
    refine WL_nil ?_
    refine WA_tk 1 (by kernel_rfl) rfl rfl (fl_move rfl) ?_
    refine WL_move rfl rfl ?_
    refine WL_nil ?_
    obtain ⟨x2, hx1, hL1⟩ := bind_some hL1
    refine WA_tk 2 (by kernel_rfl) rfl rfl (fl_index Tryz.underlying34 ty81 g1 hx1 rfl rfl) ?_
    refine WL_index Tryz.underlying34 ty81 g1 hx1 rfl rfl rfl (fun b2 o1 h1 => ?_)
    refine WL_nil ?_
    refine WA.sub (l' := [(0, u1), (3, (ptr b1 0)), (5, (.int .i64 x1)), (6, (.int .i64 x1)), (7, u1), (8, (.int .i64 (List.length a1 : Int))), (9, (.bool (decide (x1 < (List.length a1 : Int))))), (12, u1), (13, (.int .i64 x1)), (14, (ptr b2 o1))]) ?_ ⟨rfl, rfl, rfl, rfl, rfl, rfl, rfl, rfl, rfl, rfl, trivial⟩
    refine WA_postsE [⟨3, [], fun vs => PW.ro [] w0 x2, []⟩, ⟨4, [], fun vs => PW.val (.agg #[(.int .i64 a2.1), u2]), []⟩] [[], []] 2 rfl (by kernel_rfl) (by kernel_rfl) rfl ?_ ?_
    ·refine StepsE_cons rfl ?_ ?_
     ·intro w4 hB4
      refine DepsE_nil ?_
      refine ⟨_, rfl, ?_⟩
      refine WL_load ty81 h1 (hC3.keep.then hB4) rfl rfl (fun v3 h4 => ?_)
      refine WL_nil ?_
      exact FinE_val (Below.refl _ _) rfl rfl ⟨rfl, h4⟩
     refine StepsE_cons rfl ?_ ?_
     ·intro w4 hB4
      refine DepsE_nil ?_
      refine ⟨_, rfl, ?_⟩
      refine WL_load_box_agg [(.int .i64 a2.1), u2] (hC3.grow hB4) 0 rfl rfl rfl Tryz.isAgg81 Tryz.sizeOf81 rfl rfl ?_
      refine WL_nil ?_
      exact FinE_val (Below.refl _ _) rfl rfl ⟨rfl, rfl⟩
     exact StepsE_nil
    intro w5 hB5
    refine AllE_cons rfl rfl rfl ?_
    rintro v3 _ ⟨rfl, h4⟩
    obtain ⟨v2, rfl, h3⟩ := ro_st81 h4
    refine AllE_cons rfl rfl rfl ?_
    rintro _ _ ⟨rfl, rfl⟩
    refine AllE_nil ?_
    intro hn1 hb1
    have hC4 := hC3.grow hB5
    obtain ⟨x3, hr2, hL1⟩ := bind_some hL1
    refine WA_one 5 (by kernel_rfl) rfl ?_
    refine WL_call Tryz.call63 rfl rfl (c_S_CompareFacts x2 v2 (h3.now hC4.keep) (a2.1, a2.2) u2 (g2.now hC4.keep) x3 hr2) ?_
    intro _ w6 hv1
    obtain ⟨rfl, hB6⟩ := res_int hv1
    have hC5 := hC4.grow hB6
    refine WL_nil ?_
    refine WA_tk 6 (by kernel_rfl) rfl rfl (fl_eql rfl rfl) ?_
    refine WL_eql rfl rfl rfl ?_
    refine WL_nil ?_
    refine WA_done (by kernel_rfl) ?_
    refine nrm_normal ?_
    refine W_cond rfl (fun hc2 => ?_) (fun hc2 => ?_)
    ·replace hL1 := ite_t hL1 hc2
     refine W_seq_reg ?_
     refine WL_assign rfl rfl ?_
     refine WL_nil ?_
     refine W_ret ?_
     refine blk_ret ?_
     refine nrm_ret ?_
     refine nrm_ret ?_
     refine blk_ret ?_
     refine nrm_ret ?_
     refine nrm_ret ?_
     have hq1 := Option.some.inj hL1
     subst hq1
     dsimp only at hF
     have hq2 := Option.some.inj hF
     subst hq2
     refine fn_ret1 rfl rfl ?_
     exact ⟨_, rfl, bool_res hC5 _⟩
    replace hL1 := ite_f hL1 hc2
    refine W_skip ?_
    refine blk_normal ?_
    refine nrm_normal ?_
    refine W_reg ?_
    refine WL_move rfl rfl ?_
    refine WL_add rfl rfl rfl ?_
    refine WL_assign rfl rfl ?_
    refine WL_nil ?_
    refine nrm_sub (l' := [(0, u1), (3, (ptr b1 0)), (5, (.int .i64 (w64 (x1 + 1))))]) ⟨rfl, rfl, rfl, trivial⟩ ?_
    exact ⟨k1, Nat.lt_succ_self _, w64 (x1 + 1), rfl, ((((Keep.of hB2).then hB3).then hB5).then hB6).below, hC5, hL1⟩
   replace hL1 := ite_f hL1 hc1
   refine W_exit ?_
   refine nrm_exit ?_
   refine nrm_exit ?_
   refine blk_exit ?_
   have hq3 := Option.some.inj hL1
   subst hq3
   have hC6 := hC2.h0
   refine nrm_sub (l' := []) trivial ?_
   exact ⟨rfl, rfl, (Keep.of hB2).below, hC6⟩
 rintro l2 _ w7 hs2 ⟨rfl, rfl, hB7, hC7⟩
 try dsimp only at hF
 refine nrm_sub' hs2 ?_
 clear hs2
 refine W_seq_reg ?_
 refine WL_assign rfl rfl ?_
 refine WL_nil ?_
 refine W_ret ?_
 have hq4 := Option.some.inj hF
 subst hq4
 refine fn_ret1 rfl rfl ?_
 exact ⟨_, rfl, bool_res hC7 _⟩

theorem c_S_AddFact {w0 : World} (a1 : (List (Int × (List Int)))) (u1 : Value) (g1 : RO [] w0 u1 a1) (a2 : (Int × (List Int))) (u2 : Value) (g2 : RO [] w0 u2 a2.2) (rr : (List (Int × (List Int)))) (hF : S.AddFact a1 a2 = some rr) :
 Calls Tryz.prog 62 [u1, (.agg #[(.int .i64 a2.1), u2])].toArray w0 fun e w' => ∃ v, e = .returned v ∧ Res w0 rr v w' := by
 refine calls_of_W Tryz.func62 rfl rfl ?_
 have hC0 := Ctx.start w0
 unfold S.AddFact at hF
 refine W_seq_reg ?_
 refine WL_box (cs := [(.int .i64 a2.1), u2]) hC0 rfl rfl rfl (fun b1 w1 hC1 hB1 => ?_)
 refine WL_assign rfl rfl ?_
 refine WL_nil ?_
 refine W_seq_reg ?_
 refine WL_buildSlice (vs := []) hC1 Tryz.underlying34 ty81 rfl rfl rfl rfl (by simp) rfl rfl (fun b2 w2 hC2 hB2 => ?_)
 have hC3 := hC2.row0 (α := (Int × (List Int)))
 have hC4 := hC3.front 1 rfl
 dsimp only [List.eraseIdx, List.cons_append, List.nil_append, List.append_nil] at hC4
 have hC5 : Ctx [] w0 w2 (Item.own (.slice (some ⟨b2, 0, none⟩) 0 0) (([] : List (Int × (List Int))) : List (Int × (List Int))) :: [Item.box b1 [(.int .i64 a2.1), u2]]) := hC4.rowOwn (by simp [maxLen])
 refine WL_assign rfl rfl ?_
 refine WL_nil ?_
 refine W_seq_reg ?_
 refine WL_move rfl rfl ?_
 refine WL_load_box_agg [(.int .i64 a2.1), u2] hC5 1 rfl rfl rfl Tryz.isAgg81 Tryz.sizeOf81 rfl rfl ?_
 obtain ⟨x1, hr1, hF⟩ := bind_some hF
 refine WL_call Tryz.call61 rfl rfl (c_S_HasFact a1 u1 (g1.now hC5.keep) (a2.1, a2.2) u2 (g2.now hC5.keep) x1 hr1) ?_
 intro _ w3 hv1
 obtain ⟨rfl, hB3⟩ := res_bool hv1
 have hC6 := hC5.grow hB3
 refine WL_assign rfl rfl ?_
 refine WL_nil ?_
 refine W_seq ?_
 refine W_seq_reg ?_
 refine WL_assign rfl rfl ?_
 refine WL_nil ?_
 obtain ⟨r1, hr2, hF⟩ := bind_some hF
 refine W_norm (fun l w => ∃ v2 : Value, ∃ x5 : (List (Int × (List Int))), ∃ x6 : Bool, (x5, x6) = r1 ∧ l = [(3, (ptr b1 0)), (5, v2), (6, (.bool x6))] ∧ Ctx [] w0 w [Item.own v2 (x5 : (List (Int × (List Int)))), Item.box b1 [(.int .i64 a2.1), u2]]) ?_ ?_
 ·refine W_block ?_
  refine W.sub (l' := [(0, u1), (3, (ptr b1 0)), (5, (.slice (some ⟨b2, 0, none⟩) 0 0)), (6, (.bool x1)), (7, (.int .i64 0))]) ?_ ⟨rfl, rfl, rfl, rfl, rfl, trivial⟩
  refine W_loop (fun k l w => ∃ v1 : Value, ∃ x2 : (List (Int × (List Int))), ∃ x3 : Bool, ∃ x4 : Int, l = [(0, u1), (3, (ptr b1 0)), (5, v1), (6, (.bool x3)), (7, (.int .i64 x4))] ∧ Ctx [] w0 w [Item.own v1 (x2 : (List (Int × (List Int)))), Item.box b1 [(.int .i64 a2.1), u2]] ∧ S.AddFact_l1 a1 a2 k x2 x3 x4 = some r1) FUEL ⟨(.slice (some ⟨b2, 0, none⟩) 0 0), ([] : List (Int × (List Int))), x1, 0, rfl, hC6, hr2⟩ ?_
  clear hr2
  rintro k1 _ w4 ⟨v1, x2, x3, x4, rfl, hC7, hL1⟩
  cases k1 with
  | zero => rw [S.AddFact_l1] at hL1; cases hL1
  | succ k1 =>
   rw [S.AddFact_l1] at hL1
   refine W_seq ?_
   refine W_seq_reg ?_
   refine WL_move rfl rfl ?_
   refine WL_move rfl rfl ?_
   refine WL_len Tryz.underlying34 g1 rfl rfl ?_
   refine WL_lss rfl rfl rfl ?_
   refine WL_nil ?_
   refine W_cond rfl (fun hc1 => ?_) (fun hc1 => ?_)
   ·replace hL1 := ite_t hL1 hc1
    refine W_skip ?_
    refine nrm_normal ?_
    refine W_seq ?_
    refine W_block ?_
    refine W_seq ?_
    obtain ⟨r2, hr3, hL1⟩ := bind_some hL1
    refine W_cut (fun l w => ∃ x7 : Bool, x7 = r2 ∧ l = [(0, u1), (3, (ptr b1 0)), (5, v1), (6, (.bool x3)), (7, (.int .i64 x4)), (28, (.bool x7))] ∧ Below w4.heap.size w4 w ∧ Ctx [] w0 w [Item.own v1 (x2 : (List (Int × (List Int)))), Item.box b1 [(.int .i64 a2.1), u2]]) ?_ ?_
    ·refine W_drawn 11 rfl hmix (fun w6 hB6 => ?_)
     have hC9 := hC7.grow hB6
     refine WA_tk 0 (by kernel_rfl) rfl rfl (fl_move rfl) ?_
     refine WL_move rfl rfl ?_
     refine WL_nil ?_
     refine WA_tk 1 (by kernel_rfl) rfl rfl (fl_not rfl) ?_
     refine WL_not rfl rfl ?_
     refine WL_nil ?_
     refine WA_tk 2 (by kernel_rfl) rfl rfl (fl_move rfl) ?_
     refine WL_move rfl rfl ?_
     refine WL_nil ?_
     refine WA_fork (fun hc2 => ?_) (fun hc2 => ?_)
     ·replace hr3 := ite_t hr3 hc2
      refine WA_takeG 4 rfl (by kernel_rfl) (by kernel_rfl) (by kernel_rfl) rfl rfl rfl (fl_move rfl) ?_
      refine WL_guard rfl rfl ?_
      refine WL_move rfl rfl ?_
      refine WL_nil ?_
      refine WA_takeG 5 rfl (by kernel_rfl) (by kernel_rfl) (by kernel_rfl) rfl rfl rfl (fl_move rfl) ?_
      refine WL_guard rfl rfl ?_
      refine WL_move rfl rfl ?_
      refine WL_nil ?_
      obtain ⟨x8, hx1, hr3⟩ := bind_some hr3
      refine WA_takeG 6 rfl (by kernel_rfl) (by kernel_rfl) (by kernel_rfl) rfl rfl rfl (fl_index Tryz.underlying34 ty81 g1 hx1 rfl rfl) ?_
      refine WL_guard rfl rfl ?_
      refine WL_index Tryz.underlying34 ty81 g1 hx1 rfl rfl rfl (fun b3 o1 h1 => ?_)
      refine WL_nil ?_
      refine WA.sub (l' := [(0, u1), (3, (ptr b1 0)), (5, v1), (6, (.bool x3)), (7, (.int .i64 x4)), (12, (.int .i64 x4)), (13, u1), (14, (.int .i64 (List.length a1 : Int))), (15, (.bool (decide (x4 < (List.length a1 : Int))))), (18, (.bool x3)), (19, (.bool (!x3))), (20, (.bool true)), (22, u1), (23, (.int .i64 x4)), (24, (ptr b3 o1))]) ?_ ⟨rfl, rfl, rfl, rfl, rfl, rfl, rfl, rfl, rfl, rfl, rfl, rfl, rfl, rfl, rfl, trivial⟩
      refine WA_postsE [⟨3, [], fun vs => PW.val (.agg #[(.int .i64 a2.1), u2]), []⟩, ⟨7, [], fun vs => PW.ro [] w0 x8, []⟩] [[], []] 3 rfl (by kernel_rfl) (by kernel_rfl) rfl ?_ ?_
      ·refine StepsE_cons rfl ?_ ?_
       ·intro w7 hB7
        refine DepsE_nil ?_
        refine ⟨_, rfl, ?_⟩
        refine WL_guard rfl rfl ?_
        refine WL_load_box_agg [(.int .i64 a2.1), u2] (hC9.grow hB7) 1 rfl rfl rfl Tryz.isAgg81 Tryz.sizeOf81 rfl rfl ?_
        refine WL_nil ?_
        exact FinE_val (Below.refl _ _) rfl rfl ⟨rfl, rfl⟩
       refine StepsE_cons rfl ?_ ?_
       ·intro w7 hB7
        refine DepsE_nil ?_
        refine ⟨_, rfl, ?_⟩
        refine WL_guard rfl rfl ?_
        refine WL_load ty81 h1 (hC9.keep.then hB7) rfl rfl (fun v5 h4 => ?_)
        refine WL_nil ?_
        exact FinE_val (Below.refl _ _) rfl rfl ⟨rfl, h4⟩
       exact StepsE_nil
      intro w9 hB8
      refine AllE_cons rfl rfl rfl ?_
      rintro _ _ ⟨rfl, rfl⟩
      refine AllE_cons rfl rfl rfl ?_
      rintro v5 _ ⟨rfl, h4⟩
      obtain ⟨v4, rfl, h3⟩ := ro_st81 h4
      refine AllE_nil ?_
      intro hn1 hb1
      have hC10 := hC9.grow hB8
      obtain ⟨x9, hr4, hr3⟩ := bind_some hr3
      refine WA_one 8 (by kernel_rfl) rfl ?_
      refine WL_guard rfl rfl ?_
      refine WL_call Tryz.call63 rfl rfl (c_S_CompareFacts (a2.1, a2.2) u2 (g2.now hC10.keep) x8 v4 (h3.now hC10.keep) x9 hr4) ?_
      intro _ w10 hv2
      obtain ⟨rfl, hB9⟩ := res_int hv2
      have hC11 := hC10.grow hB9
      refine WL_nil ?_
      refine WA_takeG 9 rfl (by kernel_rfl) (by kernel_rfl) (by kernel_rfl) rfl rfl rfl (fl_lss rfl rfl) ?_
      refine WL_guard rfl rfl ?_
      refine WL_lss rfl rfl rfl ?_
      refine WL_nil ?_
      refine WA_tk 10 (by kernel_rfl) rfl rfl (fl_pick_t rfl rfl) ?_
      refine WL_pick_t rfl rfl rfl ?_
      refine WL_nil ?_
      refine WA_done (by kernel_rfl) ?_
      have hq1 := Option.some.inj hr3
      subst hq1
      refine nrm_sub (l' := [(0, u1), (3, (ptr b1 0)), (5, v1), (6, (.bool x3)), (7, (.int .i64 x4)), (28, (.bool (decide (x9 < 0))))]) ⟨rfl, rfl, rfl, rfl, rfl, rfl, trivial⟩ ?_
      exact ⟨(decide (x9 < 0)), rfl, rfl, (((Keep.of hB6).then hB8).then hB9).below, hC11⟩
     replace hr3 := ite_f hr3 hc2
     refine WA_sk 3 (by kernel_rfl) rfl rfl rfl rfl (by simp) rfl rfl ?_
     refine WA_sk 4 (by kernel_rfl) rfl rfl rfl rfl (by simp) rfl rfl ?_
     refine WA_sk 5 (by kernel_rfl) rfl rfl rfl rfl (by simp) rfl rfl ?_
     refine WA_sk 6 (by kernel_rfl) rfl rfl rfl rfl (by simp) rfl rfl ?_
     refine WA_sk 7 (by kernel_rfl) rfl rfl rfl rfl (by simp) rfl rfl ?_
     refine WA_sk 8 (by kernel_rfl) rfl rfl rfl rfl (by simp) rfl rfl ?_
     refine WA_sk 9 (by kernel_rfl) rfl rfl rfl rfl (by simp) rfl rfl ?_
     refine WA_tk 10 (by kernel_rfl) rfl rfl (fl_pick_f rfl rfl) ?_
     refine WL_pick_f rfl rfl rfl ?_
     refine WL_nil ?_
     refine WA_done (by kernel_rfl) ?_
     have hq2 := Option.some.inj hr3
     subst hq2
     refine nrm_sub (l' := [(0, u1), (3, (ptr b1 0)), (5, v1), (6, (.bool x3)), (7, (.int .i64 x4)), (28, (.bool false))]) ⟨rfl, rfl, rfl, rfl, rfl, rfl, trivial⟩ ?_
     exact ⟨false, rfl, rfl, (Keep.of hB6).below, hC9⟩
    rintro _ w5 ⟨x7, rfl, rfl, hB5, hC8⟩
    try dsimp only at hL1
    obtain ⟨r3, hr5, hL1⟩ := bind_some hL1
    refine W_norm (fun l w => ∃ v6 : Value, ∃ x10 : (List (Int × (List Int))), ∃ x11 : Bool, (x10, x11) = r3 ∧ l = [(0, u1), (3, (ptr b1 0)), (5, v6), (6, (.bool x11)), (7, (.int .i64 x4))] ∧ Ctx [] w0 w [Item.own v6 (x10 : (List (Int × (List Int)))), Item.box b1 [(.int .i64 a2.1), u2]]) ?_ ?_
    ·refine W_cond rfl (fun hc3 => ?_) (fun hc3 => ?_)
     ·replace hr5 := ite_t hr5 hc3
      refine W_seq_reg ?_
      refine WL_move rfl rfl ?_
      refine WL_field Tryz.underlying81 rfl rfl (fun w => ⟨_, Tryz.sizeOf3 w⟩) rfl rfl ?_
      refine WL_load_box hC8 1 rfl rfl Tryz.isAgg3 rfl rfl ?_
      refine WL_field Tryz.underlying81 rfl rfl (fun w => ⟨_, Tryz.sizeOf22 w⟩) rfl rfl ?_
      refine WL_load_box hC8 1 rfl rfl Tryz.isAgg22 rfl rfl ?_
      obtain ⟨x12, hr6, hr5⟩ := bind_some hr5
      refine WL_call Tryz.call64 rfl rfl (c_S_l2One a2.1 a2.2 u2 (g2.now hC8.keep) x12 hr6) ?_
      rintro v7 w12 ⟨hB11, F1, hv3, hn2, hb2⟩
      have hC13 := hC8.push hB11 (A := Item.own v7 x12) hv3 hn2 hb2
      obtain ⟨v8, rfl, hC14⟩ := st81_own hC13
      refine WL_buildSlice (vs := [(.agg #[(.int .i64 x12.1), v8])]) hC14 Tryz.underlying34 ty81 rfl rfl rfl rfl (by intro v hv; simp only [List.mem_cons, List.not_mem_nil, or_false] at hv; rcases hv with rfl <;> rfl) rfl rfl (fun b4 w13 hC15 hB12 => ?_)
      have hC16 := hC15.row0 (α := (Int × (List Int)))
      have hC18 := hC16.f2
      have hC17 := own_st81 x12.1 v8 x12.2 hC18
      have hC19 := hC17.row1
      have hC20 := hC19.front 1 rfl
      dsimp only [List.eraseIdx, List.cons_append, List.nil_append, List.append_nil] at hC20
      have hC21 : Ctx [] w0 w13 (Item.own (.slice (some ⟨b4, 0, none⟩) 1 1) ([(x12.1, x12.2)] : List (Int × (List Int))) :: [Item.own v1 (x2 : (List (Int × (List Int)))), Item.box b1 [(.int .i64 a2.1), u2]]) := hC20.rowOwn (by simp [maxLen])
      obtain ⟨x13, hx2, hr5⟩ := bind_some hr5
      refine WL_append_head hC21 0 rfl Tryz.underlying34 ty81 rfl hx2 rfl rfl rfl (fun v9 w14 hC22 => ?_)
      try dsimp only [List.set] at hC22
      refine WL_assign rfl rfl ?_
      refine WL_nil ?_
      refine W_reg ?_
      refine WL_assign rfl rfl ?_
      refine WL_nil ?_
      have hq3 := Option.some.inj hr5
      subst hq3
      refine nrm_sub (l' := [(0, u1), (3, (ptr b1 0)), (5, v9), (6, (.bool true)), (7, (.int .i64 x4))]) ⟨rfl, rfl, rfl, rfl, rfl, trivial⟩ ?_
      exact ⟨v9, x13, true, rfl, rfl, hC22⟩
     replace hr5 := ite_f hr5 hc3
     refine W_skip ?_
     have hq4 := Option.some.inj hr5
     subst hq4
     refine nrm_sub (l' := [(0, u1), (3, (ptr b1 0)), (5, v1), (6, (.bool x3)), (7, (.int .i64 x4))]) ⟨rfl, rfl, rfl, rfl, rfl, trivial⟩ ?_
     exact ⟨v1, x2, x3, rfl, rfl, hC8⟩
    rintro l3 _ w11 hs3 ⟨v6, x10, x11, rfl, rfl, hC12⟩
    try dsimp only at hL1
    refine nrm_sub' hs3 ?_
    clear hs3
    refine W_drawn 15 rfl hmix (fun w15 hB13 => ?_)
    have hC24 := hC12.grow hB13
    refine WA_tk 0 (by kernel_rfl) rfl rfl (fl_move rfl) ?_
    refine WL_move rfl rfl ?_
    refine WL_nil ?_
    refine WA_tk 1 (by kernel_rfl) rfl rfl (fl_move rfl) ?_
    refine WL_move rfl rfl ?_
    refine WL_nil ?_
    refine WA_tk 2 (by kernel_rfl) rfl rfl (fl_move rfl) ?_
    refine WL_move rfl rfl ?_
    refine WL_nil ?_
    obtain ⟨x14, hx3, hL1⟩ := bind_some hL1
    refine WA_tk 3 (by kernel_rfl) rfl rfl (fl_index Tryz.underlying34 ty81 g1 hx3 rfl rfl) ?_
    refine WL_index Tryz.underlying34 ty81 g1 hx3 rfl rfl rfl (fun b5 o2 h5 => ?_)
    refine WL_nil ?_
    refine WA_tk 4 (by kernel_rfl) rfl rfl (fl_field Tryz.underlying81 rfl rfl (fun w => ⟨_, Tryz.sizeOf3 w⟩) rfl) ?_
    refine WL_field Tryz.underlying81 rfl rfl (fun w => ⟨_, Tryz.sizeOf3 w⟩) rfl rfl ?_
    refine WL_nil ?_
    refine WA_tk 6 (by kernel_rfl) rfl rfl (fl_move rfl) ?_
    refine WL_move rfl rfl ?_
    refine WL_nil ?_
    refine WA_tk 7 (by kernel_rfl) rfl rfl (fl_move rfl) ?_
    refine WL_move rfl rfl ?_
    refine WL_nil ?_
    obtain ⟨x15, hx4, hL1⟩ := bind_some hL1
    refine WA_tk 8 (by kernel_rfl) rfl rfl (fl_index Tryz.underlying34 ty81 g1 hx4 rfl rfl) ?_
    refine WL_index Tryz.underlying34 ty81 g1 hx4 rfl rfl rfl (fun b6 o3 h6 => ?_)
    refine WL_nil ?_
    refine WA_tk 9 (by kernel_rfl) rfl rfl (fl_field Tryz.underlying81 rfl rfl (fun w => ⟨_, Tryz.sizeOf22 w⟩) rfl) ?_
    refine WL_field Tryz.underlying81 rfl rfl (fun w => ⟨_, Tryz.sizeOf22 w⟩) rfl rfl ?_
    refine WL_nil ?_
    refine WA.sub (l' := [(0, u1), (3, (ptr b1 0)), (5, v6), (6, (.bool x11)), (7, (.int .i64 x4)), (37, v6), (38, u1), (39, (.int .i64 x4)), (40, (ptr b5 o2)), (41, (ptr b5 (o2 + 0))), (43, u1), (44, (.int .i64 x4)), (45, (ptr b6 o3)), (46, (ptr b6 (o3 + 1)))]) ?_ ⟨rfl, rfl, rfl, rfl, rfl, rfl, rfl, rfl, rfl, rfl, rfl, rfl, rfl, rfl, trivial⟩
    refine WA_postsE [⟨5, [], fun vs => PW.val (.int .i64 x14.1), []⟩, ⟨10, [], fun vs => PW.ro [] w0 x15.2, []⟩] [[], []] 4 rfl (by kernel_rfl) (by kernel_rfl) rfl ?_ ?_
    ·refine StepsE_cons rfl ?_ ?_
     ·intro w16 hB14
      refine DepsE_nil ?_
      refine ⟨_, rfl, ?_⟩
      refine WL_load ty3 h5.fst (hC24.keep.then hB14) rfl rfl (fun v10 h7 => ?_)
      obtain rfl := ro_int h7
      refine WL_nil ?_
      exact FinE_val (Below.refl _ _) rfl rfl ⟨rfl, rfl⟩
     refine StepsE_cons rfl ?_ ?_
     ·intro w16 hB14
      refine DepsE_nil ?_
      refine ⟨_, rfl, ?_⟩
      refine WL_load ty22 h6.snd (hC24.keep.then hB14) rfl rfl (fun v11 h8 => ?_)
      refine WL_nil ?_
      exact FinE_val (Below.refl _ _) rfl rfl ⟨rfl, h8⟩
     exact StepsE_nil
    intro w17 hB15
    refine AllE_cons rfl rfl rfl ?_
    rintro _ _ ⟨rfl, rfl⟩
    refine AllE_cons rfl rfl rfl ?_
    rintro v11 _ ⟨rfl, h8⟩
    refine AllE_nil ?_
    intro hn3 hb3
    have hC25 := hC24.grow hB15
    obtain ⟨x16, hr7, hL1⟩ := bind_some hL1
    refine WA_one 11 (by kernel_rfl) rfl ?_
    refine WL_call Tryz.call64 rfl rfl (c_S_l2One x14.1 x15.2 v11 (h8.now hC25.keep) x16 hr7) ?_
    rintro v12 w18 ⟨hB16, F2, hv4, hn4, hb4⟩
    have hC26 := hC25.push hB16 (A := Item.own v12 x16) hv4 hn4 hb4
    obtain ⟨v13, rfl, hC27⟩ := st81_own hC26
    refine WL_nil ?_
    refine WA_one 12 (by kernel_rfl) rfl ?_
    refine WL_buildSlice (vs := [(.agg #[(.int .i64 x16.1), v13])]) hC27 Tryz.underlying34 ty81 rfl rfl rfl rfl (by intro v hv; simp only [List.mem_cons, List.not_mem_nil, or_false] at hv; rcases hv with rfl <;> rfl) rfl rfl (fun b7 w19 hC28 hB17 => ?_)
    have hC29 := hC28.row0 (α := (Int × (List Int)))
    have hC31 := hC29.f2
    have hC30 := own_st81 x16.1 v13 x16.2 hC31
    have hC32 := hC30.row1
    have hC33 := hC32.front 1 rfl
    dsimp only [List.eraseIdx, List.cons_append, List.nil_append, List.append_nil] at hC33
    have hC34 : Ctx [] w0 w19 (Item.own (.slice (some ⟨b7, 0, none⟩) 1 1) ([(x16.1, x16.2)] : List (Int × (List Int))) :: [Item.own v6 (x10 : (List (Int × (List Int)))), Item.box b1 [(.int .i64 a2.1), u2]]) := hC33.rowOwn (by simp [maxLen])
    refine WL_nil ?_
    obtain ⟨x17, hx5, hL1⟩ := bind_some hL1
    refine WA_one 13 (by kernel_rfl) rfl ?_
    refine WL_append_head hC34 0 rfl Tryz.underlying34 ty81 rfl hx5 rfl rfl rfl (fun v14 w20 hC35 => ?_)
    try dsimp only [List.set] at hC35
    refine WL_nil ?_
    refine WA_tk 14 (by kernel_rfl) rfl rfl (fl_assign rfl) ?_
    refine WL_assign rfl rfl ?_
    refine WL_nil ?_
    refine WA_done (by kernel_rfl) ?_
    refine blk_normal ?_
    refine nrm_normal ?_
    refine W_reg ?_
    refine WL_move rfl rfl ?_
    refine WL_add rfl rfl rfl ?_
    refine WL_assign rfl rfl ?_
    refine WL_nil ?_
    refine nrm_sub (l' := [(0, u1), (3, (ptr b1 0)), (5, v14), (6, (.bool x11)), (7, (.int .i64 (w64 (x4 + 1))))]) ⟨rfl, rfl, rfl, rfl, rfl, trivial⟩ ?_
    exact ⟨k1, Nat.lt_succ_self _, v14, x17, x11, w64 (x4 + 1), rfl, hC35, hL1⟩
   replace hL1 := ite_f hL1 hc1
   refine W_exit ?_
   refine nrm_exit ?_
   refine nrm_exit ?_
   refine blk_exit ?_
   have hq5 := Option.some.inj hL1
   subst hq5
   refine nrm_sub (l' := [(3, (ptr b1 0)), (5, v1), (6, (.bool x3))]) ⟨rfl, rfl, rfl, trivial⟩ ?_
   exact ⟨v1, x2, x3, rfl, rfl, hC7⟩
 rintro l4 _ w21 hs4 ⟨v2, x5, x6, rfl, rfl, hC37⟩
 try dsimp only at hF
 refine nrm_sub' hs4 ?_
 clear hs4
 refine W_seq ?_
 refine W_seq_reg ?_
 refine WL_move rfl rfl ?_
 refine WL_not rfl rfl ?_
 refine WL_nil ?_
 obtain ⟨r4, hr8, hF⟩ := bind_some hF
 refine W_norm (fun l w => ∃ v15 : Value, ∃ x18 : (List (Int × (List Int))), x18 = r4 ∧ l = [(5, v15)] ∧ Ctx [] w0 w [Item.own v15 (x18 : (List (Int × (List Int))))]) ?_ ?_
 ·refine W_cond rfl (fun hc4 => ?_) (fun hc4 => ?_)
  ·replace hr8 := ite_t hr8 hc4
   refine W_reg ?_
   refine WL_move rfl rfl ?_
   refine WL_field Tryz.underlying81 rfl rfl (fun w => ⟨_, Tryz.sizeOf3 w⟩) rfl rfl ?_
   refine WL_load_box hC37 1 rfl rfl Tryz.isAgg3 rfl rfl ?_
   refine WL_field Tryz.underlying81 rfl rfl (fun w => ⟨_, Tryz.sizeOf22 w⟩) rfl rfl ?_
   refine WL_load_box hC37 1 rfl rfl Tryz.isAgg22 rfl rfl ?_
   obtain ⟨x19, hr9, hr8⟩ := bind_some hr8
   refine WL_call Tryz.call64 rfl rfl (c_S_l2One a2.1 a2.2 u2 (g2.now hC37.keep) x19 hr9) ?_
   rintro v16 w23 ⟨hB20, F3, hv5, hn5, hb5⟩
   have hC39 := hC37.push hB20 (A := Item.own v16 x19) hv5 hn5 hb5
   obtain ⟨v17, rfl, hC40⟩ := st81_own hC39
   refine WL_buildSlice (vs := [(.agg #[(.int .i64 x19.1), v17])]) hC40 Tryz.underlying34 ty81 rfl rfl rfl rfl (by intro v hv; simp only [List.mem_cons, List.not_mem_nil, or_false] at hv; rcases hv with rfl <;> rfl) rfl rfl (fun b8 w24 hC41 hB21 => ?_)
   have hC42 := hC41.row0 (α := (Int × (List Int)))
   have hC44 := hC42.f2
   have hC43 := own_st81 x19.1 v17 x19.2 hC44
   have hC45 := hC43.row1
   have hC46 := hC45.front 1 rfl
   dsimp only [List.eraseIdx, List.cons_append, List.nil_append, List.append_nil] at hC46
   have hC47 : Ctx [] w0 w24 (Item.own (.slice (some ⟨b8, 0, none⟩) 1 1) ([(x19.1, x19.2)] : List (Int × (List Int))) :: [Item.own v2 (x5 : (List (Int × (List Int)))), Item.box b1 [(.int .i64 a2.1), u2]]) := hC46.rowOwn (by simp [maxLen])
   obtain ⟨x20, hx6, hr8⟩ := bind_some hr8
   refine WL_append_head hC47 0 rfl Tryz.underlying34 ty81 rfl hx6 rfl rfl rfl (fun v18 w25 hC48 => ?_)
   try dsimp only [List.set] at hC48
   refine WL_assign rfl rfl ?_
   refine WL_nil ?_
   have hq6 := Option.some.inj hr8
   subst hq6
   have hC50 := hC48.h1
   refine nrm_sub (l' := [(5, v18)]) ⟨rfl, trivial⟩ ?_
   exact ⟨v18, x20, rfl, rfl, hC50⟩
  replace hr8 := ite_f hr8 hc4
  refine W_skip ?_
  have hq7 := Option.some.inj hr8
  subst hq7
  have hC51 := hC37.h1
  refine nrm_sub (l' := [(5, v2)]) ⟨rfl, trivial⟩ ?_
  exact ⟨v2, x5, rfl, rfl, hC51⟩
 rintro l5 _ w22 hs5 ⟨v15, x18, rfl, rfl, hC38⟩
 try dsimp only at hF
 refine nrm_sub' hs5 ?_
 clear hs5
 refine W_seq_reg ?_
 refine WL_move rfl rfl ?_
 refine WL_assign rfl rfl ?_
 refine WL_nil ?_
 refine W_ret ?_
 have hq8 := Option.some.inj hF
 subst hq8
 refine fn_ret1 rfl rfl ?_
 exact ⟨_, rfl, own_res hC38 0 rfl⟩

theorem c_S_ApplyChange {w0 : World} (a1 : (List Int)) (u1 : Value) (g1 : RO [] w0 u1 a1) (a2 : ((List (Int × (List Int))) × Int)) (u2 : Value) (g2 : RO [] w0 u2 a2.1) (a3 : (Bool × (Int × (List Int)))) (u3 : Value) (g3 : RO [] w0 u3 a3.2.2) (rr : (((List (Int × (List Int))) × Int) × Bool)) (hF : S.ApplyChange a1 a2 a3 = some rr) :
 Calls Tryz.prog 37 [u1, (.agg #[u2, (.int .i64 a2.2)]), (.agg #[(.bool a3.1), (.int .i64 a3.2.1), u3])].toArray w0 fun e w' => ∃ v, e = .returned v ∧ Res2 w0 rr.1 rr.2 v w' := by
 refine calls_of_W Tryz.func37 rfl rfl ?_
 have hC0 := Ctx.start w0
 unfold S.ApplyChange at hF
 refine W_seq_reg ?_
 refine WL_box (cs := [u2, (.int .i64 a2.2)]) hC0 rfl rfl rfl (fun b1 w1 hC1 hB1 => ?_)
 refine WL_box (cs := [(.bool a3.1), (.int .i64 a3.2.1), u3]) hC1 rfl rfl rfl (fun b2 w2 hC2 hB2 => ?_)
 refine WL_alloc hC2 zero38 rfl rfl (fun b3 w3 hC3 hB3 => ?_)
 refine WL_assign rfl rfl ?_
 refine WL_nil ?_
 refine W_seq_reg ?_
 refine WL_load_box_agg [u2, (.int .i64 a2.2)] hC3 2 rfl rfl rfl Tryz.isAgg38 Tryz.sizeOf38 rfl rfl ?_
 obtain ⟨x1, hr1, hF⟩ := bind_some hF
 refine WL_call Tryz.call33 rfl rfl (c_S_l25Copy (a2.1, a2.2) u2 (g2.now hC3.keep) x1 hr1) ?_
 rintro v1 w4 ⟨hB4, F1, hv1, hn1, hb1⟩
 have hC4 := hC3.push hB4 (A := Item.own v1 x1) hv1 hn1 hb1
 obtain ⟨v2, rfl, hC5⟩ := st38_own hC4
 refine WL_alloc hC5 zero38 rfl rfl (fun b4 w5 hC6 hB5 => ?_)
 refine WL_store_box_agg (cs' := [v2, (.int .i64 x1.2)]) (new := [v2, (.int .i64 x1.2)]) hC6 0 rfl rfl (by intro v hv; simp only [List.mem_cons, List.not_mem_nil, or_false] at hv; rcases hv with rfl | rfl; exact (ro_one (hC6.ro 1 rfl)); exact rfl) rfl Tryz.sizeOf38 rfl rfl (fun w6 hC7 => ?_)
 try dsimp only [List.set] at hC7
 refine WL_nil ?_
 refine W_seq ?_
 obtain ⟨r1, hr2, hF⟩ := bind_some hF
 refine W_cut (fun l w => ∃ x2 : Bool, x2 = r1 ∧ l = [(4, (ptr b1 0)), (5, (ptr b2 0)), (6, (ptr b3 0)), (8, (ptr b4 0)), (47, (.bool x2))] ∧ Below w6.heap.size w6 w ∧ Ctx [] w0 w [Item.box b4 [v2, (.int .i64 x1.2)], Item.own v2 (x1.1 : (List (Int × (List Int)))), Item.box b3 [(.slice none 0 0), (.int .i64 0)], Item.box b2 [(.bool a3.1), (.int .i64 a3.2.1), u3], Item.box b1 [u2, (.int .i64 a2.2)]]) ?_ ?_
 ·refine W_drawn 36 rfl hmix (fun w9 hB7 => ?_)
  have hC9 := hC7.grow hB7
  refine WA_tk 0 (by kernel_rfl) rfl rfl (fl_move rfl) ?_
  refine WL_move rfl rfl ?_
  refine WL_nil ?_
  refine WA_one 1 (by kernel_rfl) rfl ?_
  refine WL_load_box_agg [u2, (.int .i64 a2.2)] hC9 4 rfl rfl rfl Tryz.isAgg38 Tryz.sizeOf38 rfl rfl ?_
  refine WL_nil ?_
  obtain ⟨x3, hr3, hr2⟩ := bind_some hr2
  refine WA_one 2 (by kernel_rfl) rfl ?_
  refine WL_call Tryz.call54 rfl rfl (c_S_IsSource a1 u1 (g1.now hC9.keep) (a2.1, a2.2) u2 (g2.now hC9.keep) x3 hr3) ?_
  intro _ w10 hv2
  obtain ⟨rfl, hB8⟩ := res_bool hv2
  have hC10 := hC9.grow hB8
  refine WL_nil ?_
  refine WA_tk 3 (by kernel_rfl) rfl rfl (fl_not rfl) ?_
  refine WL_not rfl rfl ?_
  refine WL_nil ?_
  refine WA_tk 4 (by kernel_rfl) rfl rfl (fl_move rfl) ?_
  refine WL_move rfl rfl ?_
  refine WL_nil ?_
  refine WA_fork (fun hc1 => ?_) (fun hc1 => ?_)
  ·replace hr2 := ite_t hr2 hc1
   refine WA_sk 5 (by kernel_rfl) rfl rfl rfl rfl (by simp) rfl rfl ?_
   refine WA_sk 6 (by kernel_rfl) rfl rfl rfl rfl (by simp) rfl rfl ?_
   refine WA_sk 7 (by kernel_rfl) rfl rfl rfl rfl (by simp) rfl rfl ?_
   refine WA_sk 8 (by kernel_rfl) rfl rfl rfl rfl (by simp) rfl rfl ?_
   refine WA_sk 9 (by kernel_rfl) rfl rfl rfl rfl (by simp) rfl rfl ?_
   refine WA_tk 10 (by kernel_rfl) rfl rfl (fl_pick_t rfl rfl) ?_
   refine WL_pick_t rfl rfl rfl ?_
   refine WL_nil ?_
   refine WA_tk 11 (by kernel_rfl) rfl rfl (fl_move rfl) ?_
   refine WL_move rfl rfl ?_
   refine WL_nil ?_
   refine WA_sk 12 (by kernel_rfl) rfl rfl rfl rfl (by simp) rfl rfl ?_
   refine WA_sk 13 (by kernel_rfl) rfl rfl rfl rfl (by simp) rfl rfl ?_
   refine WA_sk 14 (by kernel_rfl) rfl rfl rfl rfl (by simp) rfl rfl ?_
   refine WA_tk 15 (by kernel_rfl) rfl rfl (fl_pick_t rfl rfl) ?_
   refine WL_pick_t rfl rfl rfl ?_
   refine WL_nil ?_
   refine WA_tk 16 (by kernel_rfl) rfl rfl (fl_move rfl) ?_
   refine WL_move rfl rfl ?_
   refine WL_nil ?_
   refine WA_sk 17 (by kernel_rfl) rfl rfl rfl rfl (by simp) rfl rfl ?_
   refine WA_sk 18 (by kernel_rfl) rfl rfl rfl rfl (by simp) rfl rfl ?_
   refine WA_sk 19 (by kernel_rfl) rfl rfl rfl rfl (by simp) rfl rfl ?_
   refine WA_sk 20 (by kernel_rfl) rfl rfl rfl rfl (by simp) rfl rfl ?_
   refine WA_sk 21 (by kernel_rfl) rfl rfl rfl rfl (by simp) rfl rfl ?_
   refine WA_sk 22 (by kernel_rfl) rfl rfl rfl rfl (by simp) rfl rfl ?_
   refine WA_sk 23 (by kernel_rfl) rfl rfl rfl rfl (by simp) rfl rfl ?_
   refine WA_sk 24 (by kernel_rfl) rfl rfl rfl rfl (by simp) rfl rfl ?_
   refine WA_tk 25 (by kernel_rfl) rfl rfl (fl_pick_t rfl rfl) ?_
   refine WL_pick_t rfl rfl rfl ?_
   refine WL_nil ?_
   refine WA_tk 26 (by kernel_rfl) rfl rfl (fl_move rfl) ?_
   refine WL_move rfl rfl ?_
   refine WL_nil ?_
   refine WA_sk 27 (by kernel_rfl) rfl rfl rfl rfl (by simp) rfl rfl ?_
   refine WA_sk 28 (by kernel_rfl) rfl rfl rfl rfl (by simp) rfl rfl ?_
   refine WA_sk 29 (by kernel_rfl) rfl rfl rfl rfl (by simp) rfl rfl ?_
   refine WA_sk 30 (by kernel_rfl) rfl rfl rfl rfl (by simp [undef]) rfl rfl ?_
   refine WA_sk 31 (by kernel_rfl) rfl rfl rfl rfl (by simp [undef]) rfl rfl ?_
   refine WA_sk 32 (by kernel_rfl) rfl rfl rfl rfl (by simp [undef]) rfl rfl ?_
   refine WA_sk 33 (by kernel_rfl) rfl rfl rfl rfl (by simp [undef]) rfl rfl ?_
   refine WA_sk 34 (by kernel_rfl) rfl rfl rfl rfl (by simp) rfl rfl ?_
   refine WA_tk 35 (by kernel_rfl) rfl rfl (fl_pick_t rfl rfl) ?_
   refine WL_pick_t rfl rfl rfl ?_
   refine WL_nil ?_
   refine WA_done (by kernel_rfl) ?_
   have hq1 := Option.some.inj hr2
   subst hq1
   refine nrm_sub (l' := [(4, (ptr b1 0)), (5, (ptr b2 0)), (6, (ptr b3 0)), (8, (ptr b4 0)), (47, (.bool true))]) ⟨rfl, rfl, rfl, rfl, rfl, trivial⟩ ?_
   exact ⟨true, rfl, rfl, ((Keep.of hB7).then hB8).below, hC10⟩
  replace hr2 := ite_f hr2 hc1
  refine WA_takeG 5 rfl (by kernel_rfl) (by kernel_rfl) (by kernel_rfl) rfl rfl rfl (fl_move rfl) ?_
  refine WL_guard rfl rfl ?_
  refine WL_move rfl rfl ?_
  refine WL_nil ?_
  refine WA_takeG 6 rfl (by kernel_rfl) (by kernel_rfl) (by kernel_rfl) rfl rfl rfl (fl_field Tryz.underlying83 rfl rfl (fun w => ⟨_, Tryz.sizeOf81 w⟩) rfl) ?_
  refine WL_guard rfl rfl ?_
  refine WL_field Tryz.underlying83 rfl rfl (fun w => ⟨_, Tryz.sizeOf81 w⟩) rfl rfl ?_
  refine WL_nil ?_
  refine WA_one 7 (by kernel_rfl) rfl ?_
  refine WL_guard rfl rfl ?_
  refine WL_load_box_agg [(.int .i64 a3.2.1), u3] hC10 3 rfl rfl rfl Tryz.isAgg81 Tryz.sizeOf81 rfl rfl ?_
  refine WL_nil ?_
  obtain ⟨x4, hr4, hr2⟩ := bind_some hr2
  refine WA_one 8 (by kernel_rfl) rfl ?_
  refine WL_guard rfl rfl ?_
  refine WL_call Tryz.call60 rfl rfl (c_S_IsFact a1 u1 (g1.now hC10.keep) (a3.2.1, a3.2.2) u3 (g3.now hC10.keep) x4 hr4) ?_
  intro _ w11 hv3
  obtain ⟨rfl, hB9⟩ := res_bool hv3
  have hC11 := hC10.grow hB9
  refine WL_nil ?_
  refine WA_takeG 9 rfl (by kernel_rfl) (by kernel_rfl) (by kernel_rfl) rfl rfl rfl (fl_not rfl) ?_
  refine WL_guard rfl rfl ?_
  refine WL_not rfl rfl ?_
  refine WL_nil ?_
  refine WA_tk 10 (by kernel_rfl) rfl rfl (fl_pick_f rfl rfl) ?_
  refine WL_pick_f rfl rfl rfl ?_
  refine WL_nil ?_
  refine WA_tk 11 (by kernel_rfl) rfl rfl (fl_move rfl) ?_
  refine WL_move rfl rfl ?_
  refine WL_nil ?_
  refine WA_fork (fun hc2 => ?_) (fun hc2 => ?_)
  ·replace hr2 := ite_t hr2 hc2
   refine WA_sk 12 (by kernel_rfl) rfl rfl rfl rfl (by simp) rfl rfl ?_
   refine WA_sk 13 (by kernel_rfl) rfl rfl rfl rfl (by simp) rfl rfl ?_
   refine WA_sk 14 (by kernel_rfl) rfl rfl rfl rfl (by simp) rfl rfl ?_
   refine WA_tk 15 (by kernel_rfl) rfl rfl (fl_pick_t rfl rfl) ?_
   refine WL_pick_t rfl rfl rfl ?_
   refine WL_nil ?_
   refine WA_tk 16 (by kernel_rfl) rfl rfl (fl_move rfl) ?_
   refine WL_move rfl rfl ?_
   refine WL_nil ?_
   refine WA_sk 17 (by kernel_rfl) rfl rfl rfl rfl (by simp) rfl rfl ?_
   refine WA_sk 18 (by kernel_rfl) rfl rfl rfl rfl (by simp) rfl rfl ?_
   refine WA_sk 19 (by kernel_rfl) rfl rfl rfl rfl (by simp) rfl rfl ?_
   refine WA_sk 20 (by kernel_rfl) rfl rfl rfl rfl (by simp) rfl rfl ?_
   refine WA_sk 21 (by kernel_rfl) rfl rfl rfl rfl (by simp) rfl rfl ?_
   refine WA_sk 22 (by kernel_rfl) rfl rfl rfl rfl (by simp) rfl rfl ?_
   refine WA_sk 23 (by kernel_rfl) rfl rfl rfl rfl (by simp) rfl rfl ?_
   refine WA_sk 24 (by kernel_rfl) rfl rfl rfl rfl (by simp) rfl rfl ?_
   refine WA_tk 25 (by kernel_rfl) rfl rfl (fl_pick_t rfl rfl) ?_
   refine WL_pick_t rfl rfl rfl ?_
   refine WL_nil ?_
   refine WA_tk 26 (by kernel_rfl) rfl rfl (fl_move rfl) ?_
   refine WL_move rfl rfl ?_
   refine WL_nil ?_
   refine WA_sk 27 (by kernel_rfl) rfl rfl rfl rfl (by simp) rfl rfl ?_
   refine WA_sk 28 (by kernel_rfl) rfl rfl rfl rfl (by simp) rfl rfl ?_
   refine WA_sk 29 (by kernel_rfl) rfl rfl rfl rfl (by simp) rfl rfl ?_
   refine WA_sk 30 (by kernel_rfl) rfl rfl rfl rfl (by simp [undef]) rfl rfl ?_
   refine WA_sk 31 (by kernel_rfl) rfl rfl rfl rfl (by simp [undef]) rfl rfl ?_
   refine WA_sk 32 (by kernel_rfl) rfl rfl rfl rfl (by simp [undef]) rfl rfl ?_
   refine WA_sk 33 (by kernel_rfl) rfl rfl rfl rfl (by simp [undef]) rfl rfl ?_
   refine WA_sk 34 (by kernel_rfl) rfl rfl rfl rfl (by simp) rfl rfl ?_
   refine WA_tk 35 (by kernel_rfl) rfl rfl (fl_pick_t rfl rfl) ?_
   refine WL_pick_t rfl rfl rfl ?_
   refine WL_nil ?_
   refine WA_done (by kernel_rfl) ?_
   have hq2 := Option.some.inj hr2
   subst hq2
   refine nrm_sub (l' := [(4, (ptr b1 0)), (5, (ptr b2 0)), (6, (ptr b3 0)), (8, (ptr b4 0)), (47, (.bool true))]) ⟨rfl, rfl, rfl, rfl, rfl, trivial⟩ ?_
   exact ⟨true, rfl, rfl, (((Keep.of hB7).then hB8).then hB9).below, hC11⟩
  replace hr2 := ite_f hr2 hc2
  refine WA_takeG 12 rfl (by kernel_rfl) (by kernel_rfl) (by kernel_rfl) rfl rfl rfl (fl_field Tryz.underlying38 rfl rfl (fun w => ⟨_, Tryz.sizeOf3 w⟩) rfl) ?_
  refine WL_guard rfl rfl ?_
  refine WL_field Tryz.underlying38 rfl rfl (fun w => ⟨_, Tryz.sizeOf3 w⟩) rfl rfl ?_
  refine WL_nil ?_
  refine WA_one 13 (by kernel_rfl) rfl ?_
  refine WL_guard rfl rfl ?_
  refine WL_load_box hC11 4 rfl rfl Tryz.isAgg3 rfl rfl ?_
  refine WL_nil ?_
  refine WA_takeG 14 rfl (by kernel_rfl) (by kernel_rfl) (by kernel_rfl) rfl rfl rfl (fl_geq rfl rfl) ?_
  refine WL_guard rfl rfl ?_
  refine WL_geq rfl rfl rfl ?_
  refine WL_nil ?_
  refine WA_tk 15 (by kernel_rfl) rfl rfl (fl_pick_f rfl rfl) ?_
  refine WL_pick_f rfl rfl rfl ?_
  refine WL_nil ?_
  refine WA_tk 16 (by kernel_rfl) rfl rfl (fl_move rfl) ?_
  refine WL_move rfl rfl ?_
  refine WL_nil ?_
  refine WA_fork (fun hc3 => ?_) (fun hc3 => ?_)
  ·replace hr2 := ite_t hr2 hc3
   refine WA_sk 17 (by kernel_rfl) rfl rfl rfl rfl (by simp) rfl rfl ?_
   refine WA_sk 18 (by kernel_rfl) rfl rfl rfl rfl (by simp) rfl rfl ?_
   refine WA_sk 19 (by kernel_rfl) rfl rfl rfl rfl (by simp) rfl rfl ?_
   refine WA_sk 20 (by kernel_rfl) rfl rfl rfl rfl (by simp) rfl rfl ?_
   refine WA_sk 21 (by kernel_rfl) rfl rfl rfl rfl (by simp) rfl rfl ?_
   refine WA_sk 22 (by kernel_rfl) rfl rfl rfl rfl (by simp) rfl rfl ?_
   refine WA_sk 23 (by kernel_rfl) rfl rfl rfl rfl (by simp) rfl rfl ?_
   refine WA_sk 24 (by kernel_rfl) rfl rfl rfl rfl (by simp) rfl rfl ?_
   refine WA_tk 25 (by kernel_rfl) rfl rfl (fl_pick_t rfl rfl) ?_
   refine WL_pick_t rfl rfl rfl ?_
   refine WL_nil ?_
   refine WA_tk 26 (by kernel_rfl) rfl rfl (fl_move rfl) ?_
   refine WL_move rfl rfl ?_
   refine WL_nil ?_
   refine WA_sk 27 (by kernel_rfl) rfl rfl rfl rfl (by simp) rfl rfl ?_
   refine WA_sk 28 (by kernel_rfl) rfl rfl rfl rfl (by simp) rfl rfl ?_
   refine WA_sk 29 (by kernel_rfl) rfl rfl rfl rfl (by simp) rfl rfl ?_
   refine WA_sk 30 (by kernel_rfl) rfl rfl rfl rfl (by simp [undef]) rfl rfl ?_
   refine WA_sk 31 (by kernel_rfl) rfl rfl rfl rfl (by simp [undef]) rfl rfl ?_
   refine WA_sk 32 (by kernel_rfl) rfl rfl rfl rfl (by simp [undef]) rfl rfl ?_
   refine WA_sk 33 (by kernel_rfl) rfl rfl rfl rfl (by simp [undef]) rfl rfl ?_
   refine WA_sk 34 (by kernel_rfl) rfl rfl rfl rfl (by simp) rfl rfl ?_
   refine WA_tk 35 (by kernel_rfl) rfl rfl (fl_pick_t rfl rfl) ?_
   refine WL_pick_t rfl rfl rfl ?_
   refine WL_nil ?_
   refine WA_done (by kernel_rfl) ?_
   have hq3 := Option.some.inj hr2
   subst hq3
   refine nrm_sub (l' := [(4, (ptr b1 0)), (5, (ptr b2 0)), (6, (ptr b3 0)), (8, (ptr b4 0)), (47, (.bool true))]) ⟨rfl, rfl, rfl, rfl, rfl, trivial⟩ ?_
   exact ⟨true, rfl, rfl, (((Keep.of hB7).then hB8).then hB9).below, hC11⟩
  replace hr2 := ite_f hr2 hc3
  refine WA_takeG 17 rfl (by kernel_rfl) (by kernel_rfl) (by kernel_rfl) rfl rfl rfl (fl_field Tryz.underlying38 rfl rfl (fun w => ⟨_, Tryz.sizeOf34 w⟩) rfl) ?_
  refine WL_guard rfl rfl ?_
  refine WL_field Tryz.underlying38 rfl rfl (fun w => ⟨_, Tryz.sizeOf34 w⟩) rfl rfl ?_
  refine WL_nil ?_
  refine WA_takeG 19 rfl (by kernel_rfl) (by kernel_rfl) (by kernel_rfl) rfl rfl rfl (fl_field Tryz.underlying83 rfl rfl (fun w => ⟨_, Tryz.sizeOf81 w⟩) rfl) ?_
  refine WL_guard rfl rfl ?_
  refine WL_field Tryz.underlying83 rfl rfl (fun w => ⟨_, Tryz.sizeOf81 w⟩) rfl rfl ?_
  refine WL_nil ?_
  refine WA_takeG 22 rfl (by kernel_rfl) (by kernel_rfl) (by kernel_rfl) rfl rfl rfl (fl_field Tryz.underlying83 rfl rfl (fun w => ⟨_, Tryz.sizeOf4 w⟩) rfl) ?_
  refine WL_guard rfl rfl ?_
  refine WL_field Tryz.underlying83 rfl rfl (fun w => ⟨_, Tryz.sizeOf4 w⟩) rfl rfl ?_
  refine WL_nil ?_
  obtain ⟨x5, hr5, hr2⟩ := bind_some hr2
  refine WA.sub (l' := [(0, u1), (1, (.agg #[u2, (.int .i64 a2.2)])), (2, (.agg #[(.bool a3.1), (.int .i64 a3.2.1), u3])), (4, (ptr b1 0)), (5, (ptr b2 0)), (6, (ptr b3 0)), (7, (.bool false)), (8, (ptr b4 0)), (10, (.agg #[u2, (.int .i64 a2.2)])), (11, (.agg #[v2, (.int .i64 x1.2)])), (12, u1), (13, (.agg #[u2, (.int .i64 a2.2)])), (14, (.bool x3)), (15, (.bool (!x3))), (16, (.bool false)), (17, u1), (18, (ptr b2 1)), (19, (.agg #[(.int .i64 a3.2.1), u3])), (20, (.bool x4)), (21, (.bool (!x4))), (22, (.bool (!x4))), (23, (.bool false)), (24, (ptr b1 1)), (25, (.int .i64 a2.2)), (26, (.bool (decide (1000 ≤ a2.2)))), (27, (.bool (decide (1000 ≤ a2.2)))), (28, (.bool false)), (29, (ptr b1 0)), (31, (ptr b2 1)), (34, (ptr b2 0))]) ?_ ⟨rfl, rfl, rfl, rfl, rfl, rfl, rfl, rfl, rfl, rfl, rfl, rfl, rfl, rfl, rfl, rfl, rfl, rfl, rfl, rfl, rfl, rfl, rfl, rfl, rfl, rfl, rfl, rfl, rfl, rfl, trivial⟩
  refine WA_postsE [⟨18, [], fun vs => PW.val u2, []⟩, ⟨20, [], fun vs => PW.val (.agg #[(.int .i64 a3.2.1), u3]), []⟩, ⟨21, [], fun vs => PW.val (.bool x5), []⟩, ⟨23, [], fun vs => PW.val (.bool a3.1), []⟩] [[], [], [18, 20], []] 12 rfl (by kernel_rfl) (by kernel_rfl) rfl ?_ ?_
  ·refine StepsE_cons rfl ?_ ?_
   ·intro w13 hB11
    refine DepsE_nil ?_
    refine ⟨_, rfl, ?_⟩
    refine WL_guard rfl rfl ?_
    refine WL_load_box (hC11.grow hB11) 4 rfl rfl Tryz.isAgg34 rfl rfl ?_
    refine WL_nil ?_
    exact FinE_val (Below.refl _ _) rfl rfl ⟨rfl, rfl⟩
   refine StepsE_cons rfl ?_ ?_
   ·intro w13 hB11
    refine DepsE_nil ?_
    refine ⟨_, rfl, ?_⟩
    refine WL_guard rfl rfl ?_
    refine WL_load_box_agg [(.int .i64 a3.2.1), u3] (hC11.grow hB11) 3 rfl rfl rfl Tryz.isAgg81 Tryz.sizeOf81 rfl rfl ?_
    refine WL_nil ?_
    exact FinE_val (Below.refl _ _) rfl rfl ⟨rfl, rfl⟩
   refine StepsE_cons rfl ?_ ?_
   ·intro w13 hB11
    refine DepsE_cons rfl rfl rfl ?_
    rintro _ _ ⟨rfl, rfl⟩ _
    refine DepsE_cons rfl rfl rfl ?_
    rintro _ _ ⟨rfl, rfl⟩ _
    refine DepsE_nil ?_
    refine ⟨_, rfl, ?_⟩
    refine WL_guard rfl rfl ?_
    refine WL_call Tryz.call61 rfl rfl (c_S_HasFact a2.1 u2 (g2.now (hC11.keep.then hB11)) (a3.2.1, a3.2.2) u3 (g3.now (hC11.keep.then hB11)) x5 hr5) ?_
    intro _ w12 hv4
    obtain ⟨rfl, hB10⟩ := res_bool hv4
    refine WL_nil ?_
    exact FinE_val hB10 rfl rfl ⟨rfl, rfl⟩
   refine StepsE_cons rfl ?_ ?_
   ·intro w13 hB11
    refine DepsE_nil ?_
    refine ⟨_, rfl, ?_⟩
    refine WL_guard rfl rfl ?_
    refine WL_load_box (hC11.grow hB11) 3 rfl rfl Tryz.isAgg4 rfl rfl ?_
    refine WL_nil ?_
    exact FinE_val (Below.refl _ _) rfl rfl ⟨rfl, rfl⟩
   exact StepsE_nil
  intro w14 hB12
  refine AllE_cons rfl rfl rfl ?_
  rintro _ _ ⟨rfl, rfl⟩
  refine AllE_cons rfl rfl rfl ?_
  rintro _ _ ⟨rfl, rfl⟩
  refine AllE_cons rfl rfl rfl ?_
  rintro _ _ ⟨rfl, rfl⟩
  refine AllE_cons rfl rfl rfl ?_
  rintro _ _ ⟨rfl, rfl⟩
  refine AllE_nil ?_
  intro hn2 hb2
  have hC12 := hC11.grow hB12
  refine WA_takeG 24 rfl (by kernel_rfl) (by kernel_rfl) (by kernel_rfl) rfl rfl rfl (fl_bool_eql Tryz.underlying4 rfl rfl) ?_
  refine WL_guard rfl rfl ?_
  refine WL_bool_eql Tryz.underlying4 rfl rfl rfl ?_
  refine WL_nil ?_
  refine WA_tk 25 (by kernel_rfl) rfl rfl (fl_pick_f rfl rfl) ?_
  refine WL_pick_f rfl rfl rfl ?_
  refine WL_nil ?_
  refine WA_tk 26 (by kernel_rfl) rfl rfl (fl_move rfl) ?_
  refine WL_move rfl rfl ?_
  refine WL_nil ?_
  refine WA_fork (fun hc4 => ?_) (fun hc4 => ?_)
  ·replace hr2 := ite_t hr2 hc4
   refine WA_sk 27 (by kernel_rfl) rfl rfl rfl rfl (by simp) rfl rfl ?_
   refine WA_sk 28 (by kernel_rfl) rfl rfl rfl rfl (by simp) rfl rfl ?_
   refine WA_sk 29 (by kernel_rfl) rfl rfl rfl rfl (by simp) rfl rfl ?_
   refine WA_sk 30 (by kernel_rfl) rfl rfl rfl rfl (by simp [undef]) rfl rfl ?_
   refine WA_sk 31 (by kernel_rfl) rfl rfl rfl rfl (by simp [undef]) rfl rfl ?_
   refine WA_sk 32 (by kernel_rfl) rfl rfl rfl rfl (by simp [undef]) rfl rfl ?_
   refine WA_sk 33 (by kernel_rfl) rfl rfl rfl rfl (by simp [undef]) rfl rfl ?_
   refine WA_sk 34 (by kernel_rfl) rfl rfl rfl rfl (by simp) rfl rfl ?_
   refine WA_tk 35 (by kernel_rfl) rfl rfl (fl_pick_t rfl rfl) ?_
   refine WL_pick_t rfl rfl rfl ?_
   refine WL_nil ?_
   refine WA_done (by kernel_rfl) ?_
   have hq4 := Option.some.inj hr2
   subst hq4
   refine nrm_sub (l' := [(4, (ptr b1 0)), (5, (ptr b2 0)), (6, (ptr b3 0)), (8, (ptr b4 0)), (47, (.bool true))]) ⟨rfl, rfl, rfl, rfl, rfl, trivial⟩ ?_
   exact ⟨true, rfl, rfl, ((((Keep.of hB7).then hB8).then hB9).then hB12).below, hC12⟩
  replace hr2 := ite_f hr2 hc4
  refine WA_takeG 27 rfl (by kernel_rfl) (by kernel_rfl) (by kernel_rfl) rfl rfl rfl (fl_field Tryz.underlying83 rfl rfl (fun w => ⟨_, Tryz.sizeOf4 w⟩) rfl) ?_
  refine WL_guard rfl rfl ?_
  refine WL_field Tryz.underlying83 rfl rfl (fun w => ⟨_, Tryz.sizeOf4 w⟩) rfl rfl ?_
  refine WL_nil ?_
  refine WA_one 28 (by kernel_rfl) rfl ?_
  refine WL_guard rfl rfl ?_
  refine WL_load_box hC12 3 rfl rfl Tryz.isAgg4 rfl rfl ?_
  refine WL_nil ?_
  refine WA_takeG 29 rfl (by kernel_rfl) (by kernel_rfl) (by kernel_rfl) rfl rfl rfl (fl_move rfl) ?_
  refine WL_guard rfl rfl ?_
  refine WL_move rfl rfl ?_
  refine WL_nil ?_
  refine WA_fork (fun hc5 => ?_) (fun hc5 => ?_)
  ·replace hr2 := ite_t hr2 hc5
   refine WA_takeG 30 rfl (by kernel_rfl) (by kernel_rfl) (by kernel_rfl) rfl rfl rfl (fl_field Tryz.underlying38 rfl rfl (fun w => ⟨_, Tryz.sizeOf34 w⟩) rfl) ?_
   refine WL_guard rfl rfl ?_
   refine WL_field Tryz.underlying38 rfl rfl (fun w => ⟨_, Tryz.sizeOf34 w⟩) rfl rfl ?_
   refine WL_nil ?_
   refine WA_one 31 (by kernel_rfl) rfl ?_
   refine WL_guard rfl rfl ?_
   refine WL_load_box hC12 4 rfl rfl Tryz.isAgg34 rfl rfl ?_
   refine WL_nil ?_
   refine WA_takeG 32 rfl (by kernel_rfl) (by kernel_rfl) (by kernel_rfl) rfl rfl rfl (fl_len Tryz.underlying34 g2 rfl) ?_
   refine WL_guard rfl rfl ?_
   refine WL_len Tryz.underlying34 g2 rfl rfl ?_
   refine WL_nil ?_
   refine WA_takeG 33 rfl (by kernel_rfl) (by kernel_rfl) (by kernel_rfl) rfl rfl rfl (fl_geq rfl rfl) ?_
   refine WL_guard rfl rfl ?_
   refine WL_geq rfl rfl rfl ?_
   refine WL_nil ?_
   refine WA_takeG 34 rfl (by kernel_rfl) (by kernel_rfl) (by kernel_rfl) rfl rfl rfl (fl_pick_t rfl rfl) ?_
   refine WL_guard rfl rfl ?_
   refine WL_pick_t rfl rfl rfl ?_
   refine WL_nil ?_
   refine WA_tk 35 (by kernel_rfl) rfl rfl (fl_pick_f rfl rfl) ?_
   refine WL_pick_f rfl rfl rfl ?_
   refine WL_nil ?_
   refine WA_done (by kernel_rfl) ?_
   have hq5 := Option.some.inj hr2
   subst hq5
   refine nrm_sub (l' := [(4, (ptr b1 0)), (5, (ptr b2 0)), (6, (ptr b3 0)), (8, (ptr b4 0)), (47, (.bool (decide (24 ≤ (List.length a2.1 : Int)))))]) ⟨rfl, rfl, rfl, rfl, rfl, trivial⟩ ?_
   exact ⟨(decide (24 ≤ (List.length a2.1 : Int))), rfl, rfl, ((((Keep.of hB7).then hB8).then hB9).then hB12).below, hC12⟩
  replace hr2 := ite_f hr2 hc5
  refine WA_sk 30 (by kernel_rfl) rfl rfl rfl rfl (by simp) rfl rfl ?_
  refine WA_sk 31 (by kernel_rfl) rfl rfl rfl rfl (by simp) rfl rfl ?_
  refine WA_sk 32 (by kernel_rfl) rfl rfl rfl rfl (by simp) rfl rfl ?_
  refine WA_sk 33 (by kernel_rfl) rfl rfl rfl rfl (by simp) rfl rfl ?_
  refine WA_takeG 34 rfl (by kernel_rfl) (by kernel_rfl) (by kernel_rfl) rfl rfl rfl (fl_pick_f rfl rfl) ?_
  refine WL_guard rfl rfl ?_
  refine WL_pick_f rfl rfl rfl ?_
  refine WL_nil ?_
  refine WA_tk 35 (by kernel_rfl) rfl rfl (fl_pick_f rfl rfl) ?_
  refine WL_pick_f rfl rfl rfl ?_
  refine WL_nil ?_
  refine WA_done (by kernel_rfl) ?_
  have hq6 := Option.some.inj hr2
  subst hq6
  refine nrm_sub (l' := [(4, (ptr b1 0)), (5, (ptr b2 0)), (6, (ptr b3 0)), (8, (ptr b4 0)), (47, (.bool false))]) ⟨rfl, rfl, rfl, rfl, rfl, trivial⟩ ?_
  exact ⟨false, rfl, rfl, ((((Keep.of hB7).then hB8).then hB9).then hB12).below, hC12⟩
 rintro _ w7 ⟨x2, rfl, rfl, hB6, hC8⟩
 try dsimp only at hF
 refine W_cond rfl (fun hc6 => ?_) (fun hc6 => ?_)
 ·replace hF := ite_t hF hc6
  refine W_seq_reg ?_
  refine WL_load_box_agg [v2, (.int .i64 x1.2)] hC8 0 rfl rfl rfl Tryz.isAgg38 Tryz.sizeOf38 rfl rfl ?_
  refine WL_store_box_agg (cs' := [v2, (.int .i64 x1.2)]) (new := [v2, (.int .i64 x1.2)]) hC8 2 rfl rfl (by intro v hv; simp only [List.mem_cons, List.not_mem_nil, or_false] at hv; rcases hv with rfl | rfl; exact (ro_one (hC8.ro 1 rfl)); exact rfl) rfl Tryz.sizeOf38 rfl rfl (fun w15 hC13 => ?_)
  try dsimp only [List.set] at hC13
  refine WL_assign rfl rfl ?_
  refine WL_nil ?_
  refine W_ret ?_
  refine nrm_ret ?_
  have hq7 := Option.some.inj hF
  subst hq7
  refine fn_retG2 rfl (rv_cell_agg (cs' := [v2, (.int .i64 x1.2)]) hC13 (i := 2) rfl rfl rfl Tryz.isAgg38 Tryz.sizeOf38 rfl) (rv_tmp rfl) ?_
  have hC14 := hC13.triv (bool_val (false))
  have hC16 := hC14.f2
  have hC15 := own_st38 v2 x1.1 x1.2 hC16
  exact ⟨_, rfl, res2_of hC15⟩
 replace hF := ite_f hF hc6
 refine W_skip ?_
 refine nrm_normal ?_
 refine W_seq_reg ?_
 refine WL_field Tryz.underlying38 rfl rfl (fun w => ⟨_, Tryz.sizeOf3 w⟩) rfl rfl ?_
 refine WL_load_box hC8 4 rfl rfl Tryz.isAgg3 rfl rfl ?_
 refine WL_add rfl rfl rfl ?_
 refine WL_field Tryz.underlying38 rfl rfl (fun w => ⟨_, Tryz.sizeOf3 w⟩) rfl rfl ?_
 refine WL_store_box (cs' := [v2, (.int .i64 (w64 (a2.2 + 1)))]) hC8 0 rfl rfl rfl rfl Tryz.sizeOf3 rfl rfl (fun w16 hC17 => ?_)
 try dsimp only [List.set] at hC17
 refine WL_nil ?_
 refine W_seq ?_
 refine W_seq_reg ?_
 refine WL_field Tryz.underlying83 rfl rfl (fun w => ⟨_, Tryz.sizeOf4 w⟩) rfl rfl ?_
 refine WL_load_box hC17 3 rfl rfl Tryz.isAgg4 rfl rfl ?_
 refine WL_nil ?_
 refine W_cond rfl (fun hc7 => ?_) (fun hc7 => ?_)
 ·replace hF := ite_t hF hc7
  refine W_seq_reg ?_
  refine WL_field Tryz.underlying38 rfl rfl (fun w => ⟨_, Tryz.sizeOf34 w⟩) rfl rfl ?_
  refine WL_load_box hC17 4 rfl rfl Tryz.isAgg34 rfl rfl ?_
  refine WL_field Tryz.underlying83 rfl rfl (fun w => ⟨_, Tryz.sizeOf81 w⟩) rfl rfl ?_
  refine WL_load_box_agg [(.int .i64 a3.2.1), u3] hC17 3 rfl rfl rfl Tryz.isAgg81 Tryz.sizeOf81 rfl rfl ?_
  obtain ⟨x6, hr6, hF⟩ := bind_some hF
  refine WL_call Tryz.call62 rfl rfl (c_S_AddFact a2.1 u2 (g2.now hC17.keep) (a3.2.1, a3.2.2) u3 (g3.now hC17.keep) x6 hr6) ?_
  rintro v3 w17 ⟨hB13, F2, hv5, hn3, hb3⟩
  have hC18 := hC17.push hB13 (A := Item.own v3 x6) hv5 hn3 hb3
  refine WL_field Tryz.underlying38 rfl rfl (fun w => ⟨_, Tryz.sizeOf34 w⟩) rfl rfl ?_
  refine WL_store_box (cs' := [v3, (.int .i64 (w64 (a2.2 + 1)))]) hC18 1 rfl rfl (ro_one (hC18.ro 0 rfl)) rfl Tryz.sizeOf34 rfl rfl (fun w18 hC19 => ?_)
  try dsimp only [List.set] at hC19
  refine WL_nil ?_
  refine W_seq_reg ?_
  refine WL_load_box_agg [v3, (.int .i64 (w64 (a2.2 + 1)))] hC19 1 rfl rfl rfl Tryz.isAgg38 Tryz.sizeOf38 rfl rfl ?_
  refine WL_store_box_agg (cs' := [v3, (.int .i64 (w64 (a2.2 + 1)))]) (new := [v3, (.int .i64 (w64 (a2.2 + 1)))]) hC19 3 rfl rfl (by intro v hv; simp only [List.mem_cons, List.not_mem_nil, or_false] at hv; rcases hv with rfl | rfl; exact (ro_one (hC19.ro 0 rfl)); exact rfl) rfl Tryz.sizeOf38 rfl rfl (fun w19 hC20 => ?_)
  try dsimp only [List.set] at hC20
  refine WL_assign rfl rfl ?_
  refine WL_nil ?_
  refine W_ret ?_
  refine nrm_ret ?_
  have hq8 := Option.some.inj hF
  subst hq8
  refine fn_retG2 rfl (rv_cell_agg (cs' := [v3, (.int .i64 (w64 (a2.2 + 1)))]) hC20 (i := 3) rfl rfl rfl Tryz.isAgg38 Tryz.sizeOf38 rfl) (rv_tmp rfl) ?_
  have hC21 := hC20.triv (bool_val (true))
  have hC23 := hC21.f1
  have hC22 := own_st38 v3 x6 (w64 (a2.2 + 1)) hC23
  exact ⟨_, rfl, res2_of hC22⟩
 replace hF := ite_f hF hc7
 refine W_skip ?_
 refine nrm_normal ?_
 refine W_seq_reg ?_
 refine WL_buildSlice (vs := []) hC17 Tryz.underlying34 ty81 rfl rfl rfl rfl (by simp) rfl rfl (fun b5 w20 hC24 hB14 => ?_)
 have hC25 := hC24.row0 (α := (Int × (List Int)))
 have hC26 := hC25.front 1 rfl
 dsimp only [List.eraseIdx, List.cons_append, List.nil_append, List.append_nil] at hC26
 have hC27 : Ctx [] w0 w20 (Item.own (.slice (some ⟨b5, 0, none⟩) 0 0) (([] : List (Int × (List Int))) : List (Int × (List Int))) :: [Item.box b4 [v2, (.int .i64 (w64 (a2.2 + 1)))], Item.own v2 (x1.1 : (List (Int × (List Int)))), Item.box b3 [(.slice none 0 0), (.int .i64 0)], Item.box b2 [(.bool a3.1), (.int .i64 a3.2.1), u3], Item.box b1 [u2, (.int .i64 a2.2)]]) := hC26.rowOwn (by simp [maxLen])
 refine WL_field Tryz.underlying38 rfl rfl (fun w => ⟨_, Tryz.sizeOf34 w⟩) rfl rfl ?_
 refine WL_store_box (cs' := [(.slice (some ⟨b5, 0, none⟩) 0 0), (.int .i64 (w64 (a2.2 + 1)))]) hC27 1 rfl rfl (ro_one (hC27.ro 0 rfl)) rfl Tryz.sizeOf34 rfl rfl (fun w21 hC28 => ?_)
 try dsimp only [List.set] at hC28
 refine WL_nil ?_
 refine W_seq ?_
 refine W_seq_reg ?_
 refine WL_assign rfl rfl ?_
 refine WL_nil ?_
 obtain ⟨r2, hr7, hF⟩ := bind_some hF
 refine W_norm (fun l w => ∃ v5 : Value, ∃ x10 : (List (Int × (List Int))), ∃ x11 : Int, (x10, x11) = r2 ∧ l = [(6, (ptr b3 0)), (8, (ptr b4 0))] ∧ Ctx [] w0 w [Item.own v5 (x10 : (List (Int × (List Int)))), Item.box b4 [v5, (.int .i64 x11)], Item.box b3 [(.slice none 0 0), (.int .i64 0)]]) ?_ ?_
 ·refine W_block ?_
  have hC52 := hC28.f5
  have hC53 := hC52.f5
  have hC54 := hC53.f5
  have hC55 := hC54.f4
  have hC56 := hC55.f4
  have hC57 := hC56.h5
  refine W.sub (l' := [(4, (ptr b1 0)), (5, (ptr b2 0)), (6, (ptr b3 0)), (8, (ptr b4 0)), (9, (.int .i64 0))]) ?_ ⟨rfl, rfl, rfl, rfl, rfl, trivial⟩
  refine W_loop (fun k l w => ∃ v4 : Value, ∃ x7 : (List (Int × (List Int))), ∃ x8 : Int, ∃ x9 : Int, l = [(4, (ptr b1 0)), (5, (ptr b2 0)), (6, (ptr b3 0)), (8, (ptr b4 0)), (9, (.int .i64 x9))] ∧ Ctx [] w0 w [Item.own v4 (x7 : (List (Int × (List Int)))), Item.box b4 [v4, (.int .i64 x8)], Item.box b3 [(.slice none 0 0), (.int .i64 0)], Item.box b2 [(.bool a3.1), (.int .i64 a3.2.1), u3], Item.box b1 [u2, (.int .i64 a2.2)]] ∧ S.ApplyChange_l1 a2 a3 k x7 x8 x9 = some r2) FUEL ⟨(.slice (some ⟨b5, 0, none⟩) 0 0), ([] : List (Int × (List Int))), w64 (a2.2 + 1), 0, rfl, hC57, hr7⟩ ?_
  clear hr7
  rintro k1 _ w22 ⟨v4, x7, x8, x9, rfl, hC29, hL1⟩
  cases k1 with
  | zero => rw [S.ApplyChange_l1] at hL1; cases hL1
  | succ k1 =>
   rw [S.ApplyChange_l1] at hL1
   refine W_seq ?_
   refine W_seq_reg ?_
   refine WL_move rfl rfl ?_
   refine WL_field Tryz.underlying38 rfl rfl (fun w => ⟨_, Tryz.sizeOf34 w⟩) rfl rfl ?_
   refine WL_load_box hC29 4 rfl rfl Tryz.isAgg34 rfl rfl ?_
   refine WL_len Tryz.underlying34 g2 rfl rfl ?_
   refine WL_lss rfl rfl rfl ?_
   refine WL_nil ?_
   refine W_cond rfl (fun hc8 => ?_) (fun hc8 => ?_)
   ·replace hL1 := ite_t hL1 hc8
    refine W_skip ?_
    refine nrm_normal ?_
    refine W_seq ?_
    refine W_block ?_
    refine W_seq ?_
    refine W_drawn 9 rfl hmix (fun w23 hB16 => ?_)
    have hC30 := hC29.grow hB16
    refine WA_tk 0 (by kernel_rfl) rfl rfl (fl_field Tryz.underlying38 rfl rfl (fun w => ⟨_, Tryz.sizeOf34 w⟩) rfl) ?_
    refine WL_field Tryz.underlying38 rfl rfl (fun w => ⟨_, Tryz.sizeOf34 w⟩) rfl rfl ?_
    refine WL_nil ?_
    refine WA_tk 2 (by kernel_rfl) rfl rfl (fl_move rfl) ?_
    refine WL_move rfl rfl ?_
    refine WL_nil ?_
    refine WA_tk 5 (by kernel_rfl) rfl rfl (fl_field Tryz.underlying83 rfl rfl (fun w => ⟨_, Tryz.sizeOf81 w⟩) rfl) ?_
    refine WL_field Tryz.underlying83 rfl rfl (fun w => ⟨_, Tryz.sizeOf81 w⟩) rfl rfl ?_
    refine WL_nil ?_
    obtain ⟨x12, hx1, hL1⟩ := bind_some hL1
    refine WA.sub (l' := [(4, (ptr b1 0)), (5, (ptr b2 0)), (6, (ptr b3 0)), (8, (ptr b4 0)), (9, (.int .i64 x9)), (64, (.int .i64 x9)), (65, (ptr b1 0)), (66, u2), (67, (.int .i64 (List.length a2.1 : Int))), (68, (.bool (decide (x9 < (List.length a2.1 : Int))))), (71, (ptr b1 0)), (73, (.int .i64 x9)), (76, (ptr b2 1))]) ?_ ⟨rfl, rfl, rfl, rfl, rfl, rfl, rfl, rfl, rfl, rfl, rfl, rfl, rfl, trivial⟩
    refine WA_postsE [⟨1, [], fun vs => PW.val u2, []⟩, ⟨3, [], fun vs => PW.at [] w0 x12, []⟩, ⟨4, [], fun vs => PW.ro [] w0 x12, []⟩, ⟨6, [], fun vs => PW.val (.agg #[(.int .i64 a3.2.1), u3]), []⟩] [[], [1], [3], []] 2 rfl (by kernel_rfl) (by kernel_rfl) rfl ?_ ?_
    ·refine StepsE_cons rfl ?_ ?_
     ·intro w24 hB17
      refine DepsE_nil ?_
      refine ⟨_, rfl, ?_⟩
      refine WL_load_box (hC30.grow hB17) 4 rfl rfl Tryz.isAgg34 rfl rfl ?_
      refine WL_nil ?_
      exact FinE_val (Below.refl _ _) rfl rfl ⟨rfl, rfl⟩
     refine StepsE_cons rfl ?_ ?_
     ·intro w24 hB17
      refine DepsE_cons rfl rfl rfl ?_
      rintro _ _ ⟨rfl, rfl⟩ _
      refine DepsE_nil ?_
      refine ⟨_, rfl, ?_⟩
      refine WL_index Tryz.underlying34 ty81 g2 hx1 rfl rfl rfl (fun b6 o1 h1 => ?_)
      refine WL_nil ?_
      exact FinE_val (Below.refl _ _) rfl rfl ⟨rfl, _, _, rfl, h1⟩
     refine StepsE_cons rfl ?_ ?_
     ·intro w24 hB17
      refine DepsE_cons rfl rfl rfl ?_
      rintro _ _ ⟨rfl, b6, o1, rfl, h1⟩ _
      refine DepsE_nil ?_
      refine ⟨_, rfl, ?_⟩
      refine WL_load ty81 h1 (hC30.keep.then hB17) rfl rfl (fun v8 h4 => ?_)
      refine WL_nil ?_
      exact FinE_val (Below.refl _ _) rfl rfl ⟨rfl, h4⟩
     refine StepsE_cons rfl ?_ ?_
     ·intro w24 hB17
      refine DepsE_nil ?_
      refine ⟨_, rfl, ?_⟩
      refine WL_load_box_agg [(.int .i64 a3.2.1), u3] (hC30.grow hB17) 3 rfl rfl rfl Tryz.isAgg81 Tryz.sizeOf81 rfl rfl ?_
      refine WL_nil ?_
      exact FinE_val (Below.refl _ _) rfl rfl ⟨rfl, rfl⟩
     exact StepsE_nil
    intro w25 hB18
    refine AllE_cons rfl rfl rfl ?_
    rintro _ _ ⟨rfl, rfl⟩
    refine AllE_cons rfl rfl rfl ?_
    rintro _ _ ⟨rfl, b6, o1, rfl, h1⟩
    refine AllE_cons rfl rfl rfl ?_
    rintro v8 _ ⟨rfl, h4⟩
    obtain ⟨v7, rfl, h3⟩ := ro_st81 h4
    refine AllE_cons rfl rfl rfl ?_
    rintro _ _ ⟨rfl, rfl⟩
    refine AllE_nil ?_
    intro hn4 hb4
    have hC31 := hC30.grow hB18
    obtain ⟨x13, hr8, hL1⟩ := bind_some hL1
    refine WA_one 7 (by kernel_rfl) rfl ?_
    refine WL_call Tryz.call63 rfl rfl (c_S_CompareFacts x12 v7 (h3.now hC31.keep) (a3.2.1, a3.2.2) u3 (g3.now hC31.keep) x13 hr8) ?_
    intro _ w26 hv6
    obtain ⟨rfl, hB19⟩ := res_int hv6
    have hC32 := hC31.grow hB19
    refine WL_nil ?_
    refine WA_tk 8 (by kernel_rfl) rfl rfl (fl_neq rfl rfl) ?_
    refine WL_neq rfl rfl rfl ?_
    refine WL_nil ?_
    refine WA_done (by kernel_rfl) ?_
    refine nrm_normal ?_
    obtain ⟨r3, hr9, hL1⟩ := bind_some hL1
    refine W_norm (fun l w => ∃ v9 : Value, ∃ x14 : (List (Int × (List Int))), ∃ x15 : Int, (x14, x15) = r3 ∧ l = [(4, (ptr b1 0)), (5, (ptr b2 0)), (6, (ptr b3 0)), (8, (ptr b4 0)), (9, (.int .i64 x9))] ∧ Ctx [] w0 w [Item.own v9 (x14 : (List (Int × (List Int)))), Item.box b4 [v9, (.int .i64 x15)], Item.box b3 [(.slice none 0 0), (.int .i64 0)], Item.box b2 [(.bool a3.1), (.int .i64 a3.2.1), u3], Item.box b1 [u2, (.int .i64 a2.2)]]) ?_ ?_
    ·refine W_cond rfl (fun hc9 => ?_) (fun hc9 => ?_)
     ·replace hr9 := ite_t hr9 hc9
      refine W_drawn 19 rfl hmix (fun w28 hB21 => ?_)
      have hC34 := hC32.grow hB21
      refine WA_tk 0 (by kernel_rfl) rfl rfl (fl_field Tryz.underlying38 rfl rfl (fun w => ⟨_, Tryz.sizeOf34 w⟩) rfl) ?_
      refine WL_field Tryz.underlying38 rfl rfl (fun w => ⟨_, Tryz.sizeOf34 w⟩) rfl rfl ?_
      refine WL_nil ?_
      refine WA_tk 2 (by kernel_rfl) rfl rfl (fl_field Tryz.underlying38 rfl rfl (fun w => ⟨_, Tryz.sizeOf34 w⟩) rfl) ?_
      refine WL_field Tryz.underlying38 rfl rfl (fun w => ⟨_, Tryz.sizeOf34 w⟩) rfl rfl ?_
      refine WL_nil ?_
      refine WA_tk 4 (by kernel_rfl) rfl rfl (fl_move rfl) ?_
      refine WL_move rfl rfl ?_
      refine WL_nil ?_
      refine WA_tk 8 (by kernel_rfl) rfl rfl (fl_field Tryz.underlying38 rfl rfl (fun w => ⟨_, Tryz.sizeOf34 w⟩) rfl) ?_
      refine WL_field Tryz.underlying38 rfl rfl (fun w => ⟨_, Tryz.sizeOf34 w⟩) rfl rfl ?_
      refine WL_nil ?_
      refine WA_tk 10 (by kernel_rfl) rfl rfl (fl_move rfl) ?_
      refine WL_move rfl rfl ?_
      refine WL_nil ?_
      obtain ⟨x16, hx2, hr9⟩ := bind_some hr9
      obtain ⟨x17, hx3, hr9⟩ := bind_some hr9
      obtain ⟨x18, hr10, hr9⟩ := bind_some hr9
      refine WA.sub (l' := [(4, (ptr b1 0)), (5, (ptr b2 0)), (6, (ptr b3 0)), (8, (ptr b4 0)), (9, (.int .i64 x9)), (64, (.int .i64 x9)), (65, (ptr b1 0)), (66, u2), (67, (.int .i64 (List.length a2.1 : Int))), (68, (.bool (decide (x9 < (List.length a2.1 : Int))))), (71, (ptr b1 0)), (72, u2), (73, (.int .i64 x9)), (74, (ptr b6 o1)), (75, (.agg #[(.int .i64 x12.1), v7])), (76, (ptr b2 1)), (77, (.agg #[(.int .i64 a3.2.1), u3])), (78, (.int .i64 x13)), (79, (.bool (!decide (x13 = 0)))), (80, (ptr b4 0)), (82, (ptr b1 0)), (84, (.int .i64 x9)), (88, (ptr b1 0)), (90, (.int .i64 x9))]) ?_ ⟨rfl, rfl, rfl, rfl, rfl, rfl, rfl, rfl, rfl, rfl, rfl, rfl, rfl, rfl, rfl, rfl, rfl, rfl, rfl, rfl, rfl, rfl, rfl, rfl, trivial⟩
      refine WA_postsE [⟨1, [], fun vs => PW.val v4, []⟩, ⟨3, [], fun vs => PW.val u2, []⟩, ⟨5, [], fun vs => PW.at [] w0 x16, []⟩, ⟨6, [], fun vs => PW.at [] w0 x16.1, []⟩, ⟨7, [], fun vs => PW.val (.int .i64 x16.1), []⟩, ⟨9, [], fun vs => PW.val u2, []⟩, ⟨11, [], fun vs => PW.at [] w0 x17, []⟩, ⟨12, [], fun vs => PW.at [] w0 x17.2, []⟩, ⟨13, [], fun vs => PW.ro [] w0 x17.2, []⟩, ⟨14, [], fun vs => PW.own x18, []⟩, ⟨15, [], fun vs => PW.own ([(x18.1, x18.2)] : (List (Int × (List Int)))), [14]⟩] [[], [], [3], [5], [6], [], [9], [11], [12], [7, 13], []] 3 rfl (by kernel_rfl) (by kernel_rfl) rfl ?_ ?_
      ·refine StepsE_cons rfl ?_ ?_
       ·intro w31 hB24
        refine DepsE_nil ?_
        refine ⟨_, rfl, ?_⟩
        refine WL_load_box (hC34.grow hB24) 1 rfl rfl Tryz.isAgg34 rfl rfl ?_
        refine WL_nil ?_
        exact FinE_val (Below.refl _ _) rfl rfl ⟨rfl, rfl⟩
       refine StepsE_cons rfl ?_ ?_
       ·intro w31 hB24
        refine DepsE_nil ?_
        refine ⟨_, rfl, ?_⟩
        refine WL_load_box (hC34.grow hB24) 4 rfl rfl Tryz.isAgg34 rfl rfl ?_
        refine WL_nil ?_
        exact FinE_val (Below.refl _ _) rfl rfl ⟨rfl, rfl⟩
       refine StepsE_cons rfl ?_ ?_
       ·intro w31 hB24
        refine DepsE_cons rfl rfl rfl ?_
        rintro _ _ ⟨rfl, rfl⟩ _
        refine DepsE_nil ?_
        refine ⟨_, rfl, ?_⟩
        refine WL_index Tryz.underlying34 ty81 g2 hx2 rfl rfl rfl (fun b7 o2 h5 => ?_)
        refine WL_nil ?_
        exact FinE_val (Below.refl _ _) rfl rfl ⟨rfl, _, _, rfl, h5⟩
       refine StepsE_cons rfl ?_ ?_
       ·intro w31 hB24
        refine DepsE_cons rfl rfl rfl ?_
        rintro _ _ ⟨rfl, b7, o2, rfl, h5⟩ _
        refine DepsE_nil ?_
        refine ⟨_, rfl, ?_⟩
        refine WL_field Tryz.underlying81 rfl rfl (fun w => ⟨_, Tryz.sizeOf3 w⟩) rfl rfl ?_
        refine WL_nil ?_
        exact FinE_val (Below.refl _ _) rfl rfl ⟨rfl, _, _, rfl, h5.fst⟩
       refine StepsE_cons rfl ?_ ?_
       ·intro w31 hB24
        refine DepsE_cons rfl rfl rfl ?_
        rintro _ _ ⟨rfl, b8, o3, rfl, h6⟩ _
        refine DepsE_nil ?_
        refine ⟨_, rfl, ?_⟩
        refine WL_load ty3 h6 (hC34.keep.then hB24) rfl rfl (fun v10 h7 => ?_)
        obtain rfl := ro_int h7
        refine WL_nil ?_
        exact FinE_val (Below.refl _ _) rfl rfl ⟨rfl, rfl⟩
       refine StepsE_cons rfl ?_ ?_
       ·intro w31 hB24
        refine DepsE_nil ?_
        refine ⟨_, rfl, ?_⟩
        refine WL_load_box (hC34.grow hB24) 4 rfl rfl Tryz.isAgg34 rfl rfl ?_
        refine WL_nil ?_
        exact FinE_val (Below.refl _ _) rfl rfl ⟨rfl, rfl⟩
       refine StepsE_cons rfl ?_ ?_
       ·intro w31 hB24
        refine DepsE_cons rfl rfl rfl ?_
        rintro _ _ ⟨rfl, rfl⟩ _
        refine DepsE_nil ?_
        refine ⟨_, rfl, ?_⟩
        refine WL_index Tryz.underlying34 ty81 g2 hx3 rfl rfl rfl (fun b9 o4 h8 => ?_)
        refine WL_nil ?_
        exact FinE_val (Below.refl _ _) rfl rfl ⟨rfl, _, _, rfl, h8⟩
       refine StepsE_cons rfl ?_ ?_
       ·intro w31 hB24
        refine DepsE_cons rfl rfl rfl ?_
        rintro _ _ ⟨rfl, b9, o4, rfl, h8⟩ _
        refine DepsE_nil ?_
        refine ⟨_, rfl, ?_⟩
        refine WL_field Tryz.underlying81 rfl rfl (fun w => ⟨_, Tryz.sizeOf22 w⟩) rfl rfl ?_
        refine WL_nil ?_
        exact FinE_val (Below.refl _ _) rfl rfl ⟨rfl, _, _, rfl, h8.snd⟩
       refine StepsE_cons rfl ?_ ?_
       ·intro w31 hB24
        refine DepsE_cons rfl rfl rfl ?_
        rintro _ _ ⟨rfl, b10, o5, rfl, h9⟩ _
        refine DepsE_nil ?_
        refine ⟨_, rfl, ?_⟩
        refine WL_load ty22 h9 (hC34.keep.then hB24) rfl rfl (fun v11 h10 => ?_)
        refine WL_nil ?_
        exact FinE_val (Below.refl _ _) rfl rfl ⟨rfl, h10⟩
       refine StepsE_cons rfl ?_ ?_
       ·intro w31 hB24
        refine DepsE_cons rfl rfl rfl ?_
        rintro _ _ ⟨rfl, rfl⟩ _
        refine DepsE_cons rfl rfl rfl ?_
        rintro v11 _ ⟨rfl, h10⟩ _
        refine DepsE_nil ?_
        refine ⟨_, rfl, ?_⟩
        refine WL_call Tryz.call64 rfl rfl (c_S_l2One x16.1 x17.2 v11 (h10.now (hC34.keep.then hB24)) x18 hr10) ?_
        rintro v12 w29 ⟨hB22, F3, hv7, hn5, hb5⟩
        refine WL_nil ?_
        exact FinE_own hB22 rfl rfl hv7 hn5 hb5 (Val.inh hv7)
       refine StepsE_use rfl rfl rfl ?_ ?_
       ·intro w31 hB24
        refine DepsE_nil ?_
        refine ⟨_, _, rfl, rfl, ?_⟩
        intro v12 F3 hv7 ho1
        have hC35 := Ctx.local hv7 ho1
        obtain ⟨v14, rfl, hC36⟩ := st81_own hC35
        refine WL_buildSlice (vs := [(.agg #[(.int .i64 x18.1), v14])]) hC36 Tryz.underlying34 ty81 rfl rfl rfl rfl (by intro v hv; simp only [List.mem_cons, List.not_mem_nil, or_false] at hv; rcases hv with rfl <;> rfl) rfl rfl (fun b11 w30 hC37 hB23 => ?_)
        have hC38 := hC37.row0 (α := (Int × (List Int)))
        have hC40 := hC38.f2
        have hC39 := own_st81 x18.1 v14 x18.2 hC40
        have hC41 := hC39.row1
        have hC42 := hC41.front 1 rfl
        dsimp only [List.eraseIdx, List.cons_append, List.nil_append, List.append_nil] at hC42
        have hC43 : Ctx F3 w31 w30 (Item.own (.slice (some ⟨b11, 0, none⟩) 1 1) ([(x18.1, x18.2)] : List (Int × (List Int))) :: []) := hC42.rowOwn (by simp [maxLen])
        refine WL_nil ?_
        exact FinE_ctx hC43 rfl rfl (fun F h => h)
       exact StepsE_nil
      intro w32 hB25
      refine AllE_cons rfl rfl rfl ?_
      rintro _ _ ⟨rfl, rfl⟩
      refine AllE_cons rfl rfl rfl ?_
      rintro _ _ ⟨rfl, rfl⟩
      refine AllE_cons rfl rfl rfl ?_
      rintro _ _ ⟨rfl, b7, o2, rfl, h5⟩
      refine AllE_cons rfl rfl rfl ?_
      rintro _ _ ⟨rfl, b8, o3, rfl, h6⟩
      refine AllE_cons rfl rfl rfl ?_
      rintro _ _ ⟨rfl, rfl⟩
      refine AllE_cons rfl rfl rfl ?_
      rintro _ _ ⟨rfl, rfl⟩
      refine AllE_cons rfl rfl rfl ?_
      rintro _ _ ⟨rfl, b9, o4, rfl, h8⟩
      refine AllE_cons rfl rfl rfl ?_
      rintro _ _ ⟨rfl, b10, o5, rfl, h9⟩
      refine AllE_cons rfl rfl rfl ?_
      rintro v11 _ ⟨rfl, h10⟩
      refine AllE_skip rfl ?_
      refine AllE_cons rfl rfl rfl ?_
      intro v15 F4 hv8
      refine AllE_nil ?_
      intro hn6 hb6
      have hC44 := hC34.pushL hB25 (Bs := [Item.own v15 ([(x18.1, x18.2)] : (List (Int × (List Int))))]) (Fs := [F4]) ⟨F4, _, rfl, hv8, rfl⟩ (by simpa using hn6) (fun b h => (hb6 b (by simpa using h)).1)
      obtain ⟨x19, hx4, hr9⟩ := bind_some hr9
      refine WA_one 16 (by kernel_rfl) rfl ?_
      refine WL_append_head hC44 0 rfl Tryz.underlying34 ty81 rfl hx4 rfl rfl rfl (fun v16 w33 hC45 => ?_)
      try dsimp only [List.set] at hC45
      refine WL_nil ?_
      refine WA_tk 17 (by kernel_rfl) rfl rfl (fl_field Tryz.underlying38 rfl rfl (fun w => ⟨_, Tryz.sizeOf34 w⟩) rfl) ?_
      refine WL_field Tryz.underlying38 rfl rfl (fun w => ⟨_, Tryz.sizeOf34 w⟩) rfl rfl ?_
      refine WL_nil ?_
      refine WA_one 18 (by kernel_rfl) rfl ?_
      refine WL_store_box (cs' := [v16, (.int .i64 x8)]) hC45 1 rfl rfl (ro_one (hC45.ro 0 rfl)) rfl Tryz.sizeOf34 rfl rfl (fun w34 hC47 => ?_)
      try dsimp only [List.set] at hC47
      refine WL_nil ?_
      refine WA_done (by kernel_rfl) ?_
      have hq9 := Option.some.inj hr9
      subst hq9
      refine nrm_sub (l' := [(4, (ptr b1 0)), (5, (ptr b2 0)), (6, (ptr b3 0)), (8, (ptr b4 0)), (9, (.int .i64 x9))]) ⟨rfl, rfl, rfl, rfl, rfl, trivial⟩ ?_
      exact ⟨v16, x19, x8, rfl, rfl, hC47⟩
     replace hr9 := ite_f hr9 hc9
     refine W_skip ?_
     have hq10 := Option.some.inj hr9
     subst hq10
     refine nrm_sub (l' := [(4, (ptr b1 0)), (5, (ptr b2 0)), (6, (ptr b3 0)), (8, (ptr b4 0)), (9, (.int .i64 x9))]) ⟨rfl, rfl, rfl, rfl, rfl, trivial⟩ ?_
     exact ⟨v4, x7, x8, rfl, rfl, hC32⟩
    rintro l3 _ w27 hs3 ⟨v9, x14, x15, rfl, rfl, hC33⟩
    try dsimp only at hL1
    refine blk_normal ?_
    refine nrm_sub' hs3 ?_
    clear hs3
    refine W_reg ?_
    refine WL_move rfl rfl ?_
    refine WL_add rfl rfl rfl ?_
    refine WL_assign rfl rfl ?_
    refine WL_nil ?_
    refine nrm_sub (l' := [(4, (ptr b1 0)), (5, (ptr b2 0)), (6, (ptr b3 0)), (8, (ptr b4 0)), (9, (.int .i64 (w64 (x9 + 1))))]) ⟨rfl, rfl, rfl, rfl, rfl, trivial⟩ ?_
    exact ⟨k1, Nat.lt_succ_self _, v9, x14, x15, w64 (x9 + 1), rfl, hC33, hL1⟩
   replace hL1 := ite_f hL1 hc8
   refine W_exit ?_
   refine nrm_exit ?_
   refine nrm_exit ?_
   refine blk_exit ?_
   have hq11 := Option.some.inj hL1
   subst hq11
   have hC48 := hC29.f2
   have hC49 := hC48.f2
   have hC50 := hC49.f2
   have hC51 := hC50.h3
   refine nrm_sub (l' := [(6, (ptr b3 0)), (8, (ptr b4 0))]) ⟨rfl, rfl, trivial⟩ ?_
   exact ⟨v4, x7, x8, rfl, rfl, hC51⟩
 rintro l4 _ w35 hs4 ⟨v5, x10, x11, rfl, rfl, hC58⟩
 try dsimp only at hF
 refine nrm_sub' hs4 ?_
 clear hs4
 refine W_seq_reg ?_
 refine WL_load_box_agg [v5, (.int .i64 x11)] hC58 1 rfl rfl rfl Tryz.isAgg38 Tryz.sizeOf38 rfl rfl ?_
 refine WL_store_box_agg (cs' := [v5, (.int .i64 x11)]) (new := [v5, (.int .i64 x11)]) hC58 2 rfl rfl (by intro v hv; simp only [List.mem_cons, List.not_mem_nil, or_false] at hv; rcases hv with rfl | rfl; exact (ro_one (hC58.ro 0 rfl)); exact rfl) rfl Tryz.sizeOf38 rfl rfl (fun w36 hC59 => ?_)
 try dsimp only [List.set] at hC59
 refine WL_assign rfl rfl ?_
 refine WL_nil ?_
 refine W_ret ?_
 have hq12 := Option.some.inj hF
 subst hq12
 refine fn_retG2 rfl (rv_cell_agg (cs' := [v5, (.int .i64 x11)]) hC59 (i := 2) rfl rfl rfl Tryz.isAgg38 Tryz.sizeOf38 rfl) (rv_tmp rfl) ?_
 have hC60 := hC59.triv (bool_val (true))
 have hC62 := hC60.f1
 have hC61 := own_st38 v5 x10 x11 hC62
 exact ⟨_, rfl, res2_of hC61⟩

theorem c_S_ReadThrough {w0 : World} (a1 : (List Int)) (u1 : Value) (g1 : RO [] w0 u1 a1) (a2 : (List (Int × (List Int) × Int × Int × Int))) (u2 : Value) (g2 : RO [] w0 u2 a2) (a3 : ((List (Int × (List Int))) × Int)) (u3 : Value) (g3 : RO [] w0 u3 a3.1) (a4 : (Int × (List Int))) (u4 : Value) (g4 : RO [] w0 u4 a4.2) (a5 : Int) (a6 : (List (Bool × (Int × (List Int))))) (u5 : Value) (g5 : RO [] w0 u5 a6) (a7 : Int) (rr : (((List (Int × (List Int))) × Int × Int × Int × Bool) × ((List (Int × (List Int))) × Int))) (hF : S.ReadThrough a1 a2 a3 a4 a5 a6 a7 = some rr) :
 Calls Tryz.prog 8 [u1, u2, (.agg #[u3, (.int .i64 a3.2)]), (.agg #[(.int .i64 a4.1), u4]), (.int .i64 a5), u5, (.int .i64 a7)].toArray w0 fun e w' => ∃ v, e = .returned v ∧ Res2 w0 rr.1 rr.2 v w' := by
 refine calls_of_W Tryz.func8 rfl rfl ?_
 have hC0 := Ctx.start w0
 unfold S.ReadThrough at hF
 refine W_seq_reg ?_
 refine WL_box (cs := [u3, (.int .i64 a3.2)]) hC0 rfl rfl rfl (fun b1 w1 hC1 hB1 => ?_)
 refine WL_box (cs := [(.int .i64 a4.1), u4]) hC1 rfl rfl rfl (fun b2 w2 hC2 hB2 => ?_)
 refine WL_alloc hC2 zero36 rfl rfl (fun b3 w3 hC3 hB3 => ?_)
 refine WL_alloc hC3 zero38 rfl rfl (fun b4 w4 hC4 hB4 => ?_)
 refine WL_nil ?_
 refine W_seq_reg ?_
 refine WL_build (vs := []) rfl rfl rfl built36 ?_
 refine WL_alloc hC4 zero36 rfl rfl (fun b5 w5 hC5 hB5 => ?_)
 refine WL_store_box_agg (cs' := [(.slice none 0 0), (.int .i64 0), (.int .i64 0), (.int .i64 0), (.bool false)]) (new := [(.slice none 0 0), (.int .i64 0), (.int .i64 0), (.int .i64 0), (.bool false)]) hC5 0 rfl rfl (by intro v hv; simp only [List.mem_cons, List.not_mem_nil, or_false] at hv; rcases hv with rfl | rfl | rfl | rfl | rfl; exact rfl; exact rfl; exact rfl; exact rfl; exact rfl) rfl Tryz.sizeOf36 rfl rfl (fun w6 hC6 => ?_)
 try dsimp only [List.set] at hC6
 refine WL_nil ?_
 refine W_seq_reg ?_
 refine WL_load_box_agg [u3, (.int .i64 a3.2)] hC6 4 rfl rfl rfl Tryz.isAgg38 Tryz.sizeOf38 rfl rfl ?_
 obtain ⟨x1, hr1, hF⟩ := bind_some hF
 refine WL_call Tryz.call33 rfl rfl (c_S_l25Copy (a3.1, a3.2) u3 (g3.now hC6.keep) x1 hr1) ?_
 rintro v1 w7 ⟨hB6, F1, hv1, hn1, hb1⟩
 have hC7 := hC6.push hB6 (A := Item.own v1 x1) hv1 hn1 hb1
 obtain ⟨v2, rfl, hC8⟩ := st38_own hC7
 refine WL_alloc hC8 zero38 rfl rfl (fun b6 w9 hC9 hB7 => ?_)
 refine WL_store_box_agg (cs' := [v2, (.int .i64 x1.2)]) (new := [v2, (.int .i64 x1.2)]) hC9 0 rfl rfl (by intro v hv; simp only [List.mem_cons, List.not_mem_nil, or_false] at hv; rcases hv with rfl | rfl; exact (ro_one (hC9.ro 1 rfl)); exact rfl) rfl Tryz.sizeOf38 rfl rfl (fun w10 hC10 => ?_)
 try dsimp only [List.set] at hC10
 refine WL_nil ?_
 refine W_seq_reg ?_
 refine WL_move rfl rfl ?_
 refine WL_move rfl rfl ?_
 refine WL_load_box_agg [u3, (.int .i64 a3.2)] hC10 6 rfl rfl rfl Tryz.isAgg38 Tryz.sizeOf38 rfl rfl ?_
 refine WL_load_box_agg [(.int .i64 a4.1), u4] hC10 5 rfl rfl rfl Tryz.isAgg45 Tryz.sizeOf45 rfl rfl ?_
 obtain ⟨x2, hr2, hF⟩ := bind_some hF
 refine WL_call Tryz.call34 rfl rfl (c_S_OpenCursor a1 u1 (g1.now hC10.keep) a2 u2 (g2.now hC10.keep) (a3.1, a3.2) u3 (g3.now hC10.keep) (a4.1, a4.2) u4 (g4.now hC10.keep) x2 hr2) ?_
 rintro _ w11 ⟨hB8, v3, v4, F2, F3, rfl, hv2, hv3, hn2, hb2⟩
 obtain ⟨rfl, rfl⟩ := val_bool hv3
 have hC11 := hC10.pushL hB8 (Bs := [Item.own v3 x2.1]) (Fs := [F2]) ⟨F2, _, rfl, hv2, rfl⟩ (by simpa using hn2) (fun b h => hb2 b (by simpa using h))
 obtain ⟨v5, rfl, hC12⟩ := st73_own hC11
 refine WL_move rfl rfl ?_
 refine WL_extract rfl rfl rfl ?_
 refine WL_extract rfl rfl rfl ?_
 refine WL_alloc hC12 zero73 rfl rfl (fun b7 w12 hC13 hB9 => ?_)
 refine WL_store_box_agg (cs' := [(.int .i64 x2.1.1.1), v5, (.int .i64 x2.1.2.1), (.int .i64 x2.1.2.2)]) (new := [(.int .i64 x2.1.1.1), v5, (.int .i64 x2.1.2.1), (.int .i64 x2.1.2.2)]) hC13 0 rfl rfl (by intro v hv; simp only [List.mem_cons, List.not_mem_nil, or_false] at hv; rcases hv with rfl | rfl | rfl | rfl; exact rfl; exact (ro_one (hC13.ro 1 rfl)); exact rfl; exact rfl) rfl Tryz.sizeOf73 rfl rfl (fun w13 hC14 => ?_)
 try dsimp only [List.set] at hC14
 refine WL_assign rfl rfl ?_
 refine WL_nil ?_
 refine W_seq ?_
 obtain ⟨r1, hr3, hF⟩ := bind_some hF
 refine W_cut (fun l w => ∃ x3 : Bool, x3 = r1 ∧ l = [(0, u1), (1, u2), (4, (.int .i64 a5)), (5, u5), (6, (.int .i64 a7)), (10, (ptr b2 0)), (14, (ptr b3 0)), (15, (ptr b4 0)), (16, (ptr b5 0)), (17, (ptr b6 0)), (18, (ptr b7 0)), (48, (.bool x3))] ∧ Below w13.heap.size w13 w ∧ Ctx [] w0 w [Item.box b7 [(.int .i64 x2.1.1.1), v5, (.int .i64 x2.1.2.1), (.int .i64 x2.1.2.2)], Item.own v5 (x2.1.1.2 : (List Int)), Item.box b6 [v2, (.int .i64 x1.2)], Item.own v2 (x1.1 : (List (Int × (List Int)))), Item.box b5 [(.slice none 0 0), (.int .i64 0), (.int .i64 0), (.int .i64 0), (.bool false)], Item.box b4 [(.slice none 0 0), (.int .i64 0)], Item.box b3 [(.slice none 0 0), (.int .i64 0), (.int .i64 0), (.int .i64 0), (.bool false)], Item.box b2 [(.int .i64 a4.1), u4]]) ?_ ?_
 ·refine W_reg ?_
  refine WL_move rfl rfl ?_
  refine WL_not rfl rfl ?_
  refine WL_move rfl rfl ?_
  refine WL_fork (fun hc1 => ?_) (fun hc1 => ?_)
  ·replace hr3 := ite_t hr3 hc1
   refine WL_guard_skip rfl rfl (by simp) rfl ?_
   refine WL_guard_skip rfl rfl (by simp) rfl ?_
   refine WL_guard_skip rfl rfl (by simp) rfl ?_
   refine WL_pick_t rfl rfl rfl ?_
   refine WL_move rfl rfl ?_
   refine WL_guard_skip rfl rfl (by simp) rfl ?_
   refine WL_guard_skip rfl rfl (by simp) rfl ?_
   refine WL_guard_skip rfl rfl (by simp) rfl ?_
   refine WL_pick_t rfl rfl rfl ?_
   refine WL_nil ?_
   have hq1 := Option.some.inj hr3
   subst hq1
   have hC16 := hC14.f7
   have hC17 := hC16.f7
   have hC18 := hC17.f7
   have hC19 := hC18.f7
   have hC20 := hC19.f7
   have hC21 := hC20.f7
   have hC22 := hC21.f7
   have hC23 := hC22.f7
   have hC24 := hC23.h8
   refine nrm_sub (l' := [(0, u1), (1, u2), (4, (.int .i64 a5)), (5, u5), (6, (.int .i64 a7)), (10, (ptr b2 0)), (14, (ptr b3 0)), (15, (ptr b4 0)), (16, (ptr b5 0)), (17, (ptr b6 0)), (18, (ptr b7 0)), (48, (.bool true))]) ⟨rfl, rfl, rfl, rfl, rfl, rfl, rfl, rfl, rfl, rfl, rfl, rfl, trivial⟩ ?_
   exact ⟨true, rfl, rfl, (Below.refl _ _), hC24⟩
  replace hr3 := ite_f hr3 hc1
  refine WL_guard rfl rfl ?_
  refine WL_move rfl rfl ?_
  obtain ⟨x4, hr4, hr3⟩ := bind_some hr3
  refine WL_guard rfl rfl ?_
  refine WL_call Tryz.call35 rfl rfl (c_S_l1In a5 1 9 x4 hr4) ?_
  intro _ w15 hv4
  obtain ⟨rfl, hB11⟩ := res_bool hv4
  have hC25 := hC14.grow hB11
  refine WL_guard rfl rfl ?_
  refine WL_not rfl rfl ?_
  refine WL_pick_f rfl rfl rfl ?_
  refine WL_move rfl rfl ?_
  refine WL_fork (fun hc2 => ?_) (fun hc2 => ?_)
  ·replace hr3 := ite_t hr3 hc2
   refine WL_guard_skip rfl rfl (by simp) rfl ?_
   refine WL_guard_skip rfl rfl (by simp) rfl ?_
   refine WL_guard_skip rfl rfl (by simp) rfl ?_
   refine WL_pick_t rfl rfl rfl ?_
   refine WL_nil ?_
   have hq2 := Option.some.inj hr3
   subst hq2
   have hC26 := hC25.f7
   have hC27 := hC26.f7
   have hC28 := hC27.f7
   have hC29 := hC28.f7
   have hC30 := hC29.f7
   have hC31 := hC30.f7
   have hC32 := hC31.f7
   have hC33 := hC32.f7
   have hC34 := hC33.h8
   refine nrm_sub (l' := [(0, u1), (1, u2), (4, (.int .i64 a5)), (5, u5), (6, (.int .i64 a7)), (10, (ptr b2 0)), (14, (ptr b3 0)), (15, (ptr b4 0)), (16, (ptr b5 0)), (17, (ptr b6 0)), (18, (ptr b7 0)), (48, (.bool true))]) ⟨rfl, rfl, rfl, rfl, rfl, rfl, rfl, rfl, rfl, rfl, rfl, rfl, trivial⟩ ?_
   exact ⟨true, rfl, rfl, (Keep.of hB11).below, hC34⟩
  replace hr3 := ite_f hr3 hc2
  refine WL_guard rfl rfl ?_
  refine WL_move rfl rfl ?_
  obtain ⟨x5, hr5, hr3⟩ := bind_some hr3
  refine WL_guard rfl rfl ?_
  refine WL_call Tryz.call35 rfl rfl (c_S_l1In a7 0 20 x5 hr5) ?_
  intro _ w16 hv5
  obtain ⟨rfl, hB12⟩ := res_bool hv5
  have hC35 := hC25.grow hB12
  refine WL_guard rfl rfl ?_
  refine WL_not rfl rfl ?_
  refine WL_pick_f rfl rfl rfl ?_
  refine WL_nil ?_
  have hq3 := Option.some.inj hr3
  subst hq3
  have hC36 := hC35.f7
  have hC37 := hC36.f7
  have hC38 := hC37.f7
  have hC39 := hC38.f7
  have hC40 := hC39.f7
  have hC41 := hC40.f7
  have hC42 := hC41.f7
  have hC43 := hC42.f7
  have hC44 := hC43.h8
  refine nrm_sub (l' := [(0, u1), (1, u2), (4, (.int .i64 a5)), (5, u5), (6, (.int .i64 a7)), (10, (ptr b2 0)), (14, (ptr b3 0)), (15, (ptr b4 0)), (16, (ptr b5 0)), (17, (ptr b6 0)), (18, (ptr b7 0)), (48, (.bool (!x5)))]) ⟨rfl, rfl, rfl, rfl, rfl, rfl, rfl, rfl, rfl, rfl, rfl, rfl, trivial⟩ ?_
  exact ⟨(!x5), rfl, rfl, ((Keep.of hB11).then hB12).below, hC44⟩
 rintro _ w14 ⟨x3, rfl, rfl, hB10, hC15⟩
 try dsimp only at hF
 refine W_cond rfl (fun hc3 => ?_) (fun hc3 => ?_)
 ·replace hF := ite_t hF hc3
  obtain ⟨r2, hr6, hF⟩ := bind_some hF
  refine W_cut (fun l w => ∃ v6 : Value, ∃ x6 : (List (Int × (List Int))), ∃ x7 : Int, ∃ v7 : Value, ∃ x8 : (List (Int × (List Int))), ∃ x9 : Int, ∃ x10 : Int, ∃ x11 : Int, ∃ x12 : Bool, (x6, x7, x8, x9, x10, x11, x12) = r2 ∧ l = [(14, (ptr b3 0)), (15, (ptr b4 0))] ∧ Ctx [] w0 w [Item.own v7 (x8 : (List (Int × (List Int)))), Item.own v6 (x6 : (List (Int × (List Int)))), Item.box b4 [v6, (.int .i64 x7)], Item.box b3 [v7, (.int .i64 x9), (.int .i64 x10), (.int .i64 x11), (.bool x12)]]) ?_ ?_
  ·refine W_drawn 4 rfl hmix (fun w18 hB14 => ?_)
   have hC46 := hC15.grow hB14
   refine WA.sub (l' := [(0, u1), (1, u2), (4, (.int .i64 a5)), (5, u5), (6, (.int .i64 a7)), (10, (ptr b2 0)), (14, (ptr b3 0)), (15, (ptr b4 0)), (16, (ptr b5 0)), (17, (ptr b6 0)), (18, (ptr b7 0)), (48, (.bool x3))]) ?_ ⟨rfl, rfl, rfl, rfl, rfl, rfl, rfl, rfl, rfl, rfl, rfl, rfl, trivial⟩
   refine WA_postsO [⟨0, [], fun vs => PW.val (.agg #[(.slice none 0 0), (.int .i64 0), (.int .i64 0), (.int .i64 0), (.bool false)]), []⟩, ⟨1, [], fun vs => PW.val (.agg #[v2, (.int .i64 x1.2)]), []⟩] [[], []] [1] 2 rfl (by kernel_rfl) (by kernel_rfl) ?_ ⟨?_, ?_, trivial⟩
   ·refine StepsE_cons rfl ?_ ?_
    ·intro w19 hB15
     refine DepsE_nil ?_
     refine ⟨_, rfl, ?_⟩
     refine WL_load_box_agg [(.slice none 0 0), (.int .i64 0), (.int .i64 0), (.int .i64 0), (.bool false)] (hC46.grow hB15) 4 rfl rfl rfl Tryz.isAgg36 Tryz.sizeOf36 rfl rfl ?_
     refine WL_nil ?_
     exact FinE_val (Below.refl _ _) rfl rfl ⟨rfl, rfl⟩
    refine StepsE_cons rfl ?_ ?_
    ·intro w19 hB15
     refine DepsE_nil ?_
     refine ⟨_, rfl, ?_⟩
     refine WL_load_box_agg [v2, (.int .i64 x1.2)] (hC46.grow hB15) 2 rfl rfl rfl Tryz.isAgg38 Tryz.sizeOf38 rfl rfl ?_
     refine WL_nil ?_
     exact FinE_val (Below.refl _ _) rfl rfl ⟨rfl, rfl⟩
    exact StepsE_nil
   ·intro g' hg'
    obtain rfl : g' = 2 := hg'
    intro w20 hB16
    refine AllE_cons rfl rfl rfl ?_
    rintro _ _ ⟨rfl, rfl⟩
    refine AllE_cons rfl rfl rfl ?_
    rintro _ _ ⟨rfl, rfl⟩
    refine AllE_nil ?_
    intro hn3 hb3
    have hC47 := hC46.grow hB16
    refine WA_one 2 (by kernel_rfl) rfl ?_
    refine WL_store_box_agg (cs' := [(.slice none 0 0), (.int .i64 0), (.int .i64 0), (.int .i64 0), (.bool false)]) (new := [(.slice none 0 0), (.int .i64 0), (.int .i64 0), (.int .i64 0), (.bool false)]) hC47 6 rfl rfl (by intro v hv; simp only [List.mem_cons, List.not_mem_nil, or_false] at hv; rcases hv with rfl | rfl | rfl | rfl | rfl; exact rfl; exact rfl; exact rfl; exact rfl; exact rfl) rfl Tryz.sizeOf36 rfl rfl (fun w21 hC48 => ?_)
    try dsimp only [List.set] at hC48
    refine WL_nil ?_
    refine WA_one 3 (by kernel_rfl) rfl ?_
    refine WL_store_box_agg (cs' := [v2, (.int .i64 x1.2)]) (new := [v2, (.int .i64 x1.2)]) hC48 5 rfl rfl (by intro v hv; simp only [List.mem_cons, List.not_mem_nil, or_false] at hv; rcases hv with rfl | rfl; exact (ro_one (hC48.ro 3 rfl)); exact rfl) rfl Tryz.sizeOf38 rfl rfl (fun w22 hC49 => ?_)
    try dsimp only [List.set] at hC49
    refine WL_nil ?_
    refine WA_done (by kernel_rfl) ?_
    have hq4 := Option.some.inj hr6
    subst hq4
    have hC50 := hC49.triv (nil_val (α := (Int × (List Int))))
    have hC51 := hC50.f7
    have hC52 := hC51.f7
    have hC53 := hC52.f6
    have hC54 := hC53.f3
    have hC55 := hC54.h4
    refine nrm_sub (l' := [(14, (ptr b3 0)), (15, (ptr b4 0))]) ⟨rfl, rfl, trivial⟩ ?_
    exact ⟨v2, x1.1, x1.2, (.slice none 0 0), [], 0, 0, 0, false, rfl, rfl, hC55⟩
   intro g' hg'
   obtain rfl : g' = 3 := hg'
   intro w20 hB16
   refine AllE_cons rfl rfl rfl ?_
   rintro _ _ ⟨rfl, rfl⟩
   refine AllE_nil ?_
   intro hn3 hb3
   have hC47 := hC46.grow hB16
   refine WA_all2 (i := 1) (j := 2) (by kernel_rfl) rfl rfl ?_ ?_
   ·refine WL_load_box_agg [v2, (.int .i64 x1.2)] hC47 2 rfl rfl rfl Tryz.isAgg38 Tryz.sizeOf38 rfl rfl ?_
    refine WL_nil ?_
    refine WA_one 2 (by kernel_rfl) rfl ?_
    refine WL_store_box_agg (cs' := [(.slice none 0 0), (.int .i64 0), (.int .i64 0), (.int .i64 0), (.bool false)]) (new := [(.slice none 0 0), (.int .i64 0), (.int .i64 0), (.int .i64 0), (.bool false)]) hC47 6 rfl rfl (by intro v hv; simp only [List.mem_cons, List.not_mem_nil, or_false] at hv; rcases hv with rfl | rfl | rfl | rfl | rfl; exact rfl; exact rfl; exact rfl; exact rfl; exact rfl) rfl Tryz.sizeOf36 rfl rfl (fun w21 hC48 => ?_)
    try dsimp only [List.set] at hC48
    refine WL_nil ?_
    refine WA_one 3 (by kernel_rfl) rfl ?_
    refine WL_store_box_agg (cs' := [v2, (.int .i64 x1.2)]) (new := [v2, (.int .i64 x1.2)]) hC48 5 rfl rfl (by intro v hv; simp only [List.mem_cons, List.not_mem_nil, or_false] at hv; rcases hv with rfl | rfl; exact (ro_one (hC48.ro 3 rfl)); exact rfl) rfl Tryz.sizeOf38 rfl rfl (fun w22 hC49 => ?_)
    try dsimp only [List.set] at hC49
    refine WL_nil ?_
    refine WA_done (by kernel_rfl) ?_
    have hq4 := Option.some.inj hr6
    subst hq4
    have hC50 := hC49.triv (nil_val (α := (Int × (List Int))))
    have hC51 := hC50.f7
    have hC52 := hC51.f7
    have hC53 := hC52.f6
    have hC54 := hC53.f3
    have hC55 := hC54.h4
    refine nrm_sub (l' := [(14, (ptr b3 0)), (15, (ptr b4 0))]) ⟨rfl, rfl, trivial⟩ ?_
    exact ⟨v2, x1.1, x1.2, (.slice none 0 0), [], 0, 0, 0, false, rfl, rfl, hC55⟩
   refine WL_store_box_agg (cs' := [(.slice none 0 0), (.int .i64 0), (.int .i64 0), (.int .i64 0), (.bool false)]) (new := [(.slice none 0 0), (.int .i64 0), (.int .i64 0), (.int .i64 0), (.bool false)]) hC47 6 rfl rfl (by intro v hv; simp only [List.mem_cons, List.not_mem_nil, or_false] at hv; rcases hv with rfl | rfl | rfl | rfl | rfl; exact rfl; exact rfl; exact rfl; exact rfl; exact rfl) rfl Tryz.sizeOf36 rfl rfl (fun w21 hC48 => ?_)
   try dsimp only [List.set] at hC48
   refine WL_nil ?_
   refine WA_one 1 (by kernel_rfl) rfl ?_
   refine WL_load_box_agg [v2, (.int .i64 x1.2)] hC48 2 rfl rfl rfl Tryz.isAgg38 Tryz.sizeOf38 rfl rfl ?_
   refine WL_nil ?_
   refine WA_one 3 (by kernel_rfl) rfl ?_
   refine WL_store_box_agg (cs' := [v2, (.int .i64 x1.2)]) (new := [v2, (.int .i64 x1.2)]) hC48 5 rfl rfl (by intro v hv; simp only [List.mem_cons, List.not_mem_nil, or_false] at hv; rcases hv with rfl | rfl; exact (ro_one (hC48.ro 3 rfl)); exact rfl) rfl Tryz.sizeOf38 rfl rfl (fun w22 hC49 => ?_)
   try dsimp only [List.set] at hC49
   refine WL_nil ?_
   refine WA_done (by kernel_rfl) ?_
   have hq4 := Option.some.inj hr6
   subst hq4
   have hC50 := hC49.triv (nil_val (α := (Int × (List Int))))
   have hC51 := hC50.f7
   have hC52 := hC51.f7
   have hC53 := hC52.f6
   have hC54 := hC53.f3
   have hC55 := hC54.h4
   refine nrm_sub (l' := [(14, (ptr b3 0)), (15, (ptr b4 0))]) ⟨rfl, rfl, trivial⟩ ?_
   exact ⟨v2, x1.1, x1.2, (.slice none 0 0), [], 0, 0, 0, false, rfl, rfl, hC55⟩
  rintro _ w17 ⟨v6, x6, x7, v7, x8, x9, x10, x11, x12, rfl, rfl, hC45⟩
  try dsimp only at hF
  refine W_ret ?_
  refine nrm_ret ?_
  have hq5 := Option.some.inj hF
  subst hq5
  refine fn_retG2 rfl (rv_cell_agg (cs' := [v7, (.int .i64 x9), (.int .i64 x10), (.int .i64 x11), (.bool x12)]) hC45 (i := 3) rfl rfl rfl Tryz.isAgg36 Tryz.sizeOf36 rfl) (rv_cell_agg (cs' := [v6, (.int .i64 x7)]) hC45 (i := 2) rfl rfl rfl Tryz.isAgg38 Tryz.sizeOf38 rfl) ?_
  have hC57 := hC45.f1
  have hC56 := own_st38 v6 x6 x7 hC57
  have hC59 := hC56.f1
  have hC58 := own_st36 v7 x8 x9 x10 x11 x12 hC59
  exact ⟨_, rfl, res2_of hC58⟩
 replace hF := ite_f hF hc3
 refine W_skip ?_
 refine nrm_normal ?_
 refine W_seq_reg ?_
 refine WL_assign rfl rfl ?_
 refine WL_nil ?_
 obtain ⟨r3, hr7, hF⟩ := bind_some hF
 refine W_norm (fun _ _ => False) ?_ ?_
 ·refine W_block ?_
  have hC185 := hC15.triv (nil_val (α := (Int × (List Int))))
  have hC186 := hC185.triv (nil_val (α := (Int × (List Int))))
  have hC187 := hC186.triv (nil_val (α := (Int × (List Int))))
  have hC188 := hC187.f10
  have hC189 := hC188.f10
  have hC190 := hC189.f10
  have hC191 := hC190.f10
  have hC192 := hC191.f10
  have hC193 := hC192.f10
  have hC194 := hC193.f10
  have hC195 := hC194.f10
  have hC196 := hC195.f8
  have hC197 := hC196.f9
  have hC198 := hC197.f10
  refine W.sub (l' := [(0, u1), (1, u2), (4, (.int .i64 a5)), (5, u5), (6, (.int .i64 a7)), (10, (ptr b2 0)), (14, (ptr b3 0)), (15, (ptr b4 0)), (16, (ptr b5 0)), (17, (ptr b6 0)), (18, (ptr b7 0)), (20, (.int .i64 0))]) ?_ ⟨rfl, rfl, rfl, rfl, rfl, rfl, rfl, rfl, rfl, rfl, rfl, rfl, trivial⟩
  refine W_loop (fun k l w => ∃ x13 : Int, ∃ v8 : Value, ∃ x14 : (List Int), ∃ x15 : Int, ∃ x16 : Int, ∃ v9 : Value, ∃ x17 : (List (Int × (List Int))), ∃ x18 : Int, ∃ v10 : Value, ∃ x19 : (List (Int × (List Int))), ∃ x20 : Int, ∃ x21 : Int, ∃ x22 : Int, ∃ x23 : Bool, ∃ v11 : Value, ∃ x24 : (List (Int × (List Int))), ∃ x25 : Int, ∃ v12 : Value, ∃ x26 : (List (Int × (List Int))), ∃ x27 : Int, ∃ x28 : Int, ∃ x29 : Int, ∃ x30 : Bool, ∃ x31 : Int, l = [(0, u1), (1, u2), (4, (.int .i64 a5)), (5, u5), (6, (.int .i64 a7)), (10, (ptr b2 0)), (14, (ptr b3 0)), (15, (ptr b4 0)), (16, (ptr b5 0)), (17, (ptr b6 0)), (18, (ptr b7 0)), (20, (.int .i64 x31))] ∧ Ctx [] w0 w [Item.own v12 (x26 : (List (Int × (List Int)))), Item.own v11 (x24 : (List (Int × (List Int)))), Item.own v10 (x19 : (List (Int × (List Int)))), Item.box b7 [(.int .i64 x13), v8, (.int .i64 x15), (.int .i64 x16)], Item.own v8 (x14 : (List Int)), Item.box b6 [v9, (.int .i64 x18)], Item.own v9 (x17 : (List (Int × (List Int)))), Item.box b5 [v10, (.int .i64 x20), (.int .i64 x21), (.int .i64 x22), (.bool x23)], Item.box b4 [v11, (.int .i64 x25)], Item.box b3 [v12, (.int .i64 x27), (.int .i64 x28), (.int .i64 x29), (.bool x30)], Item.box b2 [(.int .i64 a4.1), u4]] ∧ S.ReadThrough_l1 a1 a2 a5 a7 a4 a6 k x13 x14 x15 x16 x17 x18 x19 x20 x21 x22 x23 x24 x25 x26 x27 x28 x29 x30 x31 = some r3) FUEL ⟨x2.1.1.1, v5, x2.1.1.2, x2.1.2.1, x2.1.2.2, v2, x1.1, x1.2, (.slice none 0 0), [], 0, 0, 0, false, (.slice none 0 0), [], 0, (.slice none 0 0), [], 0, 0, 0, false, 0, rfl, hC198, hr7⟩ ?_
  clear hr7
  rintro k1 _ w23 ⟨x13, v8, x14, x15, x16, v9, x17, x18, v10, x19, x20, x21, x22, x23, v11, x24, x25, v12, x26, x27, x28, x29, x30, x31, rfl, hC60, hL1⟩
  cases k1 with
  | zero => rw [S.ReadThrough_l1] at hL1; cases hL1
  | succ k1 =>
   rw [S.ReadThrough_l1] at hL1
   refine W_block ?_
   refine W_seq_reg ?_
   refine WL_move rfl rfl ?_
   refine WL_move rfl rfl ?_
   refine WL_load_box_agg [v9, (.int .i64 x18)] hC60 5 rfl rfl rfl Tryz.isAgg38 Tryz.sizeOf38 rfl rfl ?_
   refine WL_load_box_agg [(.int .i64 x13), v8, (.int .i64 x15), (.int .i64 x16)] hC60 3 rfl rfl rfl Tryz.isAgg73 Tryz.sizeOf73 rfl rfl ?_
   refine WL_move rfl rfl ?_
   obtain ⟨x50, hr8, hL1⟩ := bind_some hL1
   refine WL_call Tryz.call36 rfl rfl (c_S_NextPage a1 u1 (g1.now hC60.keep) a2 u2 (g2.now hC60.keep) (x17, x18) v9 ((hC60.ro 6 rfl).now (Keep.refl _ _)) ((x13, x14), x15, x16) v8 ((hC60.ro 4 rfl).now (Keep.refl _ _)) a5 x50 hr8) ?_
   rintro _ w24 ⟨hB18, v18, v19, v20, F4, F5, F6, rfl, hv6, hv7, hv8, hn4, hb4⟩
   obtain ⟨rfl, rfl⟩ := val_int hv8
   have hC61 := hC60.pushL hB18 (Bs := [Item.own v18 x50.1, Item.own v19 x50.2.1]) (Fs := [F4, F5]) ⟨F4, _, rfl, hv6, F5, _, rfl, hv7, rfl⟩ (by simpa using hn4) (fun b h => hb4 b (by simpa using h))
   have hC62 := hC61.f1
   obtain ⟨v21, rfl, hC63⟩ := st73_own hC62
   refine WL_move rfl rfl ?_
   refine WL_extract rfl rfl rfl ?_
   refine WL_extract rfl rfl rfl ?_
   refine WL_extract rfl rfl rfl ?_
   refine WL_alloc hC63 zero73 rfl rfl (fun b8 w25 hC64 hB19 => ?_)
   refine WL_assign rfl rfl ?_
   refine WL_store_box_agg (cs' := [(.int .i64 x50.2.1.1.1), v21, (.int .i64 x50.2.1.2.1), (.int .i64 x50.2.1.2.2)]) (new := [(.int .i64 x50.2.1.1.1), v21, (.int .i64 x50.2.1.2.1), (.int .i64 x50.2.1.2.2)]) hC64 0 rfl rfl (by intro v hv; simp only [List.mem_cons, List.not_mem_nil, or_false] at hv; rcases hv with rfl | rfl | rfl | rfl; exact rfl; exact (ro_one (hC64.ro 1 rfl)); exact rfl; exact rfl) rfl Tryz.sizeOf73 rfl rfl (fun w26 hC65 => ?_)
   try dsimp only [List.set] at hC65
   refine WL_assign rfl rfl ?_
   refine WL_nil ?_
   refine W_seq_reg ?_
   refine WL_field Tryz.underlying36 rfl rfl (fun w => ⟨_, Tryz.sizeOf3 w⟩) rfl rfl ?_
   refine WL_load_box hC65 10 rfl rfl Tryz.isAgg3 rfl rfl ?_
   refine WL_add rfl rfl rfl ?_
   refine WL_field Tryz.underlying36 rfl rfl (fun w => ⟨_, Tryz.sizeOf3 w⟩) rfl rfl ?_
   refine WL_store_box (cs' := [v10, (.int .i64 x20), (.int .i64 (w64 (x21 + 1))), (.int .i64 x22), (.bool x23)]) hC65 10 rfl rfl rfl rfl Tryz.sizeOf3 rfl rfl (fun w27 hC66 => ?_)
   try dsimp only [List.set] at hC66
   refine WL_nil ?_
   refine W_seq ?_
   refine W_seq_reg ?_
   refine WL_move rfl rfl ?_
   refine WL_eql rfl rfl rfl ?_
   refine WL_nil ?_
   refine W_cond rfl (fun hc4 => ?_) (fun hc4 => ?_)
   ·replace hL1 := ite_t hL1 hc4
    refine W_seq ?_
    refine W_seq_reg ?_
    refine WL_field Tryz.underlying36 rfl rfl (fun w => ⟨_, Tryz.sizeOf3 w⟩) rfl rfl ?_
    refine WL_load_box hC66 10 rfl rfl Tryz.isAgg3 rfl rfl ?_
    refine WL_move rfl rfl ?_
    refine WL_eql rfl rfl rfl ?_
    refine WL_nil ?_
    refine W_cond rfl (fun hc5 => ?_) (fun hc5 => ?_)
    ·replace hL1 := ite_t hL1 hc5
     refine W_seq_reg ?_
     refine WL_buildSlice (vs := []) hC66 Tryz.underlying34 ty81 rfl rfl rfl rfl (by simp) rfl rfl (fun b9 w28 hC67 hB20 => ?_)
     have hC68 := hC67.row0 (α := (Int × (List Int)))
     have hC69 := hC68.front 1 rfl
     dsimp only [List.eraseIdx, List.cons_append, List.nil_append, List.append_nil] at hC69
     have hC70 : Ctx [] w0 w28 (Item.own (.slice (some ⟨b9, 0, none⟩) 0 0) (([] : List (Int × (List Int))) : List (Int × (List Int))) :: [Item.box b8 [(.int .i64 x50.2.1.1.1), v21, (.int .i64 x50.2.1.2.1), (.int .i64 x50.2.1.2.2)], Item.own v21 (x50.2.1.1.2 : (List Int)), Item.own v18 (x50.1 : (List (Int × (List Int)))), Item.own v12 (x26 : (List (Int × (List Int)))), Item.own v11 (x24 : (List (Int × (List Int)))), Item.own v10 (x19 : (List (Int × (List Int)))), Item.box b7 [(.int .i64 x13), v8, (.int .i64 x15), (.int .i64 x16)], Item.own v8 (x14 : (List Int)), Item.box b6 [v9, (.int .i64 x18)], Item.own v9 (x17 : (List (Int × (List Int)))), Item.box b5 [v10, (.int .i64 x20), (.int .i64 (w64 (x21 + 1))), (.int .i64 x22), (.bool x23)], Item.box b4 [v11, (.int .i64 x25)], Item.box b3 [v12, (.int .i64 x27), (.int .i64 x28), (.int .i64 x29), (.bool x30)], Item.box b2 [(.int .i64 a4.1), u4]]) := hC69.rowOwn (by simp [maxLen])
     refine WL_field Tryz.underlying36 rfl rfl (fun w => ⟨_, Tryz.sizeOf34 w⟩) rfl rfl ?_
     refine WL_store_box (cs' := [(.slice (some ⟨b9, 0, none⟩) 0 0), (.int .i64 x20), (.int .i64 (w64 (x21 + 1))), (.int .i64 x22), (.bool x23)]) hC70 11 rfl rfl (ro_one (hC70.ro 0 rfl)) rfl Tryz.sizeOf34 rfl rfl (fun w29 hC71 => ?_)
     try dsimp only [List.set] at hC71
     refine WL_nil ?_
     obtain ⟨r4, hr9, hL1⟩ := bind_some hL1
     refine W_cut (fun l w => ∃ v22 : Value, ∃ x51 : (List (Int × (List Int))), ∃ x52 : Int, ∃ v23 : Value, ∃ x53 : (List (Int × (List Int))), ∃ x54 : Int, ∃ x55 : Int, ∃ x56 : Int, ∃ x57 : Bool, (x51, x52, x53, x54, x55, x56, x57) = r4 ∧ l = [(14, (ptr b3 0)), (15, (ptr b4 0))] ∧ Ctx [] w0 w [Item.own v23 (x53 : (List (Int × (List Int)))), Item.own v22 (x51 : (List (Int × (List Int)))), Item.box b4 [v22, (.int .i64 x52)], Item.box b3 [v23, (.int .i64 x54), (.int .i64 x55), (.int .i64 x56), (.bool x57)]]) ?_ ?_
     ·refine W_drawn 4 rfl hmix (fun w31 hB22 => ?_)
      have hC73 := hC71.grow hB22
      refine WA.sub (l' := [(0, u1), (1, u2), (4, (.int .i64 a5)), (5, u5), (6, (.int .i64 a7)), (10, (ptr b2 0)), (14, (ptr b3 0)), (15, (ptr b4 0)), (16, (ptr b5 0)), (17, (ptr b6 0)), (18, (ptr b7 0)), (20, (.int .i64 x31)), (21, v18), (22, (ptr b8 0)), (23, (.int .i64 x50.2.2)), (51, (.tuple #[v18, (.agg #[(.int .i64 x50.2.1.1.1), v21, (.int .i64 x50.2.1.2.1), (.int .i64 x50.2.1.2.2)]), (.int .i64 x50.2.2)])), (52, u1), (53, u2), (54, (.agg #[v9, (.int .i64 x18)])), (55, (.agg #[(.int .i64 x13), v8, (.int .i64 x15), (.int .i64 x16)])), (56, (.int .i64 a5)), (57, (.tuple #[v18, (.agg #[(.int .i64 x50.2.1.1.1), v21, (.int .i64 x50.2.1.2.1), (.int .i64 x50.2.1.2.2)]), (.int .i64 x50.2.2)])), (58, v18), (59, (.agg #[(.int .i64 x50.2.1.1.1), v21, (.int .i64 x50.2.1.2.1), (.int .i64 x50.2.1.2.2)])), (60, (.int .i64 x50.2.2)), (61, (ptr b5 2)), (62, (.int .i64 x21)), (63, (.int .i64 (w64 (x21 + 1)))), (64, (ptr b5 2)), (65, (.int .i64 x50.2.2)), (66, (.bool (decide (x50.2.2 = 2)))), (67, (ptr b5 3)), (68, (.int .i64 x22)), (69, (.int .i64 a7)), (70, (.bool (decide (x22 = a7)))), (71, (.slice (some ⟨b9, 0, none⟩) 0 0)), (72, (ptr b5 0))]) ?_ ⟨rfl, rfl, rfl, rfl, rfl, rfl, rfl, rfl, rfl, rfl, rfl, rfl, rfl, rfl, rfl, rfl, rfl, rfl, rfl, rfl, rfl, rfl, rfl, rfl, rfl, rfl, rfl, rfl, rfl, rfl, rfl, rfl, rfl, rfl, rfl, rfl, rfl, trivial⟩
      refine WA_postsO [⟨0, [], fun vs => PW.val (.agg #[(.slice (some ⟨b9, 0, none⟩) 0 0), (.int .i64 x20), (.int .i64 (w64 (x21 + 1))), (.int .i64 x22), (.bool x23)]), []⟩, ⟨1, [], fun vs => PW.val (.agg #[v9, (.int .i64 x18)]), []⟩] [[], []] [1] 2 rfl (by kernel_rfl) (by kernel_rfl) ?_ ⟨?_, ?_, trivial⟩
      ·refine StepsE_cons rfl ?_ ?_
       ·intro w32 hB23
        refine DepsE_nil ?_
        refine ⟨_, rfl, ?_⟩
        refine WL_load_box_agg [(.slice (some ⟨b9, 0, none⟩) 0 0), (.int .i64 x20), (.int .i64 (w64 (x21 + 1))), (.int .i64 x22), (.bool x23)] (hC73.grow hB23) 11 rfl rfl rfl Tryz.isAgg36 Tryz.sizeOf36 rfl rfl ?_
        refine WL_nil ?_
        exact FinE_val (Below.refl _ _) rfl rfl ⟨rfl, rfl⟩
       refine StepsE_cons rfl ?_ ?_
       ·intro w32 hB23
        refine DepsE_nil ?_
        refine ⟨_, rfl, ?_⟩
        refine WL_load_box_agg [v9, (.int .i64 x18)] (hC73.grow hB23) 9 rfl rfl rfl Tryz.isAgg38 Tryz.sizeOf38 rfl rfl ?_
        refine WL_nil ?_
        exact FinE_val (Below.refl _ _) rfl rfl ⟨rfl, rfl⟩
       exact StepsE_nil
      ·intro g' hg'
       obtain rfl : g' = 2 := hg'
       intro w33 hB24
       refine AllE_cons rfl rfl rfl ?_
       rintro _ _ ⟨rfl, rfl⟩
       refine AllE_cons rfl rfl rfl ?_
       rintro _ _ ⟨rfl, rfl⟩
       refine AllE_nil ?_
       intro hn5 hb5
       have hC74 := hC73.grow hB24
       refine WA_one 2 (by kernel_rfl) rfl ?_
       refine WL_store_box_agg (cs' := [(.slice (some ⟨b9, 0, none⟩) 0 0), (.int .i64 x20), (.int .i64 (w64 (x21 + 1))), (.int .i64 x22), (.bool x23)]) (new := [(.slice (some ⟨b9, 0, none⟩) 0 0), (.int .i64 x20), (.int .i64 (w64 (x21 + 1))), (.int .i64 x22), (.bool x23)]) hC74 13 rfl rfl (by intro v hv; simp only [List.mem_cons, List.not_mem_nil, or_false] at hv; rcases hv with rfl | rfl | rfl | rfl | rfl; exact (ro_one (hC74.ro 0 rfl)); exact rfl; exact rfl; exact rfl; exact rfl) rfl Tryz.sizeOf36 rfl rfl (fun w34 hC75 => ?_)
       try dsimp only [List.set] at hC75
       refine WL_nil ?_
       refine WA_one 3 (by kernel_rfl) rfl ?_
       refine WL_store_box_agg (cs' := [v9, (.int .i64 x18)]) (new := [v9, (.int .i64 x18)]) hC75 12 rfl rfl (by intro v hv; simp only [List.mem_cons, List.not_mem_nil, or_false] at hv; rcases hv with rfl | rfl; exact (ro_one (hC75.ro 10 rfl)); exact rfl) rfl Tryz.sizeOf38 rfl rfl (fun w35 hC76 => ?_)
       try dsimp only [List.set] at hC76
       refine WL_nil ?_
       refine WA_done (by kernel_rfl) ?_
       have hq6 := Option.some.inj hr9
       subst hq6
       have hC77 := hC76.f13
       have hC78 := hC77.f13
       have hC79 := hC78.f12
       have hC80 := hC79.f3
       have hC81 := hC80.h4
       refine nrm_sub (l' := [(14, (ptr b3 0)), (15, (ptr b4 0))]) ⟨rfl, rfl, trivial⟩ ?_
       exact ⟨v9, x17, x18, (.slice (some ⟨b9, 0, none⟩) 0 0), ([] : List (Int × (List Int))), x20, w64 (x21 + 1), x22, x23, rfl, rfl, hC81⟩
      intro g' hg'
      obtain rfl : g' = 3 := hg'
      intro w33 hB24
      refine AllE_cons rfl rfl rfl ?_
      rintro _ _ ⟨rfl, rfl⟩
      refine AllE_nil ?_
      intro hn5 hb5
      have hC74 := hC73.grow hB24
      refine WA_all2 (i := 1) (j := 2) (by kernel_rfl) rfl rfl ?_ ?_
      ·refine WL_load_box_agg [v9, (.int .i64 x18)] hC74 9 rfl rfl rfl Tryz.isAgg38 Tryz.sizeOf38 rfl rfl ?_
       refine WL_nil ?_
       refine WA_one 2 (by kernel_rfl) rfl ?_
       refine WL_store_box_agg (cs' := [(.slice (some ⟨b9, 0, none⟩) 0 0), (.int .i64 x20), (.int .i64 (w64 (x21 + 1))), (.int .i64 x22), (.bool x23)]) (new := [(.slice (some ⟨b9, 0, none⟩) 0 0), (.int .i64 x20), (.int .i64 (w64 (x21 + 1))), (.int .i64 x22), (.bool x23)]) hC74 13 rfl rfl (by intro v hv; simp only [List.mem_cons, List.not_mem_nil, or_false] at hv; rcases hv with rfl | rfl | rfl | rfl | rfl; exact (ro_one (hC74.ro 0 rfl)); exact rfl; exact rfl; exact rfl; exact rfl) rfl Tryz.sizeOf36 rfl rfl (fun w34 hC75 => ?_)
       try dsimp only [List.set] at hC75
       refine WL_nil ?_
       refine WA_one 3 (by kernel_rfl) rfl ?_
       refine WL_store_box_agg (cs' := [v9, (.int .i64 x18)]) (new := [v9, (.int .i64 x18)]) hC75 12 rfl rfl (by intro v hv; simp only [List.mem_cons, List.not_mem_nil, or_false] at hv; rcases hv with rfl | rfl; exact (ro_one (hC75.ro 10 rfl)); exact rfl) rfl Tryz.sizeOf38 rfl rfl (fun w35 hC76 => ?_)
       try dsimp only [List.set] at hC76
       refine WL_nil ?_
       refine WA_done (by kernel_rfl) ?_
       have hq6 := Option.some.inj hr9
       subst hq6
       have hC77 := hC76.f13
       have hC78 := hC77.f13
       have hC79 := hC78.f12
       have hC80 := hC79.f3
       have hC81 := hC80.h4
       refine nrm_sub (l' := [(14, (ptr b3 0)), (15, (ptr b4 0))]) ⟨rfl, rfl, trivial⟩ ?_
       exact ⟨v9, x17, x18, (.slice (some ⟨b9, 0, none⟩) 0 0), ([] : List (Int × (List Int))), x20, w64 (x21 + 1), x22, x23, rfl, rfl, hC81⟩
      refine WL_store_box_agg (cs' := [(.slice (some ⟨b9, 0, none⟩) 0 0), (.int .i64 x20), (.int .i64 (w64 (x21 + 1))), (.int .i64 x22), (.bool x23)]) (new := [(.slice (some ⟨b9, 0, none⟩) 0 0), (.int .i64 x20), (.int .i64 (w64 (x21 + 1))), (.int .i64 x22), (.bool x23)]) hC74 13 rfl rfl (by intro v hv; simp only [List.mem_cons, List.not_mem_nil, or_false] at hv; rcases hv with rfl | rfl | rfl | rfl | rfl; exact (ro_one (hC74.ro 0 rfl)); exact rfl; exact rfl; exact rfl; exact rfl) rfl Tryz.sizeOf36 rfl rfl (fun w34 hC75 => ?_)
      try dsimp only [List.set] at hC75
      refine WL_nil ?_
      refine WA_one 1 (by kernel_rfl) rfl ?_
      refine WL_load_box_agg [v9, (.int .i64 x18)] hC75 9 rfl rfl rfl Tryz.isAgg38 Tryz.sizeOf38 rfl rfl ?_
      refine WL_nil ?_
      refine WA_one 3 (by kernel_rfl) rfl ?_
      refine WL_store_box_agg (cs' := [v9, (.int .i64 x18)]) (new := [v9, (.int .i64 x18)]) hC75 12 rfl rfl (by intro v hv; simp only [List.mem_cons, List.not_mem_nil, or_false] at hv; rcases hv with rfl | rfl; exact (ro_one (hC75.ro 10 rfl)); exact rfl) rfl Tryz.sizeOf38 rfl rfl (fun w35 hC76 => ?_)
      try dsimp only [List.set] at hC76
      refine WL_nil ?_
      refine WA_done (by kernel_rfl) ?_
      have hq6 := Option.some.inj hr9
      subst hq6
      have hC77 := hC76.f13
      have hC78 := hC77.f13
      have hC79 := hC78.f12
      have hC80 := hC79.f3
      have hC81 := hC80.h4
      refine nrm_sub (l' := [(14, (ptr b3 0)), (15, (ptr b4 0))]) ⟨rfl, rfl, trivial⟩ ?_
      exact ⟨v9, x17, x18, (.slice (some ⟨b9, 0, none⟩) 0 0), ([] : List (Int × (List Int))), x20, w64 (x21 + 1), x22, x23, rfl, rfl, hC81⟩
     rintro _ w30 ⟨v22, x51, x52, v23, x53, x54, x55, x56, x57, rfl, rfl, hC72⟩
     try dsimp only at hL1
     refine W_ret ?_
     refine nrm_ret ?_
     refine nrm_ret ?_
     refine blk_ret ?_
     refine nrm_ret ?_
     refine blk_ret ?_
     refine nrm_ret ?_
     have hq7 := Option.some.inj hL1
     subst hq7
     dsimp only at hF
     have hq8 := Option.some.inj hF
     subst hq8
     refine fn_retG2 rfl (rv_cell_agg (cs' := [v23, (.int .i64 x54), (.int .i64 x55), (.int .i64 x56), (.bool x57)]) hC72 (i := 3) rfl rfl rfl Tryz.isAgg36 Tryz.sizeOf36 rfl) (rv_cell_agg (cs' := [v22, (.int .i64 x52)]) hC72 (i := 2) rfl rfl rfl Tryz.isAgg38 Tryz.sizeOf38 rfl) ?_
     have hC83 := hC72.f1
     have hC82 := own_st38 v22 x51 x52 hC83
     have hC85 := hC82.f1
     have hC84 := own_st36 v23 x53 x54 x55 x56 x57 hC85
     exact ⟨_, rfl, res2_of hC84⟩
    replace hL1 := ite_f hL1 hc5
    refine W_skip ?_
    refine nrm_normal ?_
    refine W_seq_reg ?_
    refine WL_field Tryz.underlying36 rfl rfl (fun w => ⟨_, Tryz.sizeOf3 w⟩) rfl rfl ?_
    refine WL_load_box hC66 10 rfl rfl Tryz.isAgg3 rfl rfl ?_
    refine WL_add rfl rfl rfl ?_
    refine WL_field Tryz.underlying36 rfl rfl (fun w => ⟨_, Tryz.sizeOf3 w⟩) rfl rfl ?_
    refine WL_store_box (cs' := [v10, (.int .i64 x20), (.int .i64 (w64 (x21 + 1))), (.int .i64 (w64 (x22 + 1))), (.bool x23)]) hC66 10 rfl rfl rfl rfl Tryz.sizeOf3 rfl rfl (fun w36 hC86 => ?_)
    try dsimp only [List.set] at hC86
    refine WL_nil ?_
    refine W_seq_reg ?_
    refine WL_buildSlice (vs := []) hC86 Tryz.underlying34 ty81 rfl rfl rfl rfl (by simp) rfl rfl (fun b10 w37 hC87 hB25 => ?_)
    have hC88 := hC87.row0 (α := (Int × (List Int)))
    have hC89 := hC88.front 1 rfl
    dsimp only [List.eraseIdx, List.cons_append, List.nil_append, List.append_nil] at hC89
    have hC90 : Ctx [] w0 w37 (Item.own (.slice (some ⟨b10, 0, none⟩) 0 0) (([] : List (Int × (List Int))) : List (Int × (List Int))) :: [Item.box b8 [(.int .i64 x50.2.1.1.1), v21, (.int .i64 x50.2.1.2.1), (.int .i64 x50.2.1.2.2)], Item.own v21 (x50.2.1.1.2 : (List Int)), Item.own v18 (x50.1 : (List (Int × (List Int)))), Item.own v12 (x26 : (List (Int × (List Int)))), Item.own v11 (x24 : (List (Int × (List Int)))), Item.own v10 (x19 : (List (Int × (List Int)))), Item.box b7 [(.int .i64 x13), v8, (.int .i64 x15), (.int .i64 x16)], Item.own v8 (x14 : (List Int)), Item.box b6 [v9, (.int .i64 x18)], Item.own v9 (x17 : (List (Int × (List Int)))), Item.box b5 [v10, (.int .i64 x20), (.int .i64 (w64 (x21 + 1))), (.int .i64 (w64 (x22 + 1))), (.bool x23)], Item.box b4 [v11, (.int .i64 x25)], Item.box b3 [v12, (.int .i64 x27), (.int .i64 x28), (.int .i64 x29), (.bool x30)], Item.box b2 [(.int .i64 a4.1), u4]]) := hC89.rowOwn (by simp [maxLen])
    refine WL_field Tryz.underlying36 rfl rfl (fun w => ⟨_, Tryz.sizeOf34 w⟩) rfl rfl ?_
    refine WL_store_box (cs' := [(.slice (some ⟨b10, 0, none⟩) 0 0), (.int .i64 x20), (.int .i64 (w64 (x21 + 1))), (.int .i64 (w64 (x22 + 1))), (.bool x23)]) hC90 11 rfl rfl (ro_one (hC90.ro 0 rfl)) rfl Tryz.sizeOf34 rfl rfl (fun w38 hC91 => ?_)
    try dsimp only [List.set] at hC91
    refine WL_nil ?_
    refine W_seq_reg ?_
    refine WL_move rfl rfl ?_
    refine WL_move rfl rfl ?_
    refine WL_load_box_agg [v9, (.int .i64 x18)] hC91 9 rfl rfl rfl Tryz.isAgg38 Tryz.sizeOf38 rfl rfl ?_
    refine WL_load_box_agg [(.int .i64 a4.1), u4] hC91 14 rfl rfl rfl Tryz.isAgg45 Tryz.sizeOf45 rfl rfl ?_
    obtain ⟨x58, hr10, hL1⟩ := bind_some hL1
    refine WL_call Tryz.call34 rfl rfl (c_S_OpenCursor a1 u1 (g1.now hC91.keep) a2 u2 (g2.now hC91.keep) (x17, x18) v9 ((hC91.ro 10 rfl).now (Keep.refl _ _)) (a4.1, a4.2) u4 (g4.now hC91.keep) x58 hr10) ?_
    rintro _ w39 ⟨hB26, v24, v25, F7, F8, rfl, hv9, hv10, hn6, hb6⟩
    obtain ⟨rfl, rfl⟩ := val_bool hv10
    have hC92 := hC91.pushL hB26 (Bs := [Item.own v24 x58.1]) (Fs := [F7]) ⟨F7, _, rfl, hv9, rfl⟩ (by simpa using hn6) (fun b h => hb6 b (by simpa using h))
    obtain ⟨v26, rfl, hC93⟩ := st73_own hC92
    refine WL_move rfl rfl ?_
    refine WL_extract rfl rfl rfl ?_
    refine WL_extract rfl rfl rfl ?_
    refine WL_store_box_agg (cs' := [(.int .i64 x58.1.1.1), v26, (.int .i64 x58.1.2.1), (.int .i64 x58.1.2.2)]) (new := [(.int .i64 x58.1.1.1), v26, (.int .i64 x58.1.2.1), (.int .i64 x58.1.2.2)]) hC93 8 rfl rfl (by intro v hv; simp only [List.mem_cons, List.not_mem_nil, or_false] at hv; rcases hv with rfl | rfl | rfl | rfl; exact rfl; exact (ro_one (hC93.ro 0 rfl)); exact rfl; exact rfl) rfl Tryz.sizeOf73 rfl rfl (fun w40 hC94 => ?_)
    try dsimp only [List.set] at hC94
    refine WL_nil ?_
    refine W_exit ?_
    refine nrm_exit ?_
    refine blk_exit ?_
    have hC95 := hC94.f15
    have hC96 := hC95.f15
    have hC97 := hC96.f15
    have hC98 := hC97.f15
    have hC99 := hC98.f15
    have hC100 := hC99.f15
    have hC101 := hC100.f6
    have hC102 := hC101.f14
    have hC103 := hC102.f8
    have hC104 := hC103.f13
    have hC105 := hC104.f13
    have hC106 := hC105.h11
    refine nrm_sub (l' := [(0, u1), (1, u2), (4, (.int .i64 a5)), (5, u5), (6, (.int .i64 a7)), (10, (ptr b2 0)), (14, (ptr b3 0)), (15, (ptr b4 0)), (16, (ptr b5 0)), (17, (ptr b6 0)), (18, (ptr b7 0)), (20, (.int .i64 x31))]) ⟨rfl, rfl, rfl, rfl, rfl, rfl, rfl, rfl, rfl, rfl, rfl, rfl, trivial⟩ ?_
    exact ⟨k1, Nat.lt_succ_self _, x58.1.1.1, v26, x58.1.1.2, x58.1.2.1, x58.1.2.2, v9, x17, x18, (.slice (some ⟨b10, 0, none⟩) 0 0), ([] : List (Int × (List Int))), x20, w64 (x21 + 1), w64 (x22 + 1), x23, v11, x24, x25, v12, x26, x27, x28, x29, x30, x31, rfl, hC106, hL1⟩
   replace hL1 := ite_f hL1 hc4
   refine W_skip ?_
   refine nrm_normal ?_
   refine W_seq_reg ?_
   refine WL_field Tryz.underlying36 rfl rfl (fun w => ⟨_, Tryz.sizeOf34 w⟩) rfl rfl ?_
   refine WL_load_box hC66 10 rfl rfl Tryz.isAgg34 rfl rfl ?_
   refine WL_move rfl rfl ?_
   obtain ⟨x59, hx1, hL1⟩ := bind_some hL1
   have hC108 := hC66.f2
   refine WL_append_head hC108 4 rfl Tryz.underlying34 ty81 rfl hx1 rfl rfl rfl (fun v27 w41 hC107 => ?_)
   try dsimp only [List.set] at hC107
   refine WL_field Tryz.underlying36 rfl rfl (fun w => ⟨_, Tryz.sizeOf34 w⟩) rfl rfl ?_
   refine WL_store_box (cs' := [v27, (.int .i64 x20), (.int .i64 (w64 (x21 + 1))), (.int .i64 x22), (.bool x23)]) hC107 9 rfl rfl (ro_one (hC107.ro 4 rfl)) rfl Tryz.sizeOf34 rfl rfl (fun w42 hC109 => ?_)
   try dsimp only [List.set] at hC109
   refine WL_nil ?_
   refine W_seq_reg ?_
   refine WL_load_box_agg [(.int .i64 x50.2.1.1.1), v21, (.int .i64 x50.2.1.2.1), (.int .i64 x50.2.1.2.2)] hC109 0 rfl rfl rfl Tryz.isAgg73 Tryz.sizeOf73 rfl rfl ?_
   refine WL_store_box_agg (cs' := [(.int .i64 x50.2.1.1.1), v21, (.int .i64 x50.2.1.2.1), (.int .i64 x50.2.1.2.2)]) (new := [(.int .i64 x50.2.1.1.1), v21, (.int .i64 x50.2.1.2.1), (.int .i64 x50.2.1.2.2)]) hC109 5 rfl rfl (by intro v hv; simp only [List.mem_cons, List.not_mem_nil, or_false] at hv; rcases hv with rfl | rfl | rfl | rfl; exact rfl; exact (ro_one (hC109.ro 1 rfl)); exact rfl; exact rfl) rfl Tryz.sizeOf73 rfl rfl (fun w43 hC110 => ?_)
   try dsimp only [List.set] at hC110
   refine WL_nil ?_
   refine W_seq ?_
   refine W_seq_reg ?_
   refine WL_move rfl rfl ?_
   refine WL_eql rfl rfl rfl ?_
   refine WL_nil ?_
   refine W_cond rfl (fun hc6 => ?_) (fun hc6 => ?_)
   ·replace hL1 := ite_t hL1 hc6
    refine W_seq_reg ?_
    refine WL_field Tryz.underlying36 rfl rfl (fun w => ⟨_, Tryz.sizeOf4 w⟩) rfl rfl ?_
    refine WL_store_box (cs' := [v27, (.int .i64 x20), (.int .i64 (w64 (x21 + 1))), (.int .i64 x22), (.bool true)]) hC110 9 rfl rfl rfl rfl Tryz.sizeOf4 rfl rfl (fun w44 hC111 => ?_)
    try dsimp only [List.set] at hC111
    refine WL_nil ?_
    refine W_seq_reg ?_
    refine WL_field Tryz.underlying38 rfl rfl (fun w => ⟨_, Tryz.sizeOf3 w⟩) rfl rfl ?_
    refine WL_load_box hC111 7 rfl rfl Tryz.isAgg3 rfl rfl ?_
    refine WL_field Tryz.underlying36 rfl rfl (fun w => ⟨_, Tryz.sizeOf3 w⟩) rfl rfl ?_
    refine WL_store_box (cs' := [v27, (.int .i64 x18), (.int .i64 (w64 (x21 + 1))), (.int .i64 x22), (.bool true)]) hC111 9 rfl rfl rfl rfl Tryz.sizeOf3 rfl rfl (fun w45 hC112 => ?_)
    try dsimp only [List.set] at hC112
    refine WL_nil ?_
    obtain ⟨r5, hr11, hL1⟩ := bind_some hL1
    refine W_cut (fun l w => ∃ v28 : Value, ∃ x60 : (List (Int × (List Int))), ∃ x61 : Int, ∃ v29 : Value, ∃ x62 : (List (Int × (List Int))), ∃ x63 : Int, ∃ x64 : Int, ∃ x65 : Int, ∃ x66 : Bool, (x60, x61, x62, x63, x64, x65, x66) = r5 ∧ l = [(14, (ptr b3 0)), (15, (ptr b4 0))] ∧ Ctx [] w0 w [Item.own v29 (x62 : (List (Int × (List Int)))), Item.own v28 (x60 : (List (Int × (List Int)))), Item.box b4 [v28, (.int .i64 x61)], Item.box b3 [v29, (.int .i64 x63), (.int .i64 x64), (.int .i64 x65), (.bool x66)]]) ?_ ?_
    ·refine W_drawn 4 rfl hmix (fun w47 hB28 => ?_)
     have hC114 := hC112.grow hB28
     refine WA.sub (l' := [(0, u1), (1, u2), (4, (.int .i64 a5)), (5, u5), (6, (.int .i64 a7)), (10, (ptr b2 0)), (14, (ptr b3 0)), (15, (ptr b4 0)), (16, (ptr b5 0)), (17, (ptr b6 0)), (18, (ptr b7 0)), (20, (.int .i64 x31)), (21, v18), (22, (ptr b8 0)), (23, (.int .i64 x50.2.2)), (51, (.tuple #[v18, (.agg #[(.int .i64 x50.2.1.1.1), v21, (.int .i64 x50.2.1.2.1), (.int .i64 x50.2.1.2.2)]), (.int .i64 x50.2.2)])), (52, u1), (53, u2), (54, (.agg #[v9, (.int .i64 x18)])), (55, (.agg #[(.int .i64 x13), v8, (.int .i64 x15), (.int .i64 x16)])), (56, (.int .i64 a5)), (57, (.tuple #[v18, (.agg #[(.int .i64 x50.2.1.1.1), v21, (.int .i64 x50.2.1.2.1), (.int .i64 x50.2.1.2.2)]), (.int .i64 x50.2.2)])), (58, v18), (59, (.agg #[(.int .i64 x50.2.1.1.1), v21, (.int .i64 x50.2.1.2.1), (.int .i64 x50.2.1.2.2)])), (60, (.int .i64 x50.2.2)), (61, (ptr b5 2)), (62, (.int .i64 x21)), (63, (.int .i64 (w64 (x21 + 1)))), (64, (ptr b5 2)), (65, (.int .i64 x50.2.2)), (66, (.bool (decide (x50.2.2 = 2)))), (89, (ptr b5 0)), (90, v10), (91, v18), (92, v27), (93, (ptr b5 0)), (94, (.agg #[(.int .i64 x50.2.1.1.1), v21, (.int .i64 x50.2.1.2.1), (.int .i64 x50.2.1.2.2)])), (95, (.int .i64 x50.2.2)), (96, (.bool (decide (x50.2.2 = 1)))), (97, (ptr b5 4)), (98, (ptr b6 1)), (99, (.int .i64 x18)), (100, (ptr b5 1))]) ?_ ⟨rfl, rfl, rfl, rfl, rfl, rfl, rfl, rfl, rfl, rfl, rfl, rfl, rfl, rfl, rfl, rfl, rfl, rfl, rfl, rfl, rfl, rfl, rfl, rfl, rfl, rfl, rfl, rfl, rfl, rfl, rfl, rfl, rfl, rfl, rfl, rfl, rfl, rfl, rfl, rfl, rfl, rfl, rfl, trivial⟩
     refine WA_postsO [⟨0, [], fun vs => PW.val (.agg #[v27, (.int .i64 x18), (.int .i64 (w64 (x21 + 1))), (.int .i64 x22), (.bool true)]), []⟩, ⟨1, [], fun vs => PW.val (.agg #[v9, (.int .i64 x18)]), []⟩] [[], []] [1] 2 rfl (by kernel_rfl) (by kernel_rfl) ?_ ⟨?_, ?_, trivial⟩
     ·refine StepsE_cons rfl ?_ ?_
      ·intro w48 hB29
       refine DepsE_nil ?_
       refine ⟨_, rfl, ?_⟩
       refine WL_load_box_agg [v27, (.int .i64 x18), (.int .i64 (w64 (x21 + 1))), (.int .i64 x22), (.bool true)] (hC114.grow hB29) 9 rfl rfl rfl Tryz.isAgg36 Tryz.sizeOf36 rfl rfl ?_
       refine WL_nil ?_
       exact FinE_val (Below.refl _ _) rfl rfl ⟨rfl, rfl⟩
      refine StepsE_cons rfl ?_ ?_
      ·intro w48 hB29
       refine DepsE_nil ?_
       refine ⟨_, rfl, ?_⟩
       refine WL_load_box_agg [v9, (.int .i64 x18)] (hC114.grow hB29) 7 rfl rfl rfl Tryz.isAgg38 Tryz.sizeOf38 rfl rfl ?_
       refine WL_nil ?_
       exact FinE_val (Below.refl _ _) rfl rfl ⟨rfl, rfl⟩
      exact StepsE_nil
     ·intro g' hg'
      obtain rfl : g' = 2 := hg'
      intro w49 hB30
      refine AllE_cons rfl rfl rfl ?_
      rintro _ _ ⟨rfl, rfl⟩
      refine AllE_cons rfl rfl rfl ?_
      rintro _ _ ⟨rfl, rfl⟩
      refine AllE_nil ?_
      intro hn7 hb7
      have hC115 := hC114.grow hB30
      refine WA_one 2 (by kernel_rfl) rfl ?_
      refine WL_store_box_agg (cs' := [v27, (.int .i64 x18), (.int .i64 (w64 (x21 + 1))), (.int .i64 x22), (.bool true)]) (new := [v27, (.int .i64 x18), (.int .i64 (w64 (x21 + 1))), (.int .i64 x22), (.bool true)]) hC115 11 rfl rfl (by intro v hv; simp only [List.mem_cons, List.not_mem_nil, or_false] at hv; rcases hv with rfl | rfl | rfl | rfl | rfl; exact (ro_one (hC115.ro 4 rfl)); exact rfl; exact rfl; exact rfl; exact rfl) rfl Tryz.sizeOf36 rfl rfl (fun w50 hC116 => ?_)
      try dsimp only [List.set] at hC116
      refine WL_nil ?_
      refine WA_one 3 (by kernel_rfl) rfl ?_
      refine WL_store_box_agg (cs' := [v9, (.int .i64 x18)]) (new := [v9, (.int .i64 x18)]) hC116 10 rfl rfl (by intro v hv; simp only [List.mem_cons, List.not_mem_nil, or_false] at hv; rcases hv with rfl | rfl; exact (ro_one (hC116.ro 8 rfl)); exact rfl) rfl Tryz.sizeOf38 rfl rfl (fun w51 hC117 => ?_)
      try dsimp only [List.set] at hC117
      refine WL_nil ?_
      refine WA_done (by kernel_rfl) ?_
      have hq9 := Option.some.inj hr11
      subst hq9
      have hC118 := hC117.f11
      have hC119 := hC118.f11
      have hC120 := hC119.f10
      have hC121 := hC120.f7
      have hC122 := hC121.h4
      refine nrm_sub (l' := [(14, (ptr b3 0)), (15, (ptr b4 0))]) ⟨rfl, rfl, trivial⟩ ?_
      exact ⟨v9, x17, x18, v27, x59, x18, w64 (x21 + 1), x22, true, rfl, rfl, hC122⟩
     intro g' hg'
     obtain rfl : g' = 3 := hg'
     intro w49 hB30
     refine AllE_cons rfl rfl rfl ?_
     rintro _ _ ⟨rfl, rfl⟩
     refine AllE_nil ?_
     intro hn7 hb7
     have hC115 := hC114.grow hB30
     refine WA_all2 (i := 1) (j := 2) (by kernel_rfl) rfl rfl ?_ ?_
     ·refine WL_load_box_agg [v9, (.int .i64 x18)] hC115 7 rfl rfl rfl Tryz.isAgg38 Tryz.sizeOf38 rfl rfl ?_
      refine WL_nil ?_
      refine WA_one 2 (by kernel_rfl) rfl ?_
      refine WL_store_box_agg (cs' := [v27, (.int .i64 x18), (.int .i64 (w64 (x21 + 1))), (.int .i64 x22), (.bool true)]) (new := [v27, (.int .i64 x18), (.int .i64 (w64 (x21 + 1))), (.int .i64 x22), (.bool true)]) hC115 11 rfl rfl (by intro v hv; simp only [List.mem_cons, List.not_mem_nil, or_false] at hv; rcases hv with rfl | rfl | rfl | rfl | rfl; exact (ro_one (hC115.ro 4 rfl)); exact rfl; exact rfl; exact rfl; exact rfl) rfl Tryz.sizeOf36 rfl rfl (fun w50 hC116 => ?_)
      try dsimp only [List.set] at hC116
      refine WL_nil ?_
      refine WA_one 3 (by kernel_rfl) rfl ?_
      refine WL_store_box_agg (cs' := [v9, (.int .i64 x18)]) (new := [v9, (.int .i64 x18)]) hC116 10 rfl rfl (by intro v hv; simp only [List.mem_cons, List.not_mem_nil, or_false] at hv; rcases hv with rfl | rfl; exact (ro_one (hC116.ro 8 rfl)); exact rfl) rfl Tryz.sizeOf38 rfl rfl (fun w51 hC117 => ?_)
      try dsimp only [List.set] at hC117
      refine WL_nil ?_
      refine WA_done (by kernel_rfl) ?_
      have hq9 := Option.some.inj hr11
      subst hq9
      have hC118 := hC117.f11
      have hC119 := hC118.f11
      have hC120 := hC119.f10
      have hC121 := hC120.f7
      have hC122 := hC121.h4
      refine nrm_sub (l' := [(14, (ptr b3 0)), (15, (ptr b4 0))]) ⟨rfl, rfl, trivial⟩ ?_
      exact ⟨v9, x17, x18, v27, x59, x18, w64 (x21 + 1), x22, true, rfl, rfl, hC122⟩
     refine WL_store_box_agg (cs' := [v27, (.int .i64 x18), (.int .i64 (w64 (x21 + 1))), (.int .i64 x22), (.bool true)]) (new := [v27, (.int .i64 x18), (.int .i64 (w64 (x21 + 1))), (.int .i64 x22), (.bool true)]) hC115 11 rfl rfl (by intro v hv; simp only [List.mem_cons, List.not_mem_nil, or_false] at hv; rcases hv with rfl | rfl | rfl | rfl | rfl; exact (ro_one (hC115.ro 4 rfl)); exact rfl; exact rfl; exact rfl; exact rfl) rfl Tryz.sizeOf36 rfl rfl (fun w50 hC116 => ?_)
     try dsimp only [List.set] at hC116
     refine WL_nil ?_
     refine WA_one 1 (by kernel_rfl) rfl ?_
     refine WL_load_box_agg [v9, (.int .i64 x18)] hC116 7 rfl rfl rfl Tryz.isAgg38 Tryz.sizeOf38 rfl rfl ?_
     refine WL_nil ?_
     refine WA_one 3 (by kernel_rfl) rfl ?_
     refine WL_store_box_agg (cs' := [v9, (.int .i64 x18)]) (new := [v9, (.int .i64 x18)]) hC116 10 rfl rfl (by intro v hv; simp only [List.mem_cons, List.not_mem_nil, or_false] at hv; rcases hv with rfl | rfl; exact (ro_one (hC116.ro 8 rfl)); exact rfl) rfl Tryz.sizeOf38 rfl rfl (fun w51 hC117 => ?_)
     try dsimp only [List.set] at hC117
     refine WL_nil ?_
     refine WA_done (by kernel_rfl) ?_
     have hq9 := Option.some.inj hr11
     subst hq9
     have hC118 := hC117.f11
     have hC119 := hC118.f11
     have hC120 := hC119.f10
     have hC121 := hC120.f7
     have hC122 := hC121.h4
     refine nrm_sub (l' := [(14, (ptr b3 0)), (15, (ptr b4 0))]) ⟨rfl, rfl, trivial⟩ ?_
     exact ⟨v9, x17, x18, v27, x59, x18, w64 (x21 + 1), x22, true, rfl, rfl, hC122⟩
    rintro _ w46 ⟨v28, x60, x61, v29, x62, x63, x64, x65, x66, rfl, rfl, hC113⟩
    try dsimp only at hL1
    refine W_ret ?_
    refine nrm_ret ?_
    refine blk_ret ?_
    refine nrm_ret ?_
    refine blk_ret ?_
    refine nrm_ret ?_
    have hq10 := Option.some.inj hL1
    subst hq10
    dsimp only at hF
    have hq11 := Option.some.inj hF
    subst hq11
    refine fn_retG2 rfl (rv_cell_agg (cs' := [v29, (.int .i64 x63), (.int .i64 x64), (.int .i64 x65), (.bool x66)]) hC113 (i := 3) rfl rfl rfl Tryz.isAgg36 Tryz.sizeOf36 rfl) (rv_cell_agg (cs' := [v28, (.int .i64 x61)]) hC113 (i := 2) rfl rfl rfl Tryz.isAgg38 Tryz.sizeOf38 rfl) ?_
    have hC124 := hC113.f1
    have hC123 := own_st38 v28 x60 x61 hC124
    have hC126 := hC123.f1
    have hC125 := own_st36 v29 x62 x63 x64 x65 x66 hC126
    exact ⟨_, rfl, res2_of hC125⟩
   replace hL1 := ite_f hL1 hc6
   refine W_skip ?_
   refine nrm_normal ?_
   refine W_seq_reg ?_
   refine WL_move rfl rfl ?_
   refine WL_move rfl rfl ?_
   refine WL_len Tryz.underlying47 g5 rfl rfl ?_
   refine WL_lss rfl rfl rfl ?_
   refine WL_nil ?_
   obtain ⟨r6, hr12, hL1⟩ := bind_some hL1
   refine W_norm (fun l w => ∃ v30 : Value, ∃ x67 : (List (Int × (List Int))), ∃ x68 : Int, ∃ x69 : Int, (x67, x68, x69) = r6 ∧ l = [(0, u1), (1, u2), (4, (.int .i64 a5)), (5, u5), (6, (.int .i64 a7)), (10, (ptr b2 0)), (14, (ptr b3 0)), (15, (ptr b4 0)), (16, (ptr b5 0)), (17, (ptr b6 0)), (18, (ptr b7 0)), (20, (.int .i64 x69))] ∧ Ctx [] w0 w [Item.own v21 (x50.2.1.1.2 : (List Int)), Item.own v12 (x26 : (List (Int × (List Int)))), Item.own v11 (x24 : (List (Int × (List Int)))), Item.own v27 (x59 : (List (Int × (List Int)))), Item.box b7 [(.int .i64 x50.2.1.1.1), v21, (.int .i64 x50.2.1.2.1), (.int .i64 x50.2.1.2.2)], Item.box b6 [v30, (.int .i64 x68)], Item.own v30 (x67 : (List (Int × (List Int)))), Item.box b5 [v27, (.int .i64 x20), (.int .i64 (w64 (x21 + 1))), (.int .i64 x22), (.bool x23)], Item.box b4 [v11, (.int .i64 x25)], Item.box b3 [v12, (.int .i64 x27), (.int .i64 x28), (.int .i64 x29), (.bool x30)], Item.box b2 [(.int .i64 a4.1), u4]]) ?_ ?_
   ·refine W_cond rfl (fun hc7 => ?_) (fun hc7 => ?_)
    ·replace hr12 := ite_t hr12 hc7
     obtain ⟨r7, hr13, hr12⟩ := bind_some hr12
     refine W_cut (fun l w => ∃ b11 : Nat, ∃ v31 : Value, ∃ x70 : (List (Int × (List Int))), ∃ x71 : Int, (x70, x71) = r7 ∧ l = [(0, u1), (1, u2), (4, (.int .i64 a5)), (5, u5), (6, (.int .i64 a7)), (10, (ptr b2 0)), (14, (ptr b3 0)), (15, (ptr b4 0)), (16, (ptr b5 0)), (17, (ptr b6 0)), (18, (ptr b7 0)), (20, (.int .i64 x31)), (24, (ptr b11 0))] ∧ Ctx [] w0 w [Item.box b11 [v31, (.int .i64 x71)], Item.own v31 (x70 : (List (Int × (List Int)))), Item.own v21 (x50.2.1.1.2 : (List Int)), Item.own v12 (x26 : (List (Int × (List Int)))), Item.own v11 (x24 : (List (Int × (List Int)))), Item.own v27 (x59 : (List (Int × (List Int)))), Item.box b7 [(.int .i64 x50.2.1.1.1), v21, (.int .i64 x50.2.1.2.1), (.int .i64 x50.2.1.2.2)], Item.box b6 [v9, (.int .i64 x18)], Item.own v9 (x17 : (List (Int × (List Int)))), Item.box b5 [v27, (.int .i64 x20), (.int .i64 (w64 (x21 + 1))), (.int .i64 x22), (.bool x23)], Item.box b4 [v11, (.int .i64 x25)], Item.box b3 [v12, (.int .i64 x27), (.int .i64 x28), (.int .i64 x29), (.bool x30)], Item.box b2 [(.int .i64 a4.1), u4]]) ?_ ?_
     ·refine W_drawn 13 rfl hmix (fun w54 hB33 => ?_)
      have hC129 := hC110.grow hB33
      refine WA_tk 0 (by kernel_rfl) rfl rfl (fl_move rfl) ?_
      refine WL_move rfl rfl ?_
      refine WL_nil ?_
      refine WA_tk 2 (by kernel_rfl) rfl rfl (fl_move rfl) ?_
      refine WL_move rfl rfl ?_
      refine WL_nil ?_
      refine WA_tk 3 (by kernel_rfl) rfl rfl (fl_move rfl) ?_
      refine WL_move rfl rfl ?_
      refine WL_nil ?_
      obtain ⟨x72, hx2, hr13⟩ := bind_some hr13
      refine WA_tk 4 (by kernel_rfl) rfl rfl (fl_index Tryz.underlying47 ty83 g5 hx2 rfl rfl) ?_
      refine WL_index Tryz.underlying47 ty83 g5 hx2 rfl rfl rfl (fun b12 o1 h1 => ?_)
      refine WL_nil ?_
      obtain ⟨x73, hr14, hr13⟩ := bind_some hr13
      refine WA.sub (l' := [(0, u1), (1, u2), (4, (.int .i64 a5)), (5, u5), (6, (.int .i64 a7)), (10, (ptr b2 0)), (14, (ptr b3 0)), (15, (ptr b4 0)), (16, (ptr b5 0)), (17, (ptr b6 0)), (18, (ptr b7 0)), (20, (.int .i64 x31)), (21, v18), (22, (ptr b8 0)), (23, (.int .i64 x50.2.2)), (51, (.tuple #[v18, (.agg #[(.int .i64 x50.2.1.1.1), v21, (.int .i64 x50.2.1.2.1), (.int .i64 x50.2.1.2.2)]), (.int .i64 x50.2.2)])), (52, u1), (53, u2), (54, (.agg #[v9, (.int .i64 x18)])), (55, (.agg #[(.int .i64 x13), v8, (.int .i64 x15), (.int .i64 x16)])), (56, (.int .i64 a5)), (57, (.tuple #[v18, (.agg #[(.int .i64 x50.2.1.1.1), v21, (.int .i64 x50.2.1.2.1), (.int .i64 x50.2.1.2.2)]), (.int .i64 x50.2.2)])), (58, v18), (59, (.agg #[(.int .i64 x50.2.1.1.1), v21, (.int .i64 x50.2.1.2.1), (.int .i64 x50.2.1.2.2)])), (60, (.int .i64 x50.2.2)), (61, (ptr b5 2)), (62, (.int .i64 x21)), (63, (.int .i64 (w64 (x21 + 1)))), (64, (ptr b5 2)), (65, (.int .i64 x50.2.2)), (66, (.bool (decide (x50.2.2 = 2)))), (89, (ptr b5 0)), (90, v10), (91, v18), (92, v27), (93, (ptr b5 0)), (94, (.agg #[(.int .i64 x50.2.1.1.1), v21, (.int .i64 x50.2.1.2.1), (.int .i64 x50.2.1.2.2)])), (95, (.int .i64 x50.2.2)), (96, (.bool (decide (x50.2.2 = 1)))), (103, (.int .i64 x31)), (104, u5), (105, (.int .i64 (List.length a6 : Int))), (106, (.bool (decide (x31 < (List.length a6 : Int))))), (108, u1), (110, u5), (111, (.int .i64 x31)), (112, (ptr b12 o1))]) ?_ ⟨rfl, rfl, rfl, rfl, rfl, rfl, rfl, rfl, rfl, rfl, rfl, rfl, rfl, rfl, rfl, rfl, rfl, rfl, rfl, rfl, rfl, rfl, rfl, rfl, rfl, rfl, rfl, rfl, rfl, rfl, rfl, rfl, rfl, rfl, rfl, rfl, rfl, rfl, rfl, rfl, rfl, rfl, rfl, rfl, rfl, rfl, rfl, trivial⟩
      refine WA_postsO [⟨1, [], fun vs => PW.val (.agg #[v9, (.int .i64 x18)]), []⟩, ⟨5, [], fun vs => PW.ro [] w0 x72, []⟩, ⟨6, [], fun vs => PW.own2 (x73.1 : ((List (Int × (List Int))) × Int)) (x73.2 : Bool), []⟩, ⟨7, [114], fun vs => PW.val (vs.getD 0 undef), []⟩, ⟨8, [107], fun vs => PW.comp (vs.getD 0 undef) 0, []⟩, ⟨9, [107], fun vs => PW.comp (vs.getD 0 undef) 1, []⟩, ⟨10, [], fun vs => PW.box [(.slice none 0 0), (.int .i64 0)], []⟩] [[], [], [1, 5], [6], [6, 7], [6, 7], []] [9] 2 rfl (by kernel_rfl) (by kernel_rfl) ?_ ⟨?_, ?_, trivial⟩
      ·refine StepsE_cons rfl ?_ ?_
       ·intro w57 hB36
        refine DepsE_nil ?_
        refine ⟨_, rfl, ?_⟩
        refine WL_load_box_agg [v9, (.int .i64 x18)] (hC129.grow hB36) 7 rfl rfl rfl Tryz.isAgg38 Tryz.sizeOf38 rfl rfl ?_
        refine WL_nil ?_
        exact FinE_val (Below.refl _ _) rfl rfl ⟨rfl, rfl⟩
       refine StepsE_cons rfl ?_ ?_
       ·intro w57 hB36
        refine DepsE_nil ?_
        refine ⟨_, rfl, ?_⟩
        refine WL_load ty83 h1 (hC129.keep.then hB36) rfl rfl (fun v34 h4 => ?_)
        refine WL_nil ?_
        exact FinE_val (Below.refl _ _) rfl rfl ⟨rfl, h4⟩
       refine StepsE_cons rfl ?_ ?_
       ·intro w57 hB36
        refine DepsE_cons rfl rfl rfl ?_
        rintro _ _ ⟨rfl, rfl⟩ _
        refine DepsE_cons rfl rfl rfl ?_
        rintro v34 _ ⟨rfl, h4⟩ _
        obtain ⟨v33, rfl, h3⟩ := ro_st83 h4
        refine DepsE_nil ?_
        refine ⟨_, rfl, ?_⟩
        refine WL_call Tryz.call37 rfl rfl (c_S_ApplyChange a1 u1 (g1.now (hC129.keep.then hB36)) (x17, x18) v9 ((hC129.grow hB36).ro 8 rfl) x72 v33 (h3.now (hC129.keep.then hB36)) x73 hr14) ?_
        rintro _ w55 ⟨hB34, v35, v36, F9, F10, rfl, hv11, hv12, hn8, hb8⟩
        refine WL_nil ?_
        exact FinE_own (F := F9 ++ F10) hB34 rfl rfl ⟨_, _, _, _, rfl, rfl, hv11, hv12⟩ (by simpa using hn8) (fun b h => hb8 b (by simpa using h)) (fun b h => by simp only [List.mem_append] at h; rcases h with h | h <;> first | exact Val.inh hv11 b h | exact Val.inh hv12 b h)
       refine StepsE_cons rfl ?_ ?_
       ·intro w57 hB36
        refine DepsE_cons rfl rfl rfl ?_
        rintro _ _ ⟨v35, v36, F9, F10, rfl, rfl, hv11, hv12⟩ _
        obtain ⟨rfl, rfl⟩ := val_bool hv12
        obtain ⟨v37, rfl, h5⟩ := ro_st38 (ro_of_own hv11)
        refine DepsE_nil ?_
        refine ⟨_, rfl, ?_⟩
        refine WL_move rfl rfl ?_
        refine WL_nil ?_
        exact FinE_val (Below.refl _ _) rfl rfl ⟨rfl, rfl⟩
       refine StepsE_cons rfl ?_ ?_
       ·intro w57 hB36
        refine DepsE_cons rfl rfl rfl ?_
        rintro _ _ ⟨v35, v36, F9, F10, rfl, rfl, hv11, hv12⟩ _
        obtain ⟨rfl, rfl⟩ := val_bool hv12
        obtain ⟨v37, rfl, h5⟩ := ro_st38 (ro_of_own hv11)
        refine DepsE_cons rfl rfl rfl ?_
        rintro _ _ ⟨rfl, rfl⟩ _
        refine DepsE_nil ?_
        refine ⟨_, rfl, ?_⟩
        refine WL_extract rfl rfl rfl ?_
        refine WL_nil ?_
        exact FinE_val (Below.refl _ _) rfl rfl ⟨⟨_, rfl, rfl⟩, rfl⟩
       refine StepsE_cons rfl ?_ ?_
       ·intro w57 hB36
        refine DepsE_cons rfl rfl rfl ?_
        rintro _ _ ⟨v35, v36, F9, F10, rfl, rfl, hv11, hv12⟩ _
        obtain ⟨rfl, rfl⟩ := val_bool hv12
        obtain ⟨v37, rfl, h5⟩ := ro_st38 (ro_of_own hv11)
        refine DepsE_cons rfl rfl rfl ?_
        rintro _ _ ⟨rfl, rfl⟩ _
        refine DepsE_nil ?_
        refine ⟨_, rfl, ?_⟩
        refine WL_extract rfl rfl rfl ?_
        refine WL_nil ?_
        exact FinE_val (Below.refl _ _) rfl rfl ⟨⟨_, rfl, rfl⟩, rfl⟩
       refine StepsE_cons rfl ?_ ?_
       ·intro w57 hB36
        refine DepsE_nil ?_
        refine ⟨_, rfl, ?_⟩
        refine WL_alloc (Ctx.start _) zero38 rfl rfl (fun b13 w56 hC130 hB35 => ?_)
        refine WL_nil ?_
        exact FinE_ctx hC130 rfl rfl (fun F h => ⟨b13, rfl, h⟩)
       exact StepsE_nil
      ·intro g' hg'
       obtain rfl : g' = 2 := hg'
       intro w58 hB37
       refine AllE_cons rfl rfl rfl ?_
       rintro _ _ ⟨rfl, rfl⟩
       refine AllE_cons rfl rfl rfl ?_
       rintro v34 _ ⟨rfl, h4⟩
       obtain ⟨v33, rfl, h3⟩ := ro_st83 h4
       refine AllE_cons rfl rfl rfl ?_
       rintro _ _ ⟨v35, v36, F9, F10, rfl, rfl, hv11, hv12⟩
       obtain ⟨rfl, rfl⟩ := val_bool hv12
       refine AllE_cons rfl rfl rfl ?_
       rintro _ _ ⟨rfl, rfl⟩
       refine AllE_cons rfl rfl rfl ?_
       rintro _ _ ⟨⟨_, hx3, hx4⟩, rfl⟩
       obtain rfl := Value.tuple.inj hx3
       obtain rfl := Option.some.inj (show (some v35 : Option Value) = some _ from hx4)
       refine AllE_cons rfl rfl rfl ?_
       rintro _ _ ⟨⟨_, hx5, hx6⟩, rfl⟩
       obtain rfl := Value.tuple.inj hx5
       obtain rfl := Option.some.inj (show (some (.bool x73.2) : Option Value) = some _ from hx6)
       refine AllE_cons rfl rfl rfl ?_
       rintro _ F11 ⟨b13, rfl, hv13⟩
       refine AllE_nil ?_
       intro hn9 hb9
       have hC131 := hC129.pushL hB37 (Bs := [Item.box b13 [(.slice none 0 0), (.int .i64 0)], Item.own v35 (x73.1 : ((List (Int × (List Int))) × Int))]) (Fs := [F11, F9]) ⟨F11, _, rfl, hv13, F9, _, rfl, hv11, rfl⟩ (by simpa using hn9) (fun b h => (hb9 b (by simpa using h)).1)
       have hC132 := hC131.f1
       obtain ⟨v38, rfl, hC133⟩ := st38_own hC132
       refine WA_one 11 (by kernel_rfl) rfl ?_
       refine WL_store_box_agg (cs' := [v38, (.int .i64 x73.1.2)]) (new := [v38, (.int .i64 x73.1.2)]) hC133 1 rfl rfl (by intro v hv; simp only [List.mem_cons, List.not_mem_nil, or_false] at hv; rcases hv with rfl | rfl; exact (ro_one (hC133.ro 0 rfl)); exact rfl) rfl Tryz.sizeOf38 rfl rfl (fun w59 hC134 => ?_)
       try dsimp only [List.set] at hC134
       refine WL_nil ?_
       refine WA_tk 12 (by kernel_rfl) rfl rfl (fl_assign rfl) ?_
       refine WL_assign rfl rfl ?_
       refine WL_nil ?_
       refine WA_done (by kernel_rfl) ?_
       have hq12 := Option.some.inj hr13
       subst hq12
       have hC135 := hC134.f14
       have hC136 := hC135.f14
       have hC137 := hC136.f14
       have hC138 := hC137.f14
       have hC139 := hC138.f14
       have hC140 := hC139.f14
       have hC141 := hC140.f13
       have hC142 := hC141.f13
       have hC143 := hC142.f13
       have hC144 := hC143.f13
       have hC145 := hC144.f13
       have hC146 := hC145.f11
       have hC147 := hC146.f12
       have hC148 : Ctx [] w0 _ [Item.box b13 [v38, (.int .i64 x73.1.2)], Item.own v38 (x73.1.1 : (List (Int × (List Int)))), Item.own v21 (x50.2.1.1.2 : (List Int)), Item.own v12 (x26 : (List (Int × (List Int)))), Item.own v11 (x24 : (List (Int × (List Int)))), Item.own v27 (x59 : (List (Int × (List Int)))), Item.box b7 [(.int .i64 x50.2.1.1.1), v21, (.int .i64 x50.2.1.2.1), (.int .i64 x50.2.1.2.2)], Item.box b6 [v9, (.int .i64 x18)], Item.own v9 (x17 : (List (Int × (List Int)))), Item.box b5 [v27, (.int .i64 x20), (.int .i64 (w64 (x21 + 1))), (.int .i64 x22), (.bool x23)], Item.box b4 [v11, (.int .i64 x25)], Item.box b3 [v12, (.int .i64 x27), (.int .i64 x28), (.int .i64 x29), (.bool x30)], Item.box b2 [(.int .i64 a4.1), u4]] := hC147.headN 13
       refine nrm_sub (l' := [(0, u1), (1, u2), (4, (.int .i64 a5)), (5, u5), (6, (.int .i64 a7)), (10, (ptr b2 0)), (14, (ptr b3 0)), (15, (ptr b4 0)), (16, (ptr b5 0)), (17, (ptr b6 0)), (18, (ptr b7 0)), (20, (.int .i64 x31)), (24, (ptr b13 0))]) ⟨rfl, rfl, rfl, rfl, rfl, rfl, rfl, rfl, rfl, rfl, rfl, rfl, rfl, trivial⟩ ?_
       exact ⟨b13, v38, x73.1.1, x73.1.2, rfl, rfl, hC148⟩
      intro g' hg'
      obtain rfl : g' = 3 := hg'
      intro w58 hB37
      refine AllE_cons rfl rfl rfl ?_
      rintro _ _ ⟨rfl, rfl⟩
      refine AllE_cons rfl rfl rfl ?_
      rintro v34 _ ⟨rfl, h4⟩
      obtain ⟨v33, rfl, h3⟩ := ro_st83 h4
      refine AllE_cons rfl rfl rfl ?_
      rintro _ _ ⟨v35, v36, F9, F10, rfl, rfl, hv11, hv12⟩
      obtain ⟨rfl, rfl⟩ := val_bool hv12
      refine AllE_cons rfl rfl rfl ?_
      rintro _ _ ⟨rfl, rfl⟩
      refine AllE_cons rfl rfl rfl ?_
      rintro _ _ ⟨⟨_, hx3, hx4⟩, rfl⟩
      obtain rfl := Value.tuple.inj hx3
      obtain rfl := Option.some.inj (show (some v35 : Option Value) = some _ from hx4)
      refine AllE_cons rfl rfl rfl ?_
      rintro _ F11 ⟨b13, rfl, hv13⟩
      refine AllE_nil ?_
      intro hn9 hb9
      have hC131 := hC129.pushL hB37 (Bs := [Item.box b13 [(.slice none 0 0), (.int .i64 0)], Item.own v35 (x73.1 : ((List (Int × (List Int))) × Int))]) (Fs := [F11, F9]) ⟨F11, _, rfl, hv13, F9, _, rfl, hv11, rfl⟩ (by simpa using hn9) (fun b h => (hb9 b (by simpa using h)).1)
      have hC132 := hC131.f1
      obtain ⟨v38, rfl, hC133⟩ := st38_own hC132
      refine WA_tk 9 (by kernel_rfl) rfl rfl (fl_extract rfl rfl) ?_
      refine WL_extract rfl rfl rfl ?_
      refine WL_nil ?_
      refine WA_one 11 (by kernel_rfl) rfl ?_
      refine WL_store_box_agg (cs' := [v38, (.int .i64 x73.1.2)]) (new := [v38, (.int .i64 x73.1.2)]) hC133 1 rfl rfl (by intro v hv; simp only [List.mem_cons, List.not_mem_nil, or_false] at hv; rcases hv with rfl | rfl; exact (ro_one (hC133.ro 0 rfl)); exact rfl) rfl Tryz.sizeOf38 rfl rfl (fun w59 hC134 => ?_)
      try dsimp only [List.set] at hC134
      refine WL_nil ?_
      refine WA_tk 12 (by kernel_rfl) rfl rfl (fl_assign rfl) ?_
      refine WL_assign rfl rfl ?_
      refine WL_nil ?_
      refine WA_done (by kernel_rfl) ?_
      have hq12 := Option.some.inj hr13
      subst hq12
      have hC135 := hC134.f14
      have hC136 := hC135.f14
      have hC137 := hC136.f14
      have hC138 := hC137.f14
      have hC139 := hC138.f14
      have hC140 := hC139.f14
      have hC141 := hC140.f13
      have hC142 := hC141.f13
      have hC143 := hC142.f13
      have hC144 := hC143.f13
      have hC145 := hC144.f13
      have hC146 := hC145.f11
      have hC147 := hC146.f12
      have hC148 : Ctx [] w0 _ [Item.box b13 [v38, (.int .i64 x73.1.2)], Item.own v38 (x73.1.1 : (List (Int × (List Int)))), Item.own v21 (x50.2.1.1.2 : (List Int)), Item.own v12 (x26 : (List (Int × (List Int)))), Item.own v11 (x24 : (List (Int × (List Int)))), Item.own v27 (x59 : (List (Int × (List Int)))), Item.box b7 [(.int .i64 x50.2.1.1.1), v21, (.int .i64 x50.2.1.2.1), (.int .i64 x50.2.1.2.2)], Item.box b6 [v9, (.int .i64 x18)], Item.own v9 (x17 : (List (Int × (List Int)))), Item.box b5 [v27, (.int .i64 x20), (.int .i64 (w64 (x21 + 1))), (.int .i64 x22), (.bool x23)], Item.box b4 [v11, (.int .i64 x25)], Item.box b3 [v12, (.int .i64 x27), (.int .i64 x28), (.int .i64 x29), (.bool x30)], Item.box b2 [(.int .i64 a4.1), u4]] := hC147.headN 13
      refine nrm_sub (l' := [(0, u1), (1, u2), (4, (.int .i64 a5)), (5, u5), (6, (.int .i64 a7)), (10, (ptr b2 0)), (14, (ptr b3 0)), (15, (ptr b4 0)), (16, (ptr b5 0)), (17, (ptr b6 0)), (18, (ptr b7 0)), (20, (.int .i64 x31)), (24, (ptr b13 0))]) ⟨rfl, rfl, rfl, rfl, rfl, rfl, rfl, rfl, rfl, rfl, rfl, rfl, rfl, trivial⟩ ?_
      exact ⟨b13, v38, x73.1.1, x73.1.2, rfl, rfl, hC148⟩
     rintro _ w53 ⟨b11, v31, x70, x71, rfl, rfl, hC128⟩
     try dsimp only at hr12
     refine W_seq_reg ?_
     refine WL_load_box_agg [v31, (.int .i64 x71)] hC128 0 rfl rfl rfl Tryz.isAgg38 Tryz.sizeOf38 rfl rfl ?_
     refine WL_store_box_agg (cs' := [v31, (.int .i64 x71)]) (new := [v31, (.int .i64 x71)]) hC128 7 rfl rfl (by intro v hv; simp only [List.mem_cons, List.not_mem_nil, or_false] at hv; rcases hv with rfl | rfl; exact (ro_one (hC128.ro 1 rfl)); exact rfl) rfl Tryz.sizeOf38 rfl rfl (fun w60 hC149 => ?_)
     try dsimp only [List.set] at hC149
     refine WL_nil ?_
     refine W_reg ?_
     refine WL_move rfl rfl ?_
     refine WL_add rfl rfl rfl ?_
     refine WL_assign rfl rfl ?_
     refine WL_nil ?_
     have hq13 := Option.some.inj hr12
     subst hq13
     have hC150 := hC149.f12
     have hC151 := hC150.f12
     have hC152 := hC151.f12
     have hC153 := hC152.f12
     have hC154 := hC153.f5
     have hC155 := hC154.f11
     have hC156 := hC155.f11
     have hC157 := hC156.f11
     have hC158 := hC157.f11
     have hC159 := hC158.f11
     have hC160 := hC159.f11
     have hC161 := hC160.h11
     refine nrm_sub (l' := [(0, u1), (1, u2), (4, (.int .i64 a5)), (5, u5), (6, (.int .i64 a7)), (10, (ptr b2 0)), (14, (ptr b3 0)), (15, (ptr b4 0)), (16, (ptr b5 0)), (17, (ptr b6 0)), (18, (ptr b7 0)), (20, (.int .i64 (w64 (x31 + 1))))]) ⟨rfl, rfl, rfl, rfl, rfl, rfl, rfl, rfl, rfl, rfl, rfl, rfl, trivial⟩ ?_
     exact ⟨v31, x70, x71, w64 (x31 + 1), rfl, rfl, hC161⟩
    replace hr12 := ite_f hr12 hc7
    refine W_skip ?_
    have hq14 := Option.some.inj hr12
    subst hq14
    have hC162 := hC110.f12
    have hC163 := hC162.f12
    have hC164 := hC163.f12
    have hC165 := hC164.f12
    have hC166 := hC165.f12
    have hC167 := hC166.f12
    have hC168 := hC167.f11
    have hC169 := hC168.f11
    have hC170 := hC169.f11
    have hC171 := hC170.f11
    have hC172 := hC171.f11
    have hC173 := hC172.h11
    refine nrm_sub (l' := [(0, u1), (1, u2), (4, (.int .i64 a5)), (5, u5), (6, (.int .i64 a7)), (10, (ptr b2 0)), (14, (ptr b3 0)), (15, (ptr b4 0)), (16, (ptr b5 0)), (17, (ptr b6 0)), (18, (ptr b7 0)), (20, (.int .i64 x31))]) ⟨rfl, rfl, rfl, rfl, rfl, rfl, rfl, rfl, rfl, rfl, rfl, rfl, trivial⟩ ?_
    exact ⟨v9, x17, x18, x31, rfl, rfl, hC173⟩
   rintro l6 _ w52 hs6 ⟨v30, x67, x68, x69, rfl, rfl, hC127⟩
   try dsimp only at hL1
   refine blk_normal ?_
   have hC174 := hC127.f10
   have hC175 := hC174.f10
   have hC176 := hC175.f10
   have hC177 := hC176.f10
   have hC178 := hC177.f10
   have hC179 := hC178.f10
   have hC180 := hC179.f6
   have hC181 := hC180.f10
   have hC182 := hC181.f10
   have hC183 := hC182.f10
   have hC184 := hC183.f10
   refine nrm_subs (l2 := [(0, u1), (1, u2), (4, (.int .i64 a5)), (5, u5), (6, (.int .i64 a7)), (10, (ptr b2 0)), (14, (ptr b3 0)), (15, (ptr b4 0)), (16, (ptr b5 0)), (17, (ptr b6 0)), (18, (ptr b7 0)), (20, (.int .i64 x69))]) hs6 ⟨rfl, rfl, rfl, rfl, rfl, rfl, rfl, rfl, rfl, rfl, rfl, rfl, trivial⟩ ?_
   exact ⟨k1, Nat.lt_succ_self _, x50.2.1.1.1, v21, x50.2.1.1.2, x50.2.1.2.1, x50.2.1.2.2, v30, x67, x68, v27, x59, x20, w64 (x21 + 1), x22, x23, v11, x24, x25, v12, x26, x27, x28, x29, x30, x69, rfl, hC184, hL1⟩
 intro _ _ _ _ h; cases h

theorem c_Q_toIntS {w0 : World} (a1 : (List Int)) (u1 : Value) (g1 : RO [] w0 u1 a1) (rr : (List Int)) (hF : Q.toIntS a1 = some rr) :
 Calls Tryz.prog 9 [u1].toArray w0 fun e w' => ∃ v, e = .returned v ∧ Res w0 rr v w' := by
 refine calls_of_W Tryz.func9 rfl rfl ?_
 have hC0 := Ctx.start w0
 unfold Q.toIntS at hF
 refine W_seq_reg ?_
 refine WL_assign rfl rfl ?_
 refine WL_nil ?_
 refine W_seq_reg ?_
 refine WL_move rfl rfl ?_
 refine WL_len Tryz.underlying22 g1 rfl rfl ?_
 obtain ⟨x1, hx1, hF⟩ := bind_some hF
 refine WL_makeSlice hC0 Tryz.underlying22 ty3 rfl zc3 zr3 hx1 rfl rfl rfl (fun b1 w1 hC1 hB1 => ?_)
 refine WL_assign rfl rfl ?_
 refine WL_nil ?_
 refine W_seq ?_
 refine W_seq_reg ?_
 refine WL_assign rfl rfl ?_
 refine WL_nil ?_
 obtain ⟨r1, hr1, hF⟩ := bind_some hF
 refine W_norm (fun l w => ∃ x4 : (List Int), x4 = r1 ∧ l = [(3, (.slice (some ⟨b1, 0, none⟩) (Int.toNat (List.length a1 : Int)) (Int.toNat (List.length a1 : Int))))] ∧ Ctx [] w0 w [Item.own (.slice (some ⟨b1, 0, none⟩) (Int.toNat (List.length a1 : Int)) (Int.toNat (List.length a1 : Int))) (x4 : (List Int))]) ?_ ?_
 ·refine W_block ?_
  refine W.sub (l' := [(0, u1), (3, (.slice (some ⟨b1, 0, none⟩) (Int.toNat (List.length a1 : Int)) (Int.toNat (List.length a1 : Int)))), (4, (.int .i64 0))]) ?_ ⟨rfl, rfl, rfl, trivial⟩
  refine W_loop (fun k l w => ∃ x2 : (List Int), ∃ x3 : Int, l = [(0, u1), (3, (.slice (some ⟨b1, 0, none⟩) (Int.toNat (List.length a1 : Int)) (Int.toNat (List.length a1 : Int)))), (4, (.int .i64 x3))] ∧ Ctx [] w0 w [Item.own (.slice (some ⟨b1, 0, none⟩) (Int.toNat (List.length a1 : Int)) (Int.toNat (List.length a1 : Int))) (x2 : (List Int))] ∧ Q.toIntS_l1 a1 k x2 x3 = some r1) FUEL ⟨x1, 0, rfl, hC1, hr1⟩ ?_
  clear hr1
  rintro k1 _ w2 ⟨x2, x3, rfl, hC2, hL1⟩
  cases k1 with
  | zero => rw [Q.toIntS_l1] at hL1; cases hL1
  | succ k1 =>
   rw [Q.toIntS_l1] at hL1
   refine W_seq ?_
   refine W_seq_reg ?_
   refine WL_move rfl rfl ?_
   refine WL_move rfl rfl ?_
   refine WL_len Tryz.underlying22 g1 rfl rfl ?_
   refine WL_lss rfl rfl rfl ?_
   refine WL_nil ?_
   refine W_cond rfl (fun hc1 => ?_) (fun hc1 => ?_)
   ·replace hL1 := ite_t hL1 hc1
    refine W_skip ?_
    refine nrm_normal ?_
    refine W_seq ?_
    refine W_block ?_
    refine W_reg ?_
    refine WL_move rfl rfl ?_
    refine WL_move rfl rfl ?_
    refine WL_move rfl rfl ?_
    refine WL_move rfl rfl ?_
    obtain ⟨x5, hx2, hL1⟩ := bind_some hL1
    refine WL_index Tryz.underlying22 ty3 g1 hx2 rfl rfl rfl (fun b2 o1 h1 => ?_)
    refine WL_load ty3 h1 hC2.keep rfl rfl (fun v1 h2 => ?_)
    obtain rfl := ro_int h2
    obtain ⟨x6, hx3, hL1⟩ := bind_some hL1
    refine WL_index_own hC2 0 rfl Tryz.underlying22 ty3 hx3 rfl rfl rfl (fun b3 hE1 => ?_)
    have hC4 := hC2.triv (int_val (x5))
    refine WL_store_elem hC4 0 rfl ty3 hE1 hx3 rfl rfl rfl (fun w3 hC3 => ?_)
    try dsimp only [List.set] at hC3
    refine WL_nil ?_
    refine blk_normal ?_
    refine nrm_normal ?_
    refine W_reg ?_
    refine WL_move rfl rfl ?_
    refine WL_add rfl rfl rfl ?_
    refine WL_assign rfl rfl ?_
    refine WL_nil ?_
    refine nrm_sub (l' := [(0, u1), (3, (.slice (some ⟨b1, 0, none⟩) (Int.toNat (List.length a1 : Int)) (Int.toNat (List.length a1 : Int)))), (4, (.int .i64 (w64 (x3 + 1))))]) ⟨rfl, rfl, rfl, trivial⟩ ?_
    exact ⟨k1, Nat.lt_succ_self _, (List.set x2 (Int.toNat x3) x5), w64 (x3 + 1), rfl, hC3, hL1⟩
   replace hL1 := ite_f hL1 hc1
   refine W_exit ?_
   refine nrm_exit ?_
   refine nrm_exit ?_
   refine blk_exit ?_
   have hq1 := Option.some.inj hL1
   subst hq1
   refine nrm_sub (l' := [(3, (.slice (some ⟨b1, 0, none⟩) (Int.toNat (List.length a1 : Int)) (Int.toNat (List.length a1 : Int))))]) ⟨rfl, trivial⟩ ?_
   exact ⟨x2, rfl, rfl, hC2⟩
 rintro l2 _ w4 hs2 ⟨x4, rfl, rfl, hC5⟩
 try dsimp only at hF
 refine nrm_sub' hs2 ?_
 clear hs2
 refine W_seq_reg ?_
 refine WL_move rfl rfl ?_
 refine WL_assign rfl rfl ?_
 refine WL_nil ?_
 refine W_ret ?_
 have hq2 := Option.some.inj hF
 subst hq2
 refine fn_ret1 rfl rfl ?_
 exact ⟨_, rfl, own_res hC5 0 rfl⟩

theorem c_Q_toMethod {w0 : World} (a1 : (Int × (List Int) × Int × Int × Int)) (u1 : Value) (g1 : RO [] w0 u1 a1.2.1) (rr : (Int × (List Int) × Int × Int × Int)) (hF : Q.toMethod a1 = some rr) :
 Calls Tryz.prog 38 [(.agg #[(.int .i64 a1.1), u1, (.int .i64 a1.2.2.1), (.int .i64 a1.2.2.2.1), (.int .i64 a1.2.2.2.2)])].toArray w0 fun e w' => ∃ v, e = .returned v ∧ Res w0 rr v w' := by
 refine calls_of_W Tryz.func38 rfl rfl ?_
 have hC0 := Ctx.start w0
 unfold Q.toMethod at hF
 refine W_seq_reg ?_
 refine WL_box (cs := [(.int .i64 a1.1), u1, (.int .i64 a1.2.2.1), (.int .i64 a1.2.2.2.1), (.int .i64 a1.2.2.2.2)]) hC0 rfl rfl rfl (fun b1 w1 hC1 hB1 => ?_)
 refine WL_alloc hC1 zero84 rfl rfl (fun b2 w2 hC2 hB2 => ?_)
 refine WL_nil ?_
 refine W_seq_reg ?_
 refine WL_alloc hC2 zero84 rfl rfl (fun b3 w3 hC3 hB3 => ?_)
 refine WL_nil ?_
 refine W_seq_reg ?_
 refine WL_field Tryz.underlying64 rfl rfl (fun w => ⟨_, Tryz.sizeOf3 w⟩) rfl rfl ?_
 refine WL_load_box hC3 2 rfl rfl Tryz.isAgg3 rfl rfl ?_
 refine WL_field Tryz.underlying84 rfl rfl (fun w => ⟨_, Tryz.sizeOf3 w⟩) rfl rfl ?_
 refine WL_store_box (cs' := [(.int .i64 a1.1), (.slice none 0 0), (.int .i64 0), (.int .i64 0), (.int .i64 0)]) hC3 0 rfl rfl rfl rfl Tryz.sizeOf3 rfl rfl (fun w4 hC4 => ?_)
 try dsimp only [List.set] at hC4
 refine WL_nil ?_
 refine W_seq_reg ?_
 refine WL_field Tryz.underlying64 rfl rfl (fun w => ⟨_, Tryz.sizeOf22 w⟩) rfl rfl ?_
 refine WL_load_box hC4 2 rfl rfl Tryz.isAgg22 rfl rfl ?_
 obtain ⟨x1, hr1, hF⟩ := bind_some hF
 refine WL_call Tryz.call9 rfl rfl (c_Q_toIntS a1.2.1 u1 (g1.now hC4.keep) x1 hr1) ?_
 rintro v1 w5 ⟨hB4, F1, hv1, hn1, hb1⟩
 have hC5 := hC4.push hB4 (A := Item.own v1 x1) hv1 hn1 hb1
 refine WL_field Tryz.underlying84 rfl rfl (fun w => ⟨_, Tryz.sizeOf22 w⟩) rfl rfl ?_
 refine WL_store_box (cs' := [(.int .i64 a1.1), v1, (.int .i64 0), (.int .i64 0), (.int .i64 0)]) hC5 1 rfl rfl (ro_one (hC5.ro 0 rfl)) rfl Tryz.sizeOf22 rfl rfl (fun w6 hC6 => ?_)
 try dsimp only [List.set] at hC6
 refine WL_nil ?_
 refine W_seq_reg ?_
 refine WL_field Tryz.underlying64 rfl rfl (fun w => ⟨_, Tryz.sizeOf3 w⟩) rfl rfl ?_
 refine WL_load_box hC6 3 rfl rfl Tryz.isAgg3 rfl rfl ?_
 refine WL_field Tryz.underlying84 rfl rfl (fun w => ⟨_, Tryz.sizeOf3 w⟩) rfl rfl ?_
 refine WL_store_box (cs' := [(.int .i64 a1.1), v1, (.int .i64 a1.2.2.1), (.int .i64 0), (.int .i64 0)]) hC6 1 rfl rfl rfl rfl Tryz.sizeOf3 rfl rfl (fun w7 hC7 => ?_)
 try dsimp only [List.set] at hC7
 refine WL_nil ?_
 refine W_seq_reg ?_
 refine WL_field Tryz.underlying64 rfl rfl (fun w => ⟨_, Tryz.sizeOf3 w⟩) rfl rfl ?_
 refine WL_load_box hC7 3 rfl rfl Tryz.isAgg3 rfl rfl ?_
 refine WL_field Tryz.underlying84 rfl rfl (fun w => ⟨_, Tryz.sizeOf3 w⟩) rfl rfl ?_
 refine WL_store_box (cs' := [(.int .i64 a1.1), v1, (.int .i64 a1.2.2.1), (.int .i64 a1.2.2.2.1), (.int .i64 0)]) hC7 1 rfl rfl rfl rfl Tryz.sizeOf3 rfl rfl (fun w9 hC8 => ?_)
 try dsimp only [List.set] at hC8
 refine WL_nil ?_
 refine W_seq_reg ?_
 refine WL_field Tryz.underlying64 rfl rfl (fun w => ⟨_, Tryz.sizeOf3 w⟩) rfl rfl ?_
 refine WL_load_box hC8 3 rfl rfl Tryz.isAgg3 rfl rfl ?_
 refine WL_field Tryz.underlying84 rfl rfl (fun w => ⟨_, Tryz.sizeOf3 w⟩) rfl rfl ?_
 refine WL_store_box (cs' := [(.int .i64 a1.1), v1, (.int .i64 a1.2.2.1), (.int .i64 a1.2.2.2.1), (.int .i64 a1.2.2.2.2)]) hC8 1 rfl rfl rfl rfl Tryz.sizeOf3 rfl rfl (fun w10 hC9 => ?_)
 try dsimp only [List.set] at hC9
 refine WL_nil ?_
 refine W_seq_reg ?_
 refine WL_load_box_agg [(.int .i64 a1.1), v1, (.int .i64 a1.2.2.1), (.int .i64 a1.2.2.2.1), (.int .i64 a1.2.2.2.2)] hC9 1 rfl rfl rfl Tryz.isAgg84 Tryz.sizeOf84 rfl rfl ?_
 refine WL_store_box_agg (cs' := [(.int .i64 a1.1), v1, (.int .i64 a1.2.2.1), (.int .i64 a1.2.2.2.1), (.int .i64 a1.2.2.2.2)]) (new := [(.int .i64 a1.1), v1, (.int .i64 a1.2.2.1), (.int .i64 a1.2.2.2.1), (.int .i64 a1.2.2.2.2)]) hC9 2 rfl rfl (by intro v hv; simp only [List.mem_cons, List.not_mem_nil, or_false] at hv; rcases hv with rfl | rfl | rfl | rfl | rfl; exact rfl; exact (ro_one (hC9.ro 0 rfl)); exact rfl; exact rfl; exact rfl) rfl Tryz.sizeOf84 rfl rfl (fun w11 hC10 => ?_)
 try dsimp only [List.set] at hC10
 refine WL_nil ?_
 refine W_ret ?_
 have hq1 := Option.some.inj hF
 subst hq1
 refine fn_retG1 rfl (rv_cell_agg (cs' := [(.int .i64 a1.1), v1, (.int .i64 a1.2.2.1), (.int .i64 a1.2.2.2.1), (.int .i64 a1.2.2.2.2)]) hC10 (i := 2) rfl rfl rfl Tryz.isAgg84 Tryz.sizeOf84 rfl) ?_
 have hC11 := own_st84 a1.1 v1 x1 a1.2.2.1 a1.2.2.2.1 a1.2.2.2.2 hC10
 exact ⟨_, rfl, own_res hC11 0 rfl⟩

theorem c_Q_toMethodS {w0 : World} (a1 : (List (Int × (List Int) × Int × Int × Int))) (u1 : Value) (g1 : RO [] w0 u1 a1) (rr : (List (Int × (List Int) × Int × Int × Int))) (hF : Q.toMethodS a1 = some rr) :
 Calls Tryz.prog 10 [u1].toArray w0 fun e w' => ∃ v, e = .returned v ∧ Res w0 rr v w' := by
 refine calls_of_W Tryz.func10 rfl rfl ?_
 have hC0 := Ctx.start w0
 unfold Q.toMethodS at hF
 refine W_seq_reg ?_
 refine WL_assign rfl rfl ?_
 refine WL_nil ?_
 refine W_seq_reg ?_
 refine WL_move rfl rfl ?_
 refine WL_len Tryz.underlying23 g1 rfl rfl ?_
 obtain ⟨x1, hx1, hF⟩ := bind_some hF
 refine WL_makeSlice hC0 Tryz.underlying42 ty84 rfl zc84 zr84 hx1 rfl rfl rfl (fun b1 w1 hC1 hB1 => ?_)
 refine WL_assign rfl rfl ?_
 refine WL_nil ?_
 refine W_seq ?_
 refine W_seq_reg ?_
 refine WL_assign rfl rfl ?_
 refine WL_nil ?_
 obtain ⟨r1, hr1, hF⟩ := bind_some hF
 refine W_norm (fun l w => ∃ x4 : (List (Int × (List Int) × Int × Int × Int)), x4 = r1 ∧ l = [(3, (.slice (some ⟨b1, 0, none⟩) (Int.toNat (List.length a1 : Int)) (Int.toNat (List.length a1 : Int))))] ∧ Ctx [] w0 w [Item.own (.slice (some ⟨b1, 0, none⟩) (Int.toNat (List.length a1 : Int)) (Int.toNat (List.length a1 : Int))) (x4 : (List (Int × (List Int) × Int × Int × Int)))]) ?_ ?_
 ·refine W_block ?_
  refine W.sub (l' := [(0, u1), (3, (.slice (some ⟨b1, 0, none⟩) (Int.toNat (List.length a1 : Int)) (Int.toNat (List.length a1 : Int)))), (4, (.int .i64 0))]) ?_ ⟨rfl, rfl, rfl, trivial⟩
  refine W_loop (fun k l w => ∃ x2 : (List (Int × (List Int) × Int × Int × Int)), ∃ x3 : Int, l = [(0, u1), (3, (.slice (some ⟨b1, 0, none⟩) (Int.toNat (List.length a1 : Int)) (Int.toNat (List.length a1 : Int)))), (4, (.int .i64 x3))] ∧ Ctx [] w0 w [Item.own (.slice (some ⟨b1, 0, none⟩) (Int.toNat (List.length a1 : Int)) (Int.toNat (List.length a1 : Int))) (x2 : (List (Int × (List Int) × Int × Int × Int)))] ∧ Q.toMethodS_l1 a1 k x2 x3 = some r1) FUEL ⟨x1, 0, rfl, hC1, hr1⟩ ?_
  clear hr1
  rintro k1 _ w2 ⟨x2, x3, rfl, hC2, hL1⟩
  cases k1 with
  | zero => rw [Q.toMethodS_l1] at hL1; cases hL1
  | succ k1 =>
   rw [Q.toMethodS_l1] at hL1
   refine W_seq ?_
   refine W_seq_reg ?_
   refine WL_move rfl rfl ?_
   refine WL_move rfl rfl ?_
   refine WL_len Tryz.underlying23 g1 rfl rfl ?_
   refine WL_lss rfl rfl rfl ?_
   refine WL_nil ?_
   refine W_cond rfl (fun hc1 => ?_) (fun hc1 => ?_)
   ·replace hL1 := ite_t hL1 hc1
    refine W_skip ?_
    refine nrm_normal ?_
    refine W_seq ?_
    refine W_block ?_
    refine W_reg ?_
    refine WL_move rfl rfl ?_
    refine WL_move rfl rfl ?_
    refine WL_move rfl rfl ?_
    refine WL_move rfl rfl ?_
    obtain ⟨x5, hx2, hL1⟩ := bind_some hL1
    refine WL_index Tryz.underlying23 ty64 g1 hx2 rfl rfl rfl (fun b2 o1 h1 => ?_)
    refine WL_load ty64 h1 hC2.keep rfl rfl (fun v1 h2 => ?_)
    obtain ⟨v2, rfl, h3⟩ := ro_st64 h2
    obtain ⟨x6, hr2, hL1⟩ := bind_some hL1
    refine WL_call Tryz.call38 rfl rfl (c_Q_toMethod x5 v2 (h3.now hC2.keep) x6 hr2) ?_
    rintro v3 w3 ⟨hB3, F1, hv1, hn1, hb1⟩
    have hC3 := hC2.push hB3 (A := Item.own v3 x6) hv1 hn1 hb1
    obtain ⟨v4, rfl, hC4⟩ := st84_own hC3
    obtain ⟨x7, hx3, hL1⟩ := bind_some hL1
    refine WL_index_own hC4 1 rfl Tryz.underlying42 ty84 hx3 rfl rfl rfl (fun b3 hE1 => ?_)
    have hC6 := own_st84 x6.1 v4 x6.2.1 x6.2.2.1 x6.2.2.2.1 x6.2.2.2.2 hC4
    refine WL_store_elem hC6 0 rfl ty84 hE1 hx3 rfl rfl rfl (fun w4 hC5 => ?_)
    try dsimp only [List.set] at hC5
    refine WL_nil ?_
    refine blk_normal ?_
    refine nrm_normal ?_
    refine W_reg ?_
    refine WL_move rfl rfl ?_
    refine WL_add rfl rfl rfl ?_
    refine WL_assign rfl rfl ?_
    refine WL_nil ?_
    refine nrm_sub (l' := [(0, u1), (3, (.slice (some ⟨b1, 0, none⟩) (Int.toNat (List.length a1 : Int)) (Int.toNat (List.length a1 : Int)))), (4, (.int .i64 (w64 (x3 + 1))))]) ⟨rfl, rfl, rfl, trivial⟩ ?_
    exact ⟨k1, Nat.lt_succ_self _, (List.set x2 (Int.toNat x3) (x6.1, x6.2.1, x6.2.2.1, x6.2.2.2.1, x6.2.2.2.2)), w64 (x3 + 1), rfl, hC5, hL1⟩
   replace hL1 := ite_f hL1 hc1
   refine W_exit ?_
   refine nrm_exit ?_
   refine nrm_exit ?_
   refine blk_exit ?_
   have hq1 := Option.some.inj hL1
   subst hq1
   refine nrm_sub (l' := [(3, (.slice (some ⟨b1, 0, none⟩) (Int.toNat (List.length a1 : Int)) (Int.toNat (List.length a1 : Int))))]) ⟨rfl, trivial⟩ ?_
   exact ⟨x2, rfl, rfl, hC2⟩
 rintro l2 _ w5 hs2 ⟨x4, rfl, rfl, hC8⟩
 try dsimp only at hF
 refine nrm_sub' hs2 ?_
 clear hs2
 refine W_seq_reg ?_
 refine WL_move rfl rfl ?_
 refine WL_assign rfl rfl ?_
 refine WL_nil ?_
 refine W_ret ?_
 have hq2 := Option.some.inj hF
 subst hq2
 refine fn_ret1 rfl rfl ?_
 exact ⟨_, rfl, own_res hC8 0 rfl⟩

theorem c_Q_toFact {w0 : World} (a1 : (Int × (List Int))) (u1 : Value) (g1 : RO [] w0 u1 a1.2) (rr : (Int × (List Int))) (hF : Q.toFact a1 = some rr) :
 Calls Tryz.prog 65 [(.agg #[(.int .i64 a1.1), u1])].toArray w0 fun e w' => ∃ v, e = .returned v ∧ Res w0 rr v w' := by
 refine calls_of_W Tryz.func65 rfl rfl ?_
 have hC0 := Ctx.start w0
 unfold Q.toFact at hF
 refine W_seq_reg ?_
 refine WL_box (cs := [(.int .i64 a1.1), u1]) hC0 rfl rfl rfl (fun b1 w1 hC1 hB1 => ?_)
 refine WL_alloc hC1 zero81 rfl rfl (fun b2 w2 hC2 hB2 => ?_)
 refine WL_nil ?_
 refine W_seq_reg ?_
 refine WL_alloc hC2 zero81 rfl rfl (fun b3 w3 hC3 hB3 => ?_)
 refine WL_nil ?_
 refine W_seq_reg ?_
 refine WL_field Tryz.underlying68 rfl rfl (fun w => ⟨_, Tryz.sizeOf3 w⟩) rfl rfl ?_
 refine WL_load_box hC3 2 rfl rfl Tryz.isAgg3 rfl rfl ?_
 refine WL_field Tryz.underlying81 rfl rfl (fun w => ⟨_, Tryz.sizeOf3 w⟩) rfl rfl ?_
 refine WL_store_box (cs' := [(.int .i64 a1.1), (.slice none 0 0)]) hC3 0 rfl rfl rfl rfl Tryz.sizeOf3 rfl rfl (fun w4 hC4 => ?_)
 try dsimp only [List.set] at hC4
 refine WL_nil ?_
 refine W_seq_reg ?_
 refine WL_field Tryz.underlying68 rfl rfl (fun w => ⟨_, Tryz.sizeOf22 w⟩) rfl rfl ?_
 refine WL_load_box hC4 2 rfl rfl Tryz.isAgg22 rfl rfl ?_
 obtain ⟨x1, hr1, hF⟩ := bind_some hF
 refine WL_call Tryz.call9 rfl rfl (c_Q_toIntS a1.2 u1 (g1.now hC4.keep) x1 hr1) ?_
 rintro v1 w5 ⟨hB4, F1, hv1, hn1, hb1⟩
 have hC5 := hC4.push hB4 (A := Item.own v1 x1) hv1 hn1 hb1
 refine WL_field Tryz.underlying81 rfl rfl (fun w => ⟨_, Tryz.sizeOf22 w⟩) rfl rfl ?_
 refine WL_store_box (cs' := [(.int .i64 a1.1), v1]) hC5 1 rfl rfl (ro_one (hC5.ro 0 rfl)) rfl Tryz.sizeOf22 rfl rfl (fun w6 hC6 => ?_)
 try dsimp only [List.set] at hC6
 refine WL_nil ?_
 refine W_seq_reg ?_
 refine WL_load_box_agg [(.int .i64 a1.1), v1] hC6 1 rfl rfl rfl Tryz.isAgg81 Tryz.sizeOf81 rfl rfl ?_
 refine WL_store_box_agg (cs' := [(.int .i64 a1.1), v1]) (new := [(.int .i64 a1.1), v1]) hC6 2 rfl rfl (by intro v hv; simp only [List.mem_cons, List.not_mem_nil, or_false] at hv; rcases hv with rfl | rfl; exact rfl; exact (ro_one (hC6.ro 0 rfl))) rfl Tryz.sizeOf81 rfl rfl (fun w7 hC7 => ?_)
 try dsimp only [List.set] at hC7
 refine WL_nil ?_
 refine W_ret ?_
 have hq1 := Option.some.inj hF
 subst hq1
 refine fn_retG1 rfl (rv_cell_agg (cs' := [(.int .i64 a1.1), v1]) hC7 (i := 2) rfl rfl rfl Tryz.isAgg81 Tryz.sizeOf81 rfl) ?_
 have hC8 := own_st81 a1.1 v1 x1 hC7
 exact ⟨_, rfl, own_res hC8 0 rfl⟩

theorem c_Q_toFactS {w0 : World} (a1 : (List (Int × (List Int)))) (u1 : Value) (g1 : RO [] w0 u1 a1) (rr : (List (Int × (List Int)))) (hF : Q.toFactS a1 = some rr) :
 Calls Tryz.prog 39 [u1].toArray w0 fun e w' => ∃ v, e = .returned v ∧ Res w0 rr v w' := by
 refine calls_of_W Tryz.func39 rfl rfl ?_
 have hC0 := Ctx.start w0
 unfold Q.toFactS at hF
 refine W_seq_reg ?_
 refine WL_assign rfl rfl ?_
 refine WL_nil ?_
 refine W_seq_reg ?_
 refine WL_move rfl rfl ?_
 refine WL_len Tryz.underlying24 g1 rfl rfl ?_
 obtain ⟨x1, hx1, hF⟩ := bind_some hF
 refine WL_makeSlice hC0 Tryz.underlying34 ty81 rfl zc81 zr81 hx1 rfl rfl rfl (fun b1 w1 hC1 hB1 => ?_)
 refine WL_assign rfl rfl ?_
 refine WL_nil ?_
 refine W_seq ?_
 refine W_seq_reg ?_
 refine WL_assign rfl rfl ?_
 refine WL_nil ?_
 obtain ⟨r1, hr1, hF⟩ := bind_some hF
 refine W_norm (fun l w => ∃ x4 : (List (Int × (List Int))), x4 = r1 ∧ l = [(3, (.slice (some ⟨b1, 0, none⟩) (Int.toNat (List.length a1 : Int)) (Int.toNat (List.length a1 : Int))))] ∧ Ctx [] w0 w [Item.own (.slice (some ⟨b1, 0, none⟩) (Int.toNat (List.length a1 : Int)) (Int.toNat (List.length a1 : Int))) (x4 : (List (Int × (List Int))))]) ?_ ?_
 ·refine W_block ?_
  refine W.sub (l' := [(0, u1), (3, (.slice (some ⟨b1, 0, none⟩) (Int.toNat (List.length a1 : Int)) (Int.toNat (List.length a1 : Int)))), (4, (.int .i64 0))]) ?_ ⟨rfl, rfl, rfl, trivial⟩
  refine W_loop (fun k l w => ∃ x2 : (List (Int × (List Int))), ∃ x3 : Int, l = [(0, u1), (3, (.slice (some ⟨b1, 0, none⟩) (Int.toNat (List.length a1 : Int)) (Int.toNat (List.length a1 : Int)))), (4, (.int .i64 x3))] ∧ Ctx [] w0 w [Item.own (.slice (some ⟨b1, 0, none⟩) (Int.toNat (List.length a1 : Int)) (Int.toNat (List.length a1 : Int))) (x2 : (List (Int × (List Int))))] ∧ Q.toFactS_l1 a1 k x2 x3 = some r1) FUEL ⟨x1, 0, rfl, hC1, hr1⟩ ?_
  clear hr1
  rintro k1 _ w2 ⟨x2, x3, rfl, hC2, hL1⟩
  cases k1 with
  | zero => rw [Q.toFactS_l1] at hL1; cases hL1
  | succ k1 =>
   rw [Q.toFactS_l1] at hL1
   refine W_seq ?_
   refine W_seq_reg ?_
   refine WL_move rfl rfl ?_
   refine WL_move rfl rfl ?_
   refine WL_len Tryz.underlying24 g1 rfl rfl ?_
   refine WL_lss rfl rfl rfl ?_
   refine WL_nil ?_
   refine W_cond rfl (fun hc1 => ?_) (fun hc1 => ?_)
   ·replace hL1 := ite_t hL1 hc1
    refine W_skip ?_
    refine nrm_normal ?_
    refine W_seq ?_
    refine W_block ?_
    refine W_reg ?_
    refine WL_move rfl rfl ?_
    refine WL_move rfl rfl ?_
    refine WL_move rfl rfl ?_
    refine WL_move rfl rfl ?_
    obtain ⟨x5, hx2, hL1⟩ := bind_some hL1
    refine WL_index Tryz.underlying24 ty68 g1 hx2 rfl rfl rfl (fun b2 o1 h1 => ?_)
    refine WL_load ty68 h1 hC2.keep rfl rfl (fun v1 h2 => ?_)
    obtain ⟨v2, rfl, h3⟩ := ro_st68 h2
    obtain ⟨x6, hr2, hL1⟩ := bind_some hL1
    refine WL_call Tryz.call65 rfl rfl (c_Q_toFact x5 v2 (h3.now hC2.keep) x6 hr2) ?_
    rintro v3 w3 ⟨hB3, F1, hv1, hn1, hb1⟩
    have hC3 := hC2.push hB3 (A := Item.own v3 x6) hv1 hn1 hb1
    obtain ⟨v4, rfl, hC4⟩ := st81_own hC3
    obtain ⟨x7, hx3, hL1⟩ := bind_some hL1
    refine WL_index_own hC4 1 rfl Tryz.underlying34 ty81 hx3 rfl rfl rfl (fun b3 hE1 => ?_)
    have hC6 := own_st81 x6.1 v4 x6.2 hC4
    refine WL_store_elem hC6 0 rfl ty81 hE1 hx3 rfl rfl rfl (fun w4 hC5 => ?_)
    try dsimp only [List.set] at hC5
    refine WL_nil ?_
    refine blk_normal ?_
    refine nrm_normal ?_
    refine W_reg ?_
    refine WL_move rfl rfl ?_
    refine WL_add rfl rfl rfl ?_
    refine WL_assign rfl rfl ?_
    refine WL_nil ?_
    refine nrm_sub (l' := [(0, u1), (3, (.slice (some ⟨b1, 0, none⟩) (Int.toNat (List.length a1 : Int)) (Int.toNat (List.length a1 : Int)))), (4, (.int .i64 (w64 (x3 + 1))))]) ⟨rfl, rfl, rfl, trivial⟩ ?_
    exact ⟨k1, Nat.lt_succ_self _, (List.set x2 (Int.toNat x3) (x6.1, x6.2)), w64 (x3 + 1), rfl, hC5, hL1⟩
   replace hL1 := ite_f hL1 hc1
   refine W_exit ?_
   refine nrm_exit ?_
   refine nrm_exit ?_
   refine blk_exit ?_
   have hq1 := Option.some.inj hL1
   subst hq1
   refine nrm_sub (l' := [(3, (.slice (some ⟨b1, 0, none⟩) (Int.toNat (List.length a1 : Int)) (Int.toNat (List.length a1 : Int))))]) ⟨rfl, trivial⟩ ?_
   exact ⟨x2, rfl, rfl, hC2⟩
 rintro l2 _ w5 hs2 ⟨x4, rfl, rfl, hC8⟩
 try dsimp only at hF
 refine nrm_sub' hs2 ?_
 clear hs2
 refine W_seq_reg ?_
 refine WL_move rfl rfl ?_
 refine WL_assign rfl rfl ?_
 refine WL_nil ?_
 refine W_ret ?_
 have hq2 := Option.some.inj hF
 subst hq2
 refine fn_ret1 rfl rfl ?_
 exact ⟨_, rfl, own_res hC8 0 rfl⟩

theorem c_Q_toSource {w0 : World} (a1 : ((List (Int × (List Int))) × Int)) (u1 : Value) (g1 : RO [] w0 u1 a1.1) (rr : ((List (Int × (List Int))) × Int)) (hF : Q.toSource a1 = some rr) :
 Calls Tryz.prog 11 [(.agg #[u1, (.int .i64 a1.2)])].toArray w0 fun e w' => ∃ v, e = .returned v ∧ Res w0 rr v w' := by
 refine calls_of_W Tryz.func11 rfl rfl ?_
 have hC0 := Ctx.start w0
 unfold Q.toSource at hF
 refine W_seq_reg ?_
 refine WL_box (cs := [u1, (.int .i64 a1.2)]) hC0 rfl rfl rfl (fun b1 w1 hC1 hB1 => ?_)
 refine WL_alloc hC1 zero38 rfl rfl (fun b2 w2 hC2 hB2 => ?_)
 refine WL_nil ?_
 refine W_seq_reg ?_
 refine WL_alloc hC2 zero38 rfl rfl (fun b3 w3 hC3 hB3 => ?_)
 refine WL_nil ?_
 refine W_seq_reg ?_
 refine WL_field Tryz.underlying26 rfl rfl (fun w => ⟨_, Tryz.sizeOf24 w⟩) rfl rfl ?_
 refine WL_load_box hC3 2 rfl rfl Tryz.isAgg24 rfl rfl ?_
 obtain ⟨x1, hr1, hF⟩ := bind_some hF
 refine WL_call Tryz.call39 rfl rfl (c_Q_toFactS a1.1 u1 (g1.now hC3.keep) x1 hr1) ?_
 rintro v1 w4 ⟨hB4, F1, hv1, hn1, hb1⟩
 have hC4 := hC3.push hB4 (A := Item.own v1 x1) hv1 hn1 hb1
 refine WL_field Tryz.underlying38 rfl rfl (fun w => ⟨_, Tryz.sizeOf34 w⟩) rfl rfl ?_
 refine WL_store_box (cs' := [v1, (.int .i64 0)]) hC4 1 rfl rfl (ro_one (hC4.ro 0 rfl)) rfl Tryz.sizeOf34 rfl rfl (fun w5 hC5 => ?_)
 try dsimp only [List.set] at hC5
 refine WL_nil ?_
 refine W_seq_reg ?_
 refine WL_field Tryz.underlying26 rfl rfl (fun w => ⟨_, Tryz.sizeOf3 w⟩) rfl rfl ?_
 refine WL_load_box hC5 3 rfl rfl Tryz.isAgg3 rfl rfl ?_
 refine WL_field Tryz.underlying38 rfl rfl (fun w => ⟨_, Tryz.sizeOf3 w⟩) rfl rfl ?_
 refine WL_store_box (cs' := [v1, (.int .i64 a1.2)]) hC5 1 rfl rfl rfl rfl Tryz.sizeOf3 rfl rfl (fun w6 hC6 => ?_)
 try dsimp only [List.set] at hC6
 refine WL_nil ?_
 refine W_seq_reg ?_
 refine WL_load_box_agg [v1, (.int .i64 a1.2)] hC6 1 rfl rfl rfl Tryz.isAgg38 Tryz.sizeOf38 rfl rfl ?_
 refine WL_store_box_agg (cs' := [v1, (.int .i64 a1.2)]) (new := [v1, (.int .i64 a1.2)]) hC6 2 rfl rfl (by intro v hv; simp only [List.mem_cons, List.not_mem_nil, or_false] at hv; rcases hv with rfl | rfl; exact (ro_one (hC6.ro 0 rfl)); exact rfl) rfl Tryz.sizeOf38 rfl rfl (fun w7 hC7 => ?_)
 try dsimp only [List.set] at hC7
 refine WL_nil ?_
 refine W_ret ?_
 have hq1 := Option.some.inj hF
 subst hq1
 refine fn_retG1 rfl (rv_cell_agg (cs' := [v1, (.int .i64 a1.2)]) hC7 (i := 2) rfl rfl rfl Tryz.isAgg38 Tryz.sizeOf38 rfl) ?_
 have hC8 := own_st38 v1 x1 a1.2 hC7
 exact ⟨_, rfl, own_res hC8 0 rfl⟩

theorem c_Q_toAccess {w0 : World} (a1 : (Int × (List Int))) (u1 : Value) (g1 : RO [] w0 u1 a1.2) (rr : (Int × (List Int))) (hF : Q.toAccess a1 = some rr) :
 Calls Tryz.prog 12 [(.agg #[(.int .i64 a1.1), u1])].toArray w0 fun e w' => ∃ v, e = .returned v ∧ Res w0 rr v w' := by
 refine calls_of_W Tryz.func12 rfl rfl ?_
 have hC0 := Ctx.start w0
 unfold Q.toAccess at hF
 refine W_seq_reg ?_
 refine WL_box (cs := [(.int .i64 a1.1), u1]) hC0 rfl rfl rfl (fun b1 w1 hC1 hB1 => ?_)
 refine WL_alloc hC1 zero45 rfl rfl (fun b2 w2 hC2 hB2 => ?_)
 refine WL_nil ?_
 refine W_seq_reg ?_
 refine WL_alloc hC2 zero45 rfl rfl (fun b3 w3 hC3 hB3 => ?_)
 refine WL_nil ?_
 refine W_seq_reg ?_
 refine WL_field Tryz.underlying28 rfl rfl (fun w => ⟨_, Tryz.sizeOf3 w⟩) rfl rfl ?_
 refine WL_load_box hC3 2 rfl rfl Tryz.isAgg3 rfl rfl ?_
 refine WL_field Tryz.underlying45 rfl rfl (fun w => ⟨_, Tryz.sizeOf3 w⟩) rfl rfl ?_
 refine WL_store_box (cs' := [(.int .i64 a1.1), (.slice none 0 0)]) hC3 0 rfl rfl rfl rfl Tryz.sizeOf3 rfl rfl (fun w4 hC4 => ?_)
 try dsimp only [List.set] at hC4
 refine WL_nil ?_
 refine W_seq_reg ?_
 refine WL_field Tryz.underlying28 rfl rfl (fun w => ⟨_, Tryz.sizeOf22 w⟩) rfl rfl ?_
 refine WL_load_box hC4 2 rfl rfl Tryz.isAgg22 rfl rfl ?_
 obtain ⟨x1, hr1, hF⟩ := bind_some hF
 refine WL_call Tryz.call9 rfl rfl (c_Q_toIntS a1.2 u1 (g1.now hC4.keep) x1 hr1) ?_
 rintro v1 w5 ⟨hB4, F1, hv1, hn1, hb1⟩
 have hC5 := hC4.push hB4 (A := Item.own v1 x1) hv1 hn1 hb1
 refine WL_field Tryz.underlying45 rfl rfl (fun w => ⟨_, Tryz.sizeOf22 w⟩) rfl rfl ?_
 refine WL_store_box (cs' := [(.int .i64 a1.1), v1]) hC5 1 rfl rfl (ro_one (hC5.ro 0 rfl)) rfl Tryz.sizeOf22 rfl rfl (fun w6 hC6 => ?_)
 try dsimp only [List.set] at hC6
 refine WL_nil ?_
 refine W_seq_reg ?_
 refine WL_load_box_agg [(.int .i64 a1.1), v1] hC6 1 rfl rfl rfl Tryz.isAgg45 Tryz.sizeOf45 rfl rfl ?_
 refine WL_store_box_agg (cs' := [(.int .i64 a1.1), v1]) (new := [(.int .i64 a1.1), v1]) hC6 2 rfl rfl (by intro v hv; simp only [List.mem_cons, List.not_mem_nil, or_false] at hv; rcases hv with rfl | rfl; exact rfl; exact (ro_one (hC6.ro 0 rfl))) rfl Tryz.sizeOf45 rfl rfl (fun w7 hC7 => ?_)
 try dsimp only [List.set] at hC7
 refine WL_nil ?_
 refine W_ret ?_
 have hq1 := Option.some.inj hF
 subst hq1
 refine fn_retG1 rfl (rv_cell_agg (cs' := [(.int .i64 a1.1), v1]) hC7 (i := 2) rfl rfl rfl Tryz.isAgg45 Tryz.sizeOf45 rfl) ?_
 have hC8 := own_st45 a1.1 v1 x1 hC7
 exact ⟨_, rfl, own_res hC8 0 rfl⟩

end Go.Gx.Px
