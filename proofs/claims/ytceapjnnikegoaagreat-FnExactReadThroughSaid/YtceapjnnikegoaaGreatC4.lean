/- The contracts of the Go functions against the pure functions, printed by program. Conditions: each says them. -/
import Derived.Test.YtceapjnnikegoaaGreatC3
set_option linter.unusedVariables false
set_option linter.unusedSimpArgs false
set_option maxRecDepth 100000
set_option maxHeartbeats 4000000
namespace Go.Gx.Px
open Go.Proofs Go.RowKit

theorem c_M_NextPage {w0 : World} (a1 : (List Int)) (u1 : Value) (g1 : RO [] w0 u1 a1) (a2 : (List (Int × (List Int) × Int × Int × Int))) (u2 : Value) (g2 : RO [] w0 u2 a2) (a3 : ((List (Int × (List Int))) × Int)) (u3 : Value) (g3 : RO [] w0 u3 a3.1) (a4 : ((Int × (List Int)) × Int × Int)) (u4 : Value) (g4 : RO [] w0 u4 a4.1.2) (a5 : Int) (rr : ((List (Int × (List Int))) × ((Int × (List Int)) × Int × Int) × Int)) (hF : M.NextPage a1 a2 a3 a4 a5 = some rr) :
 Calls Tryz.prog 45 [u1, u2, (.agg #[u3, (.int .i64 a3.2)]), (.agg #[(.int .i64 a4.1.1), u4, (.int .i64 a4.2.1), (.int .i64 a4.2.2)]), (.int .i64 a5)].toArray w0 fun e w' => ∃ v, e = .returned v ∧ Res3 w0 rr.1 rr.2.1 rr.2.2 v w' := by
 refine calls_of_W Tryz.func45 rfl rfl ?_
 have hC0 := Ctx.start w0
 unfold M.NextPage at hF
 refine W_seq_reg ?_
 refine WL_box (cs := [u3, (.int .i64 a3.2)]) hC0 rfl rfl rfl (fun b1 w1 hC1 hB1 => ?_)
 refine WL_box (cs := [(.int .i64 a4.1.1), u4, (.int .i64 a4.2.1), (.int .i64 a4.2.2)]) hC1 rfl rfl rfl (fun b2 w2 hC2 hB2 => ?_)
 refine WL_assign rfl rfl ?_
 refine WL_alloc hC2 zero73 rfl rfl (fun b3 w3 hC3 hB3 => ?_)
 refine WL_assign rfl rfl ?_
 refine WL_nil ?_
 refine W_seq_reg ?_
 refine WL_load_box_agg [(.int .i64 a4.1.1), u4, (.int .i64 a4.2.1), (.int .i64 a4.2.2)] hC3 1 rfl rfl rfl Tryz.isAgg73 Tryz.sizeOf73 rfl rfl ?_
 obtain ⟨x1, hr1, hF⟩ := bind_some hF
 refine WL_call Tryz.call70 rfl rfl (c_M_copyCursor ((a4.1.1, a4.1.2), a4.2.1, a4.2.2) u4 (g4.now hC3.keep) x1 hr1) ?_
 rintro v1 w4 ⟨hB4, F1, hv1, hn1, hb1⟩
 have hC4 := hC3.push hB4 (A := Item.own v1 x1) hv1 hn1 hb1
 obtain ⟨v2, rfl, hC5⟩ := st73_own hC4
 refine WL_alloc hC5 zero73 rfl rfl (fun b4 w5 hC6 hB5 => ?_)
 refine WL_store_box_agg (cs' := [(.int .i64 x1.1.1), v2, (.int .i64 x1.2.1), (.int .i64 x1.2.2)]) (new := [(.int .i64 x1.1.1), v2, (.int .i64 x1.2.1), (.int .i64 x1.2.2)]) hC6 0 rfl rfl (by intro v hv; simp only [List.mem_cons, List.not_mem_nil, or_false] at hv; rcases hv with rfl | rfl | rfl | rfl; exact rfl; exact (ro_one (hC6.ro 1 rfl)); exact rfl; exact rfl) rfl Tryz.sizeOf73 rfl rfl (fun w6 hC7 => ?_)
 try dsimp only [List.set] at hC7
 refine WL_nil ?_
 refine W_seq ?_
 refine W_block ?_
 obtain ⟨r1, hr2, hF⟩ := bind_some hF
 refine W_cut (fun l w => ∃ x2 : Bool, x2 = r1 ∧ l = [(1, u2), (4, (.int .i64 a5)), (7, (ptr b1 0)), (8, (ptr b2 0)), (11, (ptr b3 0)), (13, (ptr b4 0)), (20, (.bool x2))] ∧ Below w6.heap.size w6 w ∧ Ctx [] w0 w [Item.box b4 [(.int .i64 x1.1.1), v2, (.int .i64 x1.2.1), (.int .i64 x1.2.2)], Item.own v2 (x1.1.2 : (List Int)), Item.box b3 [(.int .i64 0), (.slice none 0 0), (.int .i64 0), (.int .i64 0)], Item.box b2 [(.int .i64 a4.1.1), u4, (.int .i64 a4.2.1), (.int .i64 a4.2.2)], Item.box b1 [u3, (.int .i64 a3.2)]]) ?_ ?_
 ·refine W_reg ?_
  refine WL_move rfl rfl ?_
  refine WL_load_box_agg [u3, (.int .i64 a3.2)] hC7 4 rfl rfl rfl Tryz.isAgg38 Tryz.sizeOf38 rfl rfl ?_
  obtain ⟨x3, hr3, hr2⟩ := bind_some hr2
  refine WL_call Tryz.call67 rfl rfl (c_M_IsSource a1 u1 (g1.now hC7.keep) (a3.1, a3.2) u3 (g3.now hC7.keep) x3 hr3) ?_
  intro _ w9 hv2
  obtain ⟨rfl, hB7⟩ := res_bool hv2
  have hC9 := hC7.grow hB7
  refine WL_not rfl rfl ?_
  refine WL_move rfl rfl ?_
  refine WL_fork (fun hc1 => ?_) (fun hc1 => ?_)
  ·replace hr2 := ite_t hr2 hc1
   refine WL_guard_skip rfl rfl (by simp) rfl ?_
   refine WL_guard_skip rfl rfl (by simp) rfl ?_
   refine WL_guard_skip rfl rfl (by simp) rfl ?_
   refine WL_guard_skip rfl rfl (by simp) rfl ?_
   refine WL_guard_skip rfl rfl (by simp) rfl ?_
   refine WL_guard_skip rfl rfl (by simp) rfl ?_
   refine WL_pick_t rfl rfl rfl ?_
   refine WL_move rfl rfl ?_
   refine WL_guard_skip rfl rfl (by simp) rfl ?_
   refine WL_guard_skip rfl rfl (by simp) rfl ?_
   refine WL_guard_skip rfl rfl (by simp) rfl ?_
   refine WL_pick_t rfl rfl rfl ?_
   refine WL_move rfl rfl ?_
   refine WL_guard_skip rfl rfl (by simp) rfl ?_
   refine WL_guard_skip rfl rfl (by simp) rfl ?_
   refine WL_guard_skip rfl rfl (by simp) rfl ?_
   refine WL_guard_skip rfl rfl (by simp) rfl ?_
   refine WL_pick_t rfl rfl rfl ?_
   refine WL_assign rfl rfl ?_
   refine WL_nil ?_
   have hq1 := Option.some.inj hr2
   subst hq1
   refine nrm_sub (l' := [(1, u2), (4, (.int .i64 a5)), (7, (ptr b1 0)), (8, (ptr b2 0)), (11, (ptr b3 0)), (13, (ptr b4 0)), (20, (.bool true))]) ⟨rfl, rfl, rfl, rfl, rfl, rfl, rfl, trivial⟩ ?_
   exact ⟨true, rfl, rfl, (Keep.of hB7).below, hC9⟩
  replace hr2 := ite_f hr2 hc1
  refine WL_guard rfl rfl ?_
  refine WL_move rfl rfl ?_
  refine WL_guard rfl rfl ?_
  refine WL_move rfl rfl ?_
  refine WL_guard rfl rfl ?_
  refine WL_field Tryz.underlying73 rfl rfl (fun w => ⟨_, Tryz.sizeOf45 w⟩) rfl rfl ?_
  refine WL_guard rfl rfl ?_
  refine WL_load_box_agg [(.int .i64 a4.1.1), u4] hC9 3 rfl rfl rfl Tryz.isAgg45 Tryz.sizeOf45 rfl rfl ?_
  obtain ⟨x4, hr4, hr2⟩ := bind_some hr2
  refine WL_guard rfl rfl ?_
  refine WL_call Tryz.call68 rfl rfl (c_M_IsAccess a1 u1 (g1.now hC9.keep) a2 u2 (g2.now hC9.keep) (a4.1.1, a4.1.2) u4 (g4.now hC9.keep) x4 hr4) ?_
  intro _ w10 hv3
  obtain ⟨rfl, hB8⟩ := res_bool hv3
  have hC10 := hC9.grow hB8
  refine WL_guard rfl rfl ?_
  refine WL_not rfl rfl ?_
  refine WL_pick_f rfl rfl rfl ?_
  refine WL_move rfl rfl ?_
  refine WL_fork (fun hc2 => ?_) (fun hc2 => ?_)
  ·replace hr2 := ite_t hr2 hc2
   refine WL_guard_skip rfl rfl (by simp) rfl ?_
   refine WL_guard_skip rfl rfl (by simp) rfl ?_
   refine WL_guard_skip rfl rfl (by simp) rfl ?_
   refine WL_pick_t rfl rfl rfl ?_
   refine WL_move rfl rfl ?_
   refine WL_guard_skip rfl rfl (by simp) rfl ?_
   refine WL_guard_skip rfl rfl (by simp) rfl ?_
   refine WL_guard_skip rfl rfl (by simp) rfl ?_
   refine WL_guard_skip rfl rfl (by simp) rfl ?_
   refine WL_pick_t rfl rfl rfl ?_
   refine WL_assign rfl rfl ?_
   refine WL_nil ?_
   have hq2 := Option.some.inj hr2
   subst hq2
   refine nrm_sub (l' := [(1, u2), (4, (.int .i64 a5)), (7, (ptr b1 0)), (8, (ptr b2 0)), (11, (ptr b3 0)), (13, (ptr b4 0)), (20, (.bool true))]) ⟨rfl, rfl, rfl, rfl, rfl, rfl, rfl, trivial⟩ ?_
   exact ⟨true, rfl, rfl, ((Keep.of hB7).then hB8).below, hC10⟩
  replace hr2 := ite_f hr2 hc2
  refine WL_guard rfl rfl ?_
  refine WL_move rfl rfl ?_
  obtain ⟨x5, hr5, hr2⟩ := bind_some hr2
  refine WL_guard rfl rfl ?_
  refine WL_call Tryz.call43 rfl rfl (c_M_isPage a5 x5 hr5) ?_
  intro _ w11 hv4
  obtain ⟨rfl, hB9⟩ := res_bool hv4
  have hC11 := hC10.grow hB9
  refine WL_guard rfl rfl ?_
  refine WL_not rfl rfl ?_
  refine WL_pick_f rfl rfl rfl ?_
  refine WL_move rfl rfl ?_
  refine WL_fork (fun hc3 => ?_) (fun hc3 => ?_)
  ·replace hr2 := ite_t hr2 hc3
   refine WL_guard_skip rfl rfl (by simp) rfl ?_
   refine WL_guard_skip rfl rfl (by simp) rfl ?_
   refine WL_guard_skip rfl rfl (by simp) rfl ?_
   refine WL_guard_skip rfl rfl (by simp) rfl ?_
   refine WL_pick_t rfl rfl rfl ?_
   refine WL_assign rfl rfl ?_
   refine WL_nil ?_
   have hq3 := Option.some.inj hr2
   subst hq3
   refine nrm_sub (l' := [(1, u2), (4, (.int .i64 a5)), (7, (ptr b1 0)), (8, (ptr b2 0)), (11, (ptr b3 0)), (13, (ptr b4 0)), (20, (.bool true))]) ⟨rfl, rfl, rfl, rfl, rfl, rfl, rfl, trivial⟩ ?_
   exact ⟨true, rfl, rfl, (((Keep.of hB7).then hB8).then hB9).below, hC11⟩
  replace hr2 := ite_f hr2 hc3
  refine WL_guard rfl rfl ?_
  refine WL_field Tryz.underlying73 rfl rfl (fun w => ⟨_, Tryz.sizeOf3 w⟩) rfl rfl ?_
  refine WL_guard rfl rfl ?_
  refine WL_load_box hC11 3 rfl rfl Tryz.isAgg3 rfl rfl ?_
  obtain ⟨x6, hr6, hr2⟩ := bind_some hr2
  refine WL_guard rfl rfl ?_
  refine WL_call Tryz.call44 rfl rfl (c_M_within a4.2.1 0 1000 x6 hr6) ?_
  intro _ w12 hv5
  obtain ⟨rfl, hB10⟩ := res_bool hv5
  have hC12 := hC11.grow hB10
  refine WL_guard rfl rfl ?_
  refine WL_not rfl rfl ?_
  refine WL_pick_f rfl rfl rfl ?_
  refine WL_assign rfl rfl ?_
  refine WL_nil ?_
  have hq4 := Option.some.inj hr2
  subst hq4
  refine nrm_sub (l' := [(1, u2), (4, (.int .i64 a5)), (7, (ptr b1 0)), (8, (ptr b2 0)), (11, (ptr b3 0)), (13, (ptr b4 0)), (20, (.bool (!x6)))]) ⟨rfl, rfl, rfl, rfl, rfl, rfl, rfl, trivial⟩ ?_
  exact ⟨(!x6), rfl, rfl, ((((Keep.of hB7).then hB8).then hB9).then hB10).below, hC12⟩
 rintro _ w7 ⟨x2, rfl, rfl, hB6, hC8⟩
 try dsimp only at hF
 refine W_cond rfl (fun hc4 => ?_) (fun hc4 => ?_)
 ·replace hF := ite_t hF hc4
  refine W_seq ?_
  refine W_drawn 4 rfl hmix (fun w13 hB11 => ?_)
  have hC13 := hC8.grow hB11
  refine WA_tk 1 (by kernel_rfl) rfl rfl (fl_assign rfl) ?_
  refine WL_assign rfl rfl ?_
  refine WL_nil ?_
  refine WA_one 0 (by kernel_rfl) rfl ?_
  refine WL_load_box_agg [(.int .i64 x1.1.1), v2, (.int .i64 x1.2.1), (.int .i64 x1.2.2)] hC13 0 rfl rfl rfl Tryz.isAgg73 Tryz.sizeOf73 rfl rfl ?_
  refine WL_nil ?_
  refine WA_one 2 (by kernel_rfl) rfl ?_
  refine WL_store_box_agg (cs' := [(.int .i64 x1.1.1), v2, (.int .i64 x1.2.1), (.int .i64 x1.2.2)]) (new := [(.int .i64 x1.1.1), v2, (.int .i64 x1.2.1), (.int .i64 x1.2.2)]) hC13 2 rfl rfl (by intro v hv; simp only [List.mem_cons, List.not_mem_nil, or_false] at hv; rcases hv with rfl | rfl | rfl | rfl; exact rfl; exact (ro_one (hC13.ro 1 rfl)); exact rfl; exact rfl) rfl Tryz.sizeOf73 rfl rfl (fun w14 hC14 => ?_)
  try dsimp only [List.set] at hC14
  refine WL_nil ?_
  refine WA_tk 3 (by kernel_rfl) rfl rfl (fl_assign rfl) ?_
  refine WL_assign rfl rfl ?_
  refine WL_nil ?_
  refine WA_done (by kernel_rfl) ?_
  refine nrm_normal ?_
  refine W_ret ?_
  refine blk_ret ?_
  refine nrm_ret ?_
  have hq5 := Option.some.inj hF
  subst hq5
  refine fn_retG3 rfl (rv_tmp rfl) (rv_cell_agg (cs' := [(.int .i64 x1.1.1), v2, (.int .i64 x1.2.1), (.int .i64 x1.2.2)]) hC14 (i := 2) rfl rfl rfl Tryz.isAgg73 Tryz.sizeOf73 rfl) (rv_tmp rfl) ?_
  have hC15 := hC14.triv (int_val (3))
  have hC17 := hC15.f2
  have hC16 := own_st73 x1.1.1 v2 x1.1.2 x1.2.1 x1.2.2 hC17
  have hC18 := hC16.triv (nil_val (α := (Int × (List Int))))
  exact ⟨_, rfl, res3_of hC18⟩
 replace hF := ite_f hF hc4
 refine W_seq_reg ?_
 refine WL_field Tryz.underlying73 rfl rfl (fun w => ⟨_, Tryz.sizeOf3 w⟩) rfl rfl ?_
 refine WL_load_box hC8 3 rfl rfl Tryz.isAgg3 rfl rfl ?_
 refine WL_field Tryz.underlying38 rfl rfl (fun w => ⟨_, Tryz.sizeOf3 w⟩) rfl rfl ?_
 refine WL_load_box hC8 4 rfl rfl Tryz.isAgg3 rfl rfl ?_
 refine WL_neq rfl rfl rfl ?_
 refine WL_assign rfl rfl ?_
 refine WL_nil ?_
 refine W_cond rfl (fun hc5 => ?_) (fun hc5 => ?_)
 ·replace hF := ite_t hF hc5
  refine W_seq ?_
  refine W_drawn 4 rfl hmix (fun w15 hB12 => ?_)
  have hC19 := hC8.grow hB12
  refine WA_tk 1 (by kernel_rfl) rfl rfl (fl_assign rfl) ?_
  refine WL_assign rfl rfl ?_
  refine WL_nil ?_
  refine WA_one 0 (by kernel_rfl) rfl ?_
  refine WL_load_box_agg [(.int .i64 x1.1.1), v2, (.int .i64 x1.2.1), (.int .i64 x1.2.2)] hC19 0 rfl rfl rfl Tryz.isAgg73 Tryz.sizeOf73 rfl rfl ?_
  refine WL_nil ?_
  refine WA_one 2 (by kernel_rfl) rfl ?_
  refine WL_store_box_agg (cs' := [(.int .i64 x1.1.1), v2, (.int .i64 x1.2.1), (.int .i64 x1.2.2)]) (new := [(.int .i64 x1.1.1), v2, (.int .i64 x1.2.1), (.int .i64 x1.2.2)]) hC19 2 rfl rfl (by intro v hv; simp only [List.mem_cons, List.not_mem_nil, or_false] at hv; rcases hv with rfl | rfl | rfl | rfl; exact rfl; exact (ro_one (hC19.ro 1 rfl)); exact rfl; exact rfl) rfl Tryz.sizeOf73 rfl rfl (fun w16 hC20 => ?_)
  try dsimp only [List.set] at hC20
  refine WL_nil ?_
  refine WA_tk 3 (by kernel_rfl) rfl rfl (fl_assign rfl) ?_
  refine WL_assign rfl rfl ?_
  refine WL_nil ?_
  refine WA_done (by kernel_rfl) ?_
  refine nrm_normal ?_
  refine W_ret ?_
  refine blk_ret ?_
  refine nrm_ret ?_
  have hq6 := Option.some.inj hF
  subst hq6
  refine fn_retG3 rfl (rv_tmp rfl) (rv_cell_agg (cs' := [(.int .i64 x1.1.1), v2, (.int .i64 x1.2.1), (.int .i64 x1.2.2)]) hC20 (i := 2) rfl rfl rfl Tryz.isAgg73 Tryz.sizeOf73 rfl) (rv_tmp rfl) ?_
  have hC21 := hC20.triv (int_val (2))
  have hC23 := hC21.f2
  have hC22 := own_st73 x1.1.1 v2 x1.1.2 x1.2.1 x1.2.2 hC23
  have hC24 := hC22.triv (nil_val (α := (Int × (List Int))))
  exact ⟨_, rfl, res3_of hC24⟩
 replace hF := ite_f hF hc5
 refine W_skip ?_
 refine blk_normal ?_
 refine nrm_normal ?_
 refine W_seq_reg ?_
 refine WL_move rfl rfl ?_
 refine WL_field Tryz.underlying38 rfl rfl (fun w => ⟨_, Tryz.sizeOf34 w⟩) rfl rfl ?_
 refine WL_load_box hC8 4 rfl rfl Tryz.isAgg34 rfl rfl ?_
 refine WL_field Tryz.underlying73 rfl rfl (fun w => ⟨_, Tryz.sizeOf45 w⟩) rfl rfl ?_
 refine WL_load_box_agg [(.int .i64 a4.1.1), u4] hC8 3 rfl rfl rfl Tryz.isAgg45 Tryz.sizeOf45 rfl rfl ?_
 obtain ⟨x7, hr7, hF⟩ := bind_some hF
 refine WL_call Tryz.call71 rfl rfl (c_M_matches a2 u2 (g2.now hC8.keep) a3.1 u3 (g3.now hC8.keep) (a4.1.1, a4.1.2) u4 (g4.now hC8.keep) x7 hr7) ?_
 rintro v3 w17 ⟨hB13, F2, hv6, hn2, hb2⟩
 have hC25 := hC8.push hB13 (A := Item.own v3 x7) hv6 hn2 hb2
 refine WL_assign rfl rfl ?_
 refine WL_nil ?_
 refine W_seq_reg ?_
 refine WL_move rfl rfl ?_
 refine WL_field Tryz.underlying73 rfl rfl (fun w => ⟨_, Tryz.sizeOf3 w⟩) rfl rfl ?_
 refine WL_load_box hC25 4 rfl rfl Tryz.isAgg3 rfl rfl ?_
 refine WL_move rfl rfl ?_
 obtain ⟨x8, hr8, hF⟩ := bind_some hF
 refine WL_call Tryz.call72 rfl rfl (c_M_PageAt x7 v3 ((hC25.ro 0 rfl).now (Keep.refl _ _)) a4.2.1 a5 x8 hr8) ?_
 rintro _ w18 ⟨hB14, v4, v5, v6, F3, F4, F5, rfl, hv7, hv8, hv9, hn3, hb3⟩
 obtain ⟨rfl, rfl⟩ := val_int hv8
 obtain ⟨rfl, rfl⟩ := val_bool hv9
 have hC26 := hC25.pushL hB14 (Bs := [Item.own v4 x8.1]) (Fs := [F3]) ⟨F3, _, rfl, hv7, rfl⟩ (by simpa using hn3) (fun b h => hb3 b (by simpa using h))
 refine WL_move rfl rfl ?_
 refine WL_extract rfl rfl rfl ?_
 refine WL_extract rfl rfl rfl ?_
 refine WL_extract rfl rfl rfl ?_
 refine WL_assign rfl rfl ?_
 refine WL_assign rfl rfl ?_
 refine WL_assign rfl rfl ?_
 refine WL_nil ?_
 refine W_seq ?_
 refine W_seq_reg ?_
 refine WL_move rfl rfl ?_
 refine WL_not rfl rfl ?_
 refine WL_nil ?_
 refine W_cond rfl (fun hc6 => ?_) (fun hc6 => ?_)
 ·replace hF := ite_t hF hc6
  refine W_seq ?_
  refine W_drawn 4 rfl hmix (fun w19 hB15 => ?_)
  have hC27 := hC26.grow hB15
  refine WA_tk 1 (by kernel_rfl) rfl rfl (fl_assign rfl) ?_
  refine WL_assign rfl rfl ?_
  refine WL_nil ?_
  refine WA_one 0 (by kernel_rfl) rfl ?_
  refine WL_load_box_agg [(.int .i64 x1.1.1), v2, (.int .i64 x1.2.1), (.int .i64 x1.2.2)] hC27 2 rfl rfl rfl Tryz.isAgg73 Tryz.sizeOf73 rfl rfl ?_
  refine WL_nil ?_
  refine WA_one 2 (by kernel_rfl) rfl ?_
  refine WL_store_box_agg (cs' := [(.int .i64 x1.1.1), v2, (.int .i64 x1.2.1), (.int .i64 x1.2.2)]) (new := [(.int .i64 x1.1.1), v2, (.int .i64 x1.2.1), (.int .i64 x1.2.2)]) hC27 4 rfl rfl (by intro v hv; simp only [List.mem_cons, List.not_mem_nil, or_false] at hv; rcases hv with rfl | rfl | rfl | rfl; exact rfl; exact (ro_one (hC27.ro 3 rfl)); exact rfl; exact rfl) rfl Tryz.sizeOf73 rfl rfl (fun w20 hC28 => ?_)
  try dsimp only [List.set] at hC28
  refine WL_nil ?_
  refine WA_tk 3 (by kernel_rfl) rfl rfl (fl_assign rfl) ?_
  refine WL_assign rfl rfl ?_
  refine WL_nil ?_
  refine WA_done (by kernel_rfl) ?_
  refine nrm_normal ?_
  refine W_ret ?_
  refine nrm_ret ?_
  have hq7 := Option.some.inj hF
  subst hq7
  refine fn_retG3 rfl (rv_tmp rfl) (rv_cell_agg (cs' := [(.int .i64 x1.1.1), v2, (.int .i64 x1.2.1), (.int .i64 x1.2.2)]) hC28 (i := 4) rfl rfl rfl Tryz.isAgg73 Tryz.sizeOf73 rfl) (rv_tmp rfl) ?_
  have hC29 := hC28.triv (int_val (3))
  have hC31 := hC29.f4
  have hC30 := own_st73 x1.1.1 v2 x1.1.2 x1.2.1 x1.2.2 hC31
  have hC32 := hC30.triv (nil_val (α := (Int × (List Int))))
  exact ⟨_, rfl, res3_of hC32⟩
 replace hF := ite_f hF hc6
 refine W_skip ?_
 refine nrm_normal ?_
 refine W_seq_reg ?_
 refine WL_move rfl rfl ?_
 refine WL_field Tryz.underlying73 rfl rfl (fun w => ⟨_, Tryz.sizeOf3 w⟩) rfl rfl ?_
 refine WL_store_box (cs' := [(.int .i64 x1.1.1), v2, (.int .i64 x8.2.1), (.int .i64 x1.2.2)]) hC26 2 rfl rfl rfl rfl Tryz.sizeOf3 rfl rfl (fun w21 hC33 => ?_)
 try dsimp only [List.set] at hC33
 refine WL_nil ?_
 refine W_seq ?_
 refine W_seq_reg ?_
 refine WL_move rfl rfl ?_
 refine WL_move rfl rfl ?_
 refine WL_len Tryz.underlying34 (hC33.ro 1 rfl) rfl rfl ?_
 refine WL_eql rfl rfl rfl ?_
 refine WL_nil ?_
 refine W_cond rfl (fun hc7 => ?_) (fun hc7 => ?_)
 ·replace hF := ite_t hF hc7
  refine W_seq ?_
  refine W_drawn 5 rfl hmix (fun w22 hB16 => ?_)
  have hC34 := hC33.grow hB16
  refine WA_tk 0 (by kernel_rfl) rfl rfl (fl_move rfl) ?_
  refine WL_move rfl rfl ?_
  refine WL_nil ?_
  refine WA_tk 2 (by kernel_rfl) rfl rfl (fl_assign rfl) ?_
  refine WL_assign rfl rfl ?_
  refine WL_nil ?_
  refine WA_one 1 (by kernel_rfl) rfl ?_
  refine WL_load_box_agg [(.int .i64 x1.1.1), v2, (.int .i64 x8.2.1), (.int .i64 x1.2.2)] hC34 2 rfl rfl rfl Tryz.isAgg73 Tryz.sizeOf73 rfl rfl ?_
  refine WL_nil ?_
  refine WA_one 3 (by kernel_rfl) rfl ?_
  refine WL_store_box_agg (cs' := [(.int .i64 x1.1.1), v2, (.int .i64 x8.2.1), (.int .i64 x1.2.2)]) (new := [(.int .i64 x1.1.1), v2, (.int .i64 x8.2.1), (.int .i64 x1.2.2)]) hC34 4 rfl rfl (by intro v hv; simp only [List.mem_cons, List.not_mem_nil, or_false] at hv; rcases hv with rfl | rfl | rfl | rfl; exact rfl; exact (ro_one (hC34.ro 3 rfl)); exact rfl; exact rfl) rfl Tryz.sizeOf73 rfl rfl (fun w23 hC35 => ?_)
  try dsimp only [List.set] at hC35
  refine WL_nil ?_
  refine WA_tk 4 (by kernel_rfl) rfl rfl (fl_assign rfl) ?_
  refine WL_assign rfl rfl ?_
  refine WL_nil ?_
  refine WA_done (by kernel_rfl) ?_
  refine nrm_normal ?_
  refine W_ret ?_
  refine nrm_ret ?_
  have hq8 := Option.some.inj hF
  subst hq8
  refine fn_retG3 rfl (rv_tmp rfl) (rv_cell_agg (cs' := [(.int .i64 x1.1.1), v2, (.int .i64 x8.2.1), (.int .i64 x1.2.2)]) hC35 (i := 4) rfl rfl rfl Tryz.isAgg73 Tryz.sizeOf73 rfl) (rv_tmp rfl) ?_
  have hC36 := hC35.triv (int_val (1))
  have hC38 := hC36.f4
  have hC37 := own_st73 x1.1.1 v2 x1.1.2 x8.2.1 x1.2.2 hC38
  have hC39 := hC37.f2
  exact ⟨_, rfl, res3_of hC39⟩
 replace hF := ite_f hF hc7
 refine W_skip ?_
 refine nrm_normal ?_
 refine W_seq ?_
 refine W_drawn 5 rfl hmix (fun w24 hB17 => ?_)
 have hC40 := hC33.grow hB17
 refine WA_tk 0 (by kernel_rfl) rfl rfl (fl_move rfl) ?_
 refine WL_move rfl rfl ?_
 refine WL_nil ?_
 refine WA_tk 2 (by kernel_rfl) rfl rfl (fl_assign rfl) ?_
 refine WL_assign rfl rfl ?_
 refine WL_nil ?_
 refine WA_one 1 (by kernel_rfl) rfl ?_
 refine WL_load_box_agg [(.int .i64 x1.1.1), v2, (.int .i64 x8.2.1), (.int .i64 x1.2.2)] hC40 2 rfl rfl rfl Tryz.isAgg73 Tryz.sizeOf73 rfl rfl ?_
 refine WL_nil ?_
 refine WA_one 3 (by kernel_rfl) rfl ?_
 refine WL_store_box_agg (cs' := [(.int .i64 x1.1.1), v2, (.int .i64 x8.2.1), (.int .i64 x1.2.2)]) (new := [(.int .i64 x1.1.1), v2, (.int .i64 x8.2.1), (.int .i64 x1.2.2)]) hC40 4 rfl rfl (by intro v hv; simp only [List.mem_cons, List.not_mem_nil, or_false] at hv; rcases hv with rfl | rfl | rfl | rfl; exact rfl; exact (ro_one (hC40.ro 3 rfl)); exact rfl; exact rfl) rfl Tryz.sizeOf73 rfl rfl (fun w25 hC41 => ?_)
 try dsimp only [List.set] at hC41
 refine WL_nil ?_
 refine WA_tk 4 (by kernel_rfl) rfl rfl (fl_assign rfl) ?_
 refine WL_assign rfl rfl ?_
 refine WL_nil ?_
 refine WA_done (by kernel_rfl) ?_
 refine nrm_normal ?_
 refine W_ret ?_
 have hq9 := Option.some.inj hF
 subst hq9
 refine fn_retG3 rfl (rv_tmp rfl) (rv_cell_agg (cs' := [(.int .i64 x1.1.1), v2, (.int .i64 x8.2.1), (.int .i64 x1.2.2)]) hC41 (i := 4) rfl rfl rfl Tryz.isAgg73 Tryz.sizeOf73 rfl) (rv_tmp rfl) ?_
 have hC42 := hC41.triv (int_val (0))
 have hC44 := hC42.f4
 have hC43 := own_st73 x1.1.1 v2 x1.1.2 x8.2.1 x1.2.2 hC44
 have hC45 := hC43.f2
 exact ⟨_, rfl, res3_of hC45⟩

theorem c_M_HasFact_c1 {w0 : World} (a1 : (Int × (List Int))) (u1 : Value) (g1 : RO [] w0 u1 a1.2) (pb1 : Nat) (ax1 : (Int × (List Int))) (g2 : ROAt [] w0 pb1 0 ax1) (rr : Bool) (hF : M.HasFact_c1 a1 ax1 = some rr) :
 Calls Tryz.prog 92 [(.agg #[(.int .i64 a1.1), u1]), (ptr pb1 0)].toArray w0 fun e w' => ∃ v, e = .returned v ∧ Res w0 rr v w' := by
 refine calls_of_W Tryz.func92 rfl rfl ?_
 have hC0 := Ctx.start w0
 unfold M.HasFact_c1 at hF
 refine W_seq_reg ?_
 refine WL_box (cs := [(.int .i64 a1.1), u1]) hC0 rfl rfl rfl (fun b1 w1 hC1 hB1 => ?_)
 refine WL_assign rfl rfl ?_
 refine WL_nil ?_
 refine W_seq_reg ?_
 refine WL_load_box_agg [(.int .i64 a1.1), u1] hC1 0 rfl rfl rfl Tryz.isAgg81 Tryz.sizeOf81 rfl rfl ?_
 refine WL_load ty81 g2 hC1.keep rfl rfl (fun v1 h1 => ?_)
 obtain ⟨v2, rfl, h2⟩ := ro_st81 h1
 obtain ⟨x1, hr1, hF⟩ := bind_some hF
 refine WL_call Tryz.call78 rfl rfl (c_M_CompareFacts (a1.1, a1.2) u1 (g1.now hC1.keep) ax1 v2 (h2.now hC1.keep) x1 hr1) ?_
 intro _ w2 hv1
 obtain ⟨rfl, hB2⟩ := res_int hv1
 have hC2 := hC1.grow hB2
 refine WL_eql rfl rfl rfl ?_
 refine WL_assign rfl rfl ?_
 refine WL_nil ?_
 refine W_ret ?_
 have hq1 := Option.some.inj hF
 subst hq1
 refine fn_ret1 rfl rfl ?_
 exact ⟨_, rfl, bool_res hC2 _⟩

theorem c_Slices_IndexFunc_Limpl_Fact_impl_Fact_M_HasFact_c1 {w0 : World} (a1 : (List (Int × (List Int)))) (u1 : Value) (g1 : RO [] w0 u1 a1) (pb1 : Nat) (ax1 : (Int × (List Int))) (g2 : ROAt [] w0 pb1 0 ax1) (rr : Int) (hF : Slices.IndexFunc_Limpl_Fact_impl_Fact_M_HasFact_c1 a1 ax1 = some rr) :
 Calls Tryz.prog 94 [u1, (.func (.func 92) #[] #[(ptr pb1 0)])].toArray w0 fun e w' => ∃ v, e = .returned v ∧ Res w0 rr v w' := by
 refine calls_of_W Tryz.func94 rfl rfl ?_
 have hC0 := Ctx.start w0
 unfold Slices.IndexFunc_Limpl_Fact_impl_Fact_M_HasFact_c1 at hF
 refine W_seq_reg ?_
 refine WL_assign rfl rfl ?_
 refine WL_nil ?_
 refine W_seq ?_
 refine W_seq_reg ?_
 refine WL_move rfl rfl ?_
 refine WL_len Tryz.underlying34 g1 rfl rfl ?_
 refine WL_move rfl rfl ?_
 refine WL_nil ?_
 obtain ⟨r1, hr1, hF⟩ := bind_some hF
 refine W_norm (fun l w => .inl () = r1 ∧ l = [] ∧ Below w0.heap.size w0 w ∧ Ctx [] w0 w []) ?_ ?_
 ·refine W_block ?_
  refine W.sub (l' := [(0, u1), (1, (.func (.func 92) #[] #[(ptr pb1 0)])), (7, (.int .i64 (List.length a1 : Int))), (8, (.int .i64 0))]) ?_ ⟨rfl, rfl, rfl, rfl, trivial⟩
  refine W_loop (fun k l w => ∃ x1 : Int, l = [(0, u1), (1, (.func (.func 92) #[] #[(ptr pb1 0)])), (7, (.int .i64 (List.length a1 : Int))), (8, (.int .i64 x1))] ∧ Below w0.heap.size w0 w ∧ Ctx [] w0 w [] ∧ Slices.IndexFunc_Limpl_Fact_impl_Fact_M_HasFact_c1_l1 a1 ax1 k x1 = some r1) FUEL ⟨0, rfl, (Below.refl _ _), hC0, hr1⟩ ?_
  clear hr1
  rintro k1 _ w1 ⟨x1, rfl, hB1, hC1, hL1⟩
  cases k1 with
  | zero => rw [Slices.IndexFunc_Limpl_Fact_impl_Fact_M_HasFact_c1_l1] at hL1; cases hL1
  | succ k1 =>
   rw [Slices.IndexFunc_Limpl_Fact_impl_Fact_M_HasFact_c1_l1] at hL1
   refine W_seq_reg ?_
   refine WL_lss rfl rfl rfl ?_
   refine WL_nil ?_
   refine W_seq ?_
   refine W_cond rfl (fun hc1 => ?_) (fun hc1 => ?_)
   ·replace hL1 := ite_t hL1 hc1
    refine W_skip ?_
    refine nrm_normal ?_
    refine W_seq ?_
    refine W_block ?_
    refine W_seq_reg ?_
    refine WL_move rfl rfl ?_
    refine WL_assign rfl rfl ?_
    refine WL_nil ?_
    refine W_seq_reg ?_
    refine WL_move rfl rfl ?_
    refine WL_move rfl rfl ?_
    refine WL_move rfl rfl ?_
    obtain ⟨x2, hx1, hL1⟩ := bind_some hL1
    refine WL_index Tryz.underlying34 ty81 g1 hx1 rfl rfl rfl (fun b1 o1 h1 => ?_)
    refine WL_load ty81 h1 hC1.keep rfl rfl (fun v1 h2 => ?_)
    obtain ⟨v2, rfl, h3⟩ := ro_st81 h2
    obtain ⟨x3, hr2, hL1⟩ := bind_some hL1
    refine WL_callv (cap := [(ptr pb1 0)]) Tryz.call92 rfl rfl rfl (c_M_HasFact_c1 x2 v2 (h3.now hC1.keep) pb1 ax1 (g2.now hC1.keep) x3 hr2) ?_
    intro _ w2 hv1
    obtain ⟨rfl, hB2⟩ := res_bool hv1
    have hC2 := hC1.grow hB2
    refine WL_nil ?_
    refine W_cond rfl (fun hc2 => ?_) (fun hc2 => ?_)
    ·replace hL1 := ite_t hL1 hc2
     refine W_seq_reg ?_
     refine WL_move rfl rfl ?_
     refine WL_assign rfl rfl ?_
     refine WL_nil ?_
     refine W_ret ?_
     refine blk_ret ?_
     refine nrm_ret ?_
     refine nrm_ret ?_
     refine blk_ret ?_
     refine nrm_ret ?_
     refine nrm_ret ?_
     have hq1 := Option.some.inj hL1
     subst hq1
     dsimp only at hF
     have hq2 := Option.some.inj hF
     subst hq2
     refine fn_ret1 rfl rfl ?_
     exact ⟨_, rfl, int_res hC2 _⟩
    replace hL1 := ite_f hL1 hc2
    refine W_skip ?_
    refine blk_normal ?_
    refine nrm_normal ?_
    refine W_reg ?_
    refine WL_add rfl rfl rfl ?_
    refine WL_move rfl rfl ?_
    refine WL_nil ?_
    refine nrm_sub (l' := [(0, u1), (1, (.func (.func 92) #[] #[(ptr pb1 0)])), (7, (.int .i64 (List.length a1 : Int))), (8, (.int .i64 (w64 (x1 + 1))))]) ⟨rfl, rfl, rfl, rfl, trivial⟩ ?_
    exact ⟨k1, Nat.lt_succ_self _, w64 (x1 + 1), rfl, ((Keep.of hB1).then hB2).below, hC2, hL1⟩
   replace hL1 := ite_f hL1 hc1
   refine W_exit ?_
   refine nrm_exit ?_
   refine nrm_exit ?_
   refine blk_exit ?_
   have hq3 := Option.some.inj hL1
   subst hq3
   refine nrm_sub (l' := []) trivial ?_
   exact ⟨rfl, rfl, (Keep.of hB1).below, hC1⟩
 rintro l2 _ w3 hs2 ⟨rfl, rfl, hB3, hC3⟩
 try dsimp only at hF
 refine nrm_sub' hs2 ?_
 clear hs2
 refine W_seq_reg ?_
 refine WL_assign rfl rfl ?_
 refine WL_nil ?_
 refine W_ret ?_
 have hq4 := Option.some.inj hF
 subst hq4
 refine fn_ret1 rfl rfl ?_
 exact ⟨_, rfl, int_res hC3 _⟩

theorem c_Slices_ContainsFunc_Limpl_Fact_impl_Fact_M_HasFact_c1 {w0 : World} (a1 : (List (Int × (List Int)))) (u1 : Value) (g1 : RO [] w0 u1 a1) (pb1 : Nat) (ax1 : (Int × (List Int))) (g2 : ROAt [] w0 pb1 0 ax1) (rr : Bool) (hF : Slices.ContainsFunc_Limpl_Fact_impl_Fact_M_HasFact_c1 a1 ax1 = some rr) :
 Calls Tryz.prog 91 [u1, (.func (.func 92) #[] #[(ptr pb1 0)])].toArray w0 fun e w' => ∃ v, e = .returned v ∧ Res w0 rr v w' := by
 refine calls_of_W Tryz.func91 rfl rfl ?_
 have hC0 := Ctx.start w0
 unfold Slices.ContainsFunc_Limpl_Fact_impl_Fact_M_HasFact_c1 at hF
 refine W_seq_reg ?_
 refine WL_assign rfl rfl ?_
 refine WL_nil ?_
 refine W_seq_reg ?_
 refine WL_move rfl rfl ?_
 refine WL_move rfl rfl ?_
 obtain ⟨x1, hr1, hF⟩ := bind_some hF
 refine WL_call Tryz.call94 rfl rfl (c_Slices_IndexFunc_Limpl_Fact_impl_Fact_M_HasFact_c1 a1 u1 (g1.now hC0.keep) pb1 ax1 (g2.now hC0.keep) x1 hr1) ?_
 intro _ w1 hv1
 obtain ⟨rfl, hB1⟩ := res_int hv1
 have hC1 := hC0.grow hB1
 refine WL_geq rfl rfl rfl ?_
 refine WL_assign rfl rfl ?_
 refine WL_nil ?_
 refine W_ret ?_
 have hq1 := Option.some.inj hF
 subst hq1
 refine fn_ret1 rfl rfl ?_
 exact ⟨_, rfl, bool_res hC1 _⟩

theorem c_M_HasFact {w0 : World} (a1 : (List (Int × (List Int)))) (u1 : Value) (g1 : RO [] w0 u1 a1) (a2 : (Int × (List Int))) (u2 : Value) (g2 : RO [] w0 u2 a2.2) (rr : Bool) (hF : M.HasFact a1 a2 = some rr) :
 Calls Tryz.prog 73 [u1, (.agg #[(.int .i64 a2.1), u2])].toArray w0 fun e w' => ∃ v, e = .returned v ∧ Res w0 rr v w' := by
 refine calls_of_W Tryz.func73 rfl rfl ?_
 have hC0 := Ctx.start w0
 unfold M.HasFact at hF
 refine W_seq_reg ?_
 refine WL_box (cs := [(.int .i64 a2.1), u2]) hC0 rfl rfl rfl (fun b1 w1 hC1 hB1 => ?_)
 refine WL_assign rfl rfl ?_
 refine WL_nil ?_
 refine W_seq_reg ?_
 refine WL_move rfl rfl ?_
 refine WL_makeFunc rfl rfl ?_
 obtain ⟨x1, hr1, hF⟩ := bind_some hF
 refine WL_call Tryz.call91 rfl rfl (c_Slices_ContainsFunc_Limpl_Fact_impl_Fact_M_HasFact_c1 a1 u1 (g1.now hC1.keep) b1 (a2.1, a2.2) (hC1.boxAt 0 rfl (repw_pair repw_int (repw_slice (g2.now hC1.keep)))) x1 hr1) ?_
 intro _ w2 hv1
 obtain ⟨rfl, hB2⟩ := res_bool hv1
 have hC2 := hC1.grow hB2
 refine WL_assign rfl rfl ?_
 refine WL_nil ?_
 refine W_ret ?_
 have hq1 := Option.some.inj hF
 subst hq1
 refine fn_ret1 rfl rfl ?_
 exact ⟨_, rfl, bool_res hC2 _⟩

theorem c_M_added_c1 {w0 : World} (a1 : (Int × (List Int))) (u1 : Value) (g1 : RO [] w0 u1 a1.2) (pb1 : Nat) (ax1 : (Int × (List Int))) (g2 : ROAt [] w0 pb1 0 ax1) (rr : Bool) (hF : M.added_c1 a1 ax1 = some rr) :
 Calls Tryz.prog 95 [(.agg #[(.int .i64 a1.1), u1]), (ptr pb1 0)].toArray w0 fun e w' => ∃ v, e = .returned v ∧ Res w0 rr v w' := by
 refine calls_of_W Tryz.func95 rfl rfl ?_
 have hC0 := Ctx.start w0
 unfold M.added_c1 at hF
 refine W_seq_reg ?_
 refine WL_box (cs := [(.int .i64 a1.1), u1]) hC0 rfl rfl rfl (fun b1 w1 hC1 hB1 => ?_)
 refine WL_assign rfl rfl ?_
 refine WL_nil ?_
 refine W_seq_reg ?_
 refine WL_load_box_agg [(.int .i64 a1.1), u1] hC1 0 rfl rfl rfl Tryz.isAgg81 Tryz.sizeOf81 rfl rfl ?_
 refine WL_load ty81 g2 hC1.keep rfl rfl (fun v1 h1 => ?_)
 obtain ⟨v2, rfl, h2⟩ := ro_st81 h1
 obtain ⟨x1, hr1, hF⟩ := bind_some hF
 refine WL_call Tryz.call78 rfl rfl (c_M_CompareFacts (a1.1, a1.2) u1 (g1.now hC1.keep) ax1 v2 (h2.now hC1.keep) x1 hr1) ?_
 intro _ w2 hv1
 obtain ⟨rfl, hB2⟩ := res_int hv1
 have hC2 := hC1.grow hB2
 refine WL_gtr rfl rfl rfl ?_
 refine WL_assign rfl rfl ?_
 refine WL_nil ?_
 refine W_ret ?_
 have hq1 := Option.some.inj hF
 subst hq1
 refine fn_ret1 rfl rfl ?_
 exact ⟨_, rfl, bool_res hC2 _⟩

theorem c_Slices_Insert_Limpl_Fact_impl_Fact {Fs : List (List Nat)} {w0 : World} (a1 : (List (Int × (List Int)))) (u1 : Value) (a2 : Int) (a3 : (List (Int × (List Int)))) (u2 : Value) (hH : Hold [Item.own u1 (a1 : (List (Int × (List Int)))), Item.own u2 (a3 : (List (Int × (List Int))))] w0 Fs) (hn : Fs.flatten.Nodup) (rr : (List (Int × (List Int)))) (hF : Slices.Insert_Limpl_Fact_impl_Fact a1 a2 a3 = some rr) :
 Calls Tryz.prog 96 [u1, (.int .i64 a2), u2].toArray w0 fun e w' => ∃ v, e = .returned v ∧ ∃ q0 : Value, v = q0 ∧ Ctx Fs.flatten w0 w' [Item.own q0 (rr : (List (Int × (List Int))))] := by
 refine calls_of_W Tryz.func96 rfl rfl ?_
 have hC0 := Ctx.startIn hH hn
 unfold Slices.Insert_Limpl_Fact_impl_Fact at hF
 obtain ⟨m, rfl, hm, hb1, hlim, rfl⟩ := ins_some hF
 have hsub : sub a1 (m : Int) (a1.length : Int) = some (a1.drop m) := by unfold sub; rw [if_pos (by omega)]; simp
 have hb1' : (a3.length : Int) = 1 := by omega
 have hlim' : a1.length + 1 ≤ 4294967296 := by rw [LIM_eq] at hlim; exact hlim
 have hw1 : w64 ((a1.length : Int) + 1) = ((a1.length + 1 : Nat) : Int) := by rw [w64_id (by omega) (by omega)]; omega
 have hw2 : w64 (((a1.length + 1 : Nat) : Int) - (m : Int)) = ((a1.length + 1 - m : Nat) : Int) := by rw [w64_id (by omega) (by omega)]; omega
 have hw3 : w64 ((m : Int) + 1) = ((m + 1 : Nat) : Int) := by rw [w64_id (by omega) (by omega)]; omega
 refine W_seq_reg ?_
 refine WL_assign rfl rfl ?_
 refine WL_nil ?_
 refine W_seq_reg ?_
 refine WL_move rfl rfl ?_
 refine WL_move rfl rfl ?_
 refine WL_slice_l Tryz.underlying34 ty81 (hC0.ro 0 rfl) hsub rfl rfl rfl (fun v1 h1 => ?_)
 refine WL_nil ?_
 refine W_seq_reg ?_
 refine WL_move rfl rfl ?_
 refine WL_len Tryz.underlying34 (hC0.ro 1 rfl) rfl rfl ?_
 rw [hb1']
 refine WL_assign rfl rfl ?_
 refine WL_nil ?_
 refine W_seq ?_
 refine W_seq_reg ?_
 refine WL_move rfl rfl ?_
 refine WL_eql rfl rfl rfl ?_
 refine WL_nil ?_
 refine W_cond_f rfl ?_
 refine W_skip ?_
 refine nrm_normal ?_
 refine W_seq_reg ?_
 refine WL_move rfl rfl ?_
 refine WL_len Tryz.underlying34 (hC0.ro 0 rfl) rfl rfl ?_
 refine WL_assign rfl rfl ?_
 refine WL_nil ?_
 refine W_seq ?_
 refine W_seq_reg ?_
 refine WL_move rfl rfl ?_
 refine WL_move rfl rfl ?_
 refine WL_eql rfl rfl rfl ?_
 by_cases hi : m = a1.length
 ·have e1 : a1.take m ++ a3 ++ a1.drop m = a1 ++ a3 := by rw [List.take_of_length_le (by omega), List.drop_of_length_le (by omega), List.append_nil]
  rw [e1, decide_eq_true (show (m : Int) = (a1.length : Int) by omega)]
  refine WL_nil ?_
  refine W_cond_t rfl ?_
  refine W_seq_reg ?_
  refine WL_move rfl rfl ?_
  refine WL_move rfl rfl ?_
  have happ : app a1 a3 = some (a1 ++ a3) := by unfold app; rw [if_pos (by omega)]
  refine WL_append_head hC0.swap 0 rfl Tryz.underlying34 ty81 rfl happ rfl rfl rfl (fun v2 w2 hC2 => ?_)
  refine WL_assign rfl rfl ?_
  refine WL_nil ?_
  refine W_ret ?_
  refine nrm_ret ?_
  refine fn_ret1 rfl rfl ?_
  exact ⟨_, rfl, _, rfl, hC2⟩
 rw [decide_eq_false (show ¬ (m : Int) = (a1.length : Int) by omega)]
 refine WL_nil ?_
 refine W_cond_f rfl ?_
 refine W_skip ?_
 refine nrm_normal ?_
 have hml : m < a1.length := by omega
 obtain ⟨b, c, row, T, cells, Fe, vb, vc, vrow, vT, vcells, Ge, rfl, rfl, h4, g4, h5, g5, h6, g6, h8, g8, h10, h11, h12, h13, h14, h15, hK⟩ := hC0.ins_raw (by intro e; rw [e] at hml; simp at hml) (by intro e; rw [e] at hb1; simp at hb1)
 have hcl := elems_len h5
 have hvl := elems_len g5
 rw [hb1] at hvl
 have hyl : (cells.drop (m * Rep.sz (Int × (List Int)))).length = (a1.length - m) * Rep.sz (Int × (List Int)) := by rw [List.length_drop, hcl, Nat.sub_mul]
 have hvr : (vrow.toList.drop 0).take (1 * Rep.sz (Int × (List Int))) = vcells := by rw [List.drop_zero, ← g6, hb1]
 have hv1 := elems_one g5
 have hy1 : ∀ u ∈ cells.drop (m * Rep.sz (Int × (List Int))), u.oneCell' = true := fun u hu => elems_one h5 u (List.mem_of_mem_drop hu)
 refine W_seq ?_
 refine W_seq_reg ?_
 refine WL_move rfl rfl ?_
 refine WL_move rfl rfl ?_
 refine WL_add rfl rfl rfl ?_
 rw [hw1]
 refine WL_move rfl rfl ?_
 refine WL_cap Tryz.underlying34 rfl rfl ?_
 refine WL_gtr rfl rfl rfl ?_
 by_cases hr : c < a1.length + 1
 ·rw [decide_eq_true (show (c : Int) < ((a1.length + 1 : Nat) : Int) by omega)]
  refine WL_nil ?_
  refine W_cond_t rfl ?_
  refine W_seq_reg ?_
  refine WL_move rfl rfl ?_
  refine WL_move rfl rfl ?_
  refine WL_sl_h Tryz.underlying34 ty81 (show m ≤ c by omega) (by omega) rfl rfl rfl ?_
  refine WL_move rfl rfl ?_
  refine WL_move rfl rfl ?_
  refine WL_add rfl rfl rfl ?_
  rw [hw1]
  refine WL_move rfl rfl ?_
  refine WL_sub rfl rfl rfl ?_
  rw [hw2]
  refine WL_zeros Tryz.underlying34 ty81 rfl Tryz.underlying3 h4 (take_cells h6 hm) (by rw [List.length_take, hcl, Nat.min_eq_left (Nat.mul_le_mul_right _ hm)]) (show 0 < a1.length + 1 - m by omega) (by omega) (by rw [LIM_eq]; omega) rfl rfl rfl (fun c' row' k1 k2 k3 k4 => ?_)
  rw [show m + (a1.length + 1 - m) = a1.length + 1 by omega] at k3 ⊢
  obtain ⟨q1, q2, q3⟩ := row_grow (row' := row') hm hcl hvl k1 k2 k3
  obtain ⟨w1, hw1e⟩ : ∃ w1, w1 = w0.drew.alloc (.cells row' 81) := ⟨_, rfl⟩
  have hA1 : w1.heap[w0.heap.size]? = some (.cells row' 81 (0, 0)) := by rw [hw1e]; exact heap_alloc_new w0.drew _
  have hB1 : Below w0.heap.size w0 w1 := by rw [hw1e]; exact below_new w0 _
  rw [← hw1e]
  refine WL_assign rfl rfl ?_
  refine WL_nil ?_
  refine W_seq_reg ?_
  refine WL_move rfl rfl ?_
  refine WL_move rfl rfl ?_
  refine WL_sl_l Tryz.underlying34 ty81 (show m < c' by omega) (show m ≤ a1.length + 1 by omega) k3 rfl rfl rfl ?_
  refine WL_move rfl rfl ?_
  refine WL_copy (m := 1) Tryz.underlying34 ty81 hA1 ((hB1.block vb (heap_lt g4)).trans g4) (by show Nat.min a3.length (a1.length + 1 - m) = 1; rw [hb1]; exact Nat.min_eq_left (by omega)) hvr hvl hv1 (by rw [hvl, k2, Nat.zero_add, ← Nat.add_mul]; exact Nat.mul_le_mul_right _ (by omega)) rfl rfl rfl ?_
  generalize hr1 : (row'.toList.take (0 + m * Rep.sz (Int × (List Int))) ++ vcells ++ row'.toList.drop (0 + m * Rep.sz (Int × (List Int)) + vcells.length)).toArray = r1 at q1 q2 q3 ⊢
  have hA2 : (w1.setRow w0.heap.size r1).heap[w0.heap.size]? = some (.cells r1 81 (0, 0)) := setRow_heap _ _ _ _ _ _ hA1
  have hB2 : Below w0.heap.size w0 (w1.setRow w0.heap.size r1) := below_row hB1 (Nat.le_refl _)
  refine WL_nil ?_
  refine W_seq ?_
  refine W_drawn 9 rfl hmix (fun w3 hB3 => ?_)
  refine WA_take 0 rfl (by kernel_rfl) (by kernel_rfl) (by kernel_rfl) rfl (fl_move rfl) ?_
  refine WL_move rfl rfl ?_
  refine WL_nil ?_
  refine WA_take 1 rfl (by kernel_rfl) (by kernel_rfl) (by kernel_rfl) rfl (fl_move rfl) ?_
  refine WL_move rfl rfl ?_
  refine WL_nil ?_
  refine WA_take 2 rfl (by kernel_rfl) (by kernel_rfl) (by kernel_rfl) rfl (fl_move rfl) ?_
  refine WL_move rfl rfl ?_
  refine WL_nil ?_
  refine WA_take 3 rfl (by kernel_rfl) (by kernel_rfl) (by kernel_rfl) rfl (fl_add rfl rfl) ?_
  refine WL_add rfl rfl rfl ?_
  rw [hw3]
  refine WL_nil ?_
  refine WA_take 4 rfl (by kernel_rfl) (by kernel_rfl) (by kernel_rfl) rfl (fl_sl_l Tryz.underlying34 ty81 (show m + 1 < c' by omega) (show m + 1 ≤ a1.length + 1 by omega) k3 rfl rfl) ?_
  refine WL_sl_l Tryz.underlying34 ty81 (show m + 1 < c' by omega) (show m + 1 ≤ a1.length + 1 by omega) k3 rfl rfl rfl ?_
  refine WL_nil ?_
  refine WA_take 5 rfl (by kernel_rfl) (by kernel_rfl) (by kernel_rfl) rfl (fl_move rfl) ?_
  refine WL_move rfl rfl ?_
  refine WL_nil ?_
  refine WA_take 6 rfl (by kernel_rfl) (by kernel_rfl) (by kernel_rfl) rfl (fl_move rfl) ?_
  refine WL_move rfl rfl ?_
  refine WL_nil ?_
  refine WA_take 7 rfl (by kernel_rfl) (by kernel_rfl) (by kernel_rfl) rfl (fl_sl_l Tryz.underlying34 ty81 (show m < c by omega) hm h10 rfl rfl) ?_
  refine WL_sl_l Tryz.underlying34 ty81 (show m < c by omega) hm h10 rfl rfl rfl ?_
  refine WL_nil ?_
  have hA3 : w3.heap[w0.heap.size]? = some (.cells r1 81 (0, 0)) := (hB3.block _ (heap_lt hA2)).trans hA2
  have hB30 : Below w0.heap.size w0 w3 := hB2.trans ⟨hB3.os, hB3.tape, hB3.output, hB3.size, fun k hk => hB3.block k (Nat.lt_of_lt_of_le hk hB2.size)⟩
  refine WA_one 8 (by kernel_rfl) rfl ?_
  refine WL_copy (m := a1.length - m) Tryz.underlying34 ty81 hA3 ((hB30.block b (heap_lt h4)).trans h4) (by show Nat.min (a1.length - m) (a1.length + 1 - (m + 1)) = a1.length - m; rw [show a1.length + 1 - (m + 1) = a1.length - m by omega]; exact Nat.min_self _) (drop_cells h6) hyl hy1 (by rw [hyl, q3, Nat.zero_add, ← Nat.add_mul]; exact Nat.mul_le_mul_right _ (by omega)) rfl rfl rfl ?_
  generalize hr2 : (r1.toList.take (0 + (m + 1) * Rep.sz (Int × (List Int))) ++ cells.drop (m * Rep.sz (Int × (List Int))) ++ r1.toList.drop (0 + (m + 1) * Rep.sz (Int × (List Int)) + (cells.drop (m * Rep.sz (Int × (List Int)))).length)).toArray = r2 at q1 q2 ⊢
  refine WL_nil ?_
  refine WA_done (by kernel_rfl) ?_
  refine nrm_normal ?_
  refine W_seq_reg ?_
  refine WL_move rfl rfl ?_
  refine WL_assign rfl rfl ?_
  refine WL_nil ?_
  refine W_ret ?_
  refine nrm_ret ?_
  refine fn_ret1 rfl rfl ?_
  have hB4 : Below w0.heap.size w0 (w3.setRow w0.heap.size r2) := below_row hB30 (Nat.le_refl _)
  have hin : ∀ k ∈ Fe ++ Ge, k < w0.heap.size := fun k hk => (List.mem_append.1 hk).elim (elems_inh h5 k) (elems_inh g5 k)
  obtain ⟨F', e1, e2, e3⟩ := ins_val (w' := w3.setRow w0.heap.size r2) h5 g5 h14 hm hb1 (g := w0.heap.size) (fun h => absurd (hin _ h) (Nat.lt_irrefl _)) (setRow_heap _ _ _ _ _ _ hA3) (fun k hk => hB4.block k (hin k hk)) q1 q2 k3 k4
  exact ⟨_, rfl, _, rfl, hK _ _ _ F' ⟨hB4.os, hB4.tape, hB4.output, hB4.size, fun k hk _ => hB4.block k hk⟩ e1 e2 (fun k hk => (e3 k hk).elim (fun h => .inr (.inr (Nat.le_of_eq h.symm))) (fun h => .inr (.inl h)))⟩
 rw [decide_eq_false (show ¬ (c : Int) < ((a1.length + 1 : Nat) : Int) by omega)]
 refine WL_nil ?_
 refine W_cond_f rfl ?_
 refine W_skip ?_
 refine nrm_normal ?_
 have k3 : a1.length + 1 ≤ c := by omega
 obtain ⟨q1, q2, q3⟩ := row_shift hm hcl hvl h6 h8 k3
 refine W_seq_reg ?_
 refine WL_move rfl rfl ?_
 refine WL_move rfl rfl ?_
 refine WL_move rfl rfl ?_
 refine WL_add rfl rfl rfl ?_
 rw [hw1]
 refine WL_sl_h Tryz.underlying34 ty81 k3 (by omega) rfl rfl rfl ?_
 refine WL_assign rfl rfl ?_
 refine WL_nil ?_
 refine W_seq ?_
 refine W_seq_reg ?_
 refine WL_move rfl rfl ?_
 refine WL_move rfl rfl ?_
 refine WL_move rfl rfl ?_
 refine WL_move rfl rfl ?_
 refine WL_add rfl rfl rfl ?_
 rw [hw3]
 refine WL_sl_l Tryz.underlying34 ty81 (show m + 1 < c by omega) (show m + 1 ≤ a1.length + 1 by omega) k3 rfl rfl rfl ?_
 refine WL_apart (R := 4) (run_callFunc_extern Tryz.func108 (by kernel_rfl) (by kernel_rfl) (by kernel_rfl) (by kernel_rfl)) Tryz.underlying34 ty81 h13 h4 g4 (by rw [h8]; exact Nat.ne_of_gt (Nat.mul_pos (by omega) (by decide))) rfl rfl rfl ?_
 refine WL_not rfl rfl ?_
 refine WL_nil ?_
 refine W_cond_t rfl ?_
 refine W_seq ?_
 refine W_drawn 9 rfl hmix (fun w3 hB3 => ?_)
 refine WA_take 0 rfl (by kernel_rfl) (by kernel_rfl) (by kernel_rfl) rfl (fl_move rfl) ?_
 refine WL_move rfl rfl ?_
 refine WL_nil ?_
 refine WA_take 1 rfl (by kernel_rfl) (by kernel_rfl) (by kernel_rfl) rfl (fl_move rfl) ?_
 refine WL_move rfl rfl ?_
 refine WL_nil ?_
 refine WA_take 2 rfl (by kernel_rfl) (by kernel_rfl) (by kernel_rfl) rfl (fl_move rfl) ?_
 refine WL_move rfl rfl ?_
 refine WL_nil ?_
 refine WA_take 3 rfl (by kernel_rfl) (by kernel_rfl) (by kernel_rfl) rfl (fl_add rfl rfl) ?_
 refine WL_add rfl rfl rfl ?_
 rw [hw3]
 refine WL_nil ?_
 refine WA_take 4 rfl (by kernel_rfl) (by kernel_rfl) (by kernel_rfl) rfl (fl_sl_l Tryz.underlying34 ty81 (show m + 1 < c by omega) (show m + 1 ≤ a1.length + 1 by omega) k3 rfl rfl) ?_
 refine WL_sl_l Tryz.underlying34 ty81 (show m + 1 < c by omega) (show m + 1 ≤ a1.length + 1 by omega) k3 rfl rfl rfl ?_
 refine WL_nil ?_
 refine WA_take 5 rfl (by kernel_rfl) (by kernel_rfl) (by kernel_rfl) rfl (fl_move rfl) ?_
 refine WL_move rfl rfl ?_
 refine WL_nil ?_
 refine WA_take 6 rfl (by kernel_rfl) (by kernel_rfl) (by kernel_rfl) rfl (fl_move rfl) ?_
 refine WL_move rfl rfl ?_
 refine WL_nil ?_
 refine WA_take 7 rfl (by kernel_rfl) (by kernel_rfl) (by kernel_rfl) rfl (fl_sl_l Tryz.underlying34 ty81 (show m < c by omega) (show m ≤ a1.length + 1 by omega) k3 rfl rfl) ?_
 refine WL_sl_l Tryz.underlying34 ty81 (show m < c by omega) (show m ≤ a1.length + 1 by omega) k3 rfl rfl rfl ?_
 refine WL_nil ?_
 have hA3 : w3.heap[b]? = some (.cells row T (0, 0)) := (hB3.block _ (heap_lt h4)).trans h4
 refine WA_one 8 (by kernel_rfl) rfl ?_
 refine WL_copy (m := a1.length - m) Tryz.underlying34 ty81 hA3 hA3 (by show Nat.min (a1.length + 1 - m) (a1.length + 1 - (m + 1)) = a1.length - m; rw [show a1.length + 1 - (m + 1) = a1.length - m by omega]; exact Nat.min_eq_right (by omega)) (drop_cells h6) hyl hy1 (by rw [hyl, h8, Nat.zero_add, ← Nat.add_mul]; exact Nat.mul_le_mul_right _ (by omega)) rfl rfl rfl ?_
 generalize hr1 : (row.toList.take (0 + (m + 1) * Rep.sz (Int × (List Int))) ++ cells.drop (m * Rep.sz (Int × (List Int))) ++ row.toList.drop (0 + (m + 1) * Rep.sz (Int × (List Int)) + (cells.drop (m * Rep.sz (Int × (List Int)))).length)).toArray = r1 at q1 q2 q3 ⊢
 have hA4 : (w3.setRow b r1).heap[b]? = some (.cells r1 T (0, 0)) := setRow_heap _ _ _ _ _ _ hA3
 have g43 : (w3.setRow b r1).heap[vb]? = some (.cells vrow vT (0, 0)) := (setRow_other _ _ _ _ h13).trans ((hB3.block _ (heap_lt g4)).trans g4)
 refine WL_nil ?_
 refine WA_done (by kernel_rfl) ?_
 refine nrm_normal ?_
 refine W_seq_reg ?_
 refine WL_move rfl rfl ?_
 refine WL_move rfl rfl ?_
 refine WL_sl_l Tryz.underlying34 ty81 (show m < c by omega) (show m ≤ a1.length + 1 by omega) k3 rfl rfl rfl ?_
 refine WL_move rfl rfl ?_
 refine WL_copy (m := 1) Tryz.underlying34 ty81 hA4 g43 (by show Nat.min a3.length (a1.length + 1 - m) = 1; rw [hb1]; exact Nat.min_eq_left (by omega)) hvr hvl hv1 (by rw [hvl, q3, Nat.zero_add, ← Nat.add_mul]; exact Nat.mul_le_mul_right _ (by omega)) rfl rfl rfl ?_
 generalize hr2 : (r1.toList.take (0 + m * Rep.sz (Int × (List Int))) ++ vcells ++ r1.toList.drop (0 + m * Rep.sz (Int × (List Int)) + vcells.length)).toArray = r2 at q1 q2 ⊢
 refine WL_nil ?_
 refine W_seq_reg ?_
 refine WL_move rfl rfl ?_
 refine WL_assign rfl rfl ?_
 refine WL_nil ?_
 refine W_ret ?_
 refine nrm_ret ?_
 refine fn_ret1 rfl rfl ?_
 have hK4 : Keep [b] w0 ((w3.setRow b r1).setRow b r2) := Keep.row (Keep.row ⟨hB3.os, hB3.tape, hB3.output, hB3.size, fun k hk _ => hB3.block k hk⟩)
 have hin : ∀ k ∈ Fe ++ Ge, k < w0.heap.size := fun k hk => (List.mem_append.1 hk).elim (elems_inh h5 k) (elems_inh g5 k)
 obtain ⟨F', e1, e2, e3⟩ := ins_val (w' := (w3.setRow b r1).setRow b r2) h5 g5 h14 hm hb1 (g := b) h15 (setRow_heap _ _ _ _ _ _ hA4) (fun k hk => hK4.block k (hin k hk) (by simp only [List.mem_singleton]; intro e; exact h15 (e ▸ hk))) q1 q2 k3 h11
 exact ⟨_, rfl, _, rfl, hK _ _ _ F' hK4 e1 e2 (fun k hk => (e3 k hk).elim .inl (fun h => .inr (.inl h)))⟩

theorem c_Slices_IndexFunc_Limpl_Fact_impl_Fact_M_added_c1 {w0 : World} (a1 : (List (Int × (List Int)))) (u1 : Value) (g1 : RO [] w0 u1 a1) (pb1 : Nat) (ax1 : (Int × (List Int))) (g2 : ROAt [] w0 pb1 0 ax1) (rr : Int) (hF : Slices.IndexFunc_Limpl_Fact_impl_Fact_M_added_c1 a1 ax1 = some rr) :
 Calls Tryz.prog 94 [u1, (.func (.func 95) #[] #[(ptr pb1 0)])].toArray w0 fun e w' => ∃ v, e = .returned v ∧ Res w0 rr v w' := by
 refine calls_of_W Tryz.func94 rfl rfl ?_
 have hC0 := Ctx.start w0
 unfold Slices.IndexFunc_Limpl_Fact_impl_Fact_M_added_c1 at hF
 refine W_seq_reg ?_
 refine WL_assign rfl rfl ?_
 refine WL_nil ?_
 refine W_seq ?_
 refine W_seq_reg ?_
 refine WL_move rfl rfl ?_
 refine WL_len Tryz.underlying34 g1 rfl rfl ?_
 refine WL_move rfl rfl ?_
 refine WL_nil ?_
 obtain ⟨r1, hr1, hF⟩ := bind_some hF
 refine W_norm (fun l w => .inl () = r1 ∧ l = [] ∧ Below w0.heap.size w0 w ∧ Ctx [] w0 w []) ?_ ?_
 ·refine W_block ?_
  refine W.sub (l' := [(0, u1), (1, (.func (.func 95) #[] #[(ptr pb1 0)])), (7, (.int .i64 (List.length a1 : Int))), (8, (.int .i64 0))]) ?_ ⟨rfl, rfl, rfl, rfl, trivial⟩
  refine W_loop (fun k l w => ∃ x1 : Int, l = [(0, u1), (1, (.func (.func 95) #[] #[(ptr pb1 0)])), (7, (.int .i64 (List.length a1 : Int))), (8, (.int .i64 x1))] ∧ Below w0.heap.size w0 w ∧ Ctx [] w0 w [] ∧ Slices.IndexFunc_Limpl_Fact_impl_Fact_M_added_c1_l1 a1 ax1 k x1 = some r1) FUEL ⟨0, rfl, (Below.refl _ _), hC0, hr1⟩ ?_
  clear hr1
  rintro k1 _ w1 ⟨x1, rfl, hB1, hC1, hL1⟩
  cases k1 with
  | zero => rw [Slices.IndexFunc_Limpl_Fact_impl_Fact_M_added_c1_l1] at hL1; cases hL1
  | succ k1 =>
   rw [Slices.IndexFunc_Limpl_Fact_impl_Fact_M_added_c1_l1] at hL1
   refine W_seq_reg ?_
   refine WL_lss rfl rfl rfl ?_
   refine WL_nil ?_
   refine W_seq ?_
   refine W_cond rfl (fun hc1 => ?_) (fun hc1 => ?_)
   ·replace hL1 := ite_t hL1 hc1
    refine W_skip ?_
    refine nrm_normal ?_
    refine W_seq ?_
    refine W_block ?_
    refine W_seq_reg ?_
    refine WL_move rfl rfl ?_
    refine WL_assign rfl rfl ?_
    refine WL_nil ?_
    refine W_seq_reg ?_
    refine WL_move rfl rfl ?_
    refine WL_move rfl rfl ?_
    refine WL_move rfl rfl ?_
    obtain ⟨x2, hx1, hL1⟩ := bind_some hL1
    refine WL_index Tryz.underlying34 ty81 g1 hx1 rfl rfl rfl (fun b1 o1 h1 => ?_)
    refine WL_load ty81 h1 hC1.keep rfl rfl (fun v1 h2 => ?_)
    obtain ⟨v2, rfl, h3⟩ := ro_st81 h2
    obtain ⟨x3, hr2, hL1⟩ := bind_some hL1
    refine WL_callv (cap := [(ptr pb1 0)]) Tryz.call95 rfl rfl rfl (c_M_added_c1 x2 v2 (h3.now hC1.keep) pb1 ax1 (g2.now hC1.keep) x3 hr2) ?_
    intro _ w2 hv1
    obtain ⟨rfl, hB2⟩ := res_bool hv1
    have hC2 := hC1.grow hB2
    refine WL_nil ?_
    refine W_cond rfl (fun hc2 => ?_) (fun hc2 => ?_)
    ·replace hL1 := ite_t hL1 hc2
     refine W_seq_reg ?_
     refine WL_move rfl rfl ?_
     refine WL_assign rfl rfl ?_
     refine WL_nil ?_
     refine W_ret ?_
     refine blk_ret ?_
     refine nrm_ret ?_
     refine nrm_ret ?_
     refine blk_ret ?_
     refine nrm_ret ?_
     refine nrm_ret ?_
     have hq1 := Option.some.inj hL1
     subst hq1
     dsimp only at hF
     have hq2 := Option.some.inj hF
     subst hq2
     refine fn_ret1 rfl rfl ?_
     exact ⟨_, rfl, int_res hC2 _⟩
    replace hL1 := ite_f hL1 hc2
    refine W_skip ?_
    refine blk_normal ?_
    refine nrm_normal ?_
    refine W_reg ?_
    refine WL_add rfl rfl rfl ?_
    refine WL_move rfl rfl ?_
    refine WL_nil ?_
    refine nrm_sub (l' := [(0, u1), (1, (.func (.func 95) #[] #[(ptr pb1 0)])), (7, (.int .i64 (List.length a1 : Int))), (8, (.int .i64 (w64 (x1 + 1))))]) ⟨rfl, rfl, rfl, rfl, trivial⟩ ?_
    exact ⟨k1, Nat.lt_succ_self _, w64 (x1 + 1), rfl, ((Keep.of hB1).then hB2).below, hC2, hL1⟩
   replace hL1 := ite_f hL1 hc1
   refine W_exit ?_
   refine nrm_exit ?_
   refine nrm_exit ?_
   refine blk_exit ?_
   have hq3 := Option.some.inj hL1
   subst hq3
   refine nrm_sub (l' := []) trivial ?_
   exact ⟨rfl, rfl, (Keep.of hB1).below, hC1⟩
 rintro l2 _ w3 hs2 ⟨rfl, rfl, hB3, hC3⟩
 try dsimp only at hF
 refine nrm_sub' hs2 ?_
 clear hs2
 refine W_seq_reg ?_
 refine WL_assign rfl rfl ?_
 refine WL_nil ?_
 refine W_ret ?_
 have hq4 := Option.some.inj hF
 subst hq4
 refine fn_ret1 rfl rfl ?_
 exact ⟨_, rfl, int_res hC3 _⟩

theorem c_M_added {w0 : World} {Fs : List (List Nat)} (a1 : (List (Int × (List Int)))) (u1 : Value) (a2 : (Int × (List Int))) (u2 : Value) (g2 : RO Fs.flatten w0 u2 a2.2) (hH : Hold [Item.own u1 (a1 : (List (Int × (List Int))))] w0 Fs) (hn : Fs.flatten.Nodup) (rr : (List (Int × (List Int)))) (hF : M.added a1 a2 = some rr) :
 Calls Tryz.prog 75 [u1, (.agg #[(.int .i64 a2.1), u2])].toArray w0 fun e w' => ∃ v, e = .returned v ∧ ∃ q0 : Value, v = q0 ∧ Ctx Fs.flatten w0 w' [Item.own q0 (rr : (List (Int × (List Int))))] := by
 refine calls_of_W Tryz.func75 rfl rfl ?_
 have hC0 := Ctx.startIn hH hn
 unfold M.added at hF
 refine W_seq_reg ?_
 refine WL_box (cs := [(.int .i64 a2.1), u2]) hC0 rfl rfl rfl (fun b1 w1 hC1 hB1 => ?_)
 refine WL_assign rfl rfl ?_
 refine WL_nil ?_
 refine W_seq ?_
 refine W_seq_reg ?_
 refine WL_move rfl rfl ?_
 refine WL_load_box_agg [(.int .i64 a2.1), u2] hC1 0 rfl rfl rfl Tryz.isAgg81 Tryz.sizeOf81 rfl rfl ?_
 obtain ⟨x1, hr1, hF⟩ := bind_some hF
 refine WL_call Tryz.call73 rfl rfl (c_M_HasFact a1 u1 ((hC1.ro 1 rfl).now (Keep.refl _ _)) (a2.1, a2.2) u2 (g2.now hC1.keep) x1 hr1) ?_
 intro _ w2 hv1
 obtain ⟨rfl, hB2⟩ := res_bool hv1
 have hC2 := hC1.grow hB2
 refine WL_nil ?_
 refine W_cond rfl (fun hc1 => ?_) (fun hc1 => ?_)
 ·replace hF := ite_t hF hc1
  refine W_seq_reg ?_
  refine WL_move rfl rfl ?_
  refine WL_assign rfl rfl ?_
  refine WL_nil ?_
  refine W_ret ?_
  refine nrm_ret ?_
  have hq1 := Option.some.inj hF
  subst hq1
  refine fn_ret1 rfl rfl ?_
  have hC3 := hC2.f1
  have hC4 := hC3.h1
  exact ⟨_, rfl, _, rfl, hC4⟩
 replace hF := ite_f hF hc1
 refine W_skip ?_
 refine nrm_normal ?_
 refine W_seq_reg ?_
 refine WL_move rfl rfl ?_
 refine WL_makeFunc rfl rfl ?_
 obtain ⟨x2, hr2, hF⟩ := bind_some hF
 refine WL_call Tryz.call94 rfl rfl (c_Slices_IndexFunc_Limpl_Fact_impl_Fact_M_added_c1 a1 u1 ((hC2.ro 1 rfl).now (Keep.refl _ _)) b1 (a2.1, a2.2) (hC2.boxAt 0 rfl (repw_pair repw_int (repw_slice (g2.now hC2.keep)))) x2 hr2) ?_
 intro _ w3 hv2
 obtain ⟨rfl, hB3⟩ := res_int hv2
 have hC5 := hC2.grow hB3
 refine WL_assign rfl rfl ?_
 refine WL_nil ?_
 refine W_seq ?_
 refine W_seq_reg ?_
 refine WL_move rfl rfl ?_
 refine WL_lss rfl rfl rfl ?_
 refine WL_nil ?_
 obtain ⟨r1, hr3, hF⟩ := bind_some hF
 refine W_norm (fun l w => ∃ x3 : Int, x3 = r1 ∧ l = [(0, u1), (3, (ptr b1 0)), (5, (.int .i64 x3))] ∧ Below w3.heap.size w3 w ∧ Ctx Fs.flatten w0 w [Item.box b1 [(.int .i64 a2.1), u2], Item.own u1 (a1 : (List (Int × (List Int))))]) ?_ ?_
 ·refine W_cond rfl (fun hc2 => ?_) (fun hc2 => ?_)
  ·replace hr3 := ite_t hr3 hc2
   refine W_reg ?_
   refine WL_move rfl rfl ?_
   refine WL_len Tryz.underlying34 (hC5.ro 1 rfl) rfl rfl ?_
   refine WL_assign rfl rfl ?_
   refine WL_nil ?_
   have hq2 := Option.some.inj hr3
   subst hq2
   refine nrm_sub (l' := [(0, u1), (3, (ptr b1 0)), (5, (.int .i64 (List.length a1 : Int)))]) ⟨rfl, rfl, rfl, trivial⟩ ?_
   exact ⟨(List.length a1 : Int), rfl, rfl, (Below.refl _ _), hC5⟩
  replace hr3 := ite_f hr3 hc2
  refine W_skip ?_
  have hq3 := Option.some.inj hr3
  subst hq3
  refine nrm_sub (l' := [(0, u1), (3, (ptr b1 0)), (5, (.int .i64 x2))]) ⟨rfl, rfl, rfl, trivial⟩ ?_
  exact ⟨x2, rfl, rfl, (Below.refl _ _), hC5⟩
 rintro l1 _ w4 hs1 ⟨x3, rfl, rfl, hB4, hC6⟩
 try dsimp only at hF
 refine nrm_sub' hs1 ?_
 clear hs1
 refine W_seq_reg ?_
 refine WL_move rfl rfl ?_
 refine WL_move rfl rfl ?_
 refine WL_load_box_agg [(.int .i64 a2.1), u2] hC6 0 rfl rfl rfl Tryz.isAgg81 Tryz.sizeOf81 rfl rfl ?_
 obtain ⟨x4, hr4, hF⟩ := bind_some hF
 refine WL_call Tryz.call85 rfl rfl (c_M_copyFact (a2.1, a2.2) u2 (g2.now hC6.keep) x4 hr4) ?_
 rintro v1 w5 ⟨hB5, F1, hv3, hn1, hb1⟩
 have hC7 := hC6.push hB5 (A := Item.own v1 x4) hv3 hn1 hb1
 obtain ⟨v2, rfl, hC8⟩ := st81_own hC7
 refine WL_buildSlice (vs := [(.agg #[(.int .i64 x4.1), v2])]) hC8 Tryz.underlying34 ty81 rfl rfl rfl rfl (by intro v hv; simp only [List.mem_cons, List.not_mem_nil, or_false] at hv; rcases hv with rfl <;> rfl) rfl rfl (fun b2 w6 hC9 hB6 => ?_)
 have hC10 := hC9.row0 (α := (Int × (List Int)))
 have hC12 := hC10.f2
 have hC11 := own_st81 x4.1 v2 x4.2 hC12
 have hC13 := hC11.row1
 have hC14 := hC13.front 1 rfl
 dsimp only [List.eraseIdx, List.cons_append, List.nil_append, List.append_nil] at hC14
 have hC15 : Ctx Fs.flatten w0 w6 (Item.own (.slice (some ⟨b2, 0, none⟩) 1 1) ([(x4.1, x4.2)] : List (Int × (List Int))) :: [Item.box b1 [(.int .i64 a2.1), u2], Item.own u1 (a1 : (List (Int × (List Int))))]) := hC14.rowOwn (by simp [maxLen])
 obtain ⟨x5, hr5, hF⟩ := bind_some hF
 have hC17 := hC15.f2
 obtain ⟨Fs1, hH1, hn2, hF1, hO1, hb2⟩ := Ctx.lend2 (As := [Item.box b1 [(.int .i64 a2.1), u2]]) [Item.own u1 (a1 : (List (Int × (List Int)))), Item.own (.slice (some ⟨b2, 0, none⟩) 1 1) ([(x4.1, x4.2)] : (List (Int × (List Int))))] hC17
 refine WL_call Tryz.call96 rfl rfl (c_Slices_Insert_Limpl_Fact_impl_Fact a1 u1 x3 ([(x4.1, x4.2)]) (.slice (some ⟨b2, 0, none⟩) 1 1) hH1 hn2 x5 hr5) ?_
 rintro v3 w7 ⟨_, rfl, hq4⟩
 have hC18 : Ctx Fs.flatten w0 w7 [Item.own v3 (x5 : (List (Int × (List Int)))), Item.box b1 [(.int .i64 a2.1), u2]] := hb2 _ _ hq4
 refine WL_assign rfl rfl ?_
 refine WL_nil ?_
 refine W_ret ?_
 have hq5 := Option.some.inj hF
 subst hq5
 refine fn_ret1 rfl rfl ?_
 have hC20 := hC18.h1
 exact ⟨_, rfl, _, rfl, hC20⟩

theorem c_M_ApplyChange_c1 {w0 : World} (a1 : (Int × (List Int))) (u1 : Value) (g1 : RO [] w0 u1 a1.2) (pb1 : Nat) (ax1 : (Bool × (Int × (List Int)))) (g2 : ROAt [] w0 pb1 0 ax1) (rr : Bool) (hF : M.ApplyChange_c1 a1 ax1 = some rr) :
 Calls Tryz.prog 77 [(.agg #[(.int .i64 a1.1), u1]), (ptr pb1 0)].toArray w0 fun e w' => ∃ v, e = .returned v ∧ Res w0 rr v w' := by
 refine calls_of_W Tryz.func77 rfl rfl ?_
 have hC0 := Ctx.start w0
 unfold M.ApplyChange_c1 at hF
 refine W_seq_reg ?_
 refine WL_box (cs := [(.int .i64 a1.1), u1]) hC0 rfl rfl rfl (fun b1 w1 hC1 hB1 => ?_)
 refine WL_assign rfl rfl ?_
 refine WL_nil ?_
 refine W_seq_reg ?_
 refine WL_load_box_agg [(.int .i64 a1.1), u1] hC1 0 rfl rfl rfl Tryz.isAgg81 Tryz.sizeOf81 rfl rfl ?_
 refine WL_field Tryz.underlying83 rfl rfl (fun w => ⟨_, Tryz.sizeOf81 w⟩) rfl rfl ?_
 refine WL_load ty81 g2.snd hC1.keep rfl rfl (fun v1 h1 => ?_)
 obtain ⟨v2, rfl, h2⟩ := ro_st81 h1
 obtain ⟨x1, hr1, hF⟩ := bind_some hF
 refine WL_call Tryz.call78 rfl rfl (c_M_CompareFacts (a1.1, a1.2) u1 (g1.now hC1.keep) ax1.2 v2 (h2.now hC1.keep) x1 hr1) ?_
 intro _ w2 hv1
 obtain ⟨rfl, hB2⟩ := res_int hv1
 have hC2 := hC1.grow hB2
 refine WL_eql rfl rfl rfl ?_
 refine WL_assign rfl rfl ?_
 refine WL_nil ?_
 refine W_ret ?_
 have hq1 := Option.some.inj hF
 subst hq1
 refine fn_ret1 rfl rfl ?_
 exact ⟨_, rfl, bool_res hC2 _⟩

theorem c_Slices_IndexFunc_Limpl_Fact_impl_Fact_M_ApplyChange_c1 {w0 : World} (a1 : (List (Int × (List Int)))) (u1 : Value) (g1 : RO [] w0 u1 a1) (pb1 : Nat) (ax1 : (Bool × (Int × (List Int)))) (g2 : ROAt [] w0 pb1 0 ax1) (rr : Int) (hF : Slices.IndexFunc_Limpl_Fact_impl_Fact_M_ApplyChange_c1 a1 ax1 = some rr) :
 Calls Tryz.prog 94 [u1, (.func (.func 77) #[] #[(ptr pb1 0)])].toArray w0 fun e w' => ∃ v, e = .returned v ∧ Res w0 rr v w' := by
 refine calls_of_W Tryz.func94 rfl rfl ?_
 have hC0 := Ctx.start w0
 unfold Slices.IndexFunc_Limpl_Fact_impl_Fact_M_ApplyChange_c1 at hF
 refine W_seq_reg ?_
 refine WL_assign rfl rfl ?_
 refine WL_nil ?_
 refine W_seq ?_
 refine W_seq_reg ?_
 refine WL_move rfl rfl ?_
 refine WL_len Tryz.underlying34 g1 rfl rfl ?_
 refine WL_move rfl rfl ?_
 refine WL_nil ?_
 obtain ⟨r1, hr1, hF⟩ := bind_some hF
 refine W_norm (fun l w => .inl () = r1 ∧ l = [] ∧ Below w0.heap.size w0 w ∧ Ctx [] w0 w []) ?_ ?_
 ·refine W_block ?_
  refine W.sub (l' := [(0, u1), (1, (.func (.func 77) #[] #[(ptr pb1 0)])), (7, (.int .i64 (List.length a1 : Int))), (8, (.int .i64 0))]) ?_ ⟨rfl, rfl, rfl, rfl, trivial⟩
  refine W_loop (fun k l w => ∃ x1 : Int, l = [(0, u1), (1, (.func (.func 77) #[] #[(ptr pb1 0)])), (7, (.int .i64 (List.length a1 : Int))), (8, (.int .i64 x1))] ∧ Below w0.heap.size w0 w ∧ Ctx [] w0 w [] ∧ Slices.IndexFunc_Limpl_Fact_impl_Fact_M_ApplyChange_c1_l1 a1 ax1 k x1 = some r1) FUEL ⟨0, rfl, (Below.refl _ _), hC0, hr1⟩ ?_
  clear hr1
  rintro k1 _ w1 ⟨x1, rfl, hB1, hC1, hL1⟩
  cases k1 with
  | zero => rw [Slices.IndexFunc_Limpl_Fact_impl_Fact_M_ApplyChange_c1_l1] at hL1; cases hL1
  | succ k1 =>
   rw [Slices.IndexFunc_Limpl_Fact_impl_Fact_M_ApplyChange_c1_l1] at hL1
   refine W_seq_reg ?_
   refine WL_lss rfl rfl rfl ?_
   refine WL_nil ?_
   refine W_seq ?_
   refine W_cond rfl (fun hc1 => ?_) (fun hc1 => ?_)
   ·replace hL1 := ite_t hL1 hc1
    refine W_skip ?_
    refine nrm_normal ?_
    refine W_seq ?_
    refine W_block ?_
    refine W_seq_reg ?_
    refine WL_move rfl rfl ?_
    refine WL_assign rfl rfl ?_
    refine WL_nil ?_
    refine W_seq_reg ?_
    refine WL_move rfl rfl ?_
    refine WL_move rfl rfl ?_
    refine WL_move rfl rfl ?_
    obtain ⟨x2, hx1, hL1⟩ := bind_some hL1
    refine WL_index Tryz.underlying34 ty81 g1 hx1 rfl rfl rfl (fun b1 o1 h1 => ?_)
    refine WL_load ty81 h1 hC1.keep rfl rfl (fun v1 h2 => ?_)
    obtain ⟨v2, rfl, h3⟩ := ro_st81 h2
    obtain ⟨x3, hr2, hL1⟩ := bind_some hL1
    refine WL_callv (cap := [(ptr pb1 0)]) Tryz.call77 rfl rfl rfl (c_M_ApplyChange_c1 x2 v2 (h3.now hC1.keep) pb1 ax1 (g2.now hC1.keep) x3 hr2) ?_
    intro _ w2 hv1
    obtain ⟨rfl, hB2⟩ := res_bool hv1
    have hC2 := hC1.grow hB2
    refine WL_nil ?_
    refine W_cond rfl (fun hc2 => ?_) (fun hc2 => ?_)
    ·replace hL1 := ite_t hL1 hc2
     refine W_seq_reg ?_
     refine WL_move rfl rfl ?_
     refine WL_assign rfl rfl ?_
     refine WL_nil ?_
     refine W_ret ?_
     refine blk_ret ?_
     refine nrm_ret ?_
     refine nrm_ret ?_
     refine blk_ret ?_
     refine nrm_ret ?_
     refine nrm_ret ?_
     have hq1 := Option.some.inj hL1
     subst hq1
     dsimp only at hF
     have hq2 := Option.some.inj hF
     subst hq2
     refine fn_ret1 rfl rfl ?_
     exact ⟨_, rfl, int_res hC2 _⟩
    replace hL1 := ite_f hL1 hc2
    refine W_skip ?_
    refine blk_normal ?_
    refine nrm_normal ?_
    refine W_reg ?_
    refine WL_add rfl rfl rfl ?_
    refine WL_move rfl rfl ?_
    refine WL_nil ?_
    refine nrm_sub (l' := [(0, u1), (1, (.func (.func 77) #[] #[(ptr pb1 0)])), (7, (.int .i64 (List.length a1 : Int))), (8, (.int .i64 (w64 (x1 + 1))))]) ⟨rfl, rfl, rfl, rfl, trivial⟩ ?_
    exact ⟨k1, Nat.lt_succ_self _, w64 (x1 + 1), rfl, ((Keep.of hB1).then hB2).below, hC2, hL1⟩
   replace hL1 := ite_f hL1 hc1
   refine W_exit ?_
   refine nrm_exit ?_
   refine nrm_exit ?_
   refine blk_exit ?_
   have hq3 := Option.some.inj hL1
   subst hq3
   refine nrm_sub (l' := []) trivial ?_
   exact ⟨rfl, rfl, (Keep.of hB1).below, hC1⟩
 rintro l2 _ w3 hs2 ⟨rfl, rfl, hB3, hC3⟩
 try dsimp only at hF
 refine nrm_sub' hs2 ?_
 clear hs2
 refine W_seq_reg ?_
 refine WL_assign rfl rfl ?_
 refine WL_nil ?_
 refine W_ret ?_
 have hq4 := Option.some.inj hF
 subst hq4
 refine fn_ret1 rfl rfl ?_
 exact ⟨_, rfl, int_res hC3 _⟩

theorem c_Slices_DeleteFunc_Limpl_Fact_impl_Fact_M_ApplyChange_c1 {Fs : List (List Nat)} {w0 : World} (a1 : (List (Int × (List Int)))) (u1 : Value) (pb1 : Nat) (ax1 : (Bool × (Int × (List Int)))) (g1 : ROAt Fs.flatten w0 pb1 0 ax1) (hH : Hold [Item.own u1 (a1 : (List (Int × (List Int))))] w0 Fs) (hn : Fs.flatten.Nodup) (rr : (List (Int × (List Int)))) (hF : Slices.DeleteFunc_Limpl_Fact_impl_Fact_M_ApplyChange_c1 a1 ax1 = some rr) :
 Calls Tryz.prog 76 [u1, (.func (.func 77) #[] #[(ptr pb1 0)])].toArray w0 fun e w' => ∃ v, e = .returned v ∧ ∃ q0 : Value, v = q0 ∧ Ctx Fs.flatten w0 w' [Item.own q0 (rr : (List (Int × (List Int))))] := by
 refine calls_of_W Tryz.func76 rfl rfl ?_
 have hC0 := Ctx.startIn hH hn
 unfold Slices.DeleteFunc_Limpl_Fact_impl_Fact_M_ApplyChange_c1 at hF
 obtain ⟨x, hx, hF⟩ := bind_some hF
 refine W_seq_reg ?_
 refine WL_assign rfl rfl ?_
 refine WL_nil ?_
 refine W_seq_reg ?_
 refine WL_move rfl rfl ?_
 refine WL_move rfl rfl ?_
 refine WL_call Tryz.call94 rfl rfl (c_Slices_IndexFunc_Limpl_Fact_impl_Fact_M_ApplyChange_c1 a1 u1 (hC0.ro 0 rfl) pb1 ax1 (g1.now (Keep.refl _ _)) x hx) ?_
 intro _ w1 hv1
 obtain ⟨rfl, hB1⟩ := res_int hv1
 have hC1 := hC0.grow hB1
 refine WL_assign rfl rfl ?_
 refine WL_nil ?_
 refine W_seq ?_
 refine W_seq_reg ?_
 refine WL_move rfl rfl ?_
 refine WL_eql rfl rfl rfl ?_
 by_cases hx1 : x = -1
 ·rw [if_pos hx1] at hF
  obtain rfl := Option.some.inj hF
  rw [decide_eq_true hx1]
  refine WL_nil ?_
  refine W_cond_t rfl ?_
  refine W_seq_reg ?_
  refine WL_move rfl rfl ?_
  refine WL_assign rfl rfl ?_
  refine WL_nil ?_
  refine W_ret ?_
  refine nrm_ret ?_
  refine fn_ret1 rfl rfl ?_
  exact ⟨_, rfl, _, rfl, hC1⟩
 rw [if_neg hx1] at hF
 have hr : 0 ≤ x ∧ x < (a1.length : Int) := Classical.byContradiction fun h => by rw [if_neg h] at hF; cases hF
 rw [if_pos hr] at hF
 obtain ⟨m, rfl⟩ : ∃ m : Nat, x = m := ⟨x.toNat, by omega⟩
 have hm : m < a1.length := by omega
 have hlim := (hC0.ro 0 rfl).lt
 simp only [maxLen] at hlim
 rw [Int.toNat_natCast] at hF
 rw [decide_eq_false hx1]
 refine WL_nil ?_
 refine W_cond_f rfl ?_
 refine W_skip ?_
 refine nrm_normal ?_
 refine W_seq ?_
 refine W_seq_reg ?_
 refine WL_move rfl rfl ?_
 refine WL_add rfl rfl rfl ?_
 rw [show w64 ((m : Int) + 1) = ((m + 1 : Nat) : Int) by rw [w64_id (by omega) (by omega)]; omega]
 refine WL_assign rfl rfl ?_
 refine WL_nil ?_
 obtain ⟨b, c, rfl, hc1, hc2, hD0⟩ := hC1.del_open hm
 have hml : (a1.take m).length = m := by rw [List.length_take]; omega
 refine W_norm (fun l w => ∃ kept : List (Int × (List Int)), ∃ g : Nat, l = [(0, .slice (some ⟨b, 0, none⟩) a1.length c), (5, .int .i64 (kept.length : Int))] ∧ 0 < g ∧ kept.length + g = a1.length ∧ kept = rr ∧ Ctx Fs.flatten w0 w [Item.del b c kept g ([] : List (Int × (List Int)))]) ?_ ?_
 ·refine W_block ?_
  refine W.sub (l' := [(0, .slice (some ⟨b, 0, none⟩) a1.length c), (1, (.func (.func 77) #[] #[(ptr pb1 0)])), (5, .int .i64 (m : Int)), (6, .int .i64 ((m + 1 : Nat) : Int))]) ?_ ⟨rfl, rfl, rfl, rfl, trivial⟩
  refine W_loop (fun k l w => ∃ kept : List (Int × (List Int)), ∃ g : Nat, ∃ rest : List (Int × (List Int)), l = [(0, .slice (some ⟨b, 0, none⟩) a1.length c), (1, (.func (.func 77) #[] #[(ptr pb1 0)])), (5, .int .i64 (kept.length : Int)), (6, .int .i64 ((kept.length + g : Nat) : Int))] ∧ 0 < g ∧ kept.length + g + rest.length = a1.length ∧ dfl (fun e => M.ApplyChange_c1 e ax1) kept rest = some rr ∧ k = rest.length ∧ Ctx Fs.flatten w0 w [Item.del b c kept g rest]) (a1.drop (m + 1)).length ⟨a1.take m, 1, a1.drop (m + 1), by rw [hml], by omega, by rw [hml, List.length_drop]; omega, hF, rfl, hD0⟩ ?_
  clear hF hD0
  rintro k1 _ w2 ⟨kept, g, rest, rfl, hg, hlen, hL, hk, hD⟩
  refine W_seq ?_
  refine W_seq_reg ?_
  refine WL_move rfl rfl ?_
  refine WL_move rfl rfl ?_
  refine WL_len_raw Tryz.underlying34 rfl rfl ?_
  refine WL_lss rfl rfl rfl ?_
  cases rest with
  | nil =>
   have hq := Option.some.inj hL
   simp only [List.length_nil, Nat.add_zero] at hlen
   rw [decide_eq_false (show ¬ ((kept.length + g : Nat) : Int) < (a1.length : Int) by omega)]
   refine WL_nil ?_
   refine W_cond_f rfl ?_
   refine W_exit ?_
   refine nrm_exit ?_
   refine nrm_exit ?_
   refine blk_exit ?_
   refine nrm_sub (l' := [(0, .slice (some ⟨b, 0, none⟩) a1.length c), (5, .int .i64 (kept.length : Int))]) ⟨rfl, rfl, trivial⟩ ?_
   exact ⟨kept, g, rfl, hg, hlen, hq, hD⟩
  | cons x rest =>
   simp only [List.length_cons] at hlen hk
   rw [decide_eq_true (show ((kept.length + g : Nat) : Int) < (a1.length : Int) by omega)]
   refine WL_nil ?_
   refine W_cond_t rfl ?_
   refine W_skip ?_
   refine nrm_normal ?_
   refine W_seq ?_
   refine W_block ?_
   refine W_seq_reg ?_
   refine WL_move rfl rfl ?_
   refine WL_move rfl rfl ?_
   refine WL_index_raw Tryz.underlying34 ty81 (show kept.length + g < a1.length by omega) rfl rfl rfl ?_
   obtain ⟨cs, hcs, hD1⟩ := hD.del_head
   obtain ⟨hro, row, T, hh, hrow⟩ := hD1.delh_row
   refine WL_load_raw ty81 hh (by rw [Nat.zero_add]; exact hrow) hcs rfl rfl ?_
   obtain ⟨e1, hce, _⟩ := ro_st81 hro
   obtain rfl := cells_of_agg (cs' := [(.int .i64 x.1), e1]) hce
   rw [show mkv (Rep.agg (Int × (List Int))) [(.int .i64 x.1), e1] = (.agg #[(.int .i64 x.1), e1]) from rfl]
   refine WL_alloc hD1 zero81 rfl rfl (fun b7 w3 hD2 hB2 => ?_)
   have phr := hD2.delh_ro (α := (Int × (List Int))) 1 rfl
   obtain ⟨pf0, phe, pg0⟩ := ro_st81 phr
   replace phe := cells_of_agg (cs := [(.int .i64 x.1), e1]) (cs' := [(.int .i64 x.1), pf0]) phe
   simp only [List.cons.injEq, and_true, true_and] at phe
   obtain rfl := phe
   refine WL_store_box_agg (cs' := [(.int .i64 x.1), e1]) (new := [(.int .i64 x.1), e1]) hD2 0 rfl rfl (by intro v hv; simp only [List.mem_cons, List.not_mem_nil, or_false] at hv; rcases hv with rfl | rfl; exact rfl; exact (ro_one pg0)) rfl Tryz.sizeOf81 rfl rfl (fun w4 hD3 => ?_)
   try dsimp only [List.set] at hD3
   refine WL_nil ?_
   refine W_seq_reg ?_
   refine WL_move rfl rfl ?_
   refine WL_load_box_agg [(.int .i64 x.1), e1] hD3 0 rfl rfl rfl Tryz.isAgg81 Tryz.sizeOf81 rfl rfl ?_
   have qhr := hD3.delh_ro (α := (Int × (List Int))) 1 rfl
   obtain ⟨qf0, qhe, qg0⟩ := ro_st81 qhr
   replace qhe := cells_of_agg (cs := [(.int .i64 x.1), e1]) (cs' := [(.int .i64 x.1), qf0]) qhe
   simp only [List.cons.injEq, and_true, true_and] at qhe
   obtain rfl := qhe
   obtain ⟨q, hq, hL⟩ := bind_some (show (M.ApplyChange_c1 x ax1).bind (fun b => dfl (fun e => M.ApplyChange_c1 e ax1) (if b then kept else kept ++ [x]) rest) = some rr from hL)
   refine WL_callv (cap := [(ptr pb1 0)]) Tryz.call77 rfl rfl rfl (c_M_ApplyChange_c1 x e1 qg0 pb1 ax1 (g1.now hD3.keep) q hq) ?_
   intro _ w5 hv2
   obtain ⟨rfl, hB5⟩ := res_bool hv2
   have hD4 := hD3.grow hB5
   refine WL_not rfl rfl ?_
   refine WL_nil ?_
   refine W_cond rfl (fun hq1 => ?_) (fun hq1 => ?_)
   ·have hqf : q = false := by simpa using hq1
    rw [hqf] at hL
    rw [if_neg (by simp)] at hL
    refine W_seq_reg ?_
    refine WL_move rfl rfl ?_
    refine WL_move rfl rfl ?_
    refine WL_load_box_agg [(.int .i64 x.1), e1] hD4 0 rfl rfl rfl Tryz.isAgg81 Tryz.sizeOf81 rfl rfl ?_
    refine WL_index_raw Tryz.underlying34 ty81 (show kept.length < a1.length by omega) rfl rfl rfl ?_
    refine WL_store_del hD4.swap hg ty81 rfl rfl rfl (fun w6 hD5 => ?_)
    refine WL_nil ?_
    refine W_reg ?_
    refine WL_move rfl rfl ?_
    refine WL_add rfl rfl rfl ?_
    rw [show w64 ((kept.length : Int) + 1) = ((kept ++ [x]).length : Int) by rw [w64_id (by omega) (by omega), List.length_append]; rfl]
    refine WL_assign rfl rfl ?_
    refine WL_nil ?_
    refine blk_normal ?_
    refine nrm_normal ?_
    refine W_reg ?_
    refine WL_move rfl rfl ?_
    refine WL_add rfl rfl rfl ?_
    rw [show w64 (((kept.length + g : Nat) : Int) + 1) = (((kept ++ [x]).length + g : Nat) : Int) by rw [w64_id (by omega) (by omega), List.length_append]; simp only [List.length_cons, List.length_nil]; omega]
    refine WL_assign rfl rfl ?_
    refine WL_nil ?_
    refine nrm_sub (l' := [(0, .slice (some ⟨b, 0, none⟩) a1.length c), (1, (.func (.func 77) #[] #[(ptr pb1 0)])), (5, .int .i64 ((kept ++ [x]).length : Int)), (6, .int .i64 (((kept ++ [x]).length + g : Nat) : Int))]) ⟨rfl, rfl, rfl, rfl, trivial⟩ ?_
    exact ⟨rest.length, by omega, kept ++ [x], g, rest, rfl, hg, by rw [List.length_append]; simp only [List.length_cons, List.length_nil]; omega, hL, rfl, hD5.headN 1⟩
   have hqt : q = true := by simpa using hq1
   rw [hqt] at hL
   rw [if_pos rfl] at hL
   refine W_skip ?_
   refine blk_normal ?_
   refine nrm_normal ?_
   refine W_reg ?_
   refine WL_move rfl rfl ?_
   refine WL_add rfl rfl rfl ?_
   rw [show w64 (((kept.length + g : Nat) : Int) + 1) = ((kept.length + (g + 1) : Nat) : Int) by rw [w64_id (by omega) (by omega)]; omega]
   refine WL_assign rfl rfl ?_
   refine WL_nil ?_
   refine nrm_sub (l' := [(0, .slice (some ⟨b, 0, none⟩) a1.length c), (1, (.func (.func 77) #[] #[(ptr pb1 0)])), (5, .int .i64 (kept.length : Int)), (6, .int .i64 ((kept.length + (g + 1) : Nat) : Int))]) ⟨rfl, rfl, rfl, rfl, trivial⟩ ?_
   have hD5 := (hD4.swap.headN 1).del_skip
   exact ⟨rest.length, by omega, kept, g + 1, rest, rfl, by omega, by omega, hL, rfl, hD5⟩
 rintro l2 _ w8 hs2 ⟨kept, g, rfl, hg, hlen, rfl, hD⟩
 refine nrm_sub' hs2 ?_
 clear hs2
 refine W_seq_reg ?_
 refine WL_move rfl rfl ?_
 refine WL_move rfl rfl ?_
 refine WL_sl_l Tryz.underlying34 ty81 (show kept.length < c by omega) (show kept.length ≤ a1.length by omega) hc1 rfl rfl rfl ?_
 refine WL_clear_del hD Tryz.underlying34 ty81 zc81 (by intro v hv; simp only [List.mem_cons, List.not_mem_nil, or_false] at hv; rcases hv with rfl | rfl <;> rfl) hlen.symm rfl hg (fun w9 hD9 => ?_)
 refine WL_nil ?_
 refine W_seq_reg ?_
 refine WL_move rfl rfl ?_
 refine WL_move rfl rfl ?_
 refine WL_sl_h Tryz.underlying34 ty81 (hi := kept.length) (by omega) (by omega) rfl rfl rfl ?_
 refine WL_assign rfl rfl ?_
 refine WL_nil ?_
 refine W_ret ?_
 refine fn_ret1 rfl rfl ?_
 exact ⟨_, rfl, _, rfl, hD9⟩

theorem c_M_ApplyChange {w0 : World} (a1 : (List Int)) (u1 : Value) (g1 : RO [] w0 u1 a1) (a2 : ((List (Int × (List Int))) × Int)) (u2 : Value) (g2 : RO [] w0 u2 a2.1) (a3 : (Bool × (Int × (List Int)))) (u3 : Value) (g3 : RO [] w0 u3 a3.2.2) (rr : (((List (Int × (List Int))) × Int) × Bool)) (hF : M.ApplyChange a1 a2 a3 = some rr) :
 Calls Tryz.prog 46 [u1, (.agg #[u2, (.int .i64 a2.2)]), (.agg #[(.bool a3.1), (.int .i64 a3.2.1), u3])].toArray w0 fun e w' => ∃ v, e = .returned v ∧ Res2 w0 rr.1 rr.2 v w' := by
 refine calls_of_W Tryz.func46 rfl rfl ?_
 have hC0 := Ctx.start w0
 unfold M.ApplyChange at hF
 refine W_seq_reg ?_
 refine WL_box (cs := [u2, (.int .i64 a2.2)]) hC0 rfl rfl rfl (fun b1 w1 hC1 hB1 => ?_)
 refine WL_box (cs := [(.bool a3.1), (.int .i64 a3.2.1), u3]) hC1 rfl rfl rfl (fun b2 w2 hC2 hB2 => ?_)
 refine WL_alloc hC2 zero38 rfl rfl (fun b3 w3 hC3 hB3 => ?_)
 refine WL_assign rfl rfl ?_
 refine WL_nil ?_
 refine W_seq_reg ?_
 refine WL_load_box_agg [u2, (.int .i64 a2.2)] hC3 2 rfl rfl rfl Tryz.isAgg38 Tryz.sizeOf38 rfl rfl ?_
 obtain ⟨x1, hr1, hF⟩ := bind_some hF
 refine WL_call Tryz.call41 rfl rfl (c_M_copySource (a2.1, a2.2) u2 (g2.now hC3.keep) x1 hr1) ?_
 rintro v1 w4 ⟨hB4, F1, hv1, hn1, hb1⟩
 have hC4 := hC3.push hB4 (A := Item.own v1 x1) hv1 hn1 hb1
 obtain ⟨v2, rfl, hC5⟩ := st38_own hC4
 refine WL_alloc hC5 zero38 rfl rfl (fun b4 w5 hC6 hB5 => ?_)
 refine WL_store_box_agg (cs' := [v2, (.int .i64 x1.2)]) (new := [v2, (.int .i64 x1.2)]) hC6 0 rfl rfl (by intro v hv; simp only [List.mem_cons, List.not_mem_nil, or_false] at hv; rcases hv with rfl | rfl; exact (ro_one (hC6.ro 1 rfl)); exact rfl) rfl Tryz.sizeOf38 rfl rfl (fun w6 hC7 => ?_)
 try dsimp only [List.set] at hC7
 refine WL_nil ?_
 refine W_seq_reg ?_
 refine WL_field Tryz.underlying38 rfl rfl (fun w => ⟨_, Tryz.sizeOf34 w⟩) rfl rfl ?_
 refine WL_load_box hC7 4 rfl rfl Tryz.isAgg34 rfl rfl ?_
 refine WL_field Tryz.underlying83 rfl rfl (fun w => ⟨_, Tryz.sizeOf81 w⟩) rfl rfl ?_
 refine WL_load_box_agg [(.int .i64 a3.2.1), u3] hC7 3 rfl rfl rfl Tryz.isAgg81 Tryz.sizeOf81 rfl rfl ?_
 obtain ⟨x2, hr2, hF⟩ := bind_some hF
 refine WL_call Tryz.call73 rfl rfl (c_M_HasFact a2.1 u2 (g2.now hC7.keep) (a3.2.1, a3.2.2) u3 (g3.now hC7.keep) x2 hr2) ?_
 intro _ w7 hv2
 obtain ⟨rfl, hB6⟩ := res_bool hv2
 have hC8 := hC7.grow hB6
 refine WL_assign rfl rfl ?_
 refine WL_nil ?_
 refine W_seq ?_
 obtain ⟨r1, hr3, hF⟩ := bind_some hF
 refine W_cut (fun l w => ∃ x3 : Bool, x3 = r1 ∧ l = [(5, (ptr b2 0)), (6, (ptr b3 0)), (8, (ptr b4 0)), (48, (.bool x3))] ∧ Below w7.heap.size w7 w ∧ Ctx [] w0 w [Item.box b4 [v2, (.int .i64 x1.2)], Item.own v2 (x1.1 : (List (Int × (List Int)))), Item.box b3 [(.slice none 0 0), (.int .i64 0)], Item.box b2 [(.bool a3.1), (.int .i64 a3.2.1), u3]]) ?_ ?_
 ·refine W_reg ?_
  refine WL_move rfl rfl ?_
  refine WL_load_box_agg [u2, (.int .i64 a2.2)] hC8 4 rfl rfl rfl Tryz.isAgg38 Tryz.sizeOf38 rfl rfl ?_
  obtain ⟨x4, hr4, hr3⟩ := bind_some hr3
  refine WL_call Tryz.call67 rfl rfl (c_M_IsSource a1 u1 (g1.now hC8.keep) (a2.1, a2.2) u2 (g2.now hC8.keep) x4 hr4) ?_
  intro _ w10 hv3
  obtain ⟨rfl, hB8⟩ := res_bool hv3
  have hC10 := hC8.grow hB8
  refine WL_not rfl rfl ?_
  refine WL_move rfl rfl ?_
  refine WL_fork (fun hc1 => ?_) (fun hc1 => ?_)
  ·replace hr3 := ite_t hr3 hc1
   refine WL_guard_skip rfl rfl (by simp) rfl ?_
   refine WL_guard_skip rfl rfl (by simp) rfl ?_
   refine WL_guard_skip rfl rfl (by simp) rfl ?_
   refine WL_guard_skip rfl rfl (by simp) rfl ?_
   refine WL_guard_skip rfl rfl (by simp) rfl ?_
   refine WL_pick_t rfl rfl rfl ?_
   refine WL_move rfl rfl ?_
   refine WL_guard_skip rfl rfl (by simp) rfl ?_
   refine WL_guard_skip rfl rfl (by simp) rfl ?_
   refine WL_guard_skip rfl rfl (by simp) rfl ?_
   refine WL_pick_t rfl rfl rfl ?_
   refine WL_move rfl rfl ?_
   refine WL_guard_skip rfl rfl (by simp) rfl ?_
   refine WL_guard_skip rfl rfl (by simp) rfl ?_
   refine WL_guard_skip rfl rfl (by simp) rfl ?_
   refine WL_guard_skip rfl rfl (by simp) rfl ?_
   refine WL_pick_t rfl rfl rfl ?_
   refine WL_move rfl rfl ?_
   refine WL_guard_skip rfl rfl (by simp) rfl ?_
   refine WL_guard_skip rfl rfl (by simp) rfl ?_
   refine WL_guard_skip rfl rfl (by simp) rfl ?_
   refine WL_guard_skip rfl rfl (by simp [undef]) rfl ?_
   refine WL_guard_skip rfl rfl (by simp [undef]) rfl ?_
   refine WL_guard_skip rfl rfl (by simp [undef]) rfl ?_
   refine WL_guard_skip rfl rfl (by simp [undef]) rfl ?_
   refine WL_guard_skip rfl rfl (by simp) rfl ?_
   refine WL_pick_t rfl rfl rfl ?_
   refine WL_nil ?_
   have hq1 := Option.some.inj hr3
   subst hq1
   have hC11 := hC10.f3
   have hC12 := hC11.f3
   have hC13 := hC12.f3
   have hC14 := hC13.f3
   have hC15 := hC14.h4
   refine nrm_sub (l' := [(5, (ptr b2 0)), (6, (ptr b3 0)), (8, (ptr b4 0)), (48, (.bool true))]) ⟨rfl, rfl, rfl, rfl, trivial⟩ ?_
   exact ⟨true, rfl, rfl, (Keep.of hB8).below, hC15⟩
  replace hr3 := ite_f hr3 hc1
  refine WL_guard rfl rfl ?_
  refine WL_move rfl rfl ?_
  refine WL_guard rfl rfl ?_
  refine WL_field Tryz.underlying83 rfl rfl (fun w => ⟨_, Tryz.sizeOf81 w⟩) rfl rfl ?_
  refine WL_guard rfl rfl ?_
  refine WL_load_box_agg [(.int .i64 a3.2.1), u3] hC10 3 rfl rfl rfl Tryz.isAgg81 Tryz.sizeOf81 rfl rfl ?_
  obtain ⟨x5, hr5, hr3⟩ := bind_some hr3
  refine WL_guard rfl rfl ?_
  refine WL_call Tryz.call74 rfl rfl (c_M_IsFact a1 u1 (g1.now hC10.keep) (a3.2.1, a3.2.2) u3 (g3.now hC10.keep) x5 hr5) ?_
  intro _ w11 hv4
  obtain ⟨rfl, hB9⟩ := res_bool hv4
  have hC16 := hC10.grow hB9
  refine WL_guard rfl rfl ?_
  refine WL_not rfl rfl ?_
  refine WL_pick_f rfl rfl rfl ?_
  refine WL_move rfl rfl ?_
  refine WL_fork (fun hc2 => ?_) (fun hc2 => ?_)
  ·replace hr3 := ite_t hr3 hc2
   refine WL_guard_skip rfl rfl (by simp) rfl ?_
   refine WL_guard_skip rfl rfl (by simp) rfl ?_
   refine WL_guard_skip rfl rfl (by simp) rfl ?_
   refine WL_pick_t rfl rfl rfl ?_
   refine WL_move rfl rfl ?_
   refine WL_guard_skip rfl rfl (by simp) rfl ?_
   refine WL_guard_skip rfl rfl (by simp) rfl ?_
   refine WL_guard_skip rfl rfl (by simp) rfl ?_
   refine WL_guard_skip rfl rfl (by simp) rfl ?_
   refine WL_pick_t rfl rfl rfl ?_
   refine WL_move rfl rfl ?_
   refine WL_guard_skip rfl rfl (by simp) rfl ?_
   refine WL_guard_skip rfl rfl (by simp) rfl ?_
   refine WL_guard_skip rfl rfl (by simp) rfl ?_
   refine WL_guard_skip rfl rfl (by simp [undef]) rfl ?_
   refine WL_guard_skip rfl rfl (by simp [undef]) rfl ?_
   refine WL_guard_skip rfl rfl (by simp [undef]) rfl ?_
   refine WL_guard_skip rfl rfl (by simp [undef]) rfl ?_
   refine WL_guard_skip rfl rfl (by simp) rfl ?_
   refine WL_pick_t rfl rfl rfl ?_
   refine WL_nil ?_
   have hq2 := Option.some.inj hr3
   subst hq2
   have hC17 := hC16.f3
   have hC18 := hC17.f3
   have hC19 := hC18.f3
   have hC20 := hC19.f3
   have hC21 := hC20.h4
   refine nrm_sub (l' := [(5, (ptr b2 0)), (6, (ptr b3 0)), (8, (ptr b4 0)), (48, (.bool true))]) ⟨rfl, rfl, rfl, rfl, trivial⟩ ?_
   exact ⟨true, rfl, rfl, ((Keep.of hB8).then hB9).below, hC21⟩
  replace hr3 := ite_f hr3 hc2
  refine WL_guard rfl rfl ?_
  refine WL_field Tryz.underlying38 rfl rfl (fun w => ⟨_, Tryz.sizeOf3 w⟩) rfl rfl ?_
  refine WL_guard rfl rfl ?_
  refine WL_load_box hC16 4 rfl rfl Tryz.isAgg3 rfl rfl ?_
  refine WL_guard rfl rfl ?_
  refine WL_eql rfl rfl rfl ?_
  refine WL_pick_f rfl rfl rfl ?_
  refine WL_move rfl rfl ?_
  refine WL_fork (fun hc3 => ?_) (fun hc3 => ?_)
  ·replace hr3 := ite_t hr3 hc3
   refine WL_guard_skip rfl rfl (by simp) rfl ?_
   refine WL_guard_skip rfl rfl (by simp) rfl ?_
   refine WL_guard_skip rfl rfl (by simp) rfl ?_
   refine WL_guard_skip rfl rfl (by simp) rfl ?_
   refine WL_pick_t rfl rfl rfl ?_
   refine WL_move rfl rfl ?_
   refine WL_guard_skip rfl rfl (by simp) rfl ?_
   refine WL_guard_skip rfl rfl (by simp) rfl ?_
   refine WL_guard_skip rfl rfl (by simp) rfl ?_
   refine WL_guard_skip rfl rfl (by simp [undef]) rfl ?_
   refine WL_guard_skip rfl rfl (by simp [undef]) rfl ?_
   refine WL_guard_skip rfl rfl (by simp [undef]) rfl ?_
   refine WL_guard_skip rfl rfl (by simp [undef]) rfl ?_
   refine WL_guard_skip rfl rfl (by simp) rfl ?_
   refine WL_pick_t rfl rfl rfl ?_
   refine WL_nil ?_
   have hq3 := Option.some.inj hr3
   subst hq3
   have hC22 := hC16.f3
   have hC23 := hC22.f3
   have hC24 := hC23.f3
   have hC25 := hC24.f3
   have hC26 := hC25.h4
   refine nrm_sub (l' := [(5, (ptr b2 0)), (6, (ptr b3 0)), (8, (ptr b4 0)), (48, (.bool true))]) ⟨rfl, rfl, rfl, rfl, trivial⟩ ?_
   exact ⟨true, rfl, rfl, ((Keep.of hB8).then hB9).below, hC26⟩
  replace hr3 := ite_f hr3 hc3
  refine WL_guard rfl rfl ?_
  refine WL_move rfl rfl ?_
  refine WL_guard rfl rfl ?_
  refine WL_field Tryz.underlying83 rfl rfl (fun w => ⟨_, Tryz.sizeOf4 w⟩) rfl rfl ?_
  refine WL_guard rfl rfl ?_
  refine WL_load_box hC16 3 rfl rfl Tryz.isAgg4 rfl rfl ?_
  refine WL_guard rfl rfl ?_
  refine WL_bool_eql Tryz.underlying4 rfl rfl rfl ?_
  refine WL_pick_f rfl rfl rfl ?_
  refine WL_move rfl rfl ?_
  refine WL_fork (fun hc4 => ?_) (fun hc4 => ?_)
  ·replace hr3 := ite_t hr3 hc4
   refine WL_guard_skip rfl rfl (by simp) rfl ?_
   refine WL_guard_skip rfl rfl (by simp) rfl ?_
   refine WL_guard_skip rfl rfl (by simp) rfl ?_
   refine WL_guard_skip rfl rfl (by simp [undef]) rfl ?_
   refine WL_guard_skip rfl rfl (by simp [undef]) rfl ?_
   refine WL_guard_skip rfl rfl (by simp [undef]) rfl ?_
   refine WL_guard_skip rfl rfl (by simp [undef]) rfl ?_
   refine WL_guard_skip rfl rfl (by simp) rfl ?_
   refine WL_pick_t rfl rfl rfl ?_
   refine WL_nil ?_
   have hq4 := Option.some.inj hr3
   subst hq4
   have hC27 := hC16.f3
   have hC28 := hC27.f3
   have hC29 := hC28.f3
   have hC30 := hC29.f3
   have hC31 := hC30.h4
   refine nrm_sub (l' := [(5, (ptr b2 0)), (6, (ptr b3 0)), (8, (ptr b4 0)), (48, (.bool true))]) ⟨rfl, rfl, rfl, rfl, trivial⟩ ?_
   exact ⟨true, rfl, rfl, ((Keep.of hB8).then hB9).below, hC31⟩
  replace hr3 := ite_f hr3 hc4
  refine WL_guard rfl rfl ?_
  refine WL_field Tryz.underlying83 rfl rfl (fun w => ⟨_, Tryz.sizeOf4 w⟩) rfl rfl ?_
  refine WL_guard rfl rfl ?_
  refine WL_load_box hC16 3 rfl rfl Tryz.isAgg4 rfl rfl ?_
  refine WL_guard rfl rfl ?_
  refine WL_move rfl rfl ?_
  refine WL_fork (fun hc5 => ?_) (fun hc5 => ?_)
  ·replace hr3 := ite_t hr3 hc5
   refine WL_guard rfl rfl ?_
   refine WL_field Tryz.underlying38 rfl rfl (fun w => ⟨_, Tryz.sizeOf34 w⟩) rfl rfl ?_
   refine WL_guard rfl rfl ?_
   refine WL_load_box hC16 4 rfl rfl Tryz.isAgg34 rfl rfl ?_
   refine WL_guard rfl rfl ?_
   refine WL_len Tryz.underlying34 g2 rfl rfl ?_
   refine WL_guard rfl rfl ?_
   refine WL_geq rfl rfl rfl ?_
   refine WL_guard rfl rfl ?_
   refine WL_pick_t rfl rfl rfl ?_
   refine WL_pick_f rfl rfl rfl ?_
   refine WL_nil ?_
   have hq5 := Option.some.inj hr3
   subst hq5
   have hC32 := hC16.f3
   have hC33 := hC32.f3
   have hC34 := hC33.f3
   have hC35 := hC34.f3
   have hC36 := hC35.h4
   refine nrm_sub (l' := [(5, (ptr b2 0)), (6, (ptr b3 0)), (8, (ptr b4 0)), (48, (.bool (decide (24 ≤ (List.length a2.1 : Int)))))]) ⟨rfl, rfl, rfl, rfl, trivial⟩ ?_
   exact ⟨(decide (24 ≤ (List.length a2.1 : Int))), rfl, rfl, ((Keep.of hB8).then hB9).below, hC36⟩
  replace hr3 := ite_f hr3 hc5
  refine WL_guard_skip rfl rfl (by simp) rfl ?_
  refine WL_guard_skip rfl rfl (by simp) rfl ?_
  refine WL_guard_skip rfl rfl (by simp) rfl ?_
  refine WL_guard_skip rfl rfl (by simp) rfl ?_
  refine WL_guard rfl rfl ?_
  refine WL_pick_f rfl rfl rfl ?_
  refine WL_pick_f rfl rfl rfl ?_
  refine WL_nil ?_
  have hq6 := Option.some.inj hr3
  subst hq6
  have hC37 := hC16.f3
  have hC38 := hC37.f3
  have hC39 := hC38.f3
  have hC40 := hC39.f3
  have hC41 := hC40.h4
  refine nrm_sub (l' := [(5, (ptr b2 0)), (6, (ptr b3 0)), (8, (ptr b4 0)), (48, (.bool false))]) ⟨rfl, rfl, rfl, rfl, trivial⟩ ?_
  exact ⟨false, rfl, rfl, ((Keep.of hB8).then hB9).below, hC41⟩
 rintro _ w9 ⟨x3, rfl, rfl, hB7, hC9⟩
 try dsimp only at hF
 refine W_cond rfl (fun hc6 => ?_) (fun hc6 => ?_)
 ·replace hF := ite_t hF hc6
  refine W_seq_reg ?_
  refine WL_load_box_agg [v2, (.int .i64 x1.2)] hC9 0 rfl rfl rfl Tryz.isAgg38 Tryz.sizeOf38 rfl rfl ?_
  refine WL_store_box_agg (cs' := [v2, (.int .i64 x1.2)]) (new := [v2, (.int .i64 x1.2)]) hC9 2 rfl rfl (by intro v hv; simp only [List.mem_cons, List.not_mem_nil, or_false] at hv; rcases hv with rfl | rfl; exact (ro_one (hC9.ro 1 rfl)); exact rfl) rfl Tryz.sizeOf38 rfl rfl (fun w12 hC42 => ?_)
  try dsimp only [List.set] at hC42
  refine WL_assign rfl rfl ?_
  refine WL_nil ?_
  refine W_ret ?_
  refine nrm_ret ?_
  have hq7 := Option.some.inj hF
  subst hq7
  refine fn_retG2 rfl (rv_cell_agg (cs' := [v2, (.int .i64 x1.2)]) hC42 (i := 2) rfl rfl rfl Tryz.isAgg38 Tryz.sizeOf38 rfl) (rv_tmp rfl) ?_
  have hC43 := hC42.triv (bool_val (false))
  have hC45 := hC43.f2
  have hC44 := own_st38 v2 x1.1 x1.2 hC45
  exact ⟨_, rfl, res2_of hC44⟩
 replace hF := ite_f hF hc6
 refine W_skip ?_
 refine nrm_normal ?_
 refine W_seq ?_
 refine W_seq_reg ?_
 refine WL_field Tryz.underlying83 rfl rfl (fun w => ⟨_, Tryz.sizeOf4 w⟩) rfl rfl ?_
 refine WL_load_box hC9 3 rfl rfl Tryz.isAgg4 rfl rfl ?_
 refine WL_nil ?_
 obtain ⟨r2, hr6, hF⟩ := bind_some hF
 refine W_norm (fun l w => ∃ v3 : Value, ∃ x6 : (List (Int × (List Int))), ∃ x7 : Int, (x6, x7) = r2 ∧ l = [(6, (ptr b3 0)), (8, (ptr b4 0))] ∧ Ctx [] w0 w [Item.box b4 [v3, (.int .i64 x7)], Item.own v3 (x6 : (List (Int × (List Int)))), Item.box b3 [(.slice none 0 0), (.int .i64 0)]]) ?_ ?_
 ·refine W_cond rfl (fun hc7 => ?_) (fun hc7 => ?_)
  ·replace hr6 := ite_t hr6 hc7
   refine W_reg ?_
   refine WL_field Tryz.underlying38 rfl rfl (fun w => ⟨_, Tryz.sizeOf34 w⟩) rfl rfl ?_
   refine WL_load_box hC9 0 rfl rfl Tryz.isAgg34 rfl rfl ?_
   refine WL_field Tryz.underlying83 rfl rfl (fun w => ⟨_, Tryz.sizeOf81 w⟩) rfl rfl ?_
   refine WL_load_box_agg [(.int .i64 a3.2.1), u3] hC9 3 rfl rfl rfl Tryz.isAgg81 Tryz.sizeOf81 rfl rfl ?_
   obtain ⟨x8, hr7, hr6⟩ := bind_some hr6
   have hC47 := hC9.f1
   obtain ⟨Fs1, hH1, hn2, hF1, hO1, hb2⟩ := Ctx.lend2 (As := [Item.box b4 [v2, (.int .i64 x1.2)], Item.box b3 [(.slice none 0 0), (.int .i64 0)], Item.box b2 [(.bool a3.1), (.int .i64 a3.2.1), u3]]) [Item.own v2 (x1.1 : (List (Int × (List Int))))] hC47
   refine WL_call Tryz.call75 rfl rfl (c_M_added x1.1 v2 (a3.2.1, a3.2.2) u3 (RO.lent g3 hC47.keep hF1) hH1 hn2 x8 hr7) ?_
   rintro v4 w14 ⟨_, rfl, hq8⟩
   have hC48 : Ctx [] w0 w14 [Item.own v4 (x8 : (List (Int × (List Int)))), Item.box b4 [v2, (.int .i64 x1.2)], Item.box b3 [(.slice none 0 0), (.int .i64 0)], Item.box b2 [(.bool a3.1), (.int .i64 a3.2.1), u3]] := hb2 _ _ hq8
   refine WL_field Tryz.underlying38 rfl rfl (fun w => ⟨_, Tryz.sizeOf34 w⟩) rfl rfl ?_
   refine WL_store_box (cs' := [v4, (.int .i64 x1.2)]) hC48 1 rfl rfl (ro_one (hC48.ro 0 rfl)) rfl Tryz.sizeOf34 rfl rfl (fun w15 hC49 => ?_)
   try dsimp only [List.set] at hC49
   refine WL_nil ?_
   have hq9 := Option.some.inj hr6
   subst hq9
   have hC50 := hC49.f2
   have hC51 := hC50.f1
   have hC52 := hC51.f2
   have hC53 := hC52.h3
   refine nrm_sub (l' := [(6, (ptr b3 0)), (8, (ptr b4 0))]) ⟨rfl, rfl, trivial⟩ ?_
   exact ⟨v4, x8, x1.2, rfl, rfl, hC53⟩
  replace hr6 := ite_f hr6 hc7
  refine W_reg ?_
  refine WL_field Tryz.underlying38 rfl rfl (fun w => ⟨_, Tryz.sizeOf34 w⟩) rfl rfl ?_
  refine WL_load_box hC9 0 rfl rfl Tryz.isAgg34 rfl rfl ?_
  refine WL_makeFunc rfl rfl ?_
  obtain ⟨x9, hr8, hr6⟩ := bind_some hr6
  have hC54 := hC9.f1
  obtain ⟨Fs2, hH2, hn3, hF2, hO2, hX2, hb3⟩ := Ctx.lend3 (As := [Item.box b4 [v2, (.int .i64 x1.2)], Item.box b3 [(.slice none 0 0), (.int .i64 0)], Item.box b2 [(.bool a3.1), (.int .i64 a3.2.1), u3]]) [Item.own v2 (x1.1 : (List (Int × (List Int))))] hC54
  refine WL_call Tryz.call76 rfl rfl (c_Slices_DeleteFunc_Limpl_Fact_impl_Fact_M_ApplyChange_c1 x1.1 v2 b2 (a3.1, (a3.2.1, a3.2.2)) (roat_box (hX2 2 _ _ rfl) (repd_pair repd_bool (repd_pair repd_int (repd_slice (RO.lent g3 hC54.keep hF2))))) hH2 hn3 x9 hr8) ?_
  rintro v5 w16 ⟨_, rfl, hq10⟩
  have hC55 : Ctx [] w0 w16 [Item.own v5 (x9 : (List (Int × (List Int)))), Item.box b4 [v2, (.int .i64 x1.2)], Item.box b3 [(.slice none 0 0), (.int .i64 0)], Item.box b2 [(.bool a3.1), (.int .i64 a3.2.1), u3]] := hb3 _ _ hq10
  refine WL_field Tryz.underlying38 rfl rfl (fun w => ⟨_, Tryz.sizeOf34 w⟩) rfl rfl ?_
  refine WL_store_box (cs' := [v5, (.int .i64 x1.2)]) hC55 1 rfl rfl (ro_one (hC55.ro 0 rfl)) rfl Tryz.sizeOf34 rfl rfl (fun w17 hC56 => ?_)
  try dsimp only [List.set] at hC56
  refine WL_nil ?_
  have hq11 := Option.some.inj hr6
  subst hq11
  have hC57 := hC56.f2
  have hC58 := hC57.f1
  have hC59 := hC58.f2
  have hC60 := hC59.h3
  refine nrm_sub (l' := [(6, (ptr b3 0)), (8, (ptr b4 0))]) ⟨rfl, rfl, trivial⟩ ?_
  exact ⟨v5, x9, x1.2, rfl, rfl, hC60⟩
 rintro l2 _ w13 hs2 ⟨v3, x6, x7, rfl, rfl, hC46⟩
 try dsimp only at hF
 refine nrm_sub' hs2 ?_
 clear hs2
 refine W_seq_reg ?_
 refine WL_field Tryz.underlying38 rfl rfl (fun w => ⟨_, Tryz.sizeOf3 w⟩) rfl rfl ?_
 refine WL_load_box hC46 0 rfl rfl Tryz.isAgg3 rfl rfl ?_
 refine WL_add rfl rfl rfl ?_
 refine WL_field Tryz.underlying38 rfl rfl (fun w => ⟨_, Tryz.sizeOf3 w⟩) rfl rfl ?_
 refine WL_store_box (cs' := [v3, (.int .i64 (w64 (x7 + 1)))]) hC46 0 rfl rfl rfl rfl Tryz.sizeOf3 rfl rfl (fun w18 hC61 => ?_)
 try dsimp only [List.set] at hC61
 refine WL_nil ?_
 refine W_seq_reg ?_
 refine WL_load_box_agg [v3, (.int .i64 (w64 (x7 + 1)))] hC61 0 rfl rfl rfl Tryz.isAgg38 Tryz.sizeOf38 rfl rfl ?_
 refine WL_store_box_agg (cs' := [v3, (.int .i64 (w64 (x7 + 1)))]) (new := [v3, (.int .i64 (w64 (x7 + 1)))]) hC61 2 rfl rfl (by intro v hv; simp only [List.mem_cons, List.not_mem_nil, or_false] at hv; rcases hv with rfl | rfl; exact (ro_one (hC61.ro 1 rfl)); exact rfl) rfl Tryz.sizeOf38 rfl rfl (fun w19 hC62 => ?_)
 try dsimp only [List.set] at hC62
 refine WL_assign rfl rfl ?_
 refine WL_nil ?_
 refine W_ret ?_
 have hq12 := Option.some.inj hF
 subst hq12
 refine fn_retG2 rfl (rv_cell_agg (cs' := [v3, (.int .i64 (w64 (x7 + 1)))]) hC62 (i := 2) rfl rfl rfl Tryz.isAgg38 Tryz.sizeOf38 rfl) (rv_tmp rfl) ?_
 have hC63 := hC62.triv (bool_val (true))
 have hC65 := hC63.f2
 have hC64 := own_st38 v3 x6 (w64 (x7 + 1)) hC65
 exact ⟨_, rfl, res2_of hC64⟩

theorem c_M_ReadThrough {w0 : World} (a1 : (List Int)) (u1 : Value) (g1 : RO [] w0 u1 a1) (a2 : (List (Int × (List Int) × Int × Int × Int))) (u2 : Value) (g2 : RO [] w0 u2 a2) (a3 : ((List (Int × (List Int))) × Int)) (u3 : Value) (g3 : RO [] w0 u3 a3.1) (a4 : (Int × (List Int))) (u4 : Value) (g4 : RO [] w0 u4 a4.2) (a5 : Int) (a6 : (List (Bool × (Int × (List Int))))) (u5 : Value) (g5 : RO [] w0 u5 a6) (a7 : Int) (rr : (((List (Int × (List Int))) × Int × Int × Int × Bool) × ((List (Int × (List Int))) × Int))) (hF : M.ReadThrough a1 a2 a3 a4 a5 a6 a7 = some rr) :
 Calls Tryz.prog 14 [u1, u2, (.agg #[u3, (.int .i64 a3.2)]), (.agg #[(.int .i64 a4.1), u4]), (.int .i64 a5), u5, (.int .i64 a7)].toArray w0 fun e w' => ∃ v, e = .returned v ∧ Res2 w0 rr.1 rr.2 v w' := by
 refine calls_of_W Tryz.func14 rfl rfl ?_
 have hC0 := Ctx.start w0
 unfold M.ReadThrough at hF
 refine W_seq_reg ?_
 refine WL_box (cs := [u3, (.int .i64 a3.2)]) hC0 rfl rfl rfl (fun b1 w1 hC1 hB1 => ?_)
 refine WL_box (cs := [(.int .i64 a4.1), u4]) hC1 rfl rfl rfl (fun b2 w2 hC2 hB2 => ?_)
 refine WL_alloc hC2 zero36 rfl rfl (fun b3 w3 hC3 hB3 => ?_)
 refine WL_alloc hC3 zero38 rfl rfl (fun b4 w4 hC4 hB4 => ?_)
 refine WL_nil ?_
 refine W_seq_reg ?_
 refine WL_load_box_agg [u3, (.int .i64 a3.2)] hC4 3 rfl rfl rfl Tryz.isAgg38 Tryz.sizeOf38 rfl rfl ?_
 obtain ⟨x1, hr1, hF⟩ := bind_some hF
 refine WL_call Tryz.call41 rfl rfl (c_M_copySource (a3.1, a3.2) u3 (g3.now hC4.keep) x1 hr1) ?_
 rintro v1 w5 ⟨hB5, F1, hv1, hn1, hb1⟩
 have hC5 := hC4.push hB5 (A := Item.own v1 x1) hv1 hn1 hb1
 obtain ⟨v2, rfl, hC6⟩ := st38_own hC5
 refine WL_alloc hC6 zero38 rfl rfl (fun b5 w6 hC7 hB6 => ?_)
 refine WL_store_box_agg (cs' := [v2, (.int .i64 x1.2)]) (new := [v2, (.int .i64 x1.2)]) hC7 0 rfl rfl (by intro v hv; simp only [List.mem_cons, List.not_mem_nil, or_false] at hv; rcases hv with rfl | rfl; exact (ro_one (hC7.ro 1 rfl)); exact rfl) rfl Tryz.sizeOf38 rfl rfl (fun w7 hC8 => ?_)
 try dsimp only [List.set] at hC8
 refine WL_nil ?_
 refine W_seq_reg ?_
 refine WL_move rfl rfl ?_
 refine WL_move rfl rfl ?_
 refine WL_load_box_agg [u3, (.int .i64 a3.2)] hC8 5 rfl rfl rfl Tryz.isAgg38 Tryz.sizeOf38 rfl rfl ?_
 refine WL_load_box_agg [(.int .i64 a4.1), u4] hC8 4 rfl rfl rfl Tryz.isAgg45 Tryz.sizeOf45 rfl rfl ?_
 obtain ⟨x2, hr2, hF⟩ := bind_some hF
 refine WL_call Tryz.call42 rfl rfl (c_M_OpenCursor a1 u1 (g1.now hC8.keep) a2 u2 (g2.now hC8.keep) (a3.1, a3.2) u3 (g3.now hC8.keep) (a4.1, a4.2) u4 (g4.now hC8.keep) x2 hr2) ?_
 rintro _ w9 ⟨hB7, v3, v4, F2, F3, rfl, hv2, hv3, hn2, hb2⟩
 obtain ⟨rfl, rfl⟩ := val_bool hv3
 have hC9 := hC8.pushL hB7 (Bs := [Item.own v3 x2.1]) (Fs := [F2]) ⟨F2, _, rfl, hv2, rfl⟩ (by simpa using hn2) (fun b h => hb2 b (by simpa using h))
 obtain ⟨v5, rfl, hC10⟩ := st73_own hC9
 refine WL_move rfl rfl ?_
 refine WL_extract rfl rfl rfl ?_
 refine WL_extract rfl rfl rfl ?_
 refine WL_alloc hC10 zero73 rfl rfl (fun b6 w10 hC11 hB8 => ?_)
 refine WL_store_box_agg (cs' := [(.int .i64 x2.1.1.1), v5, (.int .i64 x2.1.2.1), (.int .i64 x2.1.2.2)]) (new := [(.int .i64 x2.1.1.1), v5, (.int .i64 x2.1.2.1), (.int .i64 x2.1.2.2)]) hC11 0 rfl rfl (by intro v hv; simp only [List.mem_cons, List.not_mem_nil, or_false] at hv; rcases hv with rfl | rfl | rfl | rfl; exact rfl; exact (ro_one (hC11.ro 1 rfl)); exact rfl; exact rfl) rfl Tryz.sizeOf73 rfl rfl (fun w11 hC12 => ?_)
 try dsimp only [List.set] at hC12
 refine WL_assign rfl rfl ?_
 refine WL_nil ?_
 refine W_seq ?_
 obtain ⟨r1, hr3, hF⟩ := bind_some hF
 refine W_cut (fun l w => ∃ x3 : Bool, x3 = r1 ∧ l = [(0, u1), (1, u2), (4, (.int .i64 a5)), (5, u5), (6, (.int .i64 a7)), (10, (ptr b2 0)), (14, (ptr b3 0)), (15, (ptr b4 0)), (16, (ptr b5 0)), (17, (ptr b6 0)), (44, (.bool x3))] ∧ Below w11.heap.size w11 w ∧ Ctx [] w0 w [Item.box b6 [(.int .i64 x2.1.1.1), v5, (.int .i64 x2.1.2.1), (.int .i64 x2.1.2.2)], Item.own v5 (x2.1.1.2 : (List Int)), Item.box b5 [v2, (.int .i64 x1.2)], Item.own v2 (x1.1 : (List (Int × (List Int)))), Item.box b4 [(.slice none 0 0), (.int .i64 0)], Item.box b3 [(.slice none 0 0), (.int .i64 0), (.int .i64 0), (.int .i64 0), (.bool false)], Item.box b2 [(.int .i64 a4.1), u4]]) ?_ ?_
 ·refine W_reg ?_
  refine WL_move rfl rfl ?_
  refine WL_not rfl rfl ?_
  refine WL_move rfl rfl ?_
  refine WL_fork (fun hc1 => ?_) (fun hc1 => ?_)
  ·replace hr3 := ite_t hr3 hc1
   refine WL_guard_skip rfl rfl (by simp) rfl ?_
   refine WL_guard_skip rfl rfl (by simp) rfl ?_
   refine WL_guard_skip rfl rfl (by simp) rfl ?_
   refine WL_pick_t rfl rfl rfl ?_
   refine WL_move rfl rfl ?_
   refine WL_guard_skip rfl rfl (by simp) rfl ?_
   refine WL_guard_skip rfl rfl (by simp) rfl ?_
   refine WL_guard_skip rfl rfl (by simp) rfl ?_
   refine WL_pick_t rfl rfl rfl ?_
   refine WL_nil ?_
   have hq1 := Option.some.inj hr3
   subst hq1
   have hC14 := hC12.f6
   have hC15 := hC14.f6
   have hC16 := hC15.f6
   have hC17 := hC16.f6
   have hC18 := hC17.f6
   have hC19 := hC18.f6
   have hC20 := hC19.f6
   have hC21 := hC20.h7
   refine nrm_sub (l' := [(0, u1), (1, u2), (4, (.int .i64 a5)), (5, u5), (6, (.int .i64 a7)), (10, (ptr b2 0)), (14, (ptr b3 0)), (15, (ptr b4 0)), (16, (ptr b5 0)), (17, (ptr b6 0)), (44, (.bool true))]) ⟨rfl, rfl, rfl, rfl, rfl, rfl, rfl, rfl, rfl, rfl, rfl, trivial⟩ ?_
   exact ⟨true, rfl, rfl, (Below.refl _ _), hC21⟩
  replace hr3 := ite_f hr3 hc1
  refine WL_guard rfl rfl ?_
  refine WL_move rfl rfl ?_
  obtain ⟨x4, hr4, hr3⟩ := bind_some hr3
  refine WL_guard rfl rfl ?_
  refine WL_call Tryz.call43 rfl rfl (c_M_isPage a5 x4 hr4) ?_
  intro _ w13 hv4
  obtain ⟨rfl, hB10⟩ := res_bool hv4
  have hC22 := hC12.grow hB10
  refine WL_guard rfl rfl ?_
  refine WL_not rfl rfl ?_
  refine WL_pick_f rfl rfl rfl ?_
  refine WL_move rfl rfl ?_
  refine WL_fork (fun hc2 => ?_) (fun hc2 => ?_)
  ·replace hr3 := ite_t hr3 hc2
   refine WL_guard_skip rfl rfl (by simp) rfl ?_
   refine WL_guard_skip rfl rfl (by simp) rfl ?_
   refine WL_guard_skip rfl rfl (by simp) rfl ?_
   refine WL_pick_t rfl rfl rfl ?_
   refine WL_nil ?_
   have hq2 := Option.some.inj hr3
   subst hq2
   have hC23 := hC22.f6
   have hC24 := hC23.f6
   have hC25 := hC24.f6
   have hC26 := hC25.f6
   have hC27 := hC26.f6
   have hC28 := hC27.f6
   have hC29 := hC28.f6
   have hC30 := hC29.h7
   refine nrm_sub (l' := [(0, u1), (1, u2), (4, (.int .i64 a5)), (5, u5), (6, (.int .i64 a7)), (10, (ptr b2 0)), (14, (ptr b3 0)), (15, (ptr b4 0)), (16, (ptr b5 0)), (17, (ptr b6 0)), (44, (.bool true))]) ⟨rfl, rfl, rfl, rfl, rfl, rfl, rfl, rfl, rfl, rfl, rfl, trivial⟩ ?_
   exact ⟨true, rfl, rfl, (Keep.of hB10).below, hC30⟩
  replace hr3 := ite_f hr3 hc2
  refine WL_guard rfl rfl ?_
  refine WL_move rfl rfl ?_
  obtain ⟨x5, hr5, hr3⟩ := bind_some hr3
  refine WL_guard rfl rfl ?_
  refine WL_call Tryz.call44 rfl rfl (c_M_within a7 0 20 x5 hr5) ?_
  intro _ w14 hv5
  obtain ⟨rfl, hB11⟩ := res_bool hv5
  have hC31 := hC22.grow hB11
  refine WL_guard rfl rfl ?_
  refine WL_not rfl rfl ?_
  refine WL_pick_f rfl rfl rfl ?_
  refine WL_nil ?_
  have hq3 := Option.some.inj hr3
  subst hq3
  have hC32 := hC31.f6
  have hC33 := hC32.f6
  have hC34 := hC33.f6
  have hC35 := hC34.f6
  have hC36 := hC35.f6
  have hC37 := hC36.f6
  have hC38 := hC37.f6
  have hC39 := hC38.h7
  refine nrm_sub (l' := [(0, u1), (1, u2), (4, (.int .i64 a5)), (5, u5), (6, (.int .i64 a7)), (10, (ptr b2 0)), (14, (ptr b3 0)), (15, (ptr b4 0)), (16, (ptr b5 0)), (17, (ptr b6 0)), (44, (.bool (!x5)))]) ⟨rfl, rfl, rfl, rfl, rfl, rfl, rfl, rfl, rfl, rfl, rfl, trivial⟩ ?_
  exact ⟨(!x5), rfl, rfl, ((Keep.of hB10).then hB11).below, hC39⟩
 rintro _ w12 ⟨x3, rfl, rfl, hB9, hC13⟩
 try dsimp only at hF
 refine W_cond rfl (fun hc3 => ?_) (fun hc3 => ?_)
 ·replace hF := ite_t hF hc3
  obtain ⟨r2, hr6, hF⟩ := bind_some hF
  refine W_cut (fun l w => ∃ v6 : Value, ∃ x6 : (List (Int × (List Int))), ∃ x7 : Int, ∃ v7 : Value, ∃ x8 : (List (Int × (List Int))), ∃ x9 : Int, ∃ x10 : Int, ∃ x11 : Int, ∃ x12 : Bool, (x6, x7, x8, x9, x10, x11, x12) = r2 ∧ l = [(14, (ptr b3 0)), (15, (ptr b4 0))] ∧ Ctx [] w0 w [Item.own v7 (x8 : (List (Int × (List Int)))), Item.own v6 (x6 : (List (Int × (List Int)))), Item.box b4 [v6, (.int .i64 x7)], Item.box b3 [v7, (.int .i64 x9), (.int .i64 x10), (.int .i64 x11), (.bool x12)]]) ?_ ?_
  ·refine W_drawn 4 rfl hmix (fun w16 hB13 => ?_)
   have hC41 := hC13.grow hB13
   refine WA_tk 0 (by kernel_rfl) rfl rfl (fl_build (vs := []) rfl rfl built36) ?_
   refine WL_build (vs := []) rfl rfl rfl built36 ?_
   refine WL_nil ?_
   refine WA_all2 (i := 1) (j := 2) (by kernel_rfl) rfl rfl ?_ ?_
   ·refine WL_load_box_agg [v2, (.int .i64 x1.2)] hC41 2 rfl rfl rfl Tryz.isAgg38 Tryz.sizeOf38 rfl rfl ?_
    refine WL_nil ?_
    refine WA_one 2 (by kernel_rfl) rfl ?_
    refine WL_store_box_agg (cs' := [(.slice none 0 0), (.int .i64 0), (.int .i64 0), (.int .i64 0), (.bool false)]) (new := [(.slice none 0 0), (.int .i64 0), (.int .i64 0), (.int .i64 0), (.bool false)]) hC41 5 rfl rfl (by intro v hv; simp only [List.mem_cons, List.not_mem_nil, or_false] at hv; rcases hv with rfl | rfl | rfl | rfl | rfl; exact rfl; exact rfl; exact rfl; exact rfl; exact rfl) rfl Tryz.sizeOf36 rfl rfl (fun w17 hC42 => ?_)
    try dsimp only [List.set] at hC42
    refine WL_nil ?_
    refine WA_one 3 (by kernel_rfl) rfl ?_
    refine WL_store_box_agg (cs' := [v2, (.int .i64 x1.2)]) (new := [v2, (.int .i64 x1.2)]) hC42 4 rfl rfl (by intro v hv; simp only [List.mem_cons, List.not_mem_nil, or_false] at hv; rcases hv with rfl | rfl; exact (ro_one (hC42.ro 3 rfl)); exact rfl) rfl Tryz.sizeOf38 rfl rfl (fun w18 hC43 => ?_)
    try dsimp only [List.set] at hC43
    refine WL_nil ?_
    refine WA_done (by kernel_rfl) ?_
    have hq4 := Option.some.inj hr6
    subst hq4
    have hC44 := hC43.triv (nil_val (α := (Int × (List Int))))
    have hC45 := hC44.f6
    have hC46 := hC45.f6
    have hC47 := hC46.f6
    have hC48 := hC47.f3
    have hC49 := hC48.h4
    refine nrm_sub (l' := [(14, (ptr b3 0)), (15, (ptr b4 0))]) ⟨rfl, rfl, trivial⟩ ?_
    exact ⟨v2, x1.1, x1.2, (.slice none 0 0), [], 0, 0, 0, false, rfl, rfl, hC49⟩
   refine WL_store_box_agg (cs' := [(.slice none 0 0), (.int .i64 0), (.int .i64 0), (.int .i64 0), (.bool false)]) (new := [(.slice none 0 0), (.int .i64 0), (.int .i64 0), (.int .i64 0), (.bool false)]) hC41 5 rfl rfl (by intro v hv; simp only [List.mem_cons, List.not_mem_nil, or_false] at hv; rcases hv with rfl | rfl | rfl | rfl | rfl; exact rfl; exact rfl; exact rfl; exact rfl; exact rfl) rfl Tryz.sizeOf36 rfl rfl (fun w17 hC42 => ?_)
   try dsimp only [List.set] at hC42
   refine WL_nil ?_
   refine WA_one 1 (by kernel_rfl) rfl ?_
   refine WL_load_box_agg [v2, (.int .i64 x1.2)] hC42 2 rfl rfl rfl Tryz.isAgg38 Tryz.sizeOf38 rfl rfl ?_
   refine WL_nil ?_
   refine WA_one 3 (by kernel_rfl) rfl ?_
   refine WL_store_box_agg (cs' := [v2, (.int .i64 x1.2)]) (new := [v2, (.int .i64 x1.2)]) hC42 4 rfl rfl (by intro v hv; simp only [List.mem_cons, List.not_mem_nil, or_false] at hv; rcases hv with rfl | rfl; exact (ro_one (hC42.ro 3 rfl)); exact rfl) rfl Tryz.sizeOf38 rfl rfl (fun w18 hC43 => ?_)
   try dsimp only [List.set] at hC43
   refine WL_nil ?_
   refine WA_done (by kernel_rfl) ?_
   have hq4 := Option.some.inj hr6
   subst hq4
   have hC44 := hC43.triv (nil_val (α := (Int × (List Int))))
   have hC45 := hC44.f6
   have hC46 := hC45.f6
   have hC47 := hC46.f6
   have hC48 := hC47.f3
   have hC49 := hC48.h4
   refine nrm_sub (l' := [(14, (ptr b3 0)), (15, (ptr b4 0))]) ⟨rfl, rfl, trivial⟩ ?_
   exact ⟨v2, x1.1, x1.2, (.slice none 0 0), [], 0, 0, 0, false, rfl, rfl, hC49⟩
  rintro _ w15 ⟨v6, x6, x7, v7, x8, x9, x10, x11, x12, rfl, rfl, hC40⟩
  try dsimp only at hF
  refine W_ret ?_
  refine nrm_ret ?_
  have hq5 := Option.some.inj hF
  subst hq5
  refine fn_retG2 rfl (rv_cell_agg (cs' := [v7, (.int .i64 x9), (.int .i64 x10), (.int .i64 x11), (.bool x12)]) hC40 (i := 3) rfl rfl rfl Tryz.isAgg36 Tryz.sizeOf36 rfl) (rv_cell_agg (cs' := [v6, (.int .i64 x7)]) hC40 (i := 2) rfl rfl rfl Tryz.isAgg38 Tryz.sizeOf38 rfl) ?_
  have hC51 := hC40.f1
  have hC50 := own_st38 v6 x6 x7 hC51
  have hC53 := hC50.f1
  have hC52 := own_st36 v7 x8 x9 x10 x11 x12 hC53
  exact ⟨_, rfl, res2_of hC52⟩
 replace hF := ite_f hF hc3
 refine W_skip ?_
 refine nrm_normal ?_
 refine W_seq_reg ?_
 refine WL_build (vs := []) rfl rfl rfl built36 ?_
 refine WL_alloc hC13 zero36 rfl rfl (fun b7 w19 hC54 hB14 => ?_)
 refine WL_store_box_agg (cs' := [(.slice none 0 0), (.int .i64 0), (.int .i64 0), (.int .i64 0), (.bool false)]) (new := [(.slice none 0 0), (.int .i64 0), (.int .i64 0), (.int .i64 0), (.bool false)]) hC54 0 rfl rfl (by intro v hv; simp only [List.mem_cons, List.not_mem_nil, or_false] at hv; rcases hv with rfl | rfl | rfl | rfl | rfl; exact rfl; exact rfl; exact rfl; exact rfl; exact rfl) rfl Tryz.sizeOf36 rfl rfl (fun w20 hC55 => ?_)
 try dsimp only [List.set] at hC55
 refine WL_nil ?_
 obtain ⟨r3, hr7, hF⟩ := bind_some hF
 refine W_norm (fun _ _ => False) ?_ ?_
 ·refine W_block ?_
  have hC168 := hC55.triv (nil_val (α := (Int × (List Int))))
  have hC169 := hC168.triv (nil_val (α := (Int × (List Int))))
  have hC170 := hC169.triv (nil_val (α := (Int × (List Int))))
  have hC171 := hC170.f10
  have hC172 := hC171.f10
  have hC173 := hC172.f10
  have hC174 := hC173.f10
  have hC175 := hC174.f10
  have hC176 := hC175.f10
  have hC177 := hC176.f10
  have hC178 := hC177.f10
  have hC179 := hC178.f8
  have hC180 := hC179.f9
  have hC181 := hC180.f10
  refine W.sub (l' := [(0, u1), (1, u2), (4, (.int .i64 a5)), (5, u5), (6, (.int .i64 a7)), (10, (ptr b2 0)), (14, (ptr b3 0)), (15, (ptr b4 0)), (16, (ptr b5 0)), (17, (ptr b6 0)), (19, (ptr b7 0))]) ?_ ⟨rfl, rfl, rfl, rfl, rfl, rfl, rfl, rfl, rfl, rfl, rfl, trivial⟩
  refine W_loop (fun k l w => ∃ v8 : Value, ∃ x13 : (List (Int × (List Int))), ∃ x14 : Int, ∃ x15 : Int, ∃ x16 : Int, ∃ x17 : Bool, ∃ x18 : Int, ∃ v9 : Value, ∃ x19 : (List Int), ∃ x20 : Int, ∃ x21 : Int, ∃ v10 : Value, ∃ x22 : (List (Int × (List Int))), ∃ x23 : Int, ∃ v11 : Value, ∃ x24 : (List (Int × (List Int))), ∃ x25 : Int, ∃ v12 : Value, ∃ x26 : (List (Int × (List Int))), ∃ x27 : Int, ∃ x28 : Int, ∃ x29 : Int, ∃ x30 : Bool, ∃ v13 : Value, ∃ x31 : (List (Bool × (Int × (List Int)))), l = [(0, u1), (1, u2), (4, (.int .i64 a5)), (5, v13), (6, (.int .i64 a7)), (10, (ptr b2 0)), (14, (ptr b3 0)), (15, (ptr b4 0)), (16, (ptr b5 0)), (17, (ptr b6 0)), (19, (ptr b7 0))] ∧ Ctx [] w0 w [Item.own v12 (x26 : (List (Int × (List Int)))), Item.own v11 (x24 : (List (Int × (List Int)))), Item.own v8 (x13 : (List (Int × (List Int)))), Item.box b7 [v8, (.int .i64 x14), (.int .i64 x15), (.int .i64 x16), (.bool x17)], Item.box b6 [(.int .i64 x18), v9, (.int .i64 x20), (.int .i64 x21)], Item.own v9 (x19 : (List Int)), Item.box b5 [v10, (.int .i64 x23)], Item.own v10 (x22 : (List (Int × (List Int)))), Item.box b4 [v11, (.int .i64 x25)], Item.box b3 [v12, (.int .i64 x27), (.int .i64 x28), (.int .i64 x29), (.bool x30)], Item.box b2 [(.int .i64 a4.1), u4]] ∧ RO [] w0 v13 x31 ∧ M.ReadThrough_l1 a1 a2 a5 a7 a4 k x13 x14 x15 x16 x17 x18 x19 x20 x21 x22 x23 x24 x25 x26 x27 x28 x29 x30 x31 = some r3) FUEL ⟨(.slice none 0 0), [], 0, 0, 0, false, x2.1.1.1, v5, x2.1.1.2, x2.1.2.1, x2.1.2.2, v2, x1.1, x1.2, (.slice none 0 0), [], 0, (.slice none 0 0), [], 0, 0, 0, false, u5, a6, rfl, hC181, g5, hr7⟩ ?_
  clear hr7
  rintro k1 _ w21 ⟨v8, x13, x14, x15, x16, x17, x18, v9, x19, x20, x21, v10, x22, x23, v11, x24, x25, v12, x26, x27, x28, x29, x30, v13, x31, rfl, hC56, h1, hL1⟩
  cases k1 with
  | zero => rw [M.ReadThrough_l1] at hL1; cases hL1
  | succ k1 =>
   rw [M.ReadThrough_l1] at hL1
   refine W_block ?_
   refine W_seq_reg ?_
   refine WL_move rfl rfl ?_
   refine WL_move rfl rfl ?_
   refine WL_load_box_agg [v10, (.int .i64 x23)] hC56 6 rfl rfl rfl Tryz.isAgg38 Tryz.sizeOf38 rfl rfl ?_
   refine WL_load_box_agg [(.int .i64 x18), v9, (.int .i64 x20), (.int .i64 x21)] hC56 4 rfl rfl rfl Tryz.isAgg73 Tryz.sizeOf73 rfl rfl ?_
   refine WL_move rfl rfl ?_
   obtain ⟨x50, hr8, hL1⟩ := bind_some hL1
   refine WL_call Tryz.call45 rfl rfl (c_M_NextPage a1 u1 (g1.now hC56.keep) a2 u2 (g2.now hC56.keep) (x22, x23) v10 ((hC56.ro 7 rfl).now (Keep.refl _ _)) ((x18, x19), x20, x21) v9 ((hC56.ro 5 rfl).now (Keep.refl _ _)) a5 x50 hr8) ?_
   rintro _ w22 ⟨hB16, v19, v20, v21, F4, F5, F6, rfl, hv6, hv7, hv8, hn3, hb3⟩
   obtain ⟨rfl, rfl⟩ := val_int hv8
   have hC57 := hC56.pushL hB16 (Bs := [Item.own v19 x50.1, Item.own v20 x50.2.1]) (Fs := [F4, F5]) ⟨F4, _, rfl, hv6, F5, _, rfl, hv7, rfl⟩ (by simpa using hn3) (fun b h => hb3 b (by simpa using h))
   have hC58 := hC57.f1
   obtain ⟨v22, rfl, hC59⟩ := st73_own hC58
   refine WL_move rfl rfl ?_
   refine WL_extract rfl rfl rfl ?_
   refine WL_extract rfl rfl rfl ?_
   refine WL_extract rfl rfl rfl ?_
   refine WL_alloc hC59 zero73 rfl rfl (fun b8 w23 hC60 hB17 => ?_)
   refine WL_assign rfl rfl ?_
   refine WL_store_box_agg (cs' := [(.int .i64 x50.2.1.1.1), v22, (.int .i64 x50.2.1.2.1), (.int .i64 x50.2.1.2.2)]) (new := [(.int .i64 x50.2.1.1.1), v22, (.int .i64 x50.2.1.2.1), (.int .i64 x50.2.1.2.2)]) hC60 0 rfl rfl (by intro v hv; simp only [List.mem_cons, List.not_mem_nil, or_false] at hv; rcases hv with rfl | rfl | rfl | rfl; exact rfl; exact (ro_one (hC60.ro 1 rfl)); exact rfl; exact rfl) rfl Tryz.sizeOf73 rfl rfl (fun w24 hC61 => ?_)
   try dsimp only [List.set] at hC61
   refine WL_assign rfl rfl ?_
   refine WL_nil ?_
   refine W_seq_reg ?_
   refine WL_field Tryz.underlying36 rfl rfl (fun w => ⟨_, Tryz.sizeOf3 w⟩) rfl rfl ?_
   refine WL_load_box hC61 6 rfl rfl Tryz.isAgg3 rfl rfl ?_
   refine WL_add rfl rfl rfl ?_
   refine WL_field Tryz.underlying36 rfl rfl (fun w => ⟨_, Tryz.sizeOf3 w⟩) rfl rfl ?_
   refine WL_store_box (cs' := [v8, (.int .i64 x14), (.int .i64 (w64 (x15 + 1))), (.int .i64 x16), (.bool x17)]) hC61 6 rfl rfl rfl rfl Tryz.sizeOf3 rfl rfl (fun w25 hC62 => ?_)
   try dsimp only [List.set] at hC62
   refine WL_nil ?_
   refine W_seq ?_
   refine W_seq_reg ?_
   refine WL_move rfl rfl ?_
   refine WL_eql rfl rfl rfl ?_
   refine WL_nil ?_
   refine W_cond rfl (fun hc4 => ?_) (fun hc4 => ?_)
   ·replace hL1 := ite_t hL1 hc4
    refine W_seq_reg ?_
    refine WL_field Tryz.underlying36 rfl rfl (fun w => ⟨_, Tryz.sizeOf34 w⟩) rfl rfl ?_
    refine WL_store_box (cs' := [(.slice none 0 0), (.int .i64 x14), (.int .i64 (w64 (x15 + 1))), (.int .i64 x16), (.bool x17)]) hC62 6 rfl rfl rfl rfl Tryz.sizeOf34 rfl rfl (fun w26 hC63 => ?_)
    try dsimp only [List.set] at hC63
    refine WL_nil ?_
    refine W_seq ?_
    refine W_seq_reg ?_
    refine WL_field Tryz.underlying36 rfl rfl (fun w => ⟨_, Tryz.sizeOf3 w⟩) rfl rfl ?_
    refine WL_load_box hC63 6 rfl rfl Tryz.isAgg3 rfl rfl ?_
    refine WL_move rfl rfl ?_
    refine WL_geq rfl rfl rfl ?_
    refine WL_nil ?_
    refine W_cond rfl (fun hc5 => ?_) (fun hc5 => ?_)
    ·replace hL1 := ite_t hL1 hc5
     obtain ⟨r4, hr9, hL1⟩ := bind_some hL1
     refine W_cut (fun l w => ∃ v23 : Value, ∃ x51 : (List (Int × (List Int))), ∃ x52 : Int, ∃ v24 : Value, ∃ x53 : (List (Int × (List Int))), ∃ x54 : Int, ∃ x55 : Int, ∃ x56 : Int, ∃ x57 : Bool, (x51, x52, x53, x54, x55, x56, x57) = r4 ∧ l = [(14, (ptr b3 0)), (15, (ptr b4 0))] ∧ Ctx [] w0 w [Item.own v24 (x53 : (List (Int × (List Int)))), Item.own v23 (x51 : (List (Int × (List Int)))), Item.box b4 [v23, (.int .i64 x52)], Item.box b3 [v24, (.int .i64 x54), (.int .i64 x55), (.int .i64 x56), (.bool x57)]]) ?_ ?_
     ·refine W_drawn 4 rfl hmix (fun w28 hB19 => ?_)
      have hC65 := hC63.grow hB19
      refine WA.sub (l' := [(0, u1), (1, u2), (4, (.int .i64 a5)), (5, v13), (6, (.int .i64 a7)), (10, (ptr b2 0)), (14, (ptr b3 0)), (15, (ptr b4 0)), (16, (ptr b5 0)), (17, (ptr b6 0)), (19, (ptr b7 0)), (20, v19), (21, (ptr b8 0)), (22, (.int .i64 x50.2.2)), (48, (.tuple #[v19, (.agg #[(.int .i64 x50.2.1.1.1), v22, (.int .i64 x50.2.1.2.1), (.int .i64 x50.2.1.2.2)]), (.int .i64 x50.2.2)])), (49, u1), (50, u2), (51, (.agg #[v10, (.int .i64 x23)])), (52, (.agg #[(.int .i64 x18), v9, (.int .i64 x20), (.int .i64 x21)])), (53, (.int .i64 a5)), (54, (.tuple #[v19, (.agg #[(.int .i64 x50.2.1.1.1), v22, (.int .i64 x50.2.1.2.1), (.int .i64 x50.2.1.2.2)]), (.int .i64 x50.2.2)])), (55, v19), (56, (.agg #[(.int .i64 x50.2.1.1.1), v22, (.int .i64 x50.2.1.2.1), (.int .i64 x50.2.1.2.2)])), (57, (.int .i64 x50.2.2)), (58, (ptr b7 2)), (59, (.int .i64 x15)), (60, (.int .i64 (w64 (x15 + 1)))), (61, (ptr b7 2)), (62, (.int .i64 x50.2.2)), (63, (.bool (decide (x50.2.2 = 2)))), (64, (ptr b7 0)), (65, (ptr b7 3)), (66, (.int .i64 x16)), (67, (.int .i64 a7)), (68, (.bool (decide (a7 ≤ x16))))]) ?_ ⟨rfl, rfl, rfl, rfl, rfl, rfl, rfl, rfl, rfl, rfl, rfl, rfl, rfl, rfl, rfl, rfl, rfl, rfl, rfl, rfl, rfl, rfl, rfl, rfl, rfl, rfl, rfl, rfl, rfl, rfl, rfl, rfl, rfl, rfl, rfl, trivial⟩
      refine WA_postsO [⟨0, [], fun vs => PW.val (.agg #[(.slice none 0 0), (.int .i64 x14), (.int .i64 (w64 (x15 + 1))), (.int .i64 x16), (.bool x17)]), []⟩, ⟨1, [], fun vs => PW.val (.agg #[v10, (.int .i64 x23)]), []⟩] [[], []] [1] 2 rfl (by kernel_rfl) (by kernel_rfl) ?_ ⟨?_, ?_, trivial⟩
      ·refine StepsE_cons rfl ?_ ?_
       ·intro w29 hB20
        refine DepsE_nil ?_
        refine ⟨_, rfl, ?_⟩
        refine WL_load_box_agg [(.slice none 0 0), (.int .i64 x14), (.int .i64 (w64 (x15 + 1))), (.int .i64 x16), (.bool x17)] (hC65.grow hB20) 6 rfl rfl rfl Tryz.isAgg36 Tryz.sizeOf36 rfl rfl ?_
        refine WL_nil ?_
        exact FinE_val (Below.refl _ _) rfl rfl ⟨rfl, rfl⟩
       refine StepsE_cons rfl ?_ ?_
       ·intro w29 hB20
        refine DepsE_nil ?_
        refine ⟨_, rfl, ?_⟩
        refine WL_load_box_agg [v10, (.int .i64 x23)] (hC65.grow hB20) 9 rfl rfl rfl Tryz.isAgg38 Tryz.sizeOf38 rfl rfl ?_
        refine WL_nil ?_
        exact FinE_val (Below.refl _ _) rfl rfl ⟨rfl, rfl⟩
       exact StepsE_nil
      ·intro g' hg'
       obtain rfl : g' = 2 := hg'
       intro w30 hB21
       refine AllE_cons rfl rfl rfl ?_
       rintro _ _ ⟨rfl, rfl⟩
       refine AllE_cons rfl rfl rfl ?_
       rintro _ _ ⟨rfl, rfl⟩
       refine AllE_nil ?_
       intro hn4 hb4
       have hC66 := hC65.grow hB21
       refine WA_one 2 (by kernel_rfl) rfl ?_
       refine WL_store_box_agg (cs' := [(.slice none 0 0), (.int .i64 x14), (.int .i64 (w64 (x15 + 1))), (.int .i64 x16), (.bool x17)]) (new := [(.slice none 0 0), (.int .i64 x14), (.int .i64 (w64 (x15 + 1))), (.int .i64 x16), (.bool x17)]) hC66 12 rfl rfl (by intro v hv; simp only [List.mem_cons, List.not_mem_nil, or_false] at hv; rcases hv with rfl | rfl | rfl | rfl | rfl; exact rfl; exact rfl; exact rfl; exact rfl; exact rfl) rfl Tryz.sizeOf36 rfl rfl (fun w31 hC67 => ?_)
       try dsimp only [List.set] at hC67
       refine WL_nil ?_
       refine WA_one 3 (by kernel_rfl) rfl ?_
       refine WL_store_box_agg (cs' := [v10, (.int .i64 x23)]) (new := [v10, (.int .i64 x23)]) hC67 11 rfl rfl (by intro v hv; simp only [List.mem_cons, List.not_mem_nil, or_false] at hv; rcases hv with rfl | rfl; exact (ro_one (hC67.ro 10 rfl)); exact rfl) rfl Tryz.sizeOf38 rfl rfl (fun w32 hC68 => ?_)
       try dsimp only [List.set] at hC68
       refine WL_nil ?_
       refine WA_done (by kernel_rfl) ?_
       have hq6 := Option.some.inj hr9
       subst hq6
       have hC69 := hC68.triv (nil_val (α := (Int × (List Int))))
       have hC70 := hC69.f13
       have hC71 := hC70.f13
       have hC72 := hC71.f13
       have hC73 := hC72.f3
       have hC74 := hC73.h4
       refine nrm_sub (l' := [(14, (ptr b3 0)), (15, (ptr b4 0))]) ⟨rfl, rfl, trivial⟩ ?_
       exact ⟨v10, x22, x23, (.slice none 0 0), [], x14, w64 (x15 + 1), x16, x17, rfl, rfl, hC74⟩
      intro g' hg'
      obtain rfl : g' = 3 := hg'
      intro w30 hB21
      refine AllE_cons rfl rfl rfl ?_
      rintro _ _ ⟨rfl, rfl⟩
      refine AllE_nil ?_
      intro hn4 hb4
      have hC66 := hC65.grow hB21
      refine WA_all2 (i := 1) (j := 2) (by kernel_rfl) rfl rfl ?_ ?_
      ·refine WL_load_box_agg [v10, (.int .i64 x23)] hC66 9 rfl rfl rfl Tryz.isAgg38 Tryz.sizeOf38 rfl rfl ?_
       refine WL_nil ?_
       refine WA_one 2 (by kernel_rfl) rfl ?_
       refine WL_store_box_agg (cs' := [(.slice none 0 0), (.int .i64 x14), (.int .i64 (w64 (x15 + 1))), (.int .i64 x16), (.bool x17)]) (new := [(.slice none 0 0), (.int .i64 x14), (.int .i64 (w64 (x15 + 1))), (.int .i64 x16), (.bool x17)]) hC66 12 rfl rfl (by intro v hv; simp only [List.mem_cons, List.not_mem_nil, or_false] at hv; rcases hv with rfl | rfl | rfl | rfl | rfl; exact rfl; exact rfl; exact rfl; exact rfl; exact rfl) rfl Tryz.sizeOf36 rfl rfl (fun w31 hC67 => ?_)
       try dsimp only [List.set] at hC67
       refine WL_nil ?_
       refine WA_one 3 (by kernel_rfl) rfl ?_
       refine WL_store_box_agg (cs' := [v10, (.int .i64 x23)]) (new := [v10, (.int .i64 x23)]) hC67 11 rfl rfl (by intro v hv; simp only [List.mem_cons, List.not_mem_nil, or_false] at hv; rcases hv with rfl | rfl; exact (ro_one (hC67.ro 10 rfl)); exact rfl) rfl Tryz.sizeOf38 rfl rfl (fun w32 hC68 => ?_)
       try dsimp only [List.set] at hC68
       refine WL_nil ?_
       refine WA_done (by kernel_rfl) ?_
       have hq6 := Option.some.inj hr9
       subst hq6
       have hC69 := hC68.triv (nil_val (α := (Int × (List Int))))
       have hC70 := hC69.f13
       have hC71 := hC70.f13
       have hC72 := hC71.f13
       have hC73 := hC72.f3
       have hC74 := hC73.h4
       refine nrm_sub (l' := [(14, (ptr b3 0)), (15, (ptr b4 0))]) ⟨rfl, rfl, trivial⟩ ?_
       exact ⟨v10, x22, x23, (.slice none 0 0), [], x14, w64 (x15 + 1), x16, x17, rfl, rfl, hC74⟩
      refine WL_store_box_agg (cs' := [(.slice none 0 0), (.int .i64 x14), (.int .i64 (w64 (x15 + 1))), (.int .i64 x16), (.bool x17)]) (new := [(.slice none 0 0), (.int .i64 x14), (.int .i64 (w64 (x15 + 1))), (.int .i64 x16), (.bool x17)]) hC66 12 rfl rfl (by intro v hv; simp only [List.mem_cons, List.not_mem_nil, or_false] at hv; rcases hv with rfl | rfl | rfl | rfl | rfl; exact rfl; exact rfl; exact rfl; exact rfl; exact rfl) rfl Tryz.sizeOf36 rfl rfl (fun w31 hC67 => ?_)
      try dsimp only [List.set] at hC67
      refine WL_nil ?_
      refine WA_one 1 (by kernel_rfl) rfl ?_
      refine WL_load_box_agg [v10, (.int .i64 x23)] hC67 9 rfl rfl rfl Tryz.isAgg38 Tryz.sizeOf38 rfl rfl ?_
      refine WL_nil ?_
      refine WA_one 3 (by kernel_rfl) rfl ?_
      refine WL_store_box_agg (cs' := [v10, (.int .i64 x23)]) (new := [v10, (.int .i64 x23)]) hC67 11 rfl rfl (by intro v hv; simp only [List.mem_cons, List.not_mem_nil, or_false] at hv; rcases hv with rfl | rfl; exact (ro_one (hC67.ro 10 rfl)); exact rfl) rfl Tryz.sizeOf38 rfl rfl (fun w32 hC68 => ?_)
      try dsimp only [List.set] at hC68
      refine WL_nil ?_
      refine WA_done (by kernel_rfl) ?_
      have hq6 := Option.some.inj hr9
      subst hq6
      have hC69 := hC68.triv (nil_val (α := (Int × (List Int))))
      have hC70 := hC69.f13
      have hC71 := hC70.f13
      have hC72 := hC71.f13
      have hC73 := hC72.f3
      have hC74 := hC73.h4
      refine nrm_sub (l' := [(14, (ptr b3 0)), (15, (ptr b4 0))]) ⟨rfl, rfl, trivial⟩ ?_
      exact ⟨v10, x22, x23, (.slice none 0 0), [], x14, w64 (x15 + 1), x16, x17, rfl, rfl, hC74⟩
     rintro _ w27 ⟨v23, x51, x52, v24, x53, x54, x55, x56, x57, rfl, rfl, hC64⟩
     try dsimp only at hL1
     refine W_ret ?_
     refine nrm_ret ?_
     refine nrm_ret ?_
     refine blk_ret ?_
     refine nrm_ret ?_
     refine blk_ret ?_
     refine nrm_ret ?_
     have hq7 := Option.some.inj hL1
     subst hq7
     dsimp only at hF
     have hq8 := Option.some.inj hF
     subst hq8
     refine fn_retG2 rfl (rv_cell_agg (cs' := [v24, (.int .i64 x54), (.int .i64 x55), (.int .i64 x56), (.bool x57)]) hC64 (i := 3) rfl rfl rfl Tryz.isAgg36 Tryz.sizeOf36 rfl) (rv_cell_agg (cs' := [v23, (.int .i64 x52)]) hC64 (i := 2) rfl rfl rfl Tryz.isAgg38 Tryz.sizeOf38 rfl) ?_
     have hC76 := hC64.f1
     have hC75 := own_st38 v23 x51 x52 hC76
     have hC78 := hC75.f1
     have hC77 := own_st36 v24 x53 x54 x55 x56 x57 hC78
     exact ⟨_, rfl, res2_of hC77⟩
    replace hL1 := ite_f hL1 hc5
    refine W_skip ?_
    refine nrm_normal ?_
    refine W_seq_reg ?_
    refine WL_field Tryz.underlying36 rfl rfl (fun w => ⟨_, Tryz.sizeOf3 w⟩) rfl rfl ?_
    refine WL_load_box hC63 6 rfl rfl Tryz.isAgg3 rfl rfl ?_
    refine WL_add rfl rfl rfl ?_
    refine WL_field Tryz.underlying36 rfl rfl (fun w => ⟨_, Tryz.sizeOf3 w⟩) rfl rfl ?_
    refine WL_store_box (cs' := [(.slice none 0 0), (.int .i64 x14), (.int .i64 (w64 (x15 + 1))), (.int .i64 (w64 (x16 + 1))), (.bool x17)]) hC63 6 rfl rfl rfl rfl Tryz.sizeOf3 rfl rfl (fun w33 hC79 => ?_)
    try dsimp only [List.set] at hC79
    refine WL_nil ?_
    refine W_seq_reg ?_
    refine WL_move rfl rfl ?_
    refine WL_move rfl rfl ?_
    refine WL_load_box_agg [v10, (.int .i64 x23)] hC79 9 rfl rfl rfl Tryz.isAgg38 Tryz.sizeOf38 rfl rfl ?_
    refine WL_load_box_agg [(.int .i64 a4.1), u4] hC79 13 rfl rfl rfl Tryz.isAgg45 Tryz.sizeOf45 rfl rfl ?_
    obtain ⟨x58, hr10, hL1⟩ := bind_some hL1
    refine WL_call Tryz.call42 rfl rfl (c_M_OpenCursor a1 u1 (g1.now hC79.keep) a2 u2 (g2.now hC79.keep) (x22, x23) v10 ((hC79.ro 10 rfl).now (Keep.refl _ _)) (a4.1, a4.2) u4 (g4.now hC79.keep) x58 hr10) ?_
    rintro _ w34 ⟨hB22, v25, v26, F7, F8, rfl, hv9, hv10, hn5, hb5⟩
    obtain ⟨rfl, rfl⟩ := val_bool hv10
    have hC80 := hC79.pushL hB22 (Bs := [Item.own v25 x58.1]) (Fs := [F7]) ⟨F7, _, rfl, hv9, rfl⟩ (by simpa using hn5) (fun b h => hb5 b (by simpa using h))
    obtain ⟨v27, rfl, hC81⟩ := st73_own hC80
    refine WL_move rfl rfl ?_
    refine WL_extract rfl rfl rfl ?_
    refine WL_extract rfl rfl rfl ?_
    refine WL_store_box_agg (cs' := [(.int .i64 x58.1.1.1), v27, (.int .i64 x58.1.2.1), (.int .i64 x58.1.2.2)]) (new := [(.int .i64 x58.1.1.1), v27, (.int .i64 x58.1.2.1), (.int .i64 x58.1.2.2)]) hC81 8 rfl rfl (by intro v hv; simp only [List.mem_cons, List.not_mem_nil, or_false] at hv; rcases hv with rfl | rfl | rfl | rfl; exact rfl; exact (ro_one (hC81.ro 0 rfl)); exact rfl; exact rfl) rfl Tryz.sizeOf73 rfl rfl (fun w35 hC82 => ?_)
    try dsimp only [List.set] at hC82
    refine WL_nil ?_
    refine W_exit ?_
    refine nrm_exit ?_
    refine blk_exit ?_
    have hC83 := hC82.triv (nil_val (α := (Int × (List Int))))
    have hC84 := hC83.f15
    have hC85 := hC84.f15
    have hC86 := hC85.f15
    have hC87 := hC86.f15
    have hC88 := hC87.f15
    have hC89 := hC88.f6
    have hC90 := hC89.f14
    have hC91 := hC90.f14
    have hC92 := hC91.f8
    have hC93 := hC92.f13
    have hC94 := hC93.f13
    have hC95 := hC94.h11
    refine nrm_sub (l' := [(0, u1), (1, u2), (4, (.int .i64 a5)), (5, v13), (6, (.int .i64 a7)), (10, (ptr b2 0)), (14, (ptr b3 0)), (15, (ptr b4 0)), (16, (ptr b5 0)), (17, (ptr b6 0)), (19, (ptr b7 0))]) ⟨rfl, rfl, rfl, rfl, rfl, rfl, rfl, rfl, rfl, rfl, rfl, trivial⟩ ?_
    exact ⟨k1, Nat.lt_succ_self _, (.slice none 0 0), [], x14, w64 (x15 + 1), w64 (x16 + 1), x17, x58.1.1.1, v27, x58.1.1.2, x58.1.2.1, x58.1.2.2, v10, x22, x23, v11, x24, x25, v12, x26, x27, x28, x29, x30, v13, x31, rfl, hC95, h1, hL1⟩
   replace hL1 := ite_f hL1 hc4
   refine W_skip ?_
   refine nrm_normal ?_
   refine W_seq_reg ?_
   refine WL_field Tryz.underlying36 rfl rfl (fun w => ⟨_, Tryz.sizeOf34 w⟩) rfl rfl ?_
   refine WL_load_box hC62 6 rfl rfl Tryz.isAgg34 rfl rfl ?_
   refine WL_move rfl rfl ?_
   obtain ⟨x59, hx1, hL1⟩ := bind_some hL1
   have hC97 := hC62.f2
   refine WL_append_head hC97 4 rfl Tryz.underlying34 ty81 rfl hx1 rfl rfl rfl (fun v28 w36 hC96 => ?_)
   try dsimp only [List.set] at hC96
   refine WL_field Tryz.underlying36 rfl rfl (fun w => ⟨_, Tryz.sizeOf34 w⟩) rfl rfl ?_
   refine WL_store_box (cs' := [v28, (.int .i64 x14), (.int .i64 (w64 (x15 + 1))), (.int .i64 x16), (.bool x17)]) hC96 5 rfl rfl (ro_one (hC96.ro 4 rfl)) rfl Tryz.sizeOf34 rfl rfl (fun w37 hC98 => ?_)
   try dsimp only [List.set] at hC98
   refine WL_nil ?_
   refine W_seq_reg ?_
   refine WL_load_box_agg [(.int .i64 x50.2.1.1.1), v22, (.int .i64 x50.2.1.2.1), (.int .i64 x50.2.1.2.2)] hC98 0 rfl rfl rfl Tryz.isAgg73 Tryz.sizeOf73 rfl rfl ?_
   refine WL_store_box_agg (cs' := [(.int .i64 x50.2.1.1.1), v22, (.int .i64 x50.2.1.2.1), (.int .i64 x50.2.1.2.2)]) (new := [(.int .i64 x50.2.1.1.1), v22, (.int .i64 x50.2.1.2.1), (.int .i64 x50.2.1.2.2)]) hC98 6 rfl rfl (by intro v hv; simp only [List.mem_cons, List.not_mem_nil, or_false] at hv; rcases hv with rfl | rfl | rfl | rfl; exact rfl; exact (ro_one (hC98.ro 1 rfl)); exact rfl; exact rfl) rfl Tryz.sizeOf73 rfl rfl (fun w38 hC99 => ?_)
   try dsimp only [List.set] at hC99
   refine WL_nil ?_
   refine W_seq ?_
   refine W_seq_reg ?_
   refine WL_move rfl rfl ?_
   refine WL_eql rfl rfl rfl ?_
   refine WL_nil ?_
   refine W_cond rfl (fun hc6 => ?_) (fun hc6 => ?_)
   ·replace hL1 := ite_t hL1 hc6
    obtain ⟨r5, hr11, hL1⟩ := bind_some hL1
    refine W_cut (fun l w => ∃ v29 : Value, ∃ x60 : (List (Int × (List Int))), ∃ x61 : Int, ∃ x62 : Int, ∃ x63 : Int, ∃ x64 : Bool, (x60, x61, x62, x63, x64) = r5 ∧ l = [(14, (ptr b3 0)), (15, (ptr b4 0)), (16, (ptr b5 0)), (19, (ptr b7 0))] ∧ Ctx [] w0 w [Item.own v12 (x26 : (List (Int × (List Int)))), Item.own v11 (x24 : (List (Int × (List Int)))), Item.own v29 (x60 : (List (Int × (List Int)))), Item.box b7 [v29, (.int .i64 x61), (.int .i64 x62), (.int .i64 x63), (.bool x64)], Item.box b5 [v10, (.int .i64 x23)], Item.own v10 (x22 : (List (Int × (List Int)))), Item.box b4 [v11, (.int .i64 x25)], Item.box b3 [v12, (.int .i64 x27), (.int .i64 x28), (.int .i64 x29), (.bool x30)]]) ?_ ?_
    ·refine W_drawn 6 rfl hmix (fun w40 hB24 => ?_)
     have hC101 := hC99.grow hB24
     refine WA_tk 0 (by kernel_rfl) rfl rfl (fl_field Tryz.underlying38 rfl rfl (fun w => ⟨_, Tryz.sizeOf3 w⟩) rfl) ?_
     refine WL_field Tryz.underlying38 rfl rfl (fun w => ⟨_, Tryz.sizeOf3 w⟩) rfl rfl ?_
     refine WL_nil ?_
     refine WA_tk 2 (by kernel_rfl) rfl rfl (fl_field Tryz.underlying36 rfl rfl (fun w => ⟨_, Tryz.sizeOf4 w⟩) rfl) ?_
     refine WL_field Tryz.underlying36 rfl rfl (fun w => ⟨_, Tryz.sizeOf4 w⟩) rfl rfl ?_
     refine WL_nil ?_
     refine WA_all2 (i := 1) (j := 3) (by kernel_rfl) rfl rfl ?_ ?_
     ·refine WL_load_box hC101 8 rfl rfl Tryz.isAgg3 rfl rfl ?_
      refine WL_nil ?_
      refine WA_one 3 (by kernel_rfl) rfl ?_
      refine WL_store_box (cs' := [v28, (.int .i64 x14), (.int .i64 (w64 (x15 + 1))), (.int .i64 x16), (.bool true)]) hC101 5 rfl rfl rfl rfl Tryz.sizeOf4 rfl rfl (fun w41 hC102 => ?_)
      try dsimp only [List.set] at hC102
      refine WL_nil ?_
      refine WA_tk 4 (by kernel_rfl) rfl rfl (fl_field Tryz.underlying36 rfl rfl (fun w => ⟨_, Tryz.sizeOf3 w⟩) rfl) ?_
      refine WL_field Tryz.underlying36 rfl rfl (fun w => ⟨_, Tryz.sizeOf3 w⟩) rfl rfl ?_
      refine WL_nil ?_
      refine WA_one 5 (by kernel_rfl) rfl ?_
      refine WL_store_box (cs' := [v28, (.int .i64 x23), (.int .i64 (w64 (x15 + 1))), (.int .i64 x16), (.bool true)]) hC102 5 rfl rfl rfl rfl Tryz.sizeOf3 rfl rfl (fun w42 hC103 => ?_)
      try dsimp only [List.set] at hC103
      refine WL_nil ?_
      refine WA_done (by kernel_rfl) ?_
      have hq9 := Option.some.inj hr11
      subst hq9
      have hC104 := hC103.f11
      have hC105 := hC104.f11
      have hC106 := hC105.f11
      have hC107 := hC106.f11
      have hC108 := hC107.f9
      have hC109 := hC108.f9
      have hC110 := hC109.f9
      have hC111 := hC110.f9
      have hC112 := hC111.h8
      refine nrm_sub (l' := [(14, (ptr b3 0)), (15, (ptr b4 0)), (16, (ptr b5 0)), (19, (ptr b7 0))]) ⟨rfl, rfl, rfl, rfl, trivial⟩ ?_
      exact ⟨v28, x59, x23, w64 (x15 + 1), x16, true, rfl, rfl, hC112⟩
     refine WL_store_box (cs' := [v28, (.int .i64 x14), (.int .i64 (w64 (x15 + 1))), (.int .i64 x16), (.bool true)]) hC101 5 rfl rfl rfl rfl Tryz.sizeOf4 rfl rfl (fun w41 hC102 => ?_)
     try dsimp only [List.set] at hC102
     refine WL_nil ?_
     refine WA_one 1 (by kernel_rfl) rfl ?_
     refine WL_load_box hC102 8 rfl rfl Tryz.isAgg3 rfl rfl ?_
     refine WL_nil ?_
     refine WA_tk 4 (by kernel_rfl) rfl rfl (fl_field Tryz.underlying36 rfl rfl (fun w => ⟨_, Tryz.sizeOf3 w⟩) rfl) ?_
     refine WL_field Tryz.underlying36 rfl rfl (fun w => ⟨_, Tryz.sizeOf3 w⟩) rfl rfl ?_
     refine WL_nil ?_
     refine WA_one 5 (by kernel_rfl) rfl ?_
     refine WL_store_box (cs' := [v28, (.int .i64 x23), (.int .i64 (w64 (x15 + 1))), (.int .i64 x16), (.bool true)]) hC102 5 rfl rfl rfl rfl Tryz.sizeOf3 rfl rfl (fun w42 hC103 => ?_)
     try dsimp only [List.set] at hC103
     refine WL_nil ?_
     refine WA_done (by kernel_rfl) ?_
     have hq9 := Option.some.inj hr11
     subst hq9
     have hC104 := hC103.f11
     have hC105 := hC104.f11
     have hC106 := hC105.f11
     have hC107 := hC106.f11
     have hC108 := hC107.f9
     have hC109 := hC108.f9
     have hC110 := hC109.f9
     have hC111 := hC110.f9
     have hC112 := hC111.h8
     refine nrm_sub (l' := [(14, (ptr b3 0)), (15, (ptr b4 0)), (16, (ptr b5 0)), (19, (ptr b7 0))]) ⟨rfl, rfl, rfl, rfl, trivial⟩ ?_
     exact ⟨v28, x59, x23, w64 (x15 + 1), x16, true, rfl, rfl, hC112⟩
    rintro _ w39 ⟨v29, x60, x61, x62, x63, x64, rfl, rfl, hC100⟩
    try dsimp only at hL1
    obtain ⟨r6, hr12, hL1⟩ := bind_some hL1
    refine W_cut (fun l w => ∃ v30 : Value, ∃ x65 : (List (Int × (List Int))), ∃ x66 : Int, ∃ v31 : Value, ∃ x67 : (List (Int × (List Int))), ∃ x68 : Int, ∃ x69 : Int, ∃ x70 : Int, ∃ x71 : Bool, (x65, x66, x67, x68, x69, x70, x71) = r6 ∧ l = [(14, (ptr b3 0)), (15, (ptr b4 0))] ∧ Ctx [] w0 w [Item.own v31 (x67 : (List (Int × (List Int)))), Item.own v30 (x65 : (List (Int × (List Int)))), Item.box b4 [v30, (.int .i64 x66)], Item.box b3 [v31, (.int .i64 x68), (.int .i64 x69), (.int .i64 x70), (.bool x71)]]) ?_ ?_
    ·refine W_drawn 4 rfl hmix (fun w44 hB26 => ?_)
     have hC114 := hC100.grow hB26
     refine WA.sub (l' := [(14, (ptr b3 0)), (15, (ptr b4 0)), (16, (ptr b5 0)), (19, (ptr b7 0))]) ?_ ⟨rfl, rfl, rfl, rfl, trivial⟩
     refine WA_postsO [⟨0, [], fun vs => PW.val (.agg #[v29, (.int .i64 x61), (.int .i64 x62), (.int .i64 x63), (.bool x64)]), []⟩, ⟨1, [], fun vs => PW.val (.agg #[v10, (.int .i64 x23)]), []⟩] [[], []] [1] 2 rfl (by kernel_rfl) (by kernel_rfl) ?_ ⟨?_, ?_, trivial⟩
     ·refine StepsE_cons rfl ?_ ?_
      ·intro w45 hB27
       refine DepsE_nil ?_
       refine ⟨_, rfl, ?_⟩
       refine WL_load_box_agg [v29, (.int .i64 x61), (.int .i64 x62), (.int .i64 x63), (.bool x64)] (hC114.grow hB27) 3 rfl rfl rfl Tryz.isAgg36 Tryz.sizeOf36 rfl rfl ?_
       refine WL_nil ?_
       exact FinE_val (Below.refl _ _) rfl rfl ⟨rfl, rfl⟩
      refine StepsE_cons rfl ?_ ?_
      ·intro w45 hB27
       refine DepsE_nil ?_
       refine ⟨_, rfl, ?_⟩
       refine WL_load_box_agg [v10, (.int .i64 x23)] (hC114.grow hB27) 4 rfl rfl rfl Tryz.isAgg38 Tryz.sizeOf38 rfl rfl ?_
       refine WL_nil ?_
       exact FinE_val (Below.refl _ _) rfl rfl ⟨rfl, rfl⟩
      exact StepsE_nil
     ·intro g' hg'
      obtain rfl : g' = 2 := hg'
      intro w46 hB28
      refine AllE_cons rfl rfl rfl ?_
      rintro _ _ ⟨rfl, rfl⟩
      refine AllE_cons rfl rfl rfl ?_
      rintro _ _ ⟨rfl, rfl⟩
      refine AllE_nil ?_
      intro hn6 hb6
      have hC115 := hC114.grow hB28
      refine WA_one 2 (by kernel_rfl) rfl ?_
      refine WL_store_box_agg (cs' := [v29, (.int .i64 x61), (.int .i64 x62), (.int .i64 x63), (.bool x64)]) (new := [v29, (.int .i64 x61), (.int .i64 x62), (.int .i64 x63), (.bool x64)]) hC115 7 rfl rfl (by intro v hv; simp only [List.mem_cons, List.not_mem_nil, or_false] at hv; rcases hv with rfl | rfl | rfl | rfl | rfl; exact (ro_one (hC115.ro 2 rfl)); exact rfl; exact rfl; exact rfl; exact rfl) rfl Tryz.sizeOf36 rfl rfl (fun w47 hC116 => ?_)
      try dsimp only [List.set] at hC116
      refine WL_nil ?_
      refine WA_one 3 (by kernel_rfl) rfl ?_
      refine WL_store_box_agg (cs' := [v10, (.int .i64 x23)]) (new := [v10, (.int .i64 x23)]) hC116 6 rfl rfl (by intro v hv; simp only [List.mem_cons, List.not_mem_nil, or_false] at hv; rcases hv with rfl | rfl; exact (ro_one (hC116.ro 5 rfl)); exact rfl) rfl Tryz.sizeOf38 rfl rfl (fun w48 hC117 => ?_)
      try dsimp only [List.set] at hC117
      refine WL_nil ?_
      refine WA_done (by kernel_rfl) ?_
      have hq10 := Option.some.inj hr12
      subst hq10
      have hC118 := hC117.f7
      have hC119 := hC118.f7
      have hC120 := hC119.f7
      have hC121 := hC120.f5
      have hC122 := hC121.h4
      refine nrm_sub (l' := [(14, (ptr b3 0)), (15, (ptr b4 0))]) ⟨rfl, rfl, trivial⟩ ?_
      exact ⟨v10, x22, x23, v29, x60, x61, x62, x63, x64, rfl, rfl, hC122⟩
     intro g' hg'
     obtain rfl : g' = 3 := hg'
     intro w46 hB28
     refine AllE_cons rfl rfl rfl ?_
     rintro _ _ ⟨rfl, rfl⟩
     refine AllE_nil ?_
     intro hn6 hb6
     have hC115 := hC114.grow hB28
     refine WA_all2 (i := 1) (j := 2) (by kernel_rfl) rfl rfl ?_ ?_
     ·refine WL_load_box_agg [v10, (.int .i64 x23)] hC115 4 rfl rfl rfl Tryz.isAgg38 Tryz.sizeOf38 rfl rfl ?_
      refine WL_nil ?_
      refine WA_one 2 (by kernel_rfl) rfl ?_
      refine WL_store_box_agg (cs' := [v29, (.int .i64 x61), (.int .i64 x62), (.int .i64 x63), (.bool x64)]) (new := [v29, (.int .i64 x61), (.int .i64 x62), (.int .i64 x63), (.bool x64)]) hC115 7 rfl rfl (by intro v hv; simp only [List.mem_cons, List.not_mem_nil, or_false] at hv; rcases hv with rfl | rfl | rfl | rfl | rfl; exact (ro_one (hC115.ro 2 rfl)); exact rfl; exact rfl; exact rfl; exact rfl) rfl Tryz.sizeOf36 rfl rfl (fun w47 hC116 => ?_)
      try dsimp only [List.set] at hC116
      refine WL_nil ?_
      refine WA_one 3 (by kernel_rfl) rfl ?_
      refine WL_store_box_agg (cs' := [v10, (.int .i64 x23)]) (new := [v10, (.int .i64 x23)]) hC116 6 rfl rfl (by intro v hv; simp only [List.mem_cons, List.not_mem_nil, or_false] at hv; rcases hv with rfl | rfl; exact (ro_one (hC116.ro 5 rfl)); exact rfl) rfl Tryz.sizeOf38 rfl rfl (fun w48 hC117 => ?_)
      try dsimp only [List.set] at hC117
      refine WL_nil ?_
      refine WA_done (by kernel_rfl) ?_
      have hq10 := Option.some.inj hr12
      subst hq10
      have hC118 := hC117.f7
      have hC119 := hC118.f7
      have hC120 := hC119.f7
      have hC121 := hC120.f5
      have hC122 := hC121.h4
      refine nrm_sub (l' := [(14, (ptr b3 0)), (15, (ptr b4 0))]) ⟨rfl, rfl, trivial⟩ ?_
      exact ⟨v10, x22, x23, v29, x60, x61, x62, x63, x64, rfl, rfl, hC122⟩
     refine WL_store_box_agg (cs' := [v29, (.int .i64 x61), (.int .i64 x62), (.int .i64 x63), (.bool x64)]) (new := [v29, (.int .i64 x61), (.int .i64 x62), (.int .i64 x63), (.bool x64)]) hC115 7 rfl rfl (by intro v hv; simp only [List.mem_cons, List.not_mem_nil, or_false] at hv; rcases hv with rfl | rfl | rfl | rfl | rfl; exact (ro_one (hC115.ro 2 rfl)); exact rfl; exact rfl; exact rfl; exact rfl) rfl Tryz.sizeOf36 rfl rfl (fun w47 hC116 => ?_)
     try dsimp only [List.set] at hC116
     refine WL_nil ?_
     refine WA_one 1 (by kernel_rfl) rfl ?_
     refine WL_load_box_agg [v10, (.int .i64 x23)] hC116 4 rfl rfl rfl Tryz.isAgg38 Tryz.sizeOf38 rfl rfl ?_
     refine WL_nil ?_
     refine WA_one 3 (by kernel_rfl) rfl ?_
     refine WL_store_box_agg (cs' := [v10, (.int .i64 x23)]) (new := [v10, (.int .i64 x23)]) hC116 6 rfl rfl (by intro v hv; simp only [List.mem_cons, List.not_mem_nil, or_false] at hv; rcases hv with rfl | rfl; exact (ro_one (hC116.ro 5 rfl)); exact rfl) rfl Tryz.sizeOf38 rfl rfl (fun w48 hC117 => ?_)
     try dsimp only [List.set] at hC117
     refine WL_nil ?_
     refine WA_done (by kernel_rfl) ?_
     have hq10 := Option.some.inj hr12
     subst hq10
     have hC118 := hC117.f7
     have hC119 := hC118.f7
     have hC120 := hC119.f7
     have hC121 := hC120.f5
     have hC122 := hC121.h4
     refine nrm_sub (l' := [(14, (ptr b3 0)), (15, (ptr b4 0))]) ⟨rfl, rfl, trivial⟩ ?_
     exact ⟨v10, x22, x23, v29, x60, x61, x62, x63, x64, rfl, rfl, hC122⟩
    rintro _ w43 ⟨v30, x65, x66, v31, x67, x68, x69, x70, x71, rfl, rfl, hC113⟩
    try dsimp only at hL1
    refine W_ret ?_
    refine nrm_ret ?_
    refine blk_ret ?_
    refine nrm_ret ?_
    refine blk_ret ?_
    refine nrm_ret ?_
    have hq11 := Option.some.inj hL1
    subst hq11
    dsimp only at hF
    have hq12 := Option.some.inj hF
    subst hq12
    refine fn_retG2 rfl (rv_cell_agg (cs' := [v31, (.int .i64 x68), (.int .i64 x69), (.int .i64 x70), (.bool x71)]) hC113 (i := 3) rfl rfl rfl Tryz.isAgg36 Tryz.sizeOf36 rfl) (rv_cell_agg (cs' := [v30, (.int .i64 x66)]) hC113 (i := 2) rfl rfl rfl Tryz.isAgg38 Tryz.sizeOf38 rfl) ?_
    have hC124 := hC113.f1
    have hC123 := own_st38 v30 x65 x66 hC124
    have hC126 := hC123.f1
    have hC125 := own_st36 v31 x67 x68 x69 x70 x71 hC126
    exact ⟨_, rfl, res2_of hC125⟩
   replace hL1 := ite_f hL1 hc6
   refine W_skip ?_
   refine nrm_normal ?_
   refine W_seq_reg ?_
   refine WL_move rfl rfl ?_
   refine WL_len Tryz.underlying47 h1 rfl rfl ?_
   refine WL_gtr rfl rfl rfl ?_
   refine WL_nil ?_
   obtain ⟨r7, hr13, hL1⟩ := bind_some hL1
   refine W_norm (fun l w => ∃ v32 : Value, ∃ x72 : (List (Int × (List Int))), ∃ x73 : Int, ∃ v33 : Value, ∃ x74 : (List (Bool × (Int × (List Int)))), (x72, x73, x74) = r7 ∧ l = [(0, u1), (1, u2), (4, (.int .i64 a5)), (5, v33), (6, (.int .i64 a7)), (10, (ptr b2 0)), (14, (ptr b3 0)), (15, (ptr b4 0)), (16, (ptr b5 0)), (17, (ptr b6 0)), (19, (ptr b7 0))] ∧ Ctx [] w0 w [Item.own v22 (x50.2.1.1.2 : (List Int)), Item.own v12 (x26 : (List (Int × (List Int)))), Item.own v11 (x24 : (List (Int × (List Int)))), Item.own v28 (x59 : (List (Int × (List Int)))), Item.box b7 [v28, (.int .i64 x14), (.int .i64 (w64 (x15 + 1))), (.int .i64 x16), (.bool x17)], Item.box b6 [(.int .i64 x50.2.1.1.1), v22, (.int .i64 x50.2.1.2.1), (.int .i64 x50.2.1.2.2)], Item.box b5 [v32, (.int .i64 x73)], Item.own v32 (x72 : (List (Int × (List Int)))), Item.box b4 [v11, (.int .i64 x25)], Item.box b3 [v12, (.int .i64 x27), (.int .i64 x28), (.int .i64 x29), (.bool x30)], Item.box b2 [(.int .i64 a4.1), u4]] ∧ RO [] w0 v33 x74) ?_ ?_
   ·refine W_cond rfl (fun hc7 => ?_) (fun hc7 => ?_)
    ·replace hr13 := ite_t hr13 hc7
     refine W_seq ?_
     refine W_drawn 10 rfl hmix (fun w50 hB30 => ?_)
     have hC128 := hC99.grow hB30
     refine WA_tk 0 (by kernel_rfl) rfl rfl (fl_move rfl) ?_
     refine WL_move rfl rfl ?_
     refine WL_nil ?_
     refine WA_tk 2 (by kernel_rfl) rfl rfl (fl_move rfl) ?_
     refine WL_move rfl rfl ?_
     refine WL_nil ?_
     obtain ⟨x75, hx2, hr13⟩ := bind_some hr13
     refine WA_tk 3 (by kernel_rfl) rfl rfl (fl_index Tryz.underlying47 ty83 h1 hx2 rfl rfl) ?_
     refine WL_index Tryz.underlying47 ty83 h1 hx2 rfl rfl rfl (fun b9 o1 h3 => ?_)
     refine WL_nil ?_
     refine WA.sub (l' := [(0, u1), (1, u2), (4, (.int .i64 a5)), (5, v13), (6, (.int .i64 a7)), (10, (ptr b2 0)), (14, (ptr b3 0)), (15, (ptr b4 0)), (16, (ptr b5 0)), (17, (ptr b6 0)), (19, (ptr b7 0)), (20, v19), (21, (ptr b8 0)), (22, (.int .i64 x50.2.2)), (48, (.tuple #[v19, (.agg #[(.int .i64 x50.2.1.1.1), v22, (.int .i64 x50.2.1.2.1), (.int .i64 x50.2.1.2.2)]), (.int .i64 x50.2.2)])), (49, u1), (50, u2), (51, (.agg #[v10, (.int .i64 x23)])), (52, (.agg #[(.int .i64 x18), v9, (.int .i64 x20), (.int .i64 x21)])), (53, (.int .i64 a5)), (54, (.tuple #[v19, (.agg #[(.int .i64 x50.2.1.1.1), v22, (.int .i64 x50.2.1.2.1), (.int .i64 x50.2.1.2.2)]), (.int .i64 x50.2.2)])), (55, v19), (56, (.agg #[(.int .i64 x50.2.1.1.1), v22, (.int .i64 x50.2.1.2.1), (.int .i64 x50.2.1.2.2)])), (57, (.int .i64 x50.2.2)), (58, (ptr b7 2)), (59, (.int .i64 x15)), (60, (.int .i64 (w64 (x15 + 1)))), (61, (ptr b7 2)), (62, (.int .i64 x50.2.2)), (63, (.bool (decide (x50.2.2 = 2)))), (83, (ptr b7 0)), (84, v8), (85, v19), (86, v28), (87, (ptr b7 0)), (88, (.agg #[(.int .i64 x50.2.1.1.1), v22, (.int .i64 x50.2.1.2.1), (.int .i64 x50.2.1.2.2)])), (89, (.int .i64 x50.2.2)), (90, (.bool (decide (x50.2.2 = 1)))), (97, v13), (98, (.int .i64 (List.length x31 : Int))), (99, (.bool (decide (0 < (List.length x31 : Int))))), (101, u1), (103, v13), (104, (ptr b9 o1))]) ?_ ⟨rfl, rfl, rfl, rfl, rfl, rfl, rfl, rfl, rfl, rfl, rfl, rfl, rfl, rfl, rfl, rfl, rfl, rfl, rfl, rfl, rfl, rfl, rfl, rfl, rfl, rfl, rfl, rfl, rfl, rfl, rfl, rfl, rfl, rfl, rfl, rfl, rfl, rfl, rfl, rfl, rfl, rfl, rfl, rfl, trivial⟩
     refine WA_postsE [⟨1, [], fun vs => PW.val (.agg #[v10, (.int .i64 x23)]), []⟩, ⟨4, [], fun vs => PW.ro [] w0 x75, []⟩] [[], []] 5 rfl (by kernel_rfl) (by kernel_rfl) rfl ?_ ?_
     ·refine StepsE_cons rfl ?_ ?_
      ·intro w51 hB31
       refine DepsE_nil ?_
       refine ⟨_, rfl, ?_⟩
       refine WL_load_box_agg [v10, (.int .i64 x23)] (hC128.grow hB31) 8 rfl rfl rfl Tryz.isAgg38 Tryz.sizeOf38 rfl rfl ?_
       refine WL_nil ?_
       exact FinE_val (Below.refl _ _) rfl rfl ⟨rfl, rfl⟩
      refine StepsE_cons rfl ?_ ?_
      ·intro w51 hB31
       refine DepsE_nil ?_
       refine ⟨_, rfl, ?_⟩
       refine WL_load ty83 h3 (hC128.keep.then hB31) rfl rfl (fun v36 h6 => ?_)
       refine WL_nil ?_
       exact FinE_val (Below.refl _ _) rfl rfl ⟨rfl, h6⟩
      exact StepsE_nil
     intro w52 hB32
     refine AllE_cons rfl rfl rfl ?_
     rintro _ _ ⟨rfl, rfl⟩
     refine AllE_cons rfl rfl rfl ?_
     rintro v36 _ ⟨rfl, h6⟩
     obtain ⟨v35, rfl, h5⟩ := ro_st83 h6
     refine AllE_nil ?_
     intro hn7 hb7
     have hC129 := hC128.grow hB32
     obtain ⟨x76, hr14, hr13⟩ := bind_some hr13
     refine WA_one 5 (by kernel_rfl) rfl ?_
     refine WL_call Tryz.call46 rfl rfl (c_M_ApplyChange a1 u1 (g1.now hC129.keep) (x22, x23) v10 ((hC129.ro 9 rfl).now (Keep.refl _ _)) x75 v35 (h5.now hC129.keep) x76 hr14) ?_
     rintro _ w53 ⟨hB33, v37, v38, F9, F10, rfl, hv11, hv12, hn8, hb8⟩
     obtain ⟨rfl, rfl⟩ := val_bool hv12
     have hC130 := hC129.pushL hB33 (Bs := [Item.own v37 x76.1]) (Fs := [F9]) ⟨F9, _, rfl, hv11, rfl⟩ (by simpa using hn8) (fun b h => hb8 b (by simpa using h))
     obtain ⟨v39, rfl, hC131⟩ := st38_own hC130
     refine WL_nil ?_
     refine WA_tk 6 (by kernel_rfl) rfl rfl (fl_move rfl) ?_
     refine WL_move rfl rfl ?_
     refine WL_nil ?_
     refine WA_tk 7 (by kernel_rfl) rfl rfl (fl_extract rfl rfl) ?_
     refine WL_extract rfl rfl rfl ?_
     refine WL_nil ?_
     refine WA_tk 8 (by kernel_rfl) rfl rfl (fl_extract rfl rfl) ?_
     refine WL_extract rfl rfl rfl ?_
     refine WL_nil ?_
     refine WA_one 9 (by kernel_rfl) rfl ?_
     refine WL_store_box_agg (cs' := [v39, (.int .i64 x76.1.2)]) (new := [v39, (.int .i64 x76.1.2)]) hC131 9 rfl rfl (by intro v hv; simp only [List.mem_cons, List.not_mem_nil, or_false] at hv; rcases hv with rfl | rfl; exact (ro_one (hC131.ro 0 rfl)); exact rfl) rfl Tryz.sizeOf38 rfl rfl (fun w54 hC132 => ?_)
     try dsimp only [List.set] at hC132
     refine WL_nil ?_
     refine WA_done (by kernel_rfl) ?_
     refine nrm_normal ?_
     refine W_reg ?_
     refine WL_move rfl rfl ?_
     obtain ⟨x77, hx3, hr13⟩ := bind_some hr13
     refine WL_slice_l Tryz.underlying47 ty83 h1 hx3 rfl rfl rfl (fun v40 h7 => ?_)
     refine WL_assign rfl rfl ?_
     refine WL_nil ?_
     have hq13 := Option.some.inj hr13
     subst hq13
     have hC133 := hC132.f13
     have hC134 := hC133.f13
     have hC135 := hC134.f13
     have hC136 := hC135.f3
     have hC137 := hC136.f12
     have hC138 := hC137.f11
     have hC139 := hC138.f11
     have hC140 := hC139.f11
     have hC141 := hC140.f11
     have hC142 := hC141.f11
     have hC143 := hC142.f11
     have hC144 := hC143.h11
     refine nrm_sub (l' := [(0, u1), (1, u2), (4, (.int .i64 a5)), (5, v40), (6, (.int .i64 a7)), (10, (ptr b2 0)), (14, (ptr b3 0)), (15, (ptr b4 0)), (16, (ptr b5 0)), (17, (ptr b6 0)), (19, (ptr b7 0))]) ⟨rfl, rfl, rfl, rfl, rfl, rfl, rfl, rfl, rfl, rfl, rfl, trivial⟩ ?_
     exact ⟨v39, x76.1.1, x76.1.2, v40, x77, rfl, rfl, hC144, h7⟩
    replace hr13 := ite_f hr13 hc7
    refine W_skip ?_
    have hq14 := Option.some.inj hr13
    subst hq14
    have hC145 := hC99.f12
    have hC146 := hC145.f12
    have hC147 := hC146.f12
    have hC148 := hC147.f12
    have hC149 := hC148.f12
    have hC150 := hC149.f11
    have hC151 := hC150.f11
    have hC152 := hC151.f11
    have hC153 := hC152.f11
    have hC154 := hC153.f11
    have hC155 := hC154.f11
    have hC156 := hC155.h11
    refine nrm_sub (l' := [(0, u1), (1, u2), (4, (.int .i64 a5)), (5, v13), (6, (.int .i64 a7)), (10, (ptr b2 0)), (14, (ptr b3 0)), (15, (ptr b4 0)), (16, (ptr b5 0)), (17, (ptr b6 0)), (19, (ptr b7 0))]) ⟨rfl, rfl, rfl, rfl, rfl, rfl, rfl, rfl, rfl, rfl, rfl, trivial⟩ ?_
    exact ⟨v10, x22, x23, v13, x31, rfl, rfl, hC156, h1⟩
   rintro l7 _ w49 hs7 ⟨v32, x72, x73, v33, x74, rfl, rfl, hC127, h2⟩
   try dsimp only at hL1
   refine blk_normal ?_
   have hC157 := hC127.f10
   have hC158 := hC157.f10
   have hC159 := hC158.f10
   have hC160 := hC159.f10
   have hC161 := hC160.f10
   have hC162 := hC161.f5
   have hC163 := hC162.f10
   have hC164 := hC163.f10
   have hC165 := hC164.f10
   have hC166 := hC165.f10
   have hC167 := hC166.f10
   refine nrm_subs (l2 := [(0, u1), (1, u2), (4, (.int .i64 a5)), (5, v33), (6, (.int .i64 a7)), (10, (ptr b2 0)), (14, (ptr b3 0)), (15, (ptr b4 0)), (16, (ptr b5 0)), (17, (ptr b6 0)), (19, (ptr b7 0))]) hs7 ⟨rfl, rfl, rfl, rfl, rfl, rfl, rfl, rfl, rfl, rfl, rfl, trivial⟩ ?_
   exact ⟨k1, Nat.lt_succ_self _, v28, x59, x14, w64 (x15 + 1), x16, x17, x50.2.1.1.1, v22, x50.2.1.1.2, x50.2.1.2.1, x50.2.1.2.2, v32, x72, x73, v11, x24, x25, v12, x26, x27, x28, x29, x30, v33, x74, rfl, hC167, h2, hL1⟩
 intro _ _ _ _ h; cases h

theorem c_Q_eqIntS {w0 : World} (a1 : (List Int)) (u1 : Value) (g1 : RO [] w0 u1 a1) (a2 : (List Int)) (u2 : Value) (g2 : RO [] w0 u2 a2) (rr : Bool) (hF : Q.eqIntS a1 a2 = some rr) :
 Calls Tryz.prog 17 [u1, u2].toArray w0 fun e w' => ∃ v, e = .returned v ∧ Res w0 rr v w' := by
 refine calls_of_W Tryz.func17 rfl rfl ?_
 have hC0 := Ctx.start w0
 unfold Q.eqIntS at hF
 refine W_seq_reg ?_
 refine WL_assign rfl rfl ?_
 refine WL_nil ?_
 refine W_seq ?_
 refine W_seq_reg ?_
 refine WL_move rfl rfl ?_
 refine WL_len Tryz.underlying22 g1 rfl rfl ?_
 refine WL_move rfl rfl ?_
 refine WL_len Tryz.underlying22 g2 rfl rfl ?_
 refine WL_neq rfl rfl rfl ?_
 refine WL_nil ?_
 refine W_cond rfl (fun hc1 => ?_) (fun hc1 => ?_)
 ·replace hF := ite_t hF hc1
  refine W_seq_reg ?_
  refine WL_assign rfl rfl ?_
  refine WL_nil ?_
  refine W_ret ?_
  refine nrm_ret ?_
  have hq1 := Option.some.inj hF
  subst hq1
  refine fn_ret1 rfl rfl ?_
  exact ⟨_, rfl, bool_res hC0 _⟩
 replace hF := ite_f hF hc1
 refine W_skip ?_
 refine nrm_normal ?_
 refine W_seq ?_
 refine W_seq_reg ?_
 refine WL_assign rfl rfl ?_
 refine WL_nil ?_
 obtain ⟨r1, hr1, hF⟩ := bind_some hF
 refine W_norm (fun l w => .inl () = r1 ∧ l = [] ∧ Below w0.heap.size w0 w ∧ Ctx [] w0 w []) ?_ ?_
 ·refine W_block ?_
  refine W.sub (l' := [(0, u1), (1, u2), (5, (.int .i64 0))]) ?_ ⟨rfl, rfl, rfl, trivial⟩
  refine W_loop (fun k l w => ∃ x1 : Int, l = [(0, u1), (1, u2), (5, (.int .i64 x1))] ∧ Below w0.heap.size w0 w ∧ Ctx [] w0 w [] ∧ Q.eqIntS_l1 a1 a2 k x1 = some r1) FUEL ⟨0, rfl, (Below.refl _ _), hC0, hr1⟩ ?_
  clear hr1
  rintro k1 _ w1 ⟨x1, rfl, hB1, hC1, hL1⟩
  cases k1 with
  | zero => rw [Q.eqIntS_l1] at hL1; cases hL1
  | succ k1 =>
   rw [Q.eqIntS_l1] at hL1
   refine W_seq ?_
   refine W_seq_reg ?_
   refine WL_move rfl rfl ?_
   refine WL_move rfl rfl ?_
   refine WL_len Tryz.underlying22 g1 rfl rfl ?_
   refine WL_lss rfl rfl rfl ?_
   refine WL_nil ?_
   refine W_cond rfl (fun hc2 => ?_) (fun hc2 => ?_)
   ·replace hL1 := ite_t hL1 hc2
    refine W_skip ?_
    refine nrm_normal ?_
    refine W_seq ?_
    refine W_block ?_
    refine W_seq ?_
    refine W_drawn 9 rfl hmix (fun w2 hB2 => ?_)
    have hC2 := hC1.grow hB2
    refine WA_tk 0 (by kernel_rfl) rfl rfl (fl_move rfl) ?_
    refine WL_move rfl rfl ?_
    refine WL_nil ?_
    refine WA_tk 1 (by kernel_rfl) rfl rfl (fl_move rfl) ?_
    refine WL_move rfl rfl ?_
    refine WL_nil ?_
    obtain ⟨x2, hx1, hL1⟩ := bind_some hL1
    refine WA_tk 2 (by kernel_rfl) rfl rfl (fl_index Tryz.underlying22 ty3 g1 hx1 rfl rfl) ?_
    refine WL_index Tryz.underlying22 ty3 g1 hx1 rfl rfl rfl (fun b1 o1 h1 => ?_)
    refine WL_nil ?_
    refine WA_tk 4 (by kernel_rfl) rfl rfl (fl_move rfl) ?_
    refine WL_move rfl rfl ?_
    refine WL_nil ?_
    refine WA_tk 5 (by kernel_rfl) rfl rfl (fl_move rfl) ?_
    refine WL_move rfl rfl ?_
    refine WL_nil ?_
    obtain ⟨x3, hx2, hL1⟩ := bind_some hL1
    refine WA_tk 6 (by kernel_rfl) rfl rfl (fl_index Tryz.underlying22 ty3 g2 hx2 rfl rfl) ?_
    refine WL_index Tryz.underlying22 ty3 g2 hx2 rfl rfl rfl (fun b2 o2 h2 => ?_)
    refine WL_nil ?_
    refine WA.sub (l' := [(0, u1), (1, u2), (5, (.int .i64 x1)), (11, (.int .i64 x1)), (12, u1), (13, (.int .i64 (List.length a1 : Int))), (14, (.bool (decide (x1 < (List.length a1 : Int))))), (17, u1), (18, (.int .i64 x1)), (19, (ptr b1 o1)), (21, u2), (22, (.int .i64 x1)), (23, (ptr b2 o2))]) ?_ ⟨rfl, rfl, rfl, rfl, rfl, rfl, rfl, rfl, rfl, rfl, rfl, rfl, rfl, trivial⟩
    refine WA_postsE [⟨3, [], fun vs => PW.val (.int .i64 x2), []⟩, ⟨7, [], fun vs => PW.val (.int .i64 x3), []⟩] [[], []] 1 rfl (by kernel_rfl) (by kernel_rfl) rfl ?_ ?_
    ·refine StepsE_cons rfl ?_ ?_
     ·intro w3 hB3
      refine DepsE_nil ?_
      refine ⟨_, rfl, ?_⟩
      refine WL_load ty3 h1 (hC2.keep.then hB3) rfl rfl (fun v1 h3 => ?_)
      obtain rfl := ro_int h3
      refine WL_nil ?_
      exact FinE_val (Below.refl _ _) rfl rfl ⟨rfl, rfl⟩
     refine StepsE_cons rfl ?_ ?_
     ·intro w3 hB3
      refine DepsE_nil ?_
      refine ⟨_, rfl, ?_⟩
      refine WL_load ty3 h2 (hC2.keep.then hB3) rfl rfl (fun v2 h4 => ?_)
      obtain rfl := ro_int h4
      refine WL_nil ?_
      exact FinE_val (Below.refl _ _) rfl rfl ⟨rfl, rfl⟩
     exact StepsE_nil
    intro w4 hB4
    refine AllE_cons rfl rfl rfl ?_
    rintro _ _ ⟨rfl, rfl⟩
    refine AllE_cons rfl rfl rfl ?_
    rintro _ _ ⟨rfl, rfl⟩
    refine AllE_nil ?_
    intro hn1 hb1
    have hC3 := hC2.grow hB4
    refine WA_tk 8 (by kernel_rfl) rfl rfl (fl_neq rfl rfl) ?_
    refine WL_neq rfl rfl rfl ?_
    refine WL_nil ?_
    refine WA_done (by kernel_rfl) ?_
    refine nrm_normal ?_
    refine W_cond rfl (fun hc3 => ?_) (fun hc3 => ?_)
    ·replace hL1 := ite_t hL1 hc3
     refine W_seq_reg ?_
     refine WL_assign rfl rfl ?_
     refine WL_nil ?_
     refine W_ret ?_
     refine blk_ret ?_
     refine nrm_ret ?_
     refine nrm_ret ?_
     refine blk_ret ?_
     refine nrm_ret ?_
     refine nrm_ret ?_
     have hq2 := Option.some.inj hL1
     subst hq2
     dsimp only at hF
     have hq3 := Option.some.inj hF
     subst hq3
     refine fn_ret1 rfl rfl ?_
     exact ⟨_, rfl, bool_res hC3 _⟩
    replace hL1 := ite_f hL1 hc3
    refine W_skip ?_
    refine blk_normal ?_
    refine nrm_normal ?_
    refine W_reg ?_
    refine WL_move rfl rfl ?_
    refine WL_add rfl rfl rfl ?_
    refine WL_assign rfl rfl ?_
    refine WL_nil ?_
    refine nrm_sub (l' := [(0, u1), (1, u2), (5, (.int .i64 (w64 (x1 + 1))))]) ⟨rfl, rfl, rfl, trivial⟩ ?_
    exact ⟨k1, Nat.lt_succ_self _, w64 (x1 + 1), rfl, (((Keep.of hB1).then hB2).then hB4).below, hC3, hL1⟩
   replace hL1 := ite_f hL1 hc2
   refine W_exit ?_
   refine nrm_exit ?_
   refine nrm_exit ?_
   refine blk_exit ?_
   have hq4 := Option.some.inj hL1
   subst hq4
   refine nrm_sub (l' := []) trivial ?_
   exact ⟨rfl, rfl, (Keep.of hB1).below, hC1⟩
 rintro l2 _ w5 hs2 ⟨rfl, rfl, hB5, hC4⟩
 try dsimp only at hF
 refine nrm_sub' hs2 ?_
 clear hs2
 refine W_seq_reg ?_
 refine WL_assign rfl rfl ?_
 refine WL_nil ?_
 refine W_ret ?_
 have hq5 := Option.some.inj hF
 subst hq5
 refine fn_ret1 rfl rfl ?_
 exact ⟨_, rfl, bool_res hC4 _⟩

theorem c_Q_eqFact {w0 : World} (a1 : (Int × (List Int))) (u1 : Value) (g1 : RO [] w0 u1 a1.2) (a2 : (Int × (List Int))) (u2 : Value) (g2 : RO [] w0 u2 a2.2) (rr : Bool) (hF : Q.eqFact a1 a2 = some rr) :
 Calls Tryz.prog 79 [(.agg #[(.int .i64 a1.1), u1]), (.agg #[(.int .i64 a2.1), u2])].toArray w0 fun e w' => ∃ v, e = .returned v ∧ Res w0 rr v w' := by
 refine calls_of_W Tryz.func79 rfl rfl ?_
 have hC0 := Ctx.start w0
 unfold Q.eqFact at hF
 refine W_seq_reg ?_
 refine WL_box (cs := [(.int .i64 a1.1), u1]) hC0 rfl rfl rfl (fun b1 w1 hC1 hB1 => ?_)
 refine WL_box (cs := [(.int .i64 a2.1), u2]) hC1 rfl rfl rfl (fun b2 w2 hC2 hB2 => ?_)
 refine WL_assign rfl rfl ?_
 refine WL_nil ?_
 refine W_seq ?_
 refine W_seq_reg ?_
 refine WL_field Tryz.underlying81 rfl rfl (fun w => ⟨_, Tryz.sizeOf3 w⟩) rfl rfl ?_
 refine WL_load_box hC2 1 rfl rfl Tryz.isAgg3 rfl rfl ?_
 refine WL_field Tryz.underlying81 rfl rfl (fun w => ⟨_, Tryz.sizeOf3 w⟩) rfl rfl ?_
 refine WL_load_box hC2 0 rfl rfl Tryz.isAgg3 rfl rfl ?_
 refine WL_neq rfl rfl rfl ?_
 refine WL_nil ?_
 refine W_cond rfl (fun hc1 => ?_) (fun hc1 => ?_)
 ·replace hF := ite_t hF hc1
  refine W_seq_reg ?_
  refine WL_assign rfl rfl ?_
  refine WL_nil ?_
  refine W_ret ?_
  refine nrm_ret ?_
  have hq1 := Option.some.inj hF
  subst hq1
  refine fn_ret1 rfl rfl ?_
  exact ⟨_, rfl, bool_res hC2 _⟩
 replace hF := ite_f hF hc1
 refine W_skip ?_
 refine nrm_normal ?_
 refine W_seq ?_
 refine W_seq_reg ?_
 refine WL_field Tryz.underlying81 rfl rfl (fun w => ⟨_, Tryz.sizeOf22 w⟩) rfl rfl ?_
 refine WL_load_box hC2 1 rfl rfl Tryz.isAgg22 rfl rfl ?_
 refine WL_field Tryz.underlying81 rfl rfl (fun w => ⟨_, Tryz.sizeOf22 w⟩) rfl rfl ?_
 refine WL_load_box hC2 0 rfl rfl Tryz.isAgg22 rfl rfl ?_
 obtain ⟨x1, hr1, hF⟩ := bind_some hF
 refine WL_call Tryz.call17 rfl rfl (c_Q_eqIntS a1.2 u1 (g1.now hC2.keep) a2.2 u2 (g2.now hC2.keep) x1 hr1) ?_
 intro _ w3 hv1
 obtain ⟨rfl, hB3⟩ := res_bool hv1
 have hC3 := hC2.grow hB3
 refine WL_not rfl rfl ?_
 refine WL_nil ?_
 refine W_cond rfl (fun hc2 => ?_) (fun hc2 => ?_)
 ·replace hF := ite_t hF hc2
  refine W_seq_reg ?_
  refine WL_assign rfl rfl ?_
  refine WL_nil ?_
  refine W_ret ?_
  refine nrm_ret ?_
  have hq2 := Option.some.inj hF
  subst hq2
  refine fn_ret1 rfl rfl ?_
  exact ⟨_, rfl, bool_res hC3 _⟩
 replace hF := ite_f hF hc2
 refine W_skip ?_
 refine nrm_normal ?_
 refine W_seq_reg ?_
 refine WL_assign rfl rfl ?_
 refine WL_nil ?_
 refine W_ret ?_
 have hq3 := Option.some.inj hF
 subst hq3
 refine fn_ret1 rfl rfl ?_
 exact ⟨_, rfl, bool_res hC3 _⟩

theorem c_Q_eqFactS {w0 : World} (a1 : (List (Int × (List Int)))) (u1 : Value) (g1 : RO [] w0 u1 a1) (a2 : (List (Int × (List Int)))) (u2 : Value) (g2 : RO [] w0 u2 a2) (rr : Bool) (hF : Q.eqFactS a1 a2 = some rr) :
 Calls Tryz.prog 47 [u1, u2].toArray w0 fun e w' => ∃ v, e = .returned v ∧ Res w0 rr v w' := by
 refine calls_of_W Tryz.func47 rfl rfl ?_
 have hC0 := Ctx.start w0
 unfold Q.eqFactS at hF
 refine W_seq_reg ?_
 refine WL_assign rfl rfl ?_
 refine WL_nil ?_
 refine W_seq ?_
 refine W_seq_reg ?_
 refine WL_move rfl rfl ?_
 refine WL_len Tryz.underlying34 g1 rfl rfl ?_
 refine WL_move rfl rfl ?_
 refine WL_len Tryz.underlying34 g2 rfl rfl ?_
 refine WL_neq rfl rfl rfl ?_
 refine WL_nil ?_
 refine W_cond rfl (fun hc1 => ?_) (fun hc1 => ?_)
 ·replace hF := ite_t hF hc1
  refine W_seq_reg ?_
  refine WL_assign rfl rfl ?_
  refine WL_nil ?_
  refine W_ret ?_
  refine nrm_ret ?_
  have hq1 := Option.some.inj hF
  subst hq1
  refine fn_ret1 rfl rfl ?_
  exact ⟨_, rfl, bool_res hC0 _⟩
 replace hF := ite_f hF hc1
 refine W_skip ?_
 refine nrm_normal ?_
 refine W_seq ?_
 refine W_seq_reg ?_
 refine WL_assign rfl rfl ?_
 refine WL_nil ?_
 obtain ⟨r1, hr1, hF⟩ := bind_some hF
 refine W_norm (fun l w => .inl () = r1 ∧ l = [] ∧ Below w0.heap.size w0 w ∧ Ctx [] w0 w []) ?_ ?_
 ·refine W_block ?_
  refine W.sub (l' := [(0, u1), (1, u2), (5, (.int .i64 0))]) ?_ ⟨rfl, rfl, rfl, trivial⟩
  refine W_loop (fun k l w => ∃ x1 : Int, l = [(0, u1), (1, u2), (5, (.int .i64 x1))] ∧ Below w0.heap.size w0 w ∧ Ctx [] w0 w [] ∧ Q.eqFactS_l1 a1 a2 k x1 = some r1) FUEL ⟨0, rfl, (Below.refl _ _), hC0, hr1⟩ ?_
  clear hr1
  rintro k1 _ w1 ⟨x1, rfl, hB1, hC1, hL1⟩
  cases k1 with
  | zero => rw [Q.eqFactS_l1] at hL1; cases hL1
  | succ k1 =>
   rw [Q.eqFactS_l1] at hL1
   refine W_seq ?_
   refine W_seq_reg ?_
   refine WL_move rfl rfl ?_
   refine WL_move rfl rfl ?_
   refine WL_len Tryz.underlying34 g1 rfl rfl ?_
   refine WL_lss rfl rfl rfl ?_
   refine WL_nil ?_
   refine W_cond rfl (fun hc2 => ?_) (fun hc2 => ?_)
   ·replace hL1 := ite_t hL1 hc2
    refine W_skip ?_
    refine nrm_normal ?_
    refine W_seq ?_
    refine W_block ?_
    refine W_seq ?_
    refine W_drawn 10 rfl hmix (fun w2 hB2 => ?_)
    have hC2 := hC1.grow hB2
    refine WA_tk 0 (by kernel_rfl) rfl rfl (fl_move rfl) ?_
    refine WL_move rfl rfl ?_
    refine WL_nil ?_
    refine WA_tk 1 (by kernel_rfl) rfl rfl (fl_move rfl) ?_
    refine WL_move rfl rfl ?_
    refine WL_nil ?_
    obtain ⟨x2, hx1, hL1⟩ := bind_some hL1
    refine WA_tk 2 (by kernel_rfl) rfl rfl (fl_index Tryz.underlying34 ty81 g1 hx1 rfl rfl) ?_
    refine WL_index Tryz.underlying34 ty81 g1 hx1 rfl rfl rfl (fun b1 o1 h1 => ?_)
    refine WL_nil ?_
    refine WA_tk 4 (by kernel_rfl) rfl rfl (fl_move rfl) ?_
    refine WL_move rfl rfl ?_
    refine WL_nil ?_
    refine WA_tk 5 (by kernel_rfl) rfl rfl (fl_move rfl) ?_
    refine WL_move rfl rfl ?_
    refine WL_nil ?_
    obtain ⟨x3, hx2, hL1⟩ := bind_some hL1
    refine WA_tk 6 (by kernel_rfl) rfl rfl (fl_index Tryz.underlying34 ty81 g2 hx2 rfl rfl) ?_
    refine WL_index Tryz.underlying34 ty81 g2 hx2 rfl rfl rfl (fun b2 o2 h2 => ?_)
    refine WL_nil ?_
    refine WA.sub (l' := [(0, u1), (1, u2), (5, (.int .i64 x1)), (11, (.int .i64 x1)), (12, u1), (13, (.int .i64 (List.length a1 : Int))), (14, (.bool (decide (x1 < (List.length a1 : Int))))), (17, u1), (18, (.int .i64 x1)), (19, (ptr b1 o1)), (21, u2), (22, (.int .i64 x1)), (23, (ptr b2 o2))]) ?_ ⟨rfl, rfl, rfl, rfl, rfl, rfl, rfl, rfl, rfl, rfl, rfl, rfl, rfl, trivial⟩
    refine WA_postsE [⟨3, [], fun vs => PW.ro [] w0 x2, []⟩, ⟨7, [], fun vs => PW.ro [] w0 x3, []⟩] [[], []] 2 rfl (by kernel_rfl) (by kernel_rfl) rfl ?_ ?_
    ·refine StepsE_cons rfl ?_ ?_
     ·intro w3 hB3
      refine DepsE_nil ?_
      refine ⟨_, rfl, ?_⟩
      refine WL_load ty81 h1 (hC2.keep.then hB3) rfl rfl (fun v3 h5 => ?_)
      refine WL_nil ?_
      exact FinE_val (Below.refl _ _) rfl rfl ⟨rfl, h5⟩
     refine StepsE_cons rfl ?_ ?_
     ·intro w3 hB3
      refine DepsE_nil ?_
      refine ⟨_, rfl, ?_⟩
      refine WL_load ty81 h2 (hC2.keep.then hB3) rfl rfl (fun v6 h8 => ?_)
      refine WL_nil ?_
      exact FinE_val (Below.refl _ _) rfl rfl ⟨rfl, h8⟩
     exact StepsE_nil
    intro w4 hB4
    refine AllE_cons rfl rfl rfl ?_
    rintro v3 _ ⟨rfl, h5⟩
    obtain ⟨v2, rfl, h4⟩ := ro_st81 h5
    refine AllE_cons rfl rfl rfl ?_
    rintro v6 _ ⟨rfl, h8⟩
    obtain ⟨v5, rfl, h7⟩ := ro_st81 h8
    refine AllE_nil ?_
    intro hn1 hb1
    have hC3 := hC2.grow hB4
    obtain ⟨x4, hr2, hL1⟩ := bind_some hL1
    refine WA_one 8 (by kernel_rfl) rfl ?_
    refine WL_call Tryz.call79 rfl rfl (c_Q_eqFact x2 v2 (h4.now hC3.keep) x3 v5 (h7.now hC3.keep) x4 hr2) ?_
    intro _ w5 hv1
    obtain ⟨rfl, hB5⟩ := res_bool hv1
    have hC4 := hC3.grow hB5
    refine WL_nil ?_
    refine WA_tk 9 (by kernel_rfl) rfl rfl (fl_not rfl) ?_
    refine WL_not rfl rfl ?_
    refine WL_nil ?_
    refine WA_done (by kernel_rfl) ?_
    refine nrm_normal ?_
    refine W_cond rfl (fun hc3 => ?_) (fun hc3 => ?_)
    ·replace hL1 := ite_t hL1 hc3
     refine W_seq_reg ?_
     refine WL_assign rfl rfl ?_
     refine WL_nil ?_
     refine W_ret ?_
     refine blk_ret ?_
     refine nrm_ret ?_
     refine nrm_ret ?_
     refine blk_ret ?_
     refine nrm_ret ?_
     refine nrm_ret ?_
     have hq2 := Option.some.inj hL1
     subst hq2
     dsimp only at hF
     have hq3 := Option.some.inj hF
     subst hq3
     refine fn_ret1 rfl rfl ?_
     exact ⟨_, rfl, bool_res hC4 _⟩
    replace hL1 := ite_f hL1 hc3
    refine W_skip ?_
    refine blk_normal ?_
    refine nrm_normal ?_
    refine W_reg ?_
    refine WL_move rfl rfl ?_
    refine WL_add rfl rfl rfl ?_
    refine WL_assign rfl rfl ?_
    refine WL_nil ?_
    refine nrm_sub (l' := [(0, u1), (1, u2), (5, (.int .i64 (w64 (x1 + 1))))]) ⟨rfl, rfl, rfl, trivial⟩ ?_
    exact ⟨k1, Nat.lt_succ_self _, w64 (x1 + 1), rfl, ((((Keep.of hB1).then hB2).then hB4).then hB5).below, hC4, hL1⟩
   replace hL1 := ite_f hL1 hc2
   refine W_exit ?_
   refine nrm_exit ?_
   refine nrm_exit ?_
   refine blk_exit ?_
   have hq4 := Option.some.inj hL1
   subst hq4
   refine nrm_sub (l' := []) trivial ?_
   exact ⟨rfl, rfl, (Keep.of hB1).below, hC1⟩
 rintro l2 _ w6 hs2 ⟨rfl, rfl, hB6, hC5⟩
 try dsimp only at hF
 refine nrm_sub' hs2 ?_
 clear hs2
 refine W_seq_reg ?_
 refine WL_assign rfl rfl ?_
 refine WL_nil ?_
 refine W_ret ?_
 have hq5 := Option.some.inj hF
 subst hq5
 refine fn_ret1 rfl rfl ?_
 exact ⟨_, rfl, bool_res hC5 _⟩

theorem c_Q_eqReading {w0 : World} (a1 : ((List (Int × (List Int))) × Int × Int × Int × Bool)) (u1 : Value) (g1 : RO [] w0 u1 a1.1) (a2 : ((List (Int × (List Int))) × Int × Int × Int × Bool)) (u2 : Value) (g2 : RO [] w0 u2 a2.1) (rr : Bool) (hF : Q.eqReading a1 a2 = some rr) :
 Calls Tryz.prog 15 [(.agg #[u1, (.int .i64 a1.2.1), (.int .i64 a1.2.2.1), (.int .i64 a1.2.2.2.1), (.bool a1.2.2.2.2)]), (.agg #[u2, (.int .i64 a2.2.1), (.int .i64 a2.2.2.1), (.int .i64 a2.2.2.2.1), (.bool a2.2.2.2.2)])].toArray w0 fun e w' => ∃ v, e = .returned v ∧ Res w0 rr v w' := by
 refine calls_of_W Tryz.func15 rfl rfl ?_
 have hC0 := Ctx.start w0
 unfold Q.eqReading at hF
 refine W_seq_reg ?_
 refine WL_box (cs := [u1, (.int .i64 a1.2.1), (.int .i64 a1.2.2.1), (.int .i64 a1.2.2.2.1), (.bool a1.2.2.2.2)]) hC0 rfl rfl rfl (fun b1 w1 hC1 hB1 => ?_)
 refine WL_box (cs := [u2, (.int .i64 a2.2.1), (.int .i64 a2.2.2.1), (.int .i64 a2.2.2.2.1), (.bool a2.2.2.2.2)]) hC1 rfl rfl rfl (fun b2 w2 hC2 hB2 => ?_)
 refine WL_assign rfl rfl ?_
 refine WL_nil ?_
 refine W_seq ?_
 refine W_seq_reg ?_
 refine WL_field Tryz.underlying36 rfl rfl (fun w => ⟨_, Tryz.sizeOf34 w⟩) rfl rfl ?_
 refine WL_load_box hC2 1 rfl rfl Tryz.isAgg34 rfl rfl ?_
 refine WL_field Tryz.underlying36 rfl rfl (fun w => ⟨_, Tryz.sizeOf34 w⟩) rfl rfl ?_
 refine WL_load_box hC2 0 rfl rfl Tryz.isAgg34 rfl rfl ?_
 obtain ⟨x1, hr1, hF⟩ := bind_some hF
 refine WL_call Tryz.call47 rfl rfl (c_Q_eqFactS a1.1 u1 (g1.now hC2.keep) a2.1 u2 (g2.now hC2.keep) x1 hr1) ?_
 intro _ w3 hv1
 obtain ⟨rfl, hB3⟩ := res_bool hv1
 have hC3 := hC2.grow hB3
 refine WL_not rfl rfl ?_
 refine WL_nil ?_
 refine W_cond rfl (fun hc1 => ?_) (fun hc1 => ?_)
 ·replace hF := ite_t hF hc1
  refine W_seq_reg ?_
  refine WL_assign rfl rfl ?_
  refine WL_nil ?_
  refine W_ret ?_
  refine nrm_ret ?_
  have hq1 := Option.some.inj hF
  subst hq1
  refine fn_ret1 rfl rfl ?_
  exact ⟨_, rfl, bool_res hC3 _⟩
 replace hF := ite_f hF hc1
 refine W_skip ?_
 refine nrm_normal ?_
 refine W_seq ?_
 refine W_seq_reg ?_
 refine WL_field Tryz.underlying36 rfl rfl (fun w => ⟨_, Tryz.sizeOf3 w⟩) rfl rfl ?_
 refine WL_load_box hC3 1 rfl rfl Tryz.isAgg3 rfl rfl ?_
 refine WL_field Tryz.underlying36 rfl rfl (fun w => ⟨_, Tryz.sizeOf3 w⟩) rfl rfl ?_
 refine WL_load_box hC3 0 rfl rfl Tryz.isAgg3 rfl rfl ?_
 refine WL_neq rfl rfl rfl ?_
 refine WL_nil ?_
 refine W_cond rfl (fun hc2 => ?_) (fun hc2 => ?_)
 ·replace hF := ite_t hF hc2
  refine W_seq_reg ?_
  refine WL_assign rfl rfl ?_
  refine WL_nil ?_
  refine W_ret ?_
  refine nrm_ret ?_
  have hq2 := Option.some.inj hF
  subst hq2
  refine fn_ret1 rfl rfl ?_
  exact ⟨_, rfl, bool_res hC3 _⟩
 replace hF := ite_f hF hc2
 refine W_skip ?_
 refine nrm_normal ?_
 refine W_seq ?_
 refine W_seq_reg ?_
 refine WL_field Tryz.underlying36 rfl rfl (fun w => ⟨_, Tryz.sizeOf3 w⟩) rfl rfl ?_
 refine WL_load_box hC3 1 rfl rfl Tryz.isAgg3 rfl rfl ?_
 refine WL_field Tryz.underlying36 rfl rfl (fun w => ⟨_, Tryz.sizeOf3 w⟩) rfl rfl ?_
 refine WL_load_box hC3 0 rfl rfl Tryz.isAgg3 rfl rfl ?_
 refine WL_neq rfl rfl rfl ?_
 refine WL_nil ?_
 refine W_cond rfl (fun hc3 => ?_) (fun hc3 => ?_)
 ·replace hF := ite_t hF hc3
  refine W_seq_reg ?_
  refine WL_assign rfl rfl ?_
  refine WL_nil ?_
  refine W_ret ?_
  refine nrm_ret ?_
  have hq3 := Option.some.inj hF
  subst hq3
  refine fn_ret1 rfl rfl ?_
  exact ⟨_, rfl, bool_res hC3 _⟩
 replace hF := ite_f hF hc3
 refine W_skip ?_
 refine nrm_normal ?_
 refine W_seq ?_
 refine W_seq_reg ?_
 refine WL_field Tryz.underlying36 rfl rfl (fun w => ⟨_, Tryz.sizeOf3 w⟩) rfl rfl ?_
 refine WL_load_box hC3 1 rfl rfl Tryz.isAgg3 rfl rfl ?_
 refine WL_field Tryz.underlying36 rfl rfl (fun w => ⟨_, Tryz.sizeOf3 w⟩) rfl rfl ?_
 refine WL_load_box hC3 0 rfl rfl Tryz.isAgg3 rfl rfl ?_
 refine WL_neq rfl rfl rfl ?_
 refine WL_nil ?_
 refine W_cond rfl (fun hc4 => ?_) (fun hc4 => ?_)
 ·replace hF := ite_t hF hc4
  refine W_seq_reg ?_
  refine WL_assign rfl rfl ?_
  refine WL_nil ?_
  refine W_ret ?_
  refine nrm_ret ?_
  have hq4 := Option.some.inj hF
  subst hq4
  refine fn_ret1 rfl rfl ?_
  exact ⟨_, rfl, bool_res hC3 _⟩
 replace hF := ite_f hF hc4
 refine W_skip ?_
 refine nrm_normal ?_
 refine W_seq ?_
 refine W_seq_reg ?_
 refine WL_field Tryz.underlying36 rfl rfl (fun w => ⟨_, Tryz.sizeOf4 w⟩) rfl rfl ?_
 refine WL_load_box hC3 1 rfl rfl Tryz.isAgg4 rfl rfl ?_
 refine WL_field Tryz.underlying36 rfl rfl (fun w => ⟨_, Tryz.sizeOf4 w⟩) rfl rfl ?_
 refine WL_load_box hC3 0 rfl rfl Tryz.isAgg4 rfl rfl ?_
 refine WL_bool_neq Tryz.underlying4 rfl rfl rfl ?_
 refine WL_nil ?_
 refine W_cond rfl (fun hc5 => ?_) (fun hc5 => ?_)
 ·replace hF := ite_t hF hc5
  refine W_seq_reg ?_
  refine WL_assign rfl rfl ?_
  refine WL_nil ?_
  refine W_ret ?_
  refine nrm_ret ?_
  have hq5 := Option.some.inj hF
  subst hq5
  refine fn_ret1 rfl rfl ?_
  exact ⟨_, rfl, bool_res hC3 _⟩
 replace hF := ite_f hF hc5
 refine W_skip ?_
 refine nrm_normal ?_
 refine W_seq_reg ?_
 refine WL_assign rfl rfl ?_
 refine WL_nil ?_
 refine W_ret ?_
 have hq6 := Option.some.inj hF
 subst hq6
 refine fn_ret1 rfl rfl ?_
 exact ⟨_, rfl, bool_res hC3 _⟩

theorem c_Q_eqSource {w0 : World} (a1 : ((List (Int × (List Int))) × Int)) (u1 : Value) (g1 : RO [] w0 u1 a1.1) (a2 : ((List (Int × (List Int))) × Int)) (u2 : Value) (g2 : RO [] w0 u2 a2.1) (rr : Bool) (hF : Q.eqSource a1 a2 = some rr) :
 Calls Tryz.prog 16 [(.agg #[u1, (.int .i64 a1.2)]), (.agg #[u2, (.int .i64 a2.2)])].toArray w0 fun e w' => ∃ v, e = .returned v ∧ Res w0 rr v w' := by
 refine calls_of_W Tryz.func16 rfl rfl ?_
 have hC0 := Ctx.start w0
 unfold Q.eqSource at hF
 refine W_seq_reg ?_
 refine WL_box (cs := [u1, (.int .i64 a1.2)]) hC0 rfl rfl rfl (fun b1 w1 hC1 hB1 => ?_)
 refine WL_box (cs := [u2, (.int .i64 a2.2)]) hC1 rfl rfl rfl (fun b2 w2 hC2 hB2 => ?_)
 refine WL_assign rfl rfl ?_
 refine WL_nil ?_
 refine W_seq ?_
 refine W_seq_reg ?_
 refine WL_field Tryz.underlying38 rfl rfl (fun w => ⟨_, Tryz.sizeOf34 w⟩) rfl rfl ?_
 refine WL_load_box hC2 1 rfl rfl Tryz.isAgg34 rfl rfl ?_
 refine WL_field Tryz.underlying38 rfl rfl (fun w => ⟨_, Tryz.sizeOf34 w⟩) rfl rfl ?_
 refine WL_load_box hC2 0 rfl rfl Tryz.isAgg34 rfl rfl ?_
 obtain ⟨x1, hr1, hF⟩ := bind_some hF
 refine WL_call Tryz.call47 rfl rfl (c_Q_eqFactS a1.1 u1 (g1.now hC2.keep) a2.1 u2 (g2.now hC2.keep) x1 hr1) ?_
 intro _ w3 hv1
 obtain ⟨rfl, hB3⟩ := res_bool hv1
 have hC3 := hC2.grow hB3
 refine WL_not rfl rfl ?_
 refine WL_nil ?_
 refine W_cond rfl (fun hc1 => ?_) (fun hc1 => ?_)
 ·replace hF := ite_t hF hc1
  refine W_seq_reg ?_
  refine WL_assign rfl rfl ?_
  refine WL_nil ?_
  refine W_ret ?_
  refine nrm_ret ?_
  have hq1 := Option.some.inj hF
  subst hq1
  refine fn_ret1 rfl rfl ?_
  exact ⟨_, rfl, bool_res hC3 _⟩
 replace hF := ite_f hF hc1
 refine W_skip ?_
 refine nrm_normal ?_
 refine W_seq ?_
 refine W_seq_reg ?_
 refine WL_field Tryz.underlying38 rfl rfl (fun w => ⟨_, Tryz.sizeOf3 w⟩) rfl rfl ?_
 refine WL_load_box hC3 1 rfl rfl Tryz.isAgg3 rfl rfl ?_
 refine WL_field Tryz.underlying38 rfl rfl (fun w => ⟨_, Tryz.sizeOf3 w⟩) rfl rfl ?_
 refine WL_load_box hC3 0 rfl rfl Tryz.isAgg3 rfl rfl ?_
 refine WL_neq rfl rfl rfl ?_
 refine WL_nil ?_
 refine W_cond rfl (fun hc2 => ?_) (fun hc2 => ?_)
 ·replace hF := ite_t hF hc2
  refine W_seq_reg ?_
  refine WL_assign rfl rfl ?_
  refine WL_nil ?_
  refine W_ret ?_
  refine nrm_ret ?_
  have hq2 := Option.some.inj hF
  subst hq2
  refine fn_ret1 rfl rfl ?_
  exact ⟨_, rfl, bool_res hC3 _⟩
 replace hF := ite_f hF hc2
 refine W_skip ?_
 refine nrm_normal ?_
 refine W_seq_reg ?_
 refine WL_assign rfl rfl ?_
 refine WL_nil ?_
 refine W_ret ?_
 have hq3 := Option.some.inj hF
 subst hq3
 refine fn_ret1 rfl rfl ?_
 exact ⟨_, rfl, bool_res hC3 _⟩

theorem c_Q_eqMethod {w0 : World} (a1 : (Int × (List Int) × Int × Int × Int)) (u1 : Value) (g1 : RO [] w0 u1 a1.2.1) (a2 : (Int × (List Int) × Int × Int × Int)) (u2 : Value) (g2 : RO [] w0 u2 a2.2.1) (rr : Bool) (hF : Q.eqMethod a1 a2 = some rr) :
 Calls Tryz.prog 48 [(.agg #[(.int .i64 a1.1), u1, (.int .i64 a1.2.2.1), (.int .i64 a1.2.2.2.1), (.int .i64 a1.2.2.2.2)]), (.agg #[(.int .i64 a2.1), u2, (.int .i64 a2.2.2.1), (.int .i64 a2.2.2.2.1), (.int .i64 a2.2.2.2.2)])].toArray w0 fun e w' => ∃ v, e = .returned v ∧ Res w0 rr v w' := by
 refine calls_of_W Tryz.func48 rfl rfl ?_
 have hC0 := Ctx.start w0
 unfold Q.eqMethod at hF
 refine W_seq_reg ?_
 refine WL_box (cs := [(.int .i64 a1.1), u1, (.int .i64 a1.2.2.1), (.int .i64 a1.2.2.2.1), (.int .i64 a1.2.2.2.2)]) hC0 rfl rfl rfl (fun b1 w1 hC1 hB1 => ?_)
 refine WL_box (cs := [(.int .i64 a2.1), u2, (.int .i64 a2.2.2.1), (.int .i64 a2.2.2.2.1), (.int .i64 a2.2.2.2.2)]) hC1 rfl rfl rfl (fun b2 w2 hC2 hB2 => ?_)
 refine WL_assign rfl rfl ?_
 refine WL_nil ?_
 refine W_seq ?_
 refine W_seq_reg ?_
 refine WL_field Tryz.underlying84 rfl rfl (fun w => ⟨_, Tryz.sizeOf3 w⟩) rfl rfl ?_
 refine WL_load_box hC2 1 rfl rfl Tryz.isAgg3 rfl rfl ?_
 refine WL_field Tryz.underlying84 rfl rfl (fun w => ⟨_, Tryz.sizeOf3 w⟩) rfl rfl ?_
 refine WL_load_box hC2 0 rfl rfl Tryz.isAgg3 rfl rfl ?_
 refine WL_neq rfl rfl rfl ?_
 refine WL_nil ?_
 refine W_cond rfl (fun hc1 => ?_) (fun hc1 => ?_)
 ·replace hF := ite_t hF hc1
  refine W_seq_reg ?_
  refine WL_assign rfl rfl ?_
  refine WL_nil ?_
  refine W_ret ?_
  refine nrm_ret ?_
  have hq1 := Option.some.inj hF
  subst hq1
  refine fn_ret1 rfl rfl ?_
  exact ⟨_, rfl, bool_res hC2 _⟩
 replace hF := ite_f hF hc1
 refine W_skip ?_
 refine nrm_normal ?_
 refine W_seq ?_
 refine W_seq_reg ?_
 refine WL_field Tryz.underlying84 rfl rfl (fun w => ⟨_, Tryz.sizeOf22 w⟩) rfl rfl ?_
 refine WL_load_box hC2 1 rfl rfl Tryz.isAgg22 rfl rfl ?_
 refine WL_field Tryz.underlying84 rfl rfl (fun w => ⟨_, Tryz.sizeOf22 w⟩) rfl rfl ?_
 refine WL_load_box hC2 0 rfl rfl Tryz.isAgg22 rfl rfl ?_
 obtain ⟨x1, hr1, hF⟩ := bind_some hF
 refine WL_call Tryz.call17 rfl rfl (c_Q_eqIntS a1.2.1 u1 (g1.now hC2.keep) a2.2.1 u2 (g2.now hC2.keep) x1 hr1) ?_
 intro _ w3 hv1
 obtain ⟨rfl, hB3⟩ := res_bool hv1
 have hC3 := hC2.grow hB3
 refine WL_not rfl rfl ?_
 refine WL_nil ?_
 refine W_cond rfl (fun hc2 => ?_) (fun hc2 => ?_)
 ·replace hF := ite_t hF hc2
  refine W_seq_reg ?_
  refine WL_assign rfl rfl ?_
  refine WL_nil ?_
  refine W_ret ?_
  refine nrm_ret ?_
  have hq2 := Option.some.inj hF
  subst hq2
  refine fn_ret1 rfl rfl ?_
  exact ⟨_, rfl, bool_res hC3 _⟩
 replace hF := ite_f hF hc2
 refine W_skip ?_
 refine nrm_normal ?_
 refine W_seq ?_
 refine W_seq_reg ?_
 refine WL_field Tryz.underlying84 rfl rfl (fun w => ⟨_, Tryz.sizeOf3 w⟩) rfl rfl ?_
 refine WL_load_box hC3 1 rfl rfl Tryz.isAgg3 rfl rfl ?_
 refine WL_field Tryz.underlying84 rfl rfl (fun w => ⟨_, Tryz.sizeOf3 w⟩) rfl rfl ?_
 refine WL_load_box hC3 0 rfl rfl Tryz.isAgg3 rfl rfl ?_
 refine WL_neq rfl rfl rfl ?_
 refine WL_nil ?_
 refine W_cond rfl (fun hc3 => ?_) (fun hc3 => ?_)
 ·replace hF := ite_t hF hc3
  refine W_seq_reg ?_
  refine WL_assign rfl rfl ?_
  refine WL_nil ?_
  refine W_ret ?_
  refine nrm_ret ?_
  have hq3 := Option.some.inj hF
  subst hq3
  refine fn_ret1 rfl rfl ?_
  exact ⟨_, rfl, bool_res hC3 _⟩
 replace hF := ite_f hF hc3
 refine W_skip ?_
 refine nrm_normal ?_
 refine W_seq ?_
 refine W_seq_reg ?_
 refine WL_field Tryz.underlying84 rfl rfl (fun w => ⟨_, Tryz.sizeOf3 w⟩) rfl rfl ?_
 refine WL_load_box hC3 1 rfl rfl Tryz.isAgg3 rfl rfl ?_
 refine WL_field Tryz.underlying84 rfl rfl (fun w => ⟨_, Tryz.sizeOf3 w⟩) rfl rfl ?_
 refine WL_load_box hC3 0 rfl rfl Tryz.isAgg3 rfl rfl ?_
 refine WL_neq rfl rfl rfl ?_
 refine WL_nil ?_
 refine W_cond rfl (fun hc4 => ?_) (fun hc4 => ?_)
 ·replace hF := ite_t hF hc4
  refine W_seq_reg ?_
  refine WL_assign rfl rfl ?_
  refine WL_nil ?_
  refine W_ret ?_
  refine nrm_ret ?_
  have hq4 := Option.some.inj hF
  subst hq4
  refine fn_ret1 rfl rfl ?_
  exact ⟨_, rfl, bool_res hC3 _⟩
 replace hF := ite_f hF hc4
 refine W_skip ?_
 refine nrm_normal ?_
 refine W_seq ?_
 refine W_seq_reg ?_
 refine WL_field Tryz.underlying84 rfl rfl (fun w => ⟨_, Tryz.sizeOf3 w⟩) rfl rfl ?_
 refine WL_load_box hC3 1 rfl rfl Tryz.isAgg3 rfl rfl ?_
 refine WL_field Tryz.underlying84 rfl rfl (fun w => ⟨_, Tryz.sizeOf3 w⟩) rfl rfl ?_
 refine WL_load_box hC3 0 rfl rfl Tryz.isAgg3 rfl rfl ?_
 refine WL_neq rfl rfl rfl ?_
 refine WL_nil ?_
 refine W_cond rfl (fun hc5 => ?_) (fun hc5 => ?_)
 ·replace hF := ite_t hF hc5
  refine W_seq_reg ?_
  refine WL_assign rfl rfl ?_
  refine WL_nil ?_
  refine W_ret ?_
  refine nrm_ret ?_
  have hq5 := Option.some.inj hF
  subst hq5
  refine fn_ret1 rfl rfl ?_
  exact ⟨_, rfl, bool_res hC3 _⟩
 replace hF := ite_f hF hc5
 refine W_skip ?_
 refine nrm_normal ?_
 refine W_seq_reg ?_
 refine WL_assign rfl rfl ?_
 refine WL_nil ?_
 refine W_ret ?_
 have hq6 := Option.some.inj hF
 subst hq6
 refine fn_ret1 rfl rfl ?_
 exact ⟨_, rfl, bool_res hC3 _⟩

theorem c_Q_eqMethodS {w0 : World} (a1 : (List (Int × (List Int) × Int × Int × Int))) (u1 : Value) (g1 : RO [] w0 u1 a1) (a2 : (List (Int × (List Int) × Int × Int × Int))) (u2 : Value) (g2 : RO [] w0 u2 a2) (rr : Bool) (hF : Q.eqMethodS a1 a2 = some rr) :
 Calls Tryz.prog 18 [u1, u2].toArray w0 fun e w' => ∃ v, e = .returned v ∧ Res w0 rr v w' := by
 refine calls_of_W Tryz.func18 rfl rfl ?_
 have hC0 := Ctx.start w0
 unfold Q.eqMethodS at hF
 refine W_seq_reg ?_
 refine WL_assign rfl rfl ?_
 refine WL_nil ?_
 refine W_seq ?_
 refine W_seq_reg ?_
 refine WL_move rfl rfl ?_
 refine WL_len Tryz.underlying42 g1 rfl rfl ?_
 refine WL_move rfl rfl ?_
 refine WL_len Tryz.underlying42 g2 rfl rfl ?_
 refine WL_neq rfl rfl rfl ?_
 refine WL_nil ?_
 refine W_cond rfl (fun hc1 => ?_) (fun hc1 => ?_)
 ·replace hF := ite_t hF hc1
  refine W_seq_reg ?_
  refine WL_assign rfl rfl ?_
  refine WL_nil ?_
  refine W_ret ?_
  refine nrm_ret ?_
  have hq1 := Option.some.inj hF
  subst hq1
  refine fn_ret1 rfl rfl ?_
  exact ⟨_, rfl, bool_res hC0 _⟩
 replace hF := ite_f hF hc1
 refine W_skip ?_
 refine nrm_normal ?_
 refine W_seq ?_
 refine W_seq_reg ?_
 refine WL_assign rfl rfl ?_
 refine WL_nil ?_
 obtain ⟨r1, hr1, hF⟩ := bind_some hF
 refine W_norm (fun l w => .inl () = r1 ∧ l = [] ∧ Below w0.heap.size w0 w ∧ Ctx [] w0 w []) ?_ ?_
 ·refine W_block ?_
  refine W.sub (l' := [(0, u1), (1, u2), (5, (.int .i64 0))]) ?_ ⟨rfl, rfl, rfl, trivial⟩
  refine W_loop (fun k l w => ∃ x1 : Int, l = [(0, u1), (1, u2), (5, (.int .i64 x1))] ∧ Below w0.heap.size w0 w ∧ Ctx [] w0 w [] ∧ Q.eqMethodS_l1 a1 a2 k x1 = some r1) FUEL ⟨0, rfl, (Below.refl _ _), hC0, hr1⟩ ?_
  clear hr1
  rintro k1 _ w1 ⟨x1, rfl, hB1, hC1, hL1⟩
  cases k1 with
  | zero => rw [Q.eqMethodS_l1] at hL1; cases hL1
  | succ k1 =>
   rw [Q.eqMethodS_l1] at hL1
   refine W_seq ?_
   refine W_seq_reg ?_
   refine WL_move rfl rfl ?_
   refine WL_move rfl rfl ?_
   refine WL_len Tryz.underlying42 g1 rfl rfl ?_
   refine WL_lss rfl rfl rfl ?_
   refine WL_nil ?_
   refine W_cond rfl (fun hc2 => ?_) (fun hc2 => ?_)
   ·replace hL1 := ite_t hL1 hc2
    refine W_skip ?_
    refine nrm_normal ?_
    refine W_seq ?_
    refine W_block ?_
    refine W_seq ?_
    refine W_drawn 10 rfl hmix (fun w2 hB2 => ?_)
    have hC2 := hC1.grow hB2
    refine WA_tk 0 (by kernel_rfl) rfl rfl (fl_move rfl) ?_
    refine WL_move rfl rfl ?_
    refine WL_nil ?_
    refine WA_tk 1 (by kernel_rfl) rfl rfl (fl_move rfl) ?_
    refine WL_move rfl rfl ?_
    refine WL_nil ?_
    obtain ⟨x2, hx1, hL1⟩ := bind_some hL1
    refine WA_tk 2 (by kernel_rfl) rfl rfl (fl_index Tryz.underlying42 ty84 g1 hx1 rfl rfl) ?_
    refine WL_index Tryz.underlying42 ty84 g1 hx1 rfl rfl rfl (fun b1 o1 h1 => ?_)
    refine WL_nil ?_
    refine WA_tk 4 (by kernel_rfl) rfl rfl (fl_move rfl) ?_
    refine WL_move rfl rfl ?_
    refine WL_nil ?_
    refine WA_tk 5 (by kernel_rfl) rfl rfl (fl_move rfl) ?_
    refine WL_move rfl rfl ?_
    refine WL_nil ?_
    obtain ⟨x3, hx2, hL1⟩ := bind_some hL1
    refine WA_tk 6 (by kernel_rfl) rfl rfl (fl_index Tryz.underlying42 ty84 g2 hx2 rfl rfl) ?_
    refine WL_index Tryz.underlying42 ty84 g2 hx2 rfl rfl rfl (fun b2 o2 h2 => ?_)
    refine WL_nil ?_
    refine WA.sub (l' := [(0, u1), (1, u2), (5, (.int .i64 x1)), (11, (.int .i64 x1)), (12, u1), (13, (.int .i64 (List.length a1 : Int))), (14, (.bool (decide (x1 < (List.length a1 : Int))))), (17, u1), (18, (.int .i64 x1)), (19, (ptr b1 o1)), (21, u2), (22, (.int .i64 x1)), (23, (ptr b2 o2))]) ?_ ⟨rfl, rfl, rfl, rfl, rfl, rfl, rfl, rfl, rfl, rfl, rfl, rfl, rfl, trivial⟩
    refine WA_postsE [⟨3, [], fun vs => PW.ro [] w0 x2, []⟩, ⟨7, [], fun vs => PW.ro [] w0 x3, []⟩] [[], []] 2 rfl (by kernel_rfl) (by kernel_rfl) rfl ?_ ?_
    ·refine StepsE_cons rfl ?_ ?_
     ·intro w3 hB3
      refine DepsE_nil ?_
      refine ⟨_, rfl, ?_⟩
      refine WL_load ty84 h1 (hC2.keep.then hB3) rfl rfl (fun v3 h5 => ?_)
      refine WL_nil ?_
      exact FinE_val (Below.refl _ _) rfl rfl ⟨rfl, h5⟩
     refine StepsE_cons rfl ?_ ?_
     ·intro w3 hB3
      refine DepsE_nil ?_
      refine ⟨_, rfl, ?_⟩
      refine WL_load ty84 h2 (hC2.keep.then hB3) rfl rfl (fun v6 h8 => ?_)
      refine WL_nil ?_
      exact FinE_val (Below.refl _ _) rfl rfl ⟨rfl, h8⟩
     exact StepsE_nil
    intro w4 hB4
    refine AllE_cons rfl rfl rfl ?_
    rintro v3 _ ⟨rfl, h5⟩
    obtain ⟨v2, rfl, h4⟩ := ro_st84 h5
    refine AllE_cons rfl rfl rfl ?_
    rintro v6 _ ⟨rfl, h8⟩
    obtain ⟨v5, rfl, h7⟩ := ro_st84 h8
    refine AllE_nil ?_
    intro hn1 hb1
    have hC3 := hC2.grow hB4
    obtain ⟨x4, hr2, hL1⟩ := bind_some hL1
    refine WA_one 8 (by kernel_rfl) rfl ?_
    refine WL_call Tryz.call48 rfl rfl (c_Q_eqMethod x2 v2 (h4.now hC3.keep) x3 v5 (h7.now hC3.keep) x4 hr2) ?_
    intro _ w5 hv1
    obtain ⟨rfl, hB5⟩ := res_bool hv1
    have hC4 := hC3.grow hB5
    refine WL_nil ?_
    refine WA_tk 9 (by kernel_rfl) rfl rfl (fl_not rfl) ?_
    refine WL_not rfl rfl ?_
    refine WL_nil ?_
    refine WA_done (by kernel_rfl) ?_
    refine nrm_normal ?_
    refine W_cond rfl (fun hc3 => ?_) (fun hc3 => ?_)
    ·replace hL1 := ite_t hL1 hc3
     refine W_seq_reg ?_
     refine WL_assign rfl rfl ?_
     refine WL_nil ?_
     refine W_ret ?_
     refine blk_ret ?_
     refine nrm_ret ?_
     refine nrm_ret ?_
     refine blk_ret ?_
     refine nrm_ret ?_
     refine nrm_ret ?_
     have hq2 := Option.some.inj hL1
     subst hq2
     dsimp only at hF
     have hq3 := Option.some.inj hF
     subst hq3
     refine fn_ret1 rfl rfl ?_
     exact ⟨_, rfl, bool_res hC4 _⟩
    replace hL1 := ite_f hL1 hc3
    refine W_skip ?_
    refine blk_normal ?_
    refine nrm_normal ?_
    refine W_reg ?_
    refine WL_move rfl rfl ?_
    refine WL_add rfl rfl rfl ?_
    refine WL_assign rfl rfl ?_
    refine WL_nil ?_
    refine nrm_sub (l' := [(0, u1), (1, u2), (5, (.int .i64 (w64 (x1 + 1))))]) ⟨rfl, rfl, rfl, trivial⟩ ?_
    exact ⟨k1, Nat.lt_succ_self _, w64 (x1 + 1), rfl, ((((Keep.of hB1).then hB2).then hB4).then hB5).below, hC4, hL1⟩
   replace hL1 := ite_f hL1 hc2
   refine W_exit ?_
   refine nrm_exit ?_
   refine nrm_exit ?_
   refine blk_exit ?_
   have hq4 := Option.some.inj hL1
   subst hq4
   refine nrm_sub (l' := []) trivial ?_
   exact ⟨rfl, rfl, (Keep.of hB1).below, hC1⟩
 rintro l2 _ w6 hs2 ⟨rfl, rfl, hB6, hC5⟩
 try dsimp only at hF
 refine nrm_sub' hs2 ?_
 clear hs2
 refine W_seq_reg ?_
 refine WL_assign rfl rfl ?_
 refine WL_nil ?_
 refine W_ret ?_
 have hq5 := Option.some.inj hF
 subst hq5
 refine fn_ret1 rfl rfl ?_
 exact ⟨_, rfl, bool_res hC5 _⟩

theorem c_Q_eqAccess {w0 : World} (a1 : (Int × (List Int))) (u1 : Value) (g1 : RO [] w0 u1 a1.2) (a2 : (Int × (List Int))) (u2 : Value) (g2 : RO [] w0 u2 a2.2) (rr : Bool) (hF : Q.eqAccess a1 a2 = some rr) :
 Calls Tryz.prog 19 [(.agg #[(.int .i64 a1.1), u1]), (.agg #[(.int .i64 a2.1), u2])].toArray w0 fun e w' => ∃ v, e = .returned v ∧ Res w0 rr v w' := by
 refine calls_of_W Tryz.func19 rfl rfl ?_
 have hC0 := Ctx.start w0
 unfold Q.eqAccess at hF
 refine W_seq_reg ?_
 refine WL_box (cs := [(.int .i64 a1.1), u1]) hC0 rfl rfl rfl (fun b1 w1 hC1 hB1 => ?_)
 refine WL_box (cs := [(.int .i64 a2.1), u2]) hC1 rfl rfl rfl (fun b2 w2 hC2 hB2 => ?_)
 refine WL_assign rfl rfl ?_
 refine WL_nil ?_
 refine W_seq ?_
 refine W_seq_reg ?_
 refine WL_field Tryz.underlying45 rfl rfl (fun w => ⟨_, Tryz.sizeOf3 w⟩) rfl rfl ?_
 refine WL_load_box hC2 1 rfl rfl Tryz.isAgg3 rfl rfl ?_
 refine WL_field Tryz.underlying45 rfl rfl (fun w => ⟨_, Tryz.sizeOf3 w⟩) rfl rfl ?_
 refine WL_load_box hC2 0 rfl rfl Tryz.isAgg3 rfl rfl ?_
 refine WL_neq rfl rfl rfl ?_
 refine WL_nil ?_
 refine W_cond rfl (fun hc1 => ?_) (fun hc1 => ?_)
 ·replace hF := ite_t hF hc1
  refine W_seq_reg ?_
  refine WL_assign rfl rfl ?_
  refine WL_nil ?_
  refine W_ret ?_
  refine nrm_ret ?_
  have hq1 := Option.some.inj hF
  subst hq1
  refine fn_ret1 rfl rfl ?_
  exact ⟨_, rfl, bool_res hC2 _⟩
 replace hF := ite_f hF hc1
 refine W_skip ?_
 refine nrm_normal ?_
 refine W_seq ?_
 refine W_seq_reg ?_
 refine WL_field Tryz.underlying45 rfl rfl (fun w => ⟨_, Tryz.sizeOf22 w⟩) rfl rfl ?_
 refine WL_load_box hC2 1 rfl rfl Tryz.isAgg22 rfl rfl ?_
 refine WL_field Tryz.underlying45 rfl rfl (fun w => ⟨_, Tryz.sizeOf22 w⟩) rfl rfl ?_
 refine WL_load_box hC2 0 rfl rfl Tryz.isAgg22 rfl rfl ?_
 obtain ⟨x1, hr1, hF⟩ := bind_some hF
 refine WL_call Tryz.call17 rfl rfl (c_Q_eqIntS a1.2 u1 (g1.now hC2.keep) a2.2 u2 (g2.now hC2.keep) x1 hr1) ?_
 intro _ w3 hv1
 obtain ⟨rfl, hB3⟩ := res_bool hv1
 have hC3 := hC2.grow hB3
 refine WL_not rfl rfl ?_
 refine WL_nil ?_
 refine W_cond rfl (fun hc2 => ?_) (fun hc2 => ?_)
 ·replace hF := ite_t hF hc2
  refine W_seq_reg ?_
  refine WL_assign rfl rfl ?_
  refine WL_nil ?_
  refine W_ret ?_
  refine nrm_ret ?_
  have hq2 := Option.some.inj hF
  subst hq2
  refine fn_ret1 rfl rfl ?_
  exact ⟨_, rfl, bool_res hC3 _⟩
 replace hF := ite_f hF hc2
 refine W_skip ?_
 refine nrm_normal ?_
 refine W_seq_reg ?_
 refine WL_assign rfl rfl ?_
 refine WL_nil ?_
 refine W_ret ?_
 have hq3 := Option.some.inj hF
 subst hq3
 refine fn_ret1 rfl rfl ?_
 exact ⟨_, rfl, bool_res hC3 _⟩

theorem c_Q_eqChange {w0 : World} (a1 : (Bool × (Int × (List Int)))) (u1 : Value) (g1 : RO [] w0 u1 a1.2.2) (a2 : (Bool × (Int × (List Int)))) (u2 : Value) (g2 : RO [] w0 u2 a2.2.2) (rr : Bool) (hF : Q.eqChange a1 a2 = some rr) :
 Calls Tryz.prog 49 [(.agg #[(.bool a1.1), (.int .i64 a1.2.1), u1]), (.agg #[(.bool a2.1), (.int .i64 a2.2.1), u2])].toArray w0 fun e w' => ∃ v, e = .returned v ∧ Res w0 rr v w' := by
 refine calls_of_W Tryz.func49 rfl rfl ?_
 have hC0 := Ctx.start w0
 unfold Q.eqChange at hF
 refine W_seq_reg ?_
 refine WL_box (cs := [(.bool a1.1), (.int .i64 a1.2.1), u1]) hC0 rfl rfl rfl (fun b1 w1 hC1 hB1 => ?_)
 refine WL_box (cs := [(.bool a2.1), (.int .i64 a2.2.1), u2]) hC1 rfl rfl rfl (fun b2 w2 hC2 hB2 => ?_)
 refine WL_assign rfl rfl ?_
 refine WL_nil ?_
 refine W_seq ?_
 refine W_seq_reg ?_
 refine WL_field Tryz.underlying83 rfl rfl (fun w => ⟨_, Tryz.sizeOf4 w⟩) rfl rfl ?_
 refine WL_load_box hC2 1 rfl rfl Tryz.isAgg4 rfl rfl ?_
 refine WL_field Tryz.underlying83 rfl rfl (fun w => ⟨_, Tryz.sizeOf4 w⟩) rfl rfl ?_
 refine WL_load_box hC2 0 rfl rfl Tryz.isAgg4 rfl rfl ?_
 refine WL_bool_neq Tryz.underlying4 rfl rfl rfl ?_
 refine WL_nil ?_
 refine W_cond rfl (fun hc1 => ?_) (fun hc1 => ?_)
 ·replace hF := ite_t hF hc1
  refine W_seq_reg ?_
  refine WL_assign rfl rfl ?_
  refine WL_nil ?_
  refine W_ret ?_
  refine nrm_ret ?_
  have hq1 := Option.some.inj hF
  subst hq1
  refine fn_ret1 rfl rfl ?_
  exact ⟨_, rfl, bool_res hC2 _⟩
 replace hF := ite_f hF hc1
 refine W_skip ?_
 refine nrm_normal ?_
 refine W_seq ?_
 refine W_seq_reg ?_
 refine WL_field Tryz.underlying83 rfl rfl (fun w => ⟨_, Tryz.sizeOf81 w⟩) rfl rfl ?_
 refine WL_load_box_agg [(.int .i64 a1.2.1), u1] hC2 1 rfl rfl rfl Tryz.isAgg81 Tryz.sizeOf81 rfl rfl ?_
 refine WL_field Tryz.underlying83 rfl rfl (fun w => ⟨_, Tryz.sizeOf81 w⟩) rfl rfl ?_
 refine WL_load_box_agg [(.int .i64 a2.2.1), u2] hC2 0 rfl rfl rfl Tryz.isAgg81 Tryz.sizeOf81 rfl rfl ?_
 obtain ⟨x1, hr1, hF⟩ := bind_some hF
 refine WL_call Tryz.call79 rfl rfl (c_Q_eqFact (a1.2.1, a1.2.2) u1 (g1.now hC2.keep) (a2.2.1, a2.2.2) u2 (g2.now hC2.keep) x1 hr1) ?_
 intro _ w3 hv1
 obtain ⟨rfl, hB3⟩ := res_bool hv1
 have hC3 := hC2.grow hB3
 refine WL_not rfl rfl ?_
 refine WL_nil ?_
 refine W_cond rfl (fun hc2 => ?_) (fun hc2 => ?_)
 ·replace hF := ite_t hF hc2
  refine W_seq_reg ?_
  refine WL_assign rfl rfl ?_
  refine WL_nil ?_
  refine W_ret ?_
  refine nrm_ret ?_
  have hq2 := Option.some.inj hF
  subst hq2
  refine fn_ret1 rfl rfl ?_
  exact ⟨_, rfl, bool_res hC3 _⟩
 replace hF := ite_f hF hc2
 refine W_skip ?_
 refine nrm_normal ?_
 refine W_seq_reg ?_
 refine WL_assign rfl rfl ?_
 refine WL_nil ?_
 refine W_ret ?_
 have hq3 := Option.some.inj hF
 subst hq3
 refine fn_ret1 rfl rfl ?_
 exact ⟨_, rfl, bool_res hC3 _⟩

theorem c_Q_eqChangeS {w0 : World} (a1 : (List (Bool × (Int × (List Int))))) (u1 : Value) (g1 : RO [] w0 u1 a1) (a2 : (List (Bool × (Int × (List Int))))) (u2 : Value) (g2 : RO [] w0 u2 a2) (rr : Bool) (hF : Q.eqChangeS a1 a2 = some rr) :
 Calls Tryz.prog 20 [u1, u2].toArray w0 fun e w' => ∃ v, e = .returned v ∧ Res w0 rr v w' := by
 refine calls_of_W Tryz.func20 rfl rfl ?_
 have hC0 := Ctx.start w0
 unfold Q.eqChangeS at hF
 refine W_seq_reg ?_
 refine WL_assign rfl rfl ?_
 refine WL_nil ?_
 refine W_seq ?_
 refine W_seq_reg ?_
 refine WL_move rfl rfl ?_
 refine WL_len Tryz.underlying47 g1 rfl rfl ?_
 refine WL_move rfl rfl ?_
 refine WL_len Tryz.underlying47 g2 rfl rfl ?_
 refine WL_neq rfl rfl rfl ?_
 refine WL_nil ?_
 refine W_cond rfl (fun hc1 => ?_) (fun hc1 => ?_)
 ·replace hF := ite_t hF hc1
  refine W_seq_reg ?_
  refine WL_assign rfl rfl ?_
  refine WL_nil ?_
  refine W_ret ?_
  refine nrm_ret ?_
  have hq1 := Option.some.inj hF
  subst hq1
  refine fn_ret1 rfl rfl ?_
  exact ⟨_, rfl, bool_res hC0 _⟩
 replace hF := ite_f hF hc1
 refine W_skip ?_
 refine nrm_normal ?_
 refine W_seq ?_
 refine W_seq_reg ?_
 refine WL_assign rfl rfl ?_
 refine WL_nil ?_
 obtain ⟨r1, hr1, hF⟩ := bind_some hF
 refine W_norm (fun l w => .inl () = r1 ∧ l = [] ∧ Below w0.heap.size w0 w ∧ Ctx [] w0 w []) ?_ ?_
 ·refine W_block ?_
  refine W.sub (l' := [(0, u1), (1, u2), (5, (.int .i64 0))]) ?_ ⟨rfl, rfl, rfl, trivial⟩
  refine W_loop (fun k l w => ∃ x1 : Int, l = [(0, u1), (1, u2), (5, (.int .i64 x1))] ∧ Below w0.heap.size w0 w ∧ Ctx [] w0 w [] ∧ Q.eqChangeS_l1 a1 a2 k x1 = some r1) FUEL ⟨0, rfl, (Below.refl _ _), hC0, hr1⟩ ?_
  clear hr1
  rintro k1 _ w1 ⟨x1, rfl, hB1, hC1, hL1⟩
  cases k1 with
  | zero => rw [Q.eqChangeS_l1] at hL1; cases hL1
  | succ k1 =>
   rw [Q.eqChangeS_l1] at hL1
   refine W_seq ?_
   refine W_seq_reg ?_
   refine WL_move rfl rfl ?_
   refine WL_move rfl rfl ?_
   refine WL_len Tryz.underlying47 g1 rfl rfl ?_
   refine WL_lss rfl rfl rfl ?_
   refine WL_nil ?_
   refine W_cond rfl (fun hc2 => ?_) (fun hc2 => ?_)
   ·replace hL1 := ite_t hL1 hc2
    refine W_skip ?_
    refine nrm_normal ?_
    refine W_seq ?_
    refine W_block ?_
    refine W_seq ?_
    refine W_drawn 10 rfl hmix (fun w2 hB2 => ?_)
    have hC2 := hC1.grow hB2
    refine WA_tk 0 (by kernel_rfl) rfl rfl (fl_move rfl) ?_
    refine WL_move rfl rfl ?_
    refine WL_nil ?_
    refine WA_tk 1 (by kernel_rfl) rfl rfl (fl_move rfl) ?_
    refine WL_move rfl rfl ?_
    refine WL_nil ?_
    obtain ⟨x2, hx1, hL1⟩ := bind_some hL1
    refine WA_tk 2 (by kernel_rfl) rfl rfl (fl_index Tryz.underlying47 ty83 g1 hx1 rfl rfl) ?_
    refine WL_index Tryz.underlying47 ty83 g1 hx1 rfl rfl rfl (fun b1 o1 h1 => ?_)
    refine WL_nil ?_
    refine WA_tk 4 (by kernel_rfl) rfl rfl (fl_move rfl) ?_
    refine WL_move rfl rfl ?_
    refine WL_nil ?_
    refine WA_tk 5 (by kernel_rfl) rfl rfl (fl_move rfl) ?_
    refine WL_move rfl rfl ?_
    refine WL_nil ?_
    obtain ⟨x3, hx2, hL1⟩ := bind_some hL1
    refine WA_tk 6 (by kernel_rfl) rfl rfl (fl_index Tryz.underlying47 ty83 g2 hx2 rfl rfl) ?_
    refine WL_index Tryz.underlying47 ty83 g2 hx2 rfl rfl rfl (fun b2 o2 h2 => ?_)
    refine WL_nil ?_
    refine WA.sub (l' := [(0, u1), (1, u2), (5, (.int .i64 x1)), (11, (.int .i64 x1)), (12, u1), (13, (.int .i64 (List.length a1 : Int))), (14, (.bool (decide (x1 < (List.length a1 : Int))))), (17, u1), (18, (.int .i64 x1)), (19, (ptr b1 o1)), (21, u2), (22, (.int .i64 x1)), (23, (ptr b2 o2))]) ?_ ⟨rfl, rfl, rfl, rfl, rfl, rfl, rfl, rfl, rfl, rfl, rfl, rfl, rfl, trivial⟩
    refine WA_postsE [⟨3, [], fun vs => PW.ro [] w0 x2, []⟩, ⟨7, [], fun vs => PW.ro [] w0 x3, []⟩] [[], []] 2 rfl (by kernel_rfl) (by kernel_rfl) rfl ?_ ?_
    ·refine StepsE_cons rfl ?_ ?_
     ·intro w3 hB3
      refine DepsE_nil ?_
      refine ⟨_, rfl, ?_⟩
      refine WL_load ty83 h1 (hC2.keep.then hB3) rfl rfl (fun v3 h5 => ?_)
      refine WL_nil ?_
      exact FinE_val (Below.refl _ _) rfl rfl ⟨rfl, h5⟩
     refine StepsE_cons rfl ?_ ?_
     ·intro w3 hB3
      refine DepsE_nil ?_
      refine ⟨_, rfl, ?_⟩
      refine WL_load ty83 h2 (hC2.keep.then hB3) rfl rfl (fun v6 h8 => ?_)
      refine WL_nil ?_
      exact FinE_val (Below.refl _ _) rfl rfl ⟨rfl, h8⟩
     exact StepsE_nil
    intro w4 hB4
    refine AllE_cons rfl rfl rfl ?_
    rintro v3 _ ⟨rfl, h5⟩
    obtain ⟨v2, rfl, h4⟩ := ro_st83 h5
    refine AllE_cons rfl rfl rfl ?_
    rintro v6 _ ⟨rfl, h8⟩
    obtain ⟨v5, rfl, h7⟩ := ro_st83 h8
    refine AllE_nil ?_
    intro hn1 hb1
    have hC3 := hC2.grow hB4
    obtain ⟨x4, hr2, hL1⟩ := bind_some hL1
    refine WA_one 8 (by kernel_rfl) rfl ?_
    refine WL_call Tryz.call49 rfl rfl (c_Q_eqChange x2 v2 (h4.now hC3.keep) x3 v5 (h7.now hC3.keep) x4 hr2) ?_
    intro _ w5 hv1
    obtain ⟨rfl, hB5⟩ := res_bool hv1
    have hC4 := hC3.grow hB5
    refine WL_nil ?_
    refine WA_tk 9 (by kernel_rfl) rfl rfl (fl_not rfl) ?_
    refine WL_not rfl rfl ?_
    refine WL_nil ?_
    refine WA_done (by kernel_rfl) ?_
    refine nrm_normal ?_
    refine W_cond rfl (fun hc3 => ?_) (fun hc3 => ?_)
    ·replace hL1 := ite_t hL1 hc3
     refine W_seq_reg ?_
     refine WL_assign rfl rfl ?_
     refine WL_nil ?_
     refine W_ret ?_
     refine blk_ret ?_
     refine nrm_ret ?_
     refine nrm_ret ?_
     refine blk_ret ?_
     refine nrm_ret ?_
     refine nrm_ret ?_
     have hq2 := Option.some.inj hL1
     subst hq2
     dsimp only at hF
     have hq3 := Option.some.inj hF
     subst hq3
     refine fn_ret1 rfl rfl ?_
     exact ⟨_, rfl, bool_res hC4 _⟩
    replace hL1 := ite_f hL1 hc3
    refine W_skip ?_
    refine blk_normal ?_
    refine nrm_normal ?_
    refine W_reg ?_
    refine WL_move rfl rfl ?_
    refine WL_add rfl rfl rfl ?_
    refine WL_assign rfl rfl ?_
    refine WL_nil ?_
    refine nrm_sub (l' := [(0, u1), (1, u2), (5, (.int .i64 (w64 (x1 + 1))))]) ⟨rfl, rfl, rfl, trivial⟩ ?_
    exact ⟨k1, Nat.lt_succ_self _, w64 (x1 + 1), rfl, ((((Keep.of hB1).then hB2).then hB4).then hB5).below, hC4, hL1⟩
   replace hL1 := ite_f hL1 hc2
   refine W_exit ?_
   refine nrm_exit ?_
   refine nrm_exit ?_
   refine blk_exit ?_
   have hq4 := Option.some.inj hL1
   subst hq4
   refine nrm_sub (l' := []) trivial ?_
   exact ⟨rfl, rfl, (Keep.of hB1).below, hC1⟩
 rintro l2 _ w6 hs2 ⟨rfl, rfl, hB6, hC5⟩
 try dsimp only at hF
 refine nrm_sub' hs2 ?_
 clear hs2
 refine W_seq_reg ?_
 refine WL_assign rfl rfl ?_
 refine WL_nil ?_
 refine W_ret ?_
 have hq5 := Option.some.inj hF
 subst hq5
 refine fn_ret1 rfl rfl ?_
 exact ⟨_, rfl, bool_res hC5 _⟩

theorem c_Q_markIntS {w0 : World} {Fs : List (List Nat)} (a1 : (List Int)) (u1 : Value) (a2 : Int) (hH : Hold [Item.own u1 (a1 : (List Int))] w0 Fs) (hn : Fs.flatten.Nodup) (rr : (Int × (List Int))) (hF : Q.markIntS a1 a2 = some rr) :
 Calls Tryz.prog 21 [u1, (.int .i64 a2)].toArray w0 fun e w' => ∃ v, e = .returned v ∧ v = (.int .i64 rr.1) ∧ Ctx Fs.flatten w0 w' [Item.own u1 (rr.2 : (List Int))] := by
 refine calls_of_W Tryz.func21 rfl rfl ?_
 have hC0 := Ctx.startIn hH hn
 unfold Q.markIntS at hF
 refine W_seq_reg ?_
 refine WL_assign rfl rfl ?_
 refine WL_nil ?_
 refine W_seq ?_
 refine W_seq_reg ?_
 refine WL_assign rfl rfl ?_
 refine WL_nil ?_
 obtain ⟨r1, hr1, hF⟩ := bind_some hF
 refine W_norm (fun l w => ∃ x4 : (List Int), ∃ x5 : Int, (x4, x5) = r1 ∧ l = [(1, (.int .i64 x5))] ∧ Ctx Fs.flatten w0 w [Item.own u1 (x4 : (List Int))]) ?_ ?_
 ·refine W_block ?_
  refine W.sub (l' := [(0, u1), (1, (.int .i64 a2)), (5, (.int .i64 0))]) ?_ ⟨rfl, rfl, rfl, trivial⟩
  refine W_loop (fun k l w => ∃ x1 : (List Int), ∃ x2 : Int, ∃ x3 : Int, l = [(0, u1), (1, (.int .i64 x2)), (5, (.int .i64 x3))] ∧ Ctx Fs.flatten w0 w [Item.own u1 (x1 : (List Int))] ∧ Q.markIntS_l1 k x1 x2 x3 = some r1) FUEL ⟨a1, a2, 0, rfl, hC0, hr1⟩ ?_
  clear hr1
  rintro k1 _ w1 ⟨x1, x2, x3, rfl, hC1, hL1⟩
  cases k1 with
  | zero => rw [Q.markIntS_l1] at hL1; cases hL1
  | succ k1 =>
   rw [Q.markIntS_l1] at hL1
   refine W_seq ?_
   refine W_seq_reg ?_
   refine WL_move rfl rfl ?_
   refine WL_move rfl rfl ?_
   refine WL_len Tryz.underlying22 (hC1.ro 0 rfl) rfl rfl ?_
   refine WL_lss rfl rfl rfl ?_
   refine WL_nil ?_
   refine W_cond rfl (fun hc1 => ?_) (fun hc1 => ?_)
   ·replace hL1 := ite_t hL1 hc1
    refine W_skip ?_
    refine nrm_normal ?_
    refine W_seq ?_
    refine W_block ?_
    refine W_seq_reg ?_
    refine WL_move rfl rfl ?_
    refine WL_move rfl rfl ?_
    refine WL_move rfl rfl ?_
    obtain ⟨x6, hx1, hL1⟩ := bind_some hL1
    refine WL_index_own hC1 0 rfl Tryz.underlying22 ty3 hx1 rfl rfl rfl (fun b1 hE1 => ?_)
    have hC3 := hC1.triv (int_val (x2))
    refine WL_store_elem hC3 0 rfl ty3 hE1 hx1 rfl rfl rfl (fun w2 hC2 => ?_)
    try dsimp only [List.set] at hC2
    refine WL_nil ?_
    refine W_reg ?_
    refine WL_move rfl rfl ?_
    refine WL_add rfl rfl rfl ?_
    refine WL_assign rfl rfl ?_
    refine WL_nil ?_
    refine blk_normal ?_
    refine nrm_normal ?_
    refine W_reg ?_
    refine WL_move rfl rfl ?_
    refine WL_add rfl rfl rfl ?_
    refine WL_assign rfl rfl ?_
    refine WL_nil ?_
    refine nrm_sub (l' := [(0, u1), (1, (.int .i64 (w64 (x2 + 1)))), (5, (.int .i64 (w64 (x3 + 1))))]) ⟨rfl, rfl, rfl, trivial⟩ ?_
    exact ⟨k1, Nat.lt_succ_self _, (List.set x1 (Int.toNat x3) x2), w64 (x2 + 1), w64 (x3 + 1), rfl, hC2, hL1⟩
   replace hL1 := ite_f hL1 hc1
   refine W_exit ?_
   refine nrm_exit ?_
   refine nrm_exit ?_
   refine blk_exit ?_
   have hq1 := Option.some.inj hL1
   subst hq1
   refine nrm_sub (l' := [(1, (.int .i64 x2))]) ⟨rfl, trivial⟩ ?_
   exact ⟨x1, x2, rfl, rfl, hC1⟩
 rintro l2 _ w3 hs2 ⟨x4, x5, rfl, rfl, hC4⟩
 try dsimp only at hF
 refine nrm_sub' hs2 ?_
 clear hs2
 refine W_seq_reg ?_
 refine WL_move rfl rfl ?_
 refine WL_assign rfl rfl ?_
 refine WL_nil ?_
 refine W_ret ?_
 have hq2 := Option.some.inj hF
 subst hq2
 refine fn_ret1 rfl rfl ?_
 exact ⟨_, rfl, rfl, hC4⟩

theorem c_Q_markMethodS {w0 : World} {Fs : List (List Nat)} (a1 : (List (Int × (List Int) × Int × Int × Int))) (u1 : Value) (a2 : Int) (hH : Hold [Item.own u1 (a1 : (List (Int × (List Int) × Int × Int × Int)))] w0 Fs) (hn : Fs.flatten.Nodup) (rr : (Int × (List (Int × (List Int) × Int × Int × Int)))) (hF : Q.markMethodS a1 a2 = some rr) :
 Calls Tryz.prog 22 [u1, (.int .i64 a2)].toArray w0 fun e w' => ∃ v, e = .returned v ∧ v = (.int .i64 rr.1) ∧ Ctx Fs.flatten w0 w' [Item.own u1 (rr.2 : (List (Int × (List Int) × Int × Int × Int)))] := by
 refine calls_of_W Tryz.func22 rfl rfl ?_
 have hC0 := Ctx.startIn hH hn
 unfold Q.markMethodS at hF
 refine W_seq_reg ?_
 refine WL_assign rfl rfl ?_
 refine WL_nil ?_
 refine W_seq ?_
 refine W_seq_reg ?_
 refine WL_assign rfl rfl ?_
 refine WL_nil ?_
 obtain ⟨r1, hr1, hF⟩ := bind_some hF
 refine W_norm (fun l w => ∃ x4 : (List (Int × (List Int) × Int × Int × Int)), ∃ x5 : Int, (x4, x5) = r1 ∧ l = [(1, (.int .i64 x5))] ∧ Ctx Fs.flatten w0 w [Item.own u1 (x4 : (List (Int × (List Int) × Int × Int × Int)))]) ?_ ?_
 ·refine W_block ?_
  refine W.sub (l' := [(0, u1), (1, (.int .i64 a2)), (5, (.int .i64 0))]) ?_ ⟨rfl, rfl, rfl, trivial⟩
  refine W_loop (fun k l w => ∃ x1 : (List (Int × (List Int) × Int × Int × Int)), ∃ x2 : Int, ∃ x3 : Int, l = [(0, u1), (1, (.int .i64 x2)), (5, (.int .i64 x3))] ∧ Ctx Fs.flatten w0 w [Item.own u1 (x1 : (List (Int × (List Int) × Int × Int × Int)))] ∧ Q.markMethodS_l1 k x1 x2 x3 = some r1) FUEL ⟨a1, a2, 0, rfl, hC0, hr1⟩ ?_
  clear hr1
  rintro k1 _ w1 ⟨x1, x2, x3, rfl, hC1, hL1⟩
  cases k1 with
  | zero => rw [Q.markMethodS_l1] at hL1; cases hL1
  | succ k1 =>
   rw [Q.markMethodS_l1] at hL1
   refine W_seq ?_
   refine W_seq_reg ?_
   refine WL_move rfl rfl ?_
   refine WL_move rfl rfl ?_
   refine WL_len Tryz.underlying42 (hC1.ro 0 rfl) rfl rfl ?_
   refine WL_lss rfl rfl rfl ?_
   refine WL_nil ?_
   refine W_cond rfl (fun hc1 => ?_) (fun hc1 => ?_)
   ·replace hL1 := ite_t hL1 hc1
    refine W_skip ?_
    refine nrm_normal ?_
    refine W_seq ?_
    refine W_block ?_
    refine W_seq_reg ?_
    refine WL_move rfl rfl ?_
    refine WL_move rfl rfl ?_
    refine WL_move rfl rfl ?_
    obtain ⟨x6, hx1, hL1⟩ := bind_some hL1
    refine WL_index_own hC1 0 rfl Tryz.underlying42 ty84 hx1 rfl rfl rfl (fun b1 hE1 => ?_)
    refine WL_field Tryz.underlying84 rfl rfl (fun w => ⟨_, Tryz.sizeOf3 w⟩) rfl rfl ?_
    obtain ⟨cs1, hC3⟩ := hC1.openElem hx1
    obtain ⟨v1, he1, hC4⟩ := st84_own (hC3.cellsOwn rfl)
    obtain rfl := cells_of_agg he1
    refine WL_store_hole (fo := 0) (cs' := [(.int .i64 x2), v1, (.int .i64 x6.2.2.1), (.int .i64 x6.2.2.2.1), (.int .i64 x6.2.2.2.2)]) hC4 1 rfl hE1 rfl rfl rfl rfl Tryz.sizeOf3 rfl rfl (fun w2 hC2 => ?_)
    try dsimp only [List.set] at hC2
    have hC5 := hC2.f1
    have hC7 := hC5.f1
    have hC6 := own_st84 x2 v1 x6.2.1 x6.2.2.1 x6.2.2.2.1 x6.2.2.2.2 hC7
    have hC8 := hC6.ownCells.closeElem
    refine WL_nil ?_
    refine W_seq_reg ?_
    refine WL_move rfl rfl ?_
    refine WL_add rfl rfl rfl ?_
    refine WL_assign rfl rfl ?_
    refine WL_nil ?_
    refine W_seq_reg ?_
    refine WL_move rfl rfl ?_
    refine WL_move rfl rfl ?_
    obtain ⟨x7, hx2, hL1⟩ := bind_some hL1
    refine WL_index_own hC8 0 rfl Tryz.underlying42 ty84 hx2 rfl rfl rfl (fun b2 hE2 => ?_)
    refine WL_field Tryz.underlying84 rfl rfl (fun w => ⟨_, Tryz.sizeOf22 w⟩) rfl rfl ?_
    obtain ⟨cs2, hC9⟩ := hC8.openElem hx2
    obtain ⟨v2, he2, hC10⟩ := st84_own (hC9.cellsOwn rfl)
    obtain rfl := cells_of_agg he2
    refine WL_load_hole (fo := 1) hC10 1 rfl hE2 rfl rfl Tryz.isAgg22 rfl rfl ?_
    refine WL_move rfl rfl ?_
    obtain ⟨x8, hr2, hL1⟩ := bind_some hL1
    obtain ⟨Fs1, hH1, hn1, hF1, hO1, hb1⟩ := Ctx.lend2 (As := [Item.hole u1 ((List.set x1 (Int.toNat x3) (x2, x6.2.1, x6.2.2.1, x6.2.2.2.1, x6.2.2.2.2)) : (List (Int × (List Int) × Int × Int × Int))) (Int.toNat x3) [(.int .i64 x7.1), v2, (.int .i64 x7.2.2.1), (.int .i64 x7.2.2.2.1), (.int .i64 x7.2.2.2.2)]]) [Item.own v2 (x7.2.1 : (List Int))] hC10
    refine WL_call Tryz.call21 rfl rfl (c_Q_markIntS x7.2.1 v2 (w64 (x2 + 1)) hH1 hn1 x8 hr2) ?_
    rintro _ w3 ⟨rfl, hq1⟩
    have hC12 : Ctx Fs.flatten w0 w3 [Item.own v2 (x8.2 : (List Int)), Item.hole u1 ((List.set x1 (Int.toNat x3) (x2, x6.2.1, x6.2.2.1, x6.2.2.2.1, x6.2.2.2.2)) : (List (Int × (List Int) × Int × Int × Int))) (Int.toNat x3) [(.int .i64 x7.1), v2, (.int .i64 x7.2.2.1), (.int .i64 x7.2.2.2.1), (.int .i64 x7.2.2.2.2)]] := hb1 _ _ hq1
    have hC13 := hC12.f1
    have hC15 := hC13.f1
    have hC14 := own_st84 x7.1 v2 x8.2 x7.2.2.1 x7.2.2.2.1 x7.2.2.2.2 hC15
    have hC16 := hC14.ownCells.closeElem
    refine WL_assign rfl rfl ?_
    refine WL_nil ?_
    refine W_seq_reg ?_
    refine WL_move rfl rfl ?_
    refine WL_move rfl rfl ?_
    refine WL_move rfl rfl ?_
    obtain ⟨x9, hx3, hL1⟩ := bind_some hL1
    refine WL_index_own hC16 0 rfl Tryz.underlying42 ty84 hx3 rfl rfl rfl (fun b3 hE3 => ?_)
    refine WL_field Tryz.underlying84 rfl rfl (fun w => ⟨_, Tryz.sizeOf3 w⟩) rfl rfl ?_
    obtain ⟨cs3, hC18⟩ := hC16.openElem hx3
    obtain ⟨v3, he3, hC19⟩ := st84_own (hC18.cellsOwn rfl)
    obtain rfl := cells_of_agg he3
    refine WL_store_hole (fo := 2) (cs' := [(.int .i64 x9.1), v3, (.int .i64 x8.1), (.int .i64 x9.2.2.2.1), (.int .i64 x9.2.2.2.2)]) hC19 1 rfl hE3 rfl rfl rfl rfl Tryz.sizeOf3 rfl rfl (fun w4 hC17 => ?_)
    try dsimp only [List.set] at hC17
    have hC20 := hC17.f1
    have hC22 := hC20.f1
    have hC21 := own_st84 x9.1 v3 x9.2.1 x8.1 x9.2.2.2.1 x9.2.2.2.2 hC22
    have hC23 := hC21.ownCells.closeElem
    refine WL_nil ?_
    refine W_seq_reg ?_
    refine WL_move rfl rfl ?_
    refine WL_add rfl rfl rfl ?_
    refine WL_assign rfl rfl ?_
    refine WL_nil ?_
    refine W_seq_reg ?_
    refine WL_move rfl rfl ?_
    refine WL_move rfl rfl ?_
    refine WL_move rfl rfl ?_
    obtain ⟨x10, hx4, hL1⟩ := bind_some hL1
    refine WL_index_own hC23 0 rfl Tryz.underlying42 ty84 hx4 rfl rfl rfl (fun b4 hE4 => ?_)
    refine WL_field Tryz.underlying84 rfl rfl (fun w => ⟨_, Tryz.sizeOf3 w⟩) rfl rfl ?_
    obtain ⟨cs4, hC25⟩ := hC23.openElem hx4
    obtain ⟨v4, he4, hC26⟩ := st84_own (hC25.cellsOwn rfl)
    obtain rfl := cells_of_agg he4
    refine WL_store_hole (fo := 3) (cs' := [(.int .i64 x10.1), v4, (.int .i64 x10.2.2.1), (.int .i64 (w64 (x8.1 + 1))), (.int .i64 x10.2.2.2.2)]) hC26 1 rfl hE4 rfl rfl rfl rfl Tryz.sizeOf3 rfl rfl (fun w5 hC24 => ?_)
    try dsimp only [List.set] at hC24
    have hC27 := hC24.f1
    have hC29 := hC27.f1
    have hC28 := own_st84 x10.1 v4 x10.2.1 x10.2.2.1 (w64 (x8.1 + 1)) x10.2.2.2.2 hC29
    have hC30 := hC28.ownCells.closeElem
    refine WL_nil ?_
    refine W_seq_reg ?_
    refine WL_move rfl rfl ?_
    refine WL_add rfl rfl rfl ?_
    refine WL_assign rfl rfl ?_
    refine WL_nil ?_
    refine W_seq_reg ?_
    refine WL_move rfl rfl ?_
    refine WL_move rfl rfl ?_
    refine WL_move rfl rfl ?_
    obtain ⟨x11, hx5, hL1⟩ := bind_some hL1
    refine WL_index_own hC30 0 rfl Tryz.underlying42 ty84 hx5 rfl rfl rfl (fun b5 hE5 => ?_)
    refine WL_field Tryz.underlying84 rfl rfl (fun w => ⟨_, Tryz.sizeOf3 w⟩) rfl rfl ?_
    obtain ⟨cs5, hC32⟩ := hC30.openElem hx5
    obtain ⟨v5, he5, hC33⟩ := st84_own (hC32.cellsOwn rfl)
    obtain rfl := cells_of_agg he5
    refine WL_store_hole (fo := 4) (cs' := [(.int .i64 x11.1), v5, (.int .i64 x11.2.2.1), (.int .i64 x11.2.2.2.1), (.int .i64 (w64 ((w64 (x8.1 + 1)) + 1)))]) hC33 1 rfl hE5 rfl rfl rfl rfl Tryz.sizeOf3 rfl rfl (fun w6 hC31 => ?_)
    try dsimp only [List.set] at hC31
    have hC34 := hC31.f1
    have hC36 := hC34.f1
    have hC35 := own_st84 x11.1 v5 x11.2.1 x11.2.2.1 x11.2.2.2.1 (w64 ((w64 (x8.1 + 1)) + 1)) hC36
    have hC37 := hC35.ownCells.closeElem
    refine WL_nil ?_
    refine W_reg ?_
    refine WL_move rfl rfl ?_
    refine WL_add rfl rfl rfl ?_
    refine WL_assign rfl rfl ?_
    refine WL_nil ?_
    refine blk_normal ?_
    refine nrm_normal ?_
    refine W_reg ?_
    refine WL_move rfl rfl ?_
    refine WL_add rfl rfl rfl ?_
    refine WL_assign rfl rfl ?_
    refine WL_nil ?_
    refine nrm_sub (l' := [(0, u1), (1, (.int .i64 (w64 ((w64 ((w64 (x8.1 + 1)) + 1)) + 1)))), (5, (.int .i64 (w64 (x3 + 1))))]) ⟨rfl, rfl, rfl, trivial⟩ ?_
    exact ⟨k1, Nat.lt_succ_self _, (List.set (List.set (List.set (List.set (List.set x1 (Int.toNat x3) (x2, x6.2.1, x6.2.2.1, x6.2.2.2.1, x6.2.2.2.2)) (Int.toNat x3) (x7.1, x8.2, x7.2.2.1, x7.2.2.2.1, x7.2.2.2.2)) (Int.toNat x3) (x9.1, x9.2.1, x8.1, x9.2.2.2.1, x9.2.2.2.2)) (Int.toNat x3) (x10.1, x10.2.1, x10.2.2.1, w64 (x8.1 + 1), x10.2.2.2.2)) (Int.toNat x3) (x11.1, x11.2.1, x11.2.2.1, x11.2.2.2.1, w64 ((w64 (x8.1 + 1)) + 1))), w64 ((w64 ((w64 (x8.1 + 1)) + 1)) + 1), w64 (x3 + 1), rfl, hC37, hL1⟩
   replace hL1 := ite_f hL1 hc1
   refine W_exit ?_
   refine nrm_exit ?_
   refine nrm_exit ?_
   refine blk_exit ?_
   have hq2 := Option.some.inj hL1
   subst hq2
   refine nrm_sub (l' := [(1, (.int .i64 x2))]) ⟨rfl, trivial⟩ ?_
   exact ⟨x1, x2, rfl, rfl, hC1⟩
 rintro l2 _ w7 hs2 ⟨x4, x5, rfl, rfl, hC38⟩
 try dsimp only at hF
 refine nrm_sub' hs2 ?_
 clear hs2
 refine W_seq_reg ?_
 refine WL_move rfl rfl ?_
 refine WL_assign rfl rfl ?_
 refine WL_nil ?_
 refine W_ret ?_
 have hq3 := Option.some.inj hF
 subst hq3
 refine fn_ret1 rfl rfl ?_
 exact ⟨_, rfl, rfl, hC38⟩

end Go.Gx.Px
