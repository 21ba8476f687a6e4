/- The contracts of the Go functions against the pure functions, printed by program. Conditions: each says them. -/
import Derived.Test.YtngpabaocflipaaGreatC1
set_option linter.unusedVariables false
set_option linter.unusedSimpArgs false
set_option maxRecDepth 100000
set_option maxHeartbeats 4000000
namespace Go.Gx.Px
open Go.Proofs Go.RowKit

theorem c_M_FitsSelf {w0 : World} (a1 : (List Int)) (u1 : Value) (g1 : RO [] w0 u1 a1) (a2 : (List (Int × (List Int) × Int × Int × Int))) (u2 : Value) (g2 : RO [] w0 u2 a2) (a3 : ((Int × (List Int)) × (List (Int × (List Int))))) (u3 : Value) (g3 : RO [] w0 u3 a3.1.2) (u4 : Value) (g4 : RO [] w0 u4 a3.2) (rr : Bool) (hF : M.FitsSelf a1 a2 a3 = some rr) :
 Calls Tryz.prog 29 [u1, u2, (.agg #[(.int .i64 a3.1.1), u3, u4])].toArray w0 fun e w' => ∃ v, e = .returned v ∧ Res w0 rr v w' := by
 refine calls_of_W Tryz.func29 rfl rfl ?_
 have hC0 := Ctx.start w0
 unfold M.FitsSelf at hF
 refine W_seq_reg ?_
 refine WL_boxK (cs := [(.int .i64 a3.1.1), u3, u4]) hC0 rfl rfl rfl (fun b1 w1 hC1 hB1 hN1 => ?_)
 refine WL_assign rfl rfl ?_
 refine WL_nil ?_
 refine W_seq ?_
 refine W_seq_reg ?_
 refine WL_move rfl rfl ?_
 refine WL_move rfl rfl ?_
 refine WL_load_box_agg [(.int .i64 a3.1.1), u3, u4] hC1 0 rfl rfl rfl Tryz.isAgg46 Tryz.sizeOf46 rfl rfl ?_
 obtain ⟨x1, hr1, hF⟩ := bind_some hF
 refine WL_call Tryz.call31 rfl rfl (c_M_IsTold a1 u1 (g1.now hC1.keep) a2 u2 (g2.now hC1.keep) ((a3.1.1, a3.1.2), a3.2) u3 (g3.now hC1.keep) u4 (g4.now hC1.keep) x1 hr1) ?_
 intro _ w2 hv1
 obtain ⟨rfl, hB2⟩ := res_bool hv1
 have hC2 := hC1.grow hB2
 refine WL_not rfl rfl ?_
 refine WL_nil ?_
 refine W_cond rfl (fun hc1 => ?_) (fun hc1 => ?_)
 ·replace hF := ite_t hF hc1
  refine W_seq_reg ?_
  refine WL_assign rfl rfl ?_
  refine WL_nil ?_
  refine W_ret ?_
  refine nrm_ret ?_
  have hq1 := Option.some.inj hF
  subst hq1
  refine fn_ret1 rfl rfl ?_
  exact ⟨_, rfl, bool_res hC2 _⟩
 replace hF := ite_f hF hc1
 refine W_skip ?_
 refine nrm_normal ?_
 refine W_seq_reg ?_
 refine WL_move rfl rfl ?_
 refine WL_field Tryz.underlying46 rfl rfl (fun w => ⟨_, Tryz.sizeOf44 w⟩) rfl rfl ?_
 refine WL_field Tryz.underlying44 rfl rfl (fun w => ⟨_, Tryz.sizeOf3 w⟩) rfl rfl ?_
 refine WL_load_box hC2 0 rfl rfl Tryz.isAgg3 rfl rfl ?_
 obtain ⟨x2, hx1, hF⟩ := bind_some hF
 refine WL_index Tryz.underlying25 ty93 g2 hx1 rfl rfl rfl (fun b2 o1 h1 => ?_)
 refine WL_field Tryz.underlying93 rfl rfl (fun w => ⟨_, Tryz.sizeOf3 w⟩) rfl rfl ?_
 refine WL_load ty3 h1.snd.snd.fst hC2.keep rfl rfl (fun v1 h2 => ?_)
 obtain rfl := ro_int h2
 refine WL_assign rfl rfl ?_
 refine WL_nil ?_
 obtain ⟨r1, hr2, hF⟩ := bind_some hF
 refine W_cut (fun l w => ∃ x3 : Bool, x3 = r1 ∧ l = [(6, (.bool x3))] ∧ Below w2.heap.size w2 w ∧ Ctx [] w0 w []) ?_ ?_
 ·refine W_drawn 23 rfl hmix (fun w4 hB4 => ?_)
  have hC4 := hC2.grow hB4
  refine WA_tk 0 (by kernel_rfl) rfl rfl (fl_move rfl) ?_
  refine WL_move rfl rfl ?_
  refine WL_nil ?_
  refine WA_tk 1 (by kernel_rfl) rfl rfl (fl_field Tryz.underlying46 rfl rfl (fun w => ⟨_, Tryz.sizeOf31 w⟩) rfl) ?_
  refine WL_field Tryz.underlying46 rfl rfl (fun w => ⟨_, Tryz.sizeOf31 w⟩) rfl rfl ?_
  refine WL_nil ?_
  refine WA_tk 3 (by kernel_rfl) rfl rfl (fl_field Tryz.underlying46 rfl rfl (fun w => ⟨_, Tryz.sizeOf44 w⟩) rfl) ?_
  refine WL_field Tryz.underlying46 rfl rfl (fun w => ⟨_, Tryz.sizeOf44 w⟩) rfl rfl ?_
  refine WL_nil ?_
  refine WA_tk 7 (by kernel_rfl) rfl rfl (fl_field Tryz.underlying46 rfl rfl (fun w => ⟨_, Tryz.sizeOf31 w⟩) rfl) ?_
  refine WL_field Tryz.underlying46 rfl rfl (fun w => ⟨_, Tryz.sizeOf31 w⟩) rfl rfl ?_
  refine WL_nil ?_
  obtain ⟨x4, hr3, hr2⟩ := bind_some hr2
  refine WA.sub (l' := [(0, u1), (1, u2), (2, (.agg #[(.int .i64 a3.1.1), u3, u4])), (5, (ptr b1 0)), (6, (.bool false)), (7, (.int .i64 x2.2.2.1)), (8, u1), (9, u2), (10, (.agg #[(.int .i64 a3.1.1), u3, u4])), (11, (.bool x1)), (12, (.bool (!x1))), (13, u2), (14, (ptr b1 0)), (15, (ptr b1 0)), (16, (.int .i64 a3.1.1)), (17, (ptr b2 o1)), (18, (ptr b2 (o1 + 2))), (19, (.int .i64 x2.2.2.1)), (20, u2), (21, (ptr b1 2)), (23, (ptr b1 0)), (27, (ptr b1 2))]) ?_ ⟨rfl, rfl, rfl, rfl, rfl, rfl, rfl, rfl, rfl, rfl, rfl, rfl, rfl, rfl, rfl, rfl, rfl, rfl, rfl, rfl, rfl, rfl, trivial⟩
  refine WA_postsE [⟨2, [], fun vs => PW.val u4, []⟩, ⟨4, [], fun vs => PW.val (.agg #[(.int .i64 a3.1.1), u3]), []⟩, ⟨5, [], fun vs => PW.own x4, []⟩, ⟨6, [], fun vs => PW.val (.int .i64 (List.length x4 : Int)), []⟩, ⟨8, [], fun vs => PW.val u4, []⟩, ⟨9, [], fun vs => PW.val (.int .i64 (List.length a3.2 : Int)), []⟩] [[], [], [2, 4], [5], [], [8]] 13 rfl (by kernel_rfl) (by kernel_rfl) rfl ?_ ?_
  ·refine StepsE_cons rfl ?_ ?_
   ·intro w6 hB6
    refine DepsE_nil ?_
    refine ⟨_, rfl, ?_⟩
    refine WL_load_box (hC4.grow hB6) 0 rfl rfl Tryz.isAgg31 rfl rfl ?_
    refine WL_nil ?_
    exact FinE_val (Below.refl _ _) rfl rfl ⟨rfl, rfl⟩
   refine StepsE_cons rfl ?_ ?_
   ·intro w6 hB6
    refine DepsE_nil ?_
    refine ⟨_, rfl, ?_⟩
    refine WL_load_box_agg [(.int .i64 a3.1.1), u3] (hC4.grow hB6) 0 rfl rfl rfl Tryz.isAgg44 Tryz.sizeOf44 rfl rfl ?_
    refine WL_nil ?_
    exact FinE_val (Below.refl _ _) rfl rfl ⟨rfl, rfl⟩
   refine StepsE_cons rfl ?_ ?_
   ·intro w6 hB6
    refine DepsE_cons rfl rfl rfl ?_
    rintro _ _ ⟨rfl, rfl⟩ _
    refine DepsE_cons rfl rfl rfl ?_
    rintro _ _ ⟨rfl, rfl⟩ _
    refine DepsE_nil ?_
    refine ⟨_, rfl, ?_⟩
    refine WL_call Tryz.call97 rfl rfl (c_M_matches a2 u2 (g2.now (hC4.keep.then hB6)) a3.2 u4 (g4.now (hC4.keep.then hB6)) (a3.1.1, a3.1.2) u3 (g3.now (hC4.keep.then hB6)) x4 hr3) ?_
    rintro v2 w5 ⟨hB5, F1, hv2, hn1, hb1⟩
    refine WL_nil ?_
    exact FinE_own hB5 rfl rfl hv2 hn1 hb1 (Val.inh hv2)
   refine StepsE_cons rfl ?_ ?_
   ·intro w6 hB6
    refine DepsE_cons rfl rfl rfl ?_
    intro v2 F1 hv2 _
    refine DepsE_nil ?_
    refine ⟨_, rfl, ?_⟩
    refine WL_len Tryz.underlying31 (ro_of_own hv2) rfl rfl ?_
    refine WL_nil ?_
    exact FinE_val (Below.refl _ _) rfl rfl ⟨rfl, rfl⟩
   refine StepsE_cons rfl ?_ ?_
   ·intro w6 hB6
    refine DepsE_nil ?_
    refine ⟨_, rfl, ?_⟩
    refine WL_load_box (hC4.grow hB6) 0 rfl rfl Tryz.isAgg31 rfl rfl ?_
    refine WL_nil ?_
    exact FinE_val (Below.refl _ _) rfl rfl ⟨rfl, rfl⟩
   refine StepsE_cons rfl ?_ ?_
   ·intro w6 hB6
    refine DepsE_cons rfl rfl rfl ?_
    rintro _ _ ⟨rfl, rfl⟩ _
    refine DepsE_nil ?_
    refine ⟨_, rfl, ?_⟩
    refine WL_len Tryz.underlying31 g4 rfl rfl ?_
    refine WL_nil ?_
    exact FinE_val (Below.refl _ _) rfl rfl ⟨rfl, rfl⟩
   exact StepsE_nil
  intro w7 hB7
  refine AllE_cons rfl rfl rfl ?_
  rintro _ _ ⟨rfl, rfl⟩
  refine AllE_cons rfl rfl rfl ?_
  rintro _ _ ⟨rfl, rfl⟩
  refine AllE_cons rfl rfl rfl ?_
  intro v2 F1 hv2
  refine AllE_cons rfl rfl rfl ?_
  rintro _ _ ⟨rfl, rfl⟩
  refine AllE_cons rfl rfl rfl ?_
  rintro _ _ ⟨rfl, rfl⟩
  refine AllE_cons rfl rfl rfl ?_
  rintro _ _ ⟨rfl, rfl⟩
  refine AllE_nil ?_
  intro hn2 hb2
  have hC5 := hC4.pushL hB7 (Bs := [Item.own v2 (x4 : (List (Int × (List Int))))]) (Fs := [F1]) ⟨F1, _, rfl, hv2, rfl⟩ (by simpa using hn2) (fun b h => (hb2 b (by simpa using h)).1)
  refine WA_tk 10 (by kernel_rfl) rfl rfl (fl_eql rfl rfl) ?_
  refine WL_eql rfl rfl rfl ?_
  refine WL_nil ?_
  refine WA_tk 11 (by kernel_rfl) rfl rfl (fl_move rfl) ?_
  refine WL_move rfl rfl ?_
  refine WL_nil ?_
  refine WA_fork (fun hc2 => ?_) (fun hc2 => ?_)
  ·replace hr2 := ite_t hr2 hc2
   refine WA_takeG 12 rfl (by kernel_rfl) (by kernel_rfl) (by kernel_rfl) rfl rfl rfl (fl_move rfl) ?_
   refine WL_guard rfl rfl ?_
   refine WL_move rfl rfl ?_
   refine WL_nil ?_
   refine WA_takeG 13 rfl (by kernel_rfl) (by kernel_rfl) (by kernel_rfl) rfl rfl rfl (fl_eql rfl rfl) ?_
   refine WL_guard rfl rfl ?_
   refine WL_eql rfl rfl rfl ?_
   refine WL_nil ?_
   refine WA_takeG 14 rfl (by kernel_rfl) (by kernel_rfl) (by kernel_rfl) rfl rfl rfl (fl_move rfl) ?_
   refine WL_guard rfl rfl ?_
   refine WL_move rfl rfl ?_
   refine WL_nil ?_
   refine WA_fork (fun hc3 => ?_) (fun hc3 => ?_)
   ·replace hr2 := ite_t hr2 hc3
    refine WA_sk 15 (by kernel_rfl) rfl rfl rfl rfl (by simp) rfl rfl ?_
    refine WA_sk 16 (by kernel_rfl) rfl rfl rfl rfl (by simp) rfl rfl ?_
    refine WA_sk 17 (by kernel_rfl) rfl rfl rfl rfl (by simp) rfl rfl ?_
    refine WA_sk 18 (by kernel_rfl) rfl rfl rfl rfl (by simp) rfl rfl ?_
    refine WA_sk 19 (by kernel_rfl) rfl rfl rfl rfl (by simp) rfl rfl ?_
    refine WA_takeG 20 rfl (by kernel_rfl) (by kernel_rfl) (by kernel_rfl) rfl rfl rfl (fl_pick_t rfl rfl) ?_
    refine WL_guard rfl rfl ?_
    refine WL_pick_t rfl rfl rfl ?_
    refine WL_nil ?_
    refine WA_tk 21 (by kernel_rfl) rfl rfl (fl_pick_t rfl rfl) ?_
    refine WL_pick_t rfl rfl rfl ?_
    refine WL_nil ?_
    refine WA_tk 22 (by kernel_rfl) rfl rfl (fl_assign rfl) ?_
    refine WL_assign rfl rfl ?_
    refine WL_nil ?_
    refine WA_done (by kernel_rfl) ?_
    have hq2 := Option.some.inj hr2
    subst hq2
    have hC6 := hC5.h0
    refine nrm_sub (l' := [(6, (.bool true))]) ⟨rfl, trivial⟩ ?_
    exact ⟨true, rfl, rfl, ((Keep.of hB4).then hB7).below, hC6⟩
   replace hr2 := ite_f hr2 hc3
   refine WA_takeG 15 rfl (by kernel_rfl) (by kernel_rfl) (by kernel_rfl) rfl rfl rfl (fl_field Tryz.underlying46 rfl rfl (fun w => ⟨_, Tryz.sizeOf31 w⟩) rfl) ?_
   refine WL_guard rfl rfl ?_
   refine WL_field Tryz.underlying46 rfl rfl (fun w => ⟨_, Tryz.sizeOf31 w⟩) rfl rfl ?_
   refine WL_nil ?_
   refine WA_takeG 18 rfl (by kernel_rfl) (by kernel_rfl) (by kernel_rfl) rfl rfl rfl (fl_move rfl) ?_
   refine WL_guard rfl rfl ?_
   refine WL_move rfl rfl ?_
   refine WL_nil ?_
   refine WA_one 16 (by kernel_rfl) rfl ?_
   refine WL_guard rfl rfl ?_
   refine WL_load_box hC5 1 rfl rfl Tryz.isAgg31 rfl rfl ?_
   refine WL_nil ?_
   refine WA_takeG 17 rfl (by kernel_rfl) (by kernel_rfl) (by kernel_rfl) rfl rfl rfl (fl_len Tryz.underlying31 g4 rfl) ?_
   refine WL_guard rfl rfl ?_
   refine WL_len Tryz.underlying31 g4 rfl rfl ?_
   refine WL_nil ?_
   refine WA_takeG 19 rfl (by kernel_rfl) (by kernel_rfl) (by kernel_rfl) rfl rfl rfl (fl_leq rfl rfl) ?_
   refine WL_guard rfl rfl ?_
   refine WL_leq rfl rfl rfl ?_
   refine WL_nil ?_
   refine WA_takeG 20 rfl (by kernel_rfl) (by kernel_rfl) (by kernel_rfl) rfl rfl rfl (fl_pick_f rfl rfl) ?_
   refine WL_guard rfl rfl ?_
   refine WL_pick_f rfl rfl rfl ?_
   refine WL_nil ?_
   refine WA_tk 21 (by kernel_rfl) rfl rfl (fl_pick_t rfl rfl) ?_
   refine WL_pick_t rfl rfl rfl ?_
   refine WL_nil ?_
   refine WA_tk 22 (by kernel_rfl) rfl rfl (fl_assign rfl) ?_
   refine WL_assign rfl rfl ?_
   refine WL_nil ?_
   refine WA_done (by kernel_rfl) ?_
   have hq3 := Option.some.inj hr2
   subst hq3
   have hC7 := hC5.h0
   refine nrm_sub (l' := [(6, (.bool (decide ((List.length a3.2 : Int) ≤ x2.2.2.1))))]) ⟨rfl, trivial⟩ ?_
   exact ⟨(decide ((List.length a3.2 : Int) ≤ x2.2.2.1)), rfl, rfl, ((Keep.of hB4).then hB7).below, hC7⟩
  replace hr2 := ite_f hr2 hc2
  refine WA_sk 12 (by kernel_rfl) rfl rfl rfl rfl (by simp) rfl rfl ?_
  refine WA_sk 13 (by kernel_rfl) rfl rfl rfl rfl (by simp) rfl rfl ?_
  refine WA_sk 14 (by kernel_rfl) rfl rfl rfl rfl (by simp) rfl rfl ?_
  refine WA_sk 15 (by kernel_rfl) rfl rfl rfl rfl (by simp [undef]) rfl rfl ?_
  refine WA_sk 16 (by kernel_rfl) rfl rfl rfl rfl (by simp [undef]) rfl rfl ?_
  refine WA_sk 17 (by kernel_rfl) rfl rfl rfl rfl (by simp [undef]) rfl rfl ?_
  refine WA_sk 18 (by kernel_rfl) rfl rfl rfl rfl (by simp [undef]) rfl rfl ?_
  refine WA_sk 19 (by kernel_rfl) rfl rfl rfl rfl (by simp [undef]) rfl rfl ?_
  refine WA_sk 20 (by kernel_rfl) rfl rfl rfl rfl (by simp) rfl rfl ?_
  refine WA_tk 21 (by kernel_rfl) rfl rfl (fl_pick_f rfl rfl) ?_
  refine WL_pick_f rfl rfl rfl ?_
  refine WL_nil ?_
  refine WA_tk 22 (by kernel_rfl) rfl rfl (fl_assign rfl) ?_
  refine WL_assign rfl rfl ?_
  refine WL_nil ?_
  refine WA_done (by kernel_rfl) ?_
  have hq4 := Option.some.inj hr2
  subst hq4
  have hC8 := hC5.h0
  refine nrm_sub (l' := [(6, (.bool false))]) ⟨rfl, trivial⟩ ?_
  exact ⟨false, rfl, rfl, ((Keep.of hB4).then hB7).below, hC8⟩
 rintro _ w3 ⟨x3, rfl, rfl, hB3, hC3⟩
 try dsimp only at hF
 refine W_ret ?_
 have hq5 := Option.some.inj hF
 subst hq5
 refine fn_ret1 rfl rfl ?_
 exact ⟨_, rfl, bool_res hC3 _⟩

theorem c_M_Told_denies {w0 : World} (a1 : ((Int × (List Int)) × (List (Int × (List Int))))) (u1 : Value) (g1 : RO [] w0 u1 a1.1.2) (u2 : Value) (g2 : RO [] w0 u2 a1.2) (a2 : (List (Int × (List Int) × Int × Int × Int))) (u3 : Value) (g3 : RO [] w0 u3 a2) (a3 : (Int × (List Int))) (u4 : Value) (g4 : RO [] w0 u4 a3.2) (rr : Bool) (hF : M.Told_denies a1 a2 a3 = some rr) :
 Calls Tryz.prog 88 [(.agg #[(.int .i64 a1.1.1), u1, u2]), u3, (.agg #[(.int .i64 a3.1), u4])].toArray w0 fun e w' => ∃ v, e = .returned v ∧ Res w0 rr v w' := by
 refine calls_of_W Tryz.func88 rfl rfl ?_
 have hC0 := Ctx.start w0
 unfold M.Told_denies at hF
 refine W_seq_reg ?_
 refine WL_boxK (cs := [(.int .i64 a1.1.1), u1, u2]) hC0 rfl rfl rfl (fun b1 w1 hC1 hB1 hN1 => ?_)
 refine WL_boxK (cs := [(.int .i64 a3.1), u4]) hC1 rfl rfl rfl (fun b2 w2 hC2 hB2 hN2 => ?_)
 refine WL_assign rfl rfl ?_
 refine WL_nil ?_
 refine W_seq_reg ?_
 refine WL_move rfl rfl ?_
 refine WL_field Tryz.underlying46 rfl rfl (fun w => ⟨_, Tryz.sizeOf44 w⟩) rfl rfl ?_
 refine WL_field Tryz.underlying44 rfl rfl (fun w => ⟨_, Tryz.sizeOf3 w⟩) rfl rfl ?_
 refine WL_load_box hC2 1 rfl rfl Tryz.isAgg3 rfl rfl ?_
 obtain ⟨x1, hx1, hF⟩ := bind_some hF
 refine WL_index Tryz.underlying25 ty93 g3 hx1 rfl rfl rfl (fun b3 o1 h1 => ?_)
 refine WL_field Tryz.underlying93 rfl rfl (fun w => ⟨_, Tryz.sizeOf3 w⟩) rfl rfl ?_
 refine WL_load ty3 h1.snd.snd.fst hC2.keep rfl rfl (fun v1 h2 => ?_)
 obtain rfl := ro_int h2
 refine WL_assign rfl rfl ?_
 refine WL_nil ?_
 obtain ⟨r1, hr1, hF⟩ := bind_some hF
 refine W_cut (fun l w => ∃ x2 : Bool, x2 = r1 ∧ l = [(6, (.bool x2))] ∧ Below w2.heap.size w2 w ∧ Ctx [] w0 w []) ?_ ?_
 ·refine W_reg ?_
  refine WL_move rfl rfl ?_
  refine WL_load_box_agg [(.int .i64 a3.1), u4] hC2 0 rfl rfl rfl Tryz.isAgg88 Tryz.sizeOf88 rfl rfl ?_
  refine WL_buildSlice (vs := [(.agg #[(.int .i64 a3.1), u4])]) hC2 Tryz.underlying31 ty88 rfl rfl rfl rfl (by intro v hv; simp only [List.mem_cons, List.not_mem_nil, or_false] at hv; rcases hv with rfl <;> rfl) rfl rfl (fun b4 w4 hC4 hB4 => ?_)
  refine WL_field Tryz.underlying46 rfl rfl (fun w => ⟨_, Tryz.sizeOf44 w⟩) rfl rfl ?_
  refine WL_load_box_agg [(.int .i64 a1.1.1), u1] hC4 2 rfl rfl rfl Tryz.isAgg44 Tryz.sizeOf44 rfl rfl ?_
  obtain ⟨x3, hr2, hr1⟩ := bind_some hr1
  refine WL_call Tryz.call97 rfl rfl (c_M_matches a2 u3 (g3.now hC4.keep) ([(a3.1, a3.2)] : List (Int × (List Int))) (.slice (some ⟨b4, 0, none⟩) 1 1) ((hC4.litRO (m := 1) 0 rfl (rowro_cons (repw_pair repw_int (repw_slice (g4.now hC4.keep))) rowro_nil) rfl (by simp [maxLen]) (by decide)).now (Keep.refl _ _)) (a1.1.1, a1.1.2) u1 (g1.now hC4.keep) x3 hr2) ?_
  rintro v2 w5 ⟨hB5, F1, hv1, hn1, hb1⟩
  have hC5 := hC4.push hB5 (A := Item.own v2 x3) hv1 hn1 hb1
  refine WL_len Tryz.underlying31 (hC5.ro 0 rfl) rfl rfl ?_
  refine WL_gtr rfl rfl rfl ?_
  refine WL_move rfl rfl ?_
  refine WL_fork (fun hc1 => ?_) (fun hc1 => ?_)
  ·replace hr1 := ite_t hr1 hc1
   refine WL_guard rfl rfl ?_
   refine WL_field Tryz.underlying46 rfl rfl (fun w => ⟨_, Tryz.sizeOf31 w⟩) rfl rfl ?_
   refine WL_guard rfl rfl ?_
   refine WL_load_box hC5 3 rfl rfl Tryz.isAgg31 rfl rfl ?_
   refine WL_guard rfl rfl ?_
   refine WL_load_box_agg [(.int .i64 a3.1), u4] hC5 2 rfl rfl rfl Tryz.isAgg88 Tryz.sizeOf88 rfl rfl ?_
   obtain ⟨x4, hr3, hr1⟩ := bind_some hr1
   refine WL_guard rfl rfl ?_
   refine WL_call Tryz.call125 rfl rfl (c_M_HasFact a1.2 u2 (g2.now hC5.keep) (a3.1, a3.2) u4 (g4.now hC5.keep) x4 hr3) ?_
   intro _ w6 hv2
   obtain ⟨rfl, hB6⟩ := res_bool hv2
   have hC6 := hC5.grow hB6
   refine WL_guard rfl rfl ?_
   refine WL_not rfl rfl ?_
   refine WL_pick_t rfl rfl rfl ?_
   refine WL_move rfl rfl ?_
   refine WL_fork (fun hc2 => ?_) (fun hc2 => ?_)
   ·replace hr1 := ite_t hr1 hc2
    refine WL_guard rfl rfl ?_
    refine WL_move rfl rfl ?_
    refine WL_guard rfl rfl ?_
    refine WL_eql rfl rfl rfl ?_
    refine WL_guard rfl rfl ?_
    refine WL_move rfl rfl ?_
    refine WL_fork (fun hc3 => ?_) (fun hc3 => ?_)
    ·replace hr1 := ite_t hr1 hc3
     refine WL_guard_skip rfl rfl (by simp) rfl ?_
     refine WL_guard_skip rfl rfl (by simp) rfl ?_
     refine WL_guard_skip rfl rfl (by simp) rfl ?_
     refine WL_guard_skip rfl rfl (by simp) rfl ?_
     refine WL_guard_skip rfl rfl (by simp) rfl ?_
     refine WL_guard rfl rfl ?_
     refine WL_pick_t rfl rfl rfl ?_
     refine WL_pick_t rfl rfl rfl ?_
     refine WL_assign rfl rfl ?_
     refine WL_nil ?_
     have hq1 := Option.some.inj hr1
     subst hq1
     have hC7 := hC6.h0
     refine nrm_sub (l' := [(6, (.bool true))]) ⟨rfl, trivial⟩ ?_
     exact ⟨true, rfl, rfl, (((Keep.of hB4).then hB5).then hB6).below, hC7⟩
    replace hr1 := ite_f hr1 hc3
    refine WL_guard rfl rfl ?_
    refine WL_field Tryz.underlying46 rfl rfl (fun w => ⟨_, Tryz.sizeOf31 w⟩) rfl rfl ?_
    refine WL_guard rfl rfl ?_
    refine WL_load_box hC6 3 rfl rfl Tryz.isAgg31 rfl rfl ?_
    refine WL_guard rfl rfl ?_
    refine WL_len Tryz.underlying31 g2 rfl rfl ?_
    refine WL_guard rfl rfl ?_
    refine WL_move rfl rfl ?_
    refine WL_guard rfl rfl ?_
    refine WL_lss rfl rfl rfl ?_
    refine WL_guard rfl rfl ?_
    refine WL_pick_f rfl rfl rfl ?_
    refine WL_pick_t rfl rfl rfl ?_
    refine WL_assign rfl rfl ?_
    refine WL_nil ?_
    have hq2 := Option.some.inj hr1
    subst hq2
    have hC8 := hC6.h0
    refine nrm_sub (l' := [(6, (.bool (decide ((List.length a1.2 : Int) < x1.2.2.1))))]) ⟨rfl, trivial⟩ ?_
    exact ⟨(decide ((List.length a1.2 : Int) < x1.2.2.1)), rfl, rfl, (((Keep.of hB4).then hB5).then hB6).below, hC8⟩
   replace hr1 := ite_f hr1 hc2
   refine WL_guard_skip rfl rfl (by simp) rfl ?_
   refine WL_guard_skip rfl rfl (by simp) rfl ?_
   refine WL_guard_skip rfl rfl (by simp) rfl ?_
   refine WL_guard_skip rfl rfl (by simp [undef]) rfl ?_
   refine WL_guard_skip rfl rfl (by simp [undef]) rfl ?_
   refine WL_guard_skip rfl rfl (by simp [undef]) rfl ?_
   refine WL_guard_skip rfl rfl (by simp [undef]) rfl ?_
   refine WL_guard_skip rfl rfl (by simp [undef]) rfl ?_
   refine WL_guard_skip rfl rfl (by simp) rfl ?_
   refine WL_pick_f rfl rfl rfl ?_
   refine WL_assign rfl rfl ?_
   refine WL_nil ?_
   have hq3 := Option.some.inj hr1
   subst hq3
   have hC9 := hC6.h0
   refine nrm_sub (l' := [(6, (.bool false))]) ⟨rfl, trivial⟩ ?_
   exact ⟨false, rfl, rfl, (((Keep.of hB4).then hB5).then hB6).below, hC9⟩
  replace hr1 := ite_f hr1 hc1
  refine WL_guard_skip rfl rfl (by simp) rfl ?_
  refine WL_guard_skip rfl rfl (by simp) rfl ?_
  refine WL_guard_skip rfl rfl (by simp) rfl ?_
  refine WL_guard_skip rfl rfl (by simp) rfl ?_
  refine WL_guard_skip rfl rfl (by simp) rfl ?_
  refine WL_pick_f rfl rfl rfl ?_
  refine WL_move rfl rfl ?_
  refine WL_guard_skip rfl rfl (by simp) rfl ?_
  refine WL_guard_skip rfl rfl (by simp) rfl ?_
  refine WL_guard_skip rfl rfl (by simp) rfl ?_
  refine WL_guard_skip rfl rfl (by simp [undef]) rfl ?_
  refine WL_guard_skip rfl rfl (by simp [undef]) rfl ?_
  refine WL_guard_skip rfl rfl (by simp [undef]) rfl ?_
  refine WL_guard_skip rfl rfl (by simp [undef]) rfl ?_
  refine WL_guard_skip rfl rfl (by simp [undef]) rfl ?_
  refine WL_guard_skip rfl rfl (by simp) rfl ?_
  refine WL_pick_f rfl rfl rfl ?_
  refine WL_assign rfl rfl ?_
  refine WL_nil ?_
  have hq4 := Option.some.inj hr1
  subst hq4
  have hC10 := hC5.h0
  refine nrm_sub (l' := [(6, (.bool false))]) ⟨rfl, trivial⟩ ?_
  exact ⟨false, rfl, rfl, ((Keep.of hB4).then hB5).below, hC10⟩
 rintro _ w3 ⟨x2, rfl, rfl, hB3, hC3⟩
 try dsimp only at hF
 refine W_ret ?_
 have hq5 := Option.some.inj hF
 subst hq5
 refine fn_ret1 rfl rfl ?_
 exact ⟨_, rfl, bool_res hC3 _⟩

theorem c_M_Disagree_c1 {w0 : World} (a1 : (Int × (List Int))) (u1 : Value) (g1 : RO [] w0 u1 a1.2) (pb1 : Nat) (ax1 : ((Int × (List Int)) × (List (Int × (List Int))))) (g2 : ROAt [] w0 pb1 0 ax1) (pb2 : Nat) (ax2 : (List (Int × (List Int) × Int × Int × Int))) (g3 : ROAt [] w0 pb2 0 ax2) (rr : Bool) (hF : M.Disagree_c1 a1 ax1 ax2 = some rr) :
 Calls Tryz.prog 94 [(.agg #[(.int .i64 a1.1), u1]), (ptr pb1 0), (ptr pb2 0)].toArray w0 fun e w' => ∃ v, e = .returned v ∧ Res w0 rr v w' := by
 refine calls_of_W Tryz.func94 rfl rfl ?_
 have hC0 := Ctx.start w0
 unfold M.Disagree_c1 at hF
 refine W_seq_reg ?_
 refine WL_boxK (cs := [(.int .i64 a1.1), u1]) hC0 rfl rfl rfl (fun b1 w1 hC1 hB1 hN1 => ?_)
 refine WL_assign rfl rfl ?_
 refine WL_nil ?_
 refine W_seq_reg ?_
 refine WL_load ty46 g2 hC1.keep rfl rfl (fun v1 h1 => ?_)
 obtain ⟨v2, v3, rfl, h2, h3⟩ := ro_st46 h1
 refine WL_load ty25 g3 hC1.keep rfl rfl (fun v4 h4 => ?_)
 refine WL_load_box_agg [(.int .i64 a1.1), u1] hC1 0 rfl rfl rfl Tryz.isAgg88 Tryz.sizeOf88 rfl rfl ?_
 obtain ⟨x1, hr1, hF⟩ := bind_some hF
 refine WL_call Tryz.call88 rfl rfl (c_M_Told_denies ax1 v2 (h2.now hC1.keep) v3 (h3.now hC1.keep) ax2 v4 (h4.now hC1.keep) (a1.1, a1.2) u1 (g1.now hC1.keep) x1 hr1) ?_
 intro _ w2 hv1
 obtain ⟨rfl, hB2⟩ := res_bool hv1
 have hC2 := hC1.grow hB2
 refine WL_assign rfl rfl ?_
 refine WL_nil ?_
 refine W_ret ?_
 have hq1 := Option.some.inj hF
 subst hq1
 refine fn_ret1 rfl rfl ?_
 exact ⟨_, rfl, bool_res hC2 _⟩

theorem c_M_Disagree_c2 {w0 : World} (a1 : (Int × (List Int))) (u1 : Value) (g1 : RO [] w0 u1 a1.2) (pb1 : Nat) (ax1 : ((Int × (List Int)) × (List (Int × (List Int))))) (g2 : ROAt [] w0 pb1 0 ax1) (pb2 : Nat) (ax2 : (List (Int × (List Int) × Int × Int × Int))) (g3 : ROAt [] w0 pb2 0 ax2) (rr : Bool) (hF : M.Disagree_c2 a1 ax1 ax2 = some rr) :
 Calls Tryz.prog 95 [(.agg #[(.int .i64 a1.1), u1]), (ptr pb1 0), (ptr pb2 0)].toArray w0 fun e w' => ∃ v, e = .returned v ∧ Res w0 rr v w' := by
 refine calls_of_W Tryz.func95 rfl rfl ?_
 have hC0 := Ctx.start w0
 unfold M.Disagree_c2 at hF
 refine W_seq_reg ?_
 refine WL_boxK (cs := [(.int .i64 a1.1), u1]) hC0 rfl rfl rfl (fun b1 w1 hC1 hB1 hN1 => ?_)
 refine WL_assign rfl rfl ?_
 refine WL_nil ?_
 refine W_seq_reg ?_
 refine WL_load ty46 g2 hC1.keep rfl rfl (fun v1 h1 => ?_)
 obtain ⟨v2, v3, rfl, h2, h3⟩ := ro_st46 h1
 refine WL_load ty25 g3 hC1.keep rfl rfl (fun v4 h4 => ?_)
 refine WL_load_box_agg [(.int .i64 a1.1), u1] hC1 0 rfl rfl rfl Tryz.isAgg88 Tryz.sizeOf88 rfl rfl ?_
 obtain ⟨x1, hr1, hF⟩ := bind_some hF
 refine WL_call Tryz.call88 rfl rfl (c_M_Told_denies ax1 v2 (h2.now hC1.keep) v3 (h3.now hC1.keep) ax2 v4 (h4.now hC1.keep) (a1.1, a1.2) u1 (g1.now hC1.keep) x1 hr1) ?_
 intro _ w2 hv1
 obtain ⟨rfl, hB2⟩ := res_bool hv1
 have hC2 := hC1.grow hB2
 refine WL_assign rfl rfl ?_
 refine WL_nil ?_
 refine W_ret ?_
 have hq1 := Option.some.inj hF
 subst hq1
 refine fn_ret1 rfl rfl ?_
 exact ⟨_, rfl, bool_res hC2 _⟩

theorem c_Slices_IndexFunc_Limpl_Fact_impl_Fact_M_Disagree_c1 {w0 : World} (a1 : (List (Int × (List Int)))) (u1 : Value) (g1 : RO [] w0 u1 a1) (pb1 : Nat) (ax1 : ((Int × (List Int)) × (List (Int × (List Int))))) (g2 : ROAt [] w0 pb1 0 ax1) (pb2 : Nat) (ax2 : (List (Int × (List Int) × Int × Int × Int))) (g3 : ROAt [] w0 pb2 0 ax2) (rr : Int) (hF : Slices.IndexFunc_Limpl_Fact_impl_Fact_M_Disagree_c1 a1 ax1 ax2 = some rr) :
 Calls Tryz.prog 126 [u1, (.func (.func 94) #[] #[(ptr pb1 0), (ptr pb2 0)])].toArray w0 fun e w' => ∃ v, e = .returned v ∧ Res w0 rr v w' := by
 refine calls_of_W Tryz.func126 rfl rfl ?_
 have hC0 := Ctx.start w0
 unfold Slices.IndexFunc_Limpl_Fact_impl_Fact_M_Disagree_c1 at hF
 refine W_seq_reg ?_
 refine WL_assign rfl rfl ?_
 refine WL_nil ?_
 refine W_seq ?_
 refine W_seq_reg ?_
 refine WL_move rfl rfl ?_
 refine WL_len Tryz.underlying31 g1 rfl rfl ?_
 refine WL_move rfl rfl ?_
 refine WL_nil ?_
 obtain ⟨r1, hr1, hF⟩ := bind_some hF
 refine W_norm (fun l w => .inl () = r1 ∧ l = [] ∧ Below w0.heap.size w0 w ∧ Ctx [] w0 w []) ?_ ?_
 ·refine W_block ?_
  refine W.sub (l' := [(0, u1), (1, (.func (.func 94) #[] #[(ptr pb1 0), (ptr pb2 0)])), (7, (.int .i64 (List.length a1 : Int))), (8, (.int .i64 0))]) ?_ ⟨rfl, rfl, rfl, rfl, trivial⟩
  refine W_loop (fun k l w => ∃ x1 : Int, l = [(0, u1), (1, (.func (.func 94) #[] #[(ptr pb1 0), (ptr pb2 0)])), (7, (.int .i64 (List.length a1 : Int))), (8, (.int .i64 x1))] ∧ Below w0.heap.size w0 w ∧ Ctx [] w0 w [] ∧ Slices.IndexFunc_Limpl_Fact_impl_Fact_M_Disagree_c1_l1 a1 ax1 ax2 k x1 = some r1) FUEL ⟨0, rfl, (Below.refl _ _), hC0, hr1⟩ ?_
  clear hr1
  rintro k1 _ w1 ⟨x1, rfl, hB1, hC1, hL1⟩
  cases k1 with
  | zero => rw [Slices.IndexFunc_Limpl_Fact_impl_Fact_M_Disagree_c1_l1] at hL1; cases hL1
  | succ k1 =>
   rw [Slices.IndexFunc_Limpl_Fact_impl_Fact_M_Disagree_c1_l1] at hL1
   refine W_seq_reg ?_
   refine WL_lss rfl rfl rfl ?_
   refine WL_nil ?_
   refine W_seq ?_
   refine W_cond rfl (fun hc1 => ?_) (fun hc1 => ?_)
   ·replace hL1 := ite_t hL1 hc1
    refine W_skip ?_
    refine nrm_normal ?_
    refine W_seq ?_
    refine W_block ?_
    refine W_seq_reg ?_
    refine WL_move rfl rfl ?_
    refine WL_assign rfl rfl ?_
    refine WL_nil ?_
    refine W_seq_reg ?_
    refine WL_move rfl rfl ?_
    refine WL_move rfl rfl ?_
    refine WL_move rfl rfl ?_
    obtain ⟨x2, hx1, hL1⟩ := bind_some hL1
    refine WL_index Tryz.underlying31 ty88 g1 hx1 rfl rfl rfl (fun b1 o1 h1 => ?_)
    refine WL_load ty88 h1 hC1.keep rfl rfl (fun v1 h2 => ?_)
    obtain ⟨v2, rfl, h3⟩ := ro_st88 h2
    obtain ⟨x3, hr2, hL1⟩ := bind_some hL1
    refine WL_callv (cap := [(ptr pb1 0), (ptr pb2 0)]) Tryz.call94 rfl rfl rfl (c_M_Disagree_c1 x2 v2 (h3.now hC1.keep) pb1 ax1 (g2.now hC1.keep) pb2 ax2 (g3.now hC1.keep) x3 hr2) ?_
    intro _ w2 hv1
    obtain ⟨rfl, hB2⟩ := res_bool hv1
    have hC2 := hC1.grow hB2
    refine WL_nil ?_
    refine W_cond rfl (fun hc2 => ?_) (fun hc2 => ?_)
    ·replace hL1 := ite_t hL1 hc2
     refine W_seq_reg ?_
     refine WL_move rfl rfl ?_
     refine WL_assign rfl rfl ?_
     refine WL_nil ?_
     refine W_ret ?_
     refine blk_ret ?_
     refine nrm_ret ?_
     refine nrm_ret ?_
     refine blk_ret ?_
     refine nrm_ret ?_
     refine nrm_ret ?_
     have hq1 := Option.some.inj hL1
     subst hq1
     dsimp only at hF
     have hq2 := Option.some.inj hF
     subst hq2
     refine fn_ret1 rfl rfl ?_
     exact ⟨_, rfl, int_res hC2 _⟩
    replace hL1 := ite_f hL1 hc2
    refine W_skip ?_
    refine blk_normal ?_
    refine nrm_normal ?_
    refine W_reg ?_
    refine WL_add rfl rfl rfl ?_
    refine WL_move rfl rfl ?_
    refine WL_nil ?_
    refine nrm_sub (l' := [(0, u1), (1, (.func (.func 94) #[] #[(ptr pb1 0), (ptr pb2 0)])), (7, (.int .i64 (List.length a1 : Int))), (8, (.int .i64 (w64 (x1 + 1))))]) ⟨rfl, rfl, rfl, rfl, trivial⟩ ?_
    exact ⟨k1, Nat.lt_succ_self _, w64 (x1 + 1), rfl, ((Keep.of hB1).then hB2).below, hC2, hL1⟩
   replace hL1 := ite_f hL1 hc1
   refine W_exit ?_
   refine nrm_exit ?_
   refine nrm_exit ?_
   refine blk_exit ?_
   have hq3 := Option.some.inj hL1
   subst hq3
   refine nrm_sub (l' := []) trivial ?_
   exact ⟨rfl, rfl, (Keep.of hB1).below, hC1⟩
 rintro l2 _ w3 hs2 ⟨rfl, rfl, hB3, hC3⟩
 try dsimp only at hF
 refine nrm_sub' hs2 ?_
 clear hs2
 refine W_seq_reg ?_
 refine WL_assign rfl rfl ?_
 refine WL_nil ?_
 refine W_ret ?_
 have hq4 := Option.some.inj hF
 subst hq4
 refine fn_ret1 rfl rfl ?_
 exact ⟨_, rfl, int_res hC3 _⟩

theorem c_Slices_ContainsFunc_Limpl_Fact_impl_Fact_M_Disagree_c1 {w0 : World} (a1 : (List (Int × (List Int)))) (u1 : Value) (g1 : RO [] w0 u1 a1) (pb1 : Nat) (ax1 : ((Int × (List Int)) × (List (Int × (List Int))))) (g2 : ROAt [] w0 pb1 0 ax1) (pb2 : Nat) (ax2 : (List (Int × (List Int) × Int × Int × Int))) (g3 : ROAt [] w0 pb2 0 ax2) (rr : Bool) (hF : Slices.ContainsFunc_Limpl_Fact_impl_Fact_M_Disagree_c1 a1 ax1 ax2 = some rr) :
 Calls Tryz.prog 93 [u1, (.func (.func 94) #[] #[(ptr pb1 0), (ptr pb2 0)])].toArray w0 fun e w' => ∃ v, e = .returned v ∧ Res w0 rr v w' := by
 refine calls_of_W Tryz.func93 rfl rfl ?_
 have hC0 := Ctx.start w0
 unfold Slices.ContainsFunc_Limpl_Fact_impl_Fact_M_Disagree_c1 at hF
 refine W_seq_reg ?_
 refine WL_assign rfl rfl ?_
 refine WL_nil ?_
 refine W_seq_reg ?_
 refine WL_move rfl rfl ?_
 refine WL_move rfl rfl ?_
 obtain ⟨x1, hr1, hF⟩ := bind_some hF
 refine WL_call Tryz.call126 rfl rfl (c_Slices_IndexFunc_Limpl_Fact_impl_Fact_M_Disagree_c1 a1 u1 (g1.now hC0.keep) pb1 ax1 (g2.now hC0.keep) pb2 ax2 (g3.now hC0.keep) x1 hr1) ?_
 intro _ w1 hv1
 obtain ⟨rfl, hB1⟩ := res_int hv1
 have hC1 := hC0.grow hB1
 refine WL_geq rfl rfl rfl ?_
 refine WL_assign rfl rfl ?_
 refine WL_nil ?_
 refine W_ret ?_
 have hq1 := Option.some.inj hF
 subst hq1
 refine fn_ret1 rfl rfl ?_
 exact ⟨_, rfl, bool_res hC1 _⟩

theorem c_Slices_IndexFunc_Limpl_Fact_impl_Fact_M_Disagree_c2 {w0 : World} (a1 : (List (Int × (List Int)))) (u1 : Value) (g1 : RO [] w0 u1 a1) (pb1 : Nat) (ax1 : ((Int × (List Int)) × (List (Int × (List Int))))) (g2 : ROAt [] w0 pb1 0 ax1) (pb2 : Nat) (ax2 : (List (Int × (List Int) × Int × Int × Int))) (g3 : ROAt [] w0 pb2 0 ax2) (rr : Int) (hF : Slices.IndexFunc_Limpl_Fact_impl_Fact_M_Disagree_c2 a1 ax1 ax2 = some rr) :
 Calls Tryz.prog 126 [u1, (.func (.func 95) #[] #[(ptr pb1 0), (ptr pb2 0)])].toArray w0 fun e w' => ∃ v, e = .returned v ∧ Res w0 rr v w' := by
 refine calls_of_W Tryz.func126 rfl rfl ?_
 have hC0 := Ctx.start w0
 unfold Slices.IndexFunc_Limpl_Fact_impl_Fact_M_Disagree_c2 at hF
 refine W_seq_reg ?_
 refine WL_assign rfl rfl ?_
 refine WL_nil ?_
 refine W_seq ?_
 refine W_seq_reg ?_
 refine WL_move rfl rfl ?_
 refine WL_len Tryz.underlying31 g1 rfl rfl ?_
 refine WL_move rfl rfl ?_
 refine WL_nil ?_
 obtain ⟨r1, hr1, hF⟩ := bind_some hF
 refine W_norm (fun l w => .inl () = r1 ∧ l = [] ∧ Below w0.heap.size w0 w ∧ Ctx [] w0 w []) ?_ ?_
 ·refine W_block ?_
  refine W.sub (l' := [(0, u1), (1, (.func (.func 95) #[] #[(ptr pb1 0), (ptr pb2 0)])), (7, (.int .i64 (List.length a1 : Int))), (8, (.int .i64 0))]) ?_ ⟨rfl, rfl, rfl, rfl, trivial⟩
  refine W_loop (fun k l w => ∃ x1 : Int, l = [(0, u1), (1, (.func (.func 95) #[] #[(ptr pb1 0), (ptr pb2 0)])), (7, (.int .i64 (List.length a1 : Int))), (8, (.int .i64 x1))] ∧ Below w0.heap.size w0 w ∧ Ctx [] w0 w [] ∧ Slices.IndexFunc_Limpl_Fact_impl_Fact_M_Disagree_c2_l1 a1 ax1 ax2 k x1 = some r1) FUEL ⟨0, rfl, (Below.refl _ _), hC0, hr1⟩ ?_
  clear hr1
  rintro k1 _ w1 ⟨x1, rfl, hB1, hC1, hL1⟩
  cases k1 with
  | zero => rw [Slices.IndexFunc_Limpl_Fact_impl_Fact_M_Disagree_c2_l1] at hL1; cases hL1
  | succ k1 =>
   rw [Slices.IndexFunc_Limpl_Fact_impl_Fact_M_Disagree_c2_l1] at hL1
   refine W_seq_reg ?_
   refine WL_lss rfl rfl rfl ?_
   refine WL_nil ?_
   refine W_seq ?_
   refine W_cond rfl (fun hc1 => ?_) (fun hc1 => ?_)
   ·replace hL1 := ite_t hL1 hc1
    refine W_skip ?_
    refine nrm_normal ?_
    refine W_seq ?_
    refine W_block ?_
    refine W_seq_reg ?_
    refine WL_move rfl rfl ?_
    refine WL_assign rfl rfl ?_
    refine WL_nil ?_
    refine W_seq_reg ?_
    refine WL_move rfl rfl ?_
    refine WL_move rfl rfl ?_
    refine WL_move rfl rfl ?_
    obtain ⟨x2, hx1, hL1⟩ := bind_some hL1
    refine WL_index Tryz.underlying31 ty88 g1 hx1 rfl rfl rfl (fun b1 o1 h1 => ?_)
    refine WL_load ty88 h1 hC1.keep rfl rfl (fun v1 h2 => ?_)
    obtain ⟨v2, rfl, h3⟩ := ro_st88 h2
    obtain ⟨x3, hr2, hL1⟩ := bind_some hL1
    refine WL_callv (cap := [(ptr pb1 0), (ptr pb2 0)]) Tryz.call95 rfl rfl rfl (c_M_Disagree_c2 x2 v2 (h3.now hC1.keep) pb1 ax1 (g2.now hC1.keep) pb2 ax2 (g3.now hC1.keep) x3 hr2) ?_
    intro _ w2 hv1
    obtain ⟨rfl, hB2⟩ := res_bool hv1
    have hC2 := hC1.grow hB2
    refine WL_nil ?_
    refine W_cond rfl (fun hc2 => ?_) (fun hc2 => ?_)
    ·replace hL1 := ite_t hL1 hc2
     refine W_seq_reg ?_
     refine WL_move rfl rfl ?_
     refine WL_assign rfl rfl ?_
     refine WL_nil ?_
     refine W_ret ?_
     refine blk_ret ?_
     refine nrm_ret ?_
     refine nrm_ret ?_
     refine blk_ret ?_
     refine nrm_ret ?_
     refine nrm_ret ?_
     have hq1 := Option.some.inj hL1
     subst hq1
     dsimp only at hF
     have hq2 := Option.some.inj hF
     subst hq2
     refine fn_ret1 rfl rfl ?_
     exact ⟨_, rfl, int_res hC2 _⟩
    replace hL1 := ite_f hL1 hc2
    refine W_skip ?_
    refine blk_normal ?_
    refine nrm_normal ?_
    refine W_reg ?_
    refine WL_add rfl rfl rfl ?_
    refine WL_move rfl rfl ?_
    refine WL_nil ?_
    refine nrm_sub (l' := [(0, u1), (1, (.func (.func 95) #[] #[(ptr pb1 0), (ptr pb2 0)])), (7, (.int .i64 (List.length a1 : Int))), (8, (.int .i64 (w64 (x1 + 1))))]) ⟨rfl, rfl, rfl, rfl, trivial⟩ ?_
    exact ⟨k1, Nat.lt_succ_self _, w64 (x1 + 1), rfl, ((Keep.of hB1).then hB2).below, hC2, hL1⟩
   replace hL1 := ite_f hL1 hc1
   refine W_exit ?_
   refine nrm_exit ?_
   refine nrm_exit ?_
   refine blk_exit ?_
   have hq3 := Option.some.inj hL1
   subst hq3
   refine nrm_sub (l' := []) trivial ?_
   exact ⟨rfl, rfl, (Keep.of hB1).below, hC1⟩
 rintro l2 _ w3 hs2 ⟨rfl, rfl, hB3, hC3⟩
 try dsimp only at hF
 refine nrm_sub' hs2 ?_
 clear hs2
 refine W_seq_reg ?_
 refine WL_assign rfl rfl ?_
 refine WL_nil ?_
 refine W_ret ?_
 have hq4 := Option.some.inj hF
 subst hq4
 refine fn_ret1 rfl rfl ?_
 exact ⟨_, rfl, int_res hC3 _⟩

theorem c_Slices_ContainsFunc_Limpl_Fact_impl_Fact_M_Disagree_c2 {w0 : World} (a1 : (List (Int × (List Int)))) (u1 : Value) (g1 : RO [] w0 u1 a1) (pb1 : Nat) (ax1 : ((Int × (List Int)) × (List (Int × (List Int))))) (g2 : ROAt [] w0 pb1 0 ax1) (pb2 : Nat) (ax2 : (List (Int × (List Int) × Int × Int × Int))) (g3 : ROAt [] w0 pb2 0 ax2) (rr : Bool) (hF : Slices.ContainsFunc_Limpl_Fact_impl_Fact_M_Disagree_c2 a1 ax1 ax2 = some rr) :
 Calls Tryz.prog 93 [u1, (.func (.func 95) #[] #[(ptr pb1 0), (ptr pb2 0)])].toArray w0 fun e w' => ∃ v, e = .returned v ∧ Res w0 rr v w' := by
 refine calls_of_W Tryz.func93 rfl rfl ?_
 have hC0 := Ctx.start w0
 unfold Slices.ContainsFunc_Limpl_Fact_impl_Fact_M_Disagree_c2 at hF
 refine W_seq_reg ?_
 refine WL_assign rfl rfl ?_
 refine WL_nil ?_
 refine W_seq_reg ?_
 refine WL_move rfl rfl ?_
 refine WL_move rfl rfl ?_
 obtain ⟨x1, hr1, hF⟩ := bind_some hF
 refine WL_call Tryz.call126 rfl rfl (c_Slices_IndexFunc_Limpl_Fact_impl_Fact_M_Disagree_c2 a1 u1 (g1.now hC0.keep) pb1 ax1 (g2.now hC0.keep) pb2 ax2 (g3.now hC0.keep) x1 hr1) ?_
 intro _ w1 hv1
 obtain ⟨rfl, hB1⟩ := res_int hv1
 have hC1 := hC0.grow hB1
 refine WL_geq rfl rfl rfl ?_
 refine WL_assign rfl rfl ?_
 refine WL_nil ?_
 refine W_ret ?_
 have hq1 := Option.some.inj hF
 subst hq1
 refine fn_ret1 rfl rfl ?_
 exact ⟨_, rfl, bool_res hC1 _⟩

theorem c_M_Disagree {w0 : World} (a1 : (List Int)) (u1 : Value) (g1 : RO [] w0 u1 a1) (a2 : (List (Int × (List Int) × Int × Int × Int))) (u2 : Value) (g2 : RO [] w0 u2 a2) (a3 : ((Int × (List Int)) × (List (Int × (List Int))))) (u3 : Value) (g3 : RO [] w0 u3 a3.1.2) (u4 : Value) (g4 : RO [] w0 u4 a3.2) (a4 : ((Int × (List Int)) × (List (Int × (List Int))))) (u5 : Value) (g5 : RO [] w0 u5 a4.1.2) (u6 : Value) (g6 : RO [] w0 u6 a4.2) (rr : Bool) (hF : M.Disagree a1 a2 a3 a4 = some rr) :
 Calls Tryz.prog 27 [u1, u2, (.agg #[(.int .i64 a3.1.1), u3, u4]), (.agg #[(.int .i64 a4.1.1), u5, u6])].toArray w0 fun e w' => ∃ v, e = .returned v ∧ Res w0 rr v w' := by
 refine calls_of_W Tryz.func27 rfl rfl ?_
 have hC0 := Ctx.start w0
 unfold M.Disagree at hF
 refine W_seq_reg ?_
 refine WL_boxK (cs := [u2]) hC0 (ro_cells g2) rfl rfl (fun b1 w1 hC1 hB1 hN1 => ?_)
 refine WL_boxK (cs := [(.int .i64 a3.1.1), u3, u4]) hC1 rfl rfl rfl (fun b2 w2 hC2 hB2 hN2 => ?_)
 refine WL_boxK (cs := [(.int .i64 a4.1.1), u5, u6]) hC2 rfl rfl rfl (fun b3 w3 hC3 hB3 hN3 => ?_)
 refine WL_assign rfl rfl ?_
 refine WL_nil ?_
 obtain ⟨r1, hr1, hF⟩ := bind_some hF
 refine W_cut (fun l w => ∃ x1 : Bool, x1 = r1 ∧ l = [(8, (.bool x1))] ∧ Below w3.heap.size w3 w ∧ Ctx [] w0 w []) ?_ ?_
 ·refine W_reg ?_
  refine WL_move rfl rfl ?_
  refine WL_load_box hC3 2 rfl rfl Tryz.isAgg25 rfl rfl ?_
  refine WL_load_box_agg [(.int .i64 a3.1.1), u3, u4] hC3 1 rfl rfl rfl Tryz.isAgg46 Tryz.sizeOf46 rfl rfl ?_
  obtain ⟨x2, hr2, hr1⟩ := bind_some hr1
  refine WL_call Tryz.call29 rfl rfl (c_M_FitsSelf a1 u1 (g1.now hC3.keep) a2 u2 (g2.now hC3.keep) ((a3.1.1, a3.1.2), a3.2) u3 (g3.now hC3.keep) u4 (g4.now hC3.keep) x2 hr2) ?_
  intro _ w5 hv1
  obtain ⟨rfl, hB5⟩ := res_bool hv1
  have hC5 := hC3.grow hB5
  refine WL_move rfl rfl ?_
  refine WL_fork (fun hc1 => ?_) (fun hc1 => ?_)
  ·replace hr1 := ite_t hr1 hc1
   refine WL_guard rfl rfl ?_
   refine WL_move rfl rfl ?_
   refine WL_guard rfl rfl ?_
   refine WL_load_box hC5 2 rfl rfl Tryz.isAgg25 rfl rfl ?_
   refine WL_guard rfl rfl ?_
   refine WL_load_box_agg [(.int .i64 a4.1.1), u5, u6] hC5 0 rfl rfl rfl Tryz.isAgg46 Tryz.sizeOf46 rfl rfl ?_
   obtain ⟨x3, hr3, hr1⟩ := bind_some hr1
   refine WL_guard rfl rfl ?_
   refine WL_call Tryz.call29 rfl rfl (c_M_FitsSelf a1 u1 (g1.now hC5.keep) a2 u2 (g2.now hC5.keep) ((a4.1.1, a4.1.2), a4.2) u5 (g5.now hC5.keep) u6 (g6.now hC5.keep) x3 hr3) ?_
   intro _ w6 hv2
   obtain ⟨rfl, hB6⟩ := res_bool hv2
   have hC6 := hC5.grow hB6
   refine WL_pick_t rfl rfl rfl ?_
   refine WL_move rfl rfl ?_
   refine WL_fork (fun hc2 => ?_) (fun hc2 => ?_)
   ·replace hr1 := ite_t hr1 hc2
    refine WL_guard rfl rfl ?_
    refine WL_field Tryz.underlying46 rfl rfl (fun w => ⟨_, Tryz.sizeOf31 w⟩) rfl rfl ?_
    refine WL_guard rfl rfl ?_
    refine WL_load_box hC6 1 rfl rfl Tryz.isAgg31 rfl rfl ?_
    refine WL_guard rfl rfl ?_
    refine WL_makeFunc rfl rfl ?_
    obtain ⟨x4, hr4, hr1⟩ := bind_some hr1
    refine WL_guard rfl rfl ?_
    refine WL_call Tryz.call93 rfl rfl (c_Slices_ContainsFunc_Limpl_Fact_impl_Fact_M_Disagree_c1 a3.2 u4 (g4.now hC6.keep) b3 ((a4.1.1, a4.1.2), a4.2) (hC6.boxAt 0 rfl (repw_pair (repw_pair repw_int (repw_slice (g5.now hC6.keep))) (repw_slice (g6.now hC6.keep)))) b1 a2 (hC6.boxAt 2 rfl (repw_slice (g2.now hC6.keep))) x4 hr4) ?_
    intro _ w7 hv3
    obtain ⟨rfl, hB7⟩ := res_bool hv3
    have hC7 := hC6.grow hB7
    refine WL_guard rfl rfl ?_
    refine WL_move rfl rfl ?_
    refine WL_fork (fun hc3 => ?_) (fun hc3 => ?_)
    ·replace hr1 := ite_t hr1 hc3
     refine WL_guard_skip rfl rfl (by simp) rfl ?_
     refine WL_guard_skip rfl rfl (by simp) rfl ?_
     refine WL_guard_skip rfl rfl (by simp) rfl ?_
     refine WL_guard_skip rfl rfl (by simp) rfl ?_
     refine WL_guard rfl rfl ?_
     refine WL_pick_t rfl rfl rfl ?_
     refine WL_pick_t rfl rfl rfl ?_
     refine WL_assign rfl rfl ?_
     refine WL_nil ?_
     have hq1 := Option.some.inj hr1
     subst hq1
     have hC8 := hC7.h0
     refine nrm_sub (l' := [(8, (.bool true))]) ⟨rfl, trivial⟩ ?_
     exact ⟨true, rfl, rfl, (((Keep.of hB5).then hB6).then hB7).below, hC8⟩
    replace hr1 := ite_f hr1 hc3
    refine WL_guard rfl rfl ?_
    refine WL_field Tryz.underlying46 rfl rfl (fun w => ⟨_, Tryz.sizeOf31 w⟩) rfl rfl ?_
    refine WL_guard rfl rfl ?_
    refine WL_load_box hC7 0 rfl rfl Tryz.isAgg31 rfl rfl ?_
    refine WL_guard rfl rfl ?_
    refine WL_makeFunc rfl rfl ?_
    obtain ⟨x5, hr5, hr1⟩ := bind_some hr1
    refine WL_guard rfl rfl ?_
    refine WL_call Tryz.call93 rfl rfl (c_Slices_ContainsFunc_Limpl_Fact_impl_Fact_M_Disagree_c2 a4.2 u6 (g6.now hC7.keep) b2 ((a3.1.1, a3.1.2), a3.2) (hC7.boxAt 1 rfl (repw_pair (repw_pair repw_int (repw_slice (g3.now hC7.keep))) (repw_slice (g4.now hC7.keep)))) b1 a2 (hC7.boxAt 2 rfl (repw_slice (g2.now hC7.keep))) x5 hr5) ?_
    intro _ w9 hv4
    obtain ⟨rfl, hB8⟩ := res_bool hv4
    have hC9 := hC7.grow hB8
    refine WL_guard rfl rfl ?_
    refine WL_pick_f rfl rfl rfl ?_
    refine WL_pick_t rfl rfl rfl ?_
    refine WL_assign rfl rfl ?_
    refine WL_nil ?_
    have hq2 := Option.some.inj hr1
    subst hq2
    have hC10 := hC9.h0
    refine nrm_sub (l' := [(8, (.bool x5))]) ⟨rfl, trivial⟩ ?_
    exact ⟨x5, rfl, rfl, ((((Keep.of hB5).then hB6).then hB7).then hB8).below, hC10⟩
   replace hr1 := ite_f hr1 hc2
   refine WL_guard_skip rfl rfl (by simp) rfl ?_
   refine WL_guard_skip rfl rfl (by simp) rfl ?_
   refine WL_guard_skip rfl rfl (by simp) rfl ?_
   refine WL_guard_skip rfl rfl (by simp) rfl ?_
   refine WL_guard_skip rfl rfl (by simp) rfl ?_
   refine WL_guard_skip rfl rfl (by simp [undef]) rfl ?_
   refine WL_guard_skip rfl rfl (by simp [undef]) rfl ?_
   refine WL_guard_skip rfl rfl (by simp [undef]) rfl ?_
   refine WL_guard_skip rfl rfl (by simp [undef]) rfl ?_
   refine WL_guard_skip rfl rfl (by simp) rfl ?_
   refine WL_pick_f rfl rfl rfl ?_
   refine WL_assign rfl rfl ?_
   refine WL_nil ?_
   have hq3 := Option.some.inj hr1
   subst hq3
   have hC11 := hC6.h0
   refine nrm_sub (l' := [(8, (.bool false))]) ⟨rfl, trivial⟩ ?_
   exact ⟨false, rfl, rfl, ((Keep.of hB5).then hB6).below, hC11⟩
  replace hr1 := ite_f hr1 hc1
  refine WL_guard_skip rfl rfl (by simp) rfl ?_
  refine WL_guard_skip rfl rfl (by simp) rfl ?_
  refine WL_guard_skip rfl rfl (by simp) rfl ?_
  refine WL_guard_skip rfl rfl (by simp) rfl ?_
  refine WL_pick_f rfl rfl rfl ?_
  refine WL_move rfl rfl ?_
  refine WL_guard_skip rfl rfl (by simp) rfl ?_
  refine WL_guard_skip rfl rfl (by simp) rfl ?_
  refine WL_guard_skip rfl rfl (by simp) rfl ?_
  refine WL_guard_skip rfl rfl (by simp) rfl ?_
  refine WL_guard_skip rfl rfl (by simp) rfl ?_
  refine WL_guard_skip rfl rfl (by simp [undef]) rfl ?_
  refine WL_guard_skip rfl rfl (by simp [undef]) rfl ?_
  refine WL_guard_skip rfl rfl (by simp [undef]) rfl ?_
  refine WL_guard_skip rfl rfl (by simp [undef]) rfl ?_
  refine WL_guard_skip rfl rfl (by simp) rfl ?_
  refine WL_pick_f rfl rfl rfl ?_
  refine WL_assign rfl rfl ?_
  refine WL_nil ?_
  have hq4 := Option.some.inj hr1
  subst hq4
  have hC12 := hC5.h0
  refine nrm_sub (l' := [(8, (.bool false))]) ⟨rfl, trivial⟩ ?_
  exact ⟨false, rfl, rfl, (Keep.of hB5).below, hC12⟩
 rintro _ w4 ⟨x1, rfl, rfl, hB4, hC4⟩
 try dsimp only at hF
 refine W_ret ?_
 have hq5 := Option.some.inj hF
 subst hq5
 refine fn_ret1 rfl rfl ?_
 exact ⟨_, rfl, bool_res hC4 _⟩

theorem c_M_FirstConflict_c1 {w0 : World} (a1 : ((Int × (List Int)) × (List (Int × (List Int))))) (u1 : Value) (g1 : RO [] w0 u1 a1.1.2) (u2 : Value) (g2 : RO [] w0 u2 a1.2) (pb1 : Nat) (ax1 : (List Int)) (g3 : ROAt [] w0 pb1 0 ax1) (pb2 : Nat) (ax2 : (List (Int × (List Int) × Int × Int × Int))) (g4 : ROAt [] w0 pb2 0 ax2) (pb3 : Nat) (ax3 : ((Int × (List Int)) × (List (Int × (List Int))))) (g5 : ROAt [] w0 pb3 0 ax3) (rr : Bool) (hF : M.FirstConflict_c1 a1 ax1 ax2 ax3 = some rr) :
 Calls Tryz.prog 67 [(.agg #[(.int .i64 a1.1.1), u1, u2]), (ptr pb1 0), (ptr pb2 0), (ptr pb3 0)].toArray w0 fun e w' => ∃ v, e = .returned v ∧ Res w0 rr v w' := by
 refine calls_of_W Tryz.func67 rfl rfl ?_
 have hC0 := Ctx.start w0
 unfold M.FirstConflict_c1 at hF
 refine W_seq_reg ?_
 refine WL_boxK (cs := [(.int .i64 a1.1.1), u1, u2]) hC0 rfl rfl rfl (fun b1 w1 hC1 hB1 hN1 => ?_)
 refine WL_assign rfl rfl ?_
 refine WL_nil ?_
 refine W_seq_reg ?_
 refine WL_load ty24 g3 hC1.keep rfl rfl (fun v1 h1 => ?_)
 refine WL_load ty25 g4 hC1.keep rfl rfl (fun v2 h2 => ?_)
 refine WL_load_box_agg [(.int .i64 a1.1.1), u1, u2] hC1 0 rfl rfl rfl Tryz.isAgg46 Tryz.sizeOf46 rfl rfl ?_
 refine WL_load ty46 g5 hC1.keep rfl rfl (fun v3 h3 => ?_)
 obtain ⟨v4, v5, rfl, h4, h5⟩ := ro_st46 h3
 obtain ⟨x1, hr1, hF⟩ := bind_some hF
 refine WL_call Tryz.call27 rfl rfl (c_M_Disagree ax1 v1 (h1.now hC1.keep) ax2 v2 (h2.now hC1.keep) ((a1.1.1, a1.1.2), a1.2) u1 (g1.now hC1.keep) u2 (g2.now hC1.keep) ax3 v4 (h4.now hC1.keep) v5 (h5.now hC1.keep) x1 hr1) ?_
 intro _ w2 hv1
 obtain ⟨rfl, hB2⟩ := res_bool hv1
 have hC2 := hC1.grow hB2
 refine WL_assign rfl rfl ?_
 refine WL_nil ?_
 refine W_ret ?_
 have hq1 := Option.some.inj hF
 subst hq1
 refine fn_ret1 rfl rfl ?_
 exact ⟨_, rfl, bool_res hC2 _⟩

theorem c_Slices_IndexFunc_Limpl_Told_impl_Told_M_FirstConflict_c1 {w0 : World} (a1 : (List ((Int × (List Int)) × (List (Int × (List Int)))))) (u1 : Value) (g1 : RO [] w0 u1 a1) (pb1 : Nat) (ax1 : (List Int)) (g2 : ROAt [] w0 pb1 0 ax1) (pb2 : Nat) (ax2 : (List (Int × (List Int) × Int × Int × Int))) (g3 : ROAt [] w0 pb2 0 ax2) (pb3 : Nat) (ax3 : ((Int × (List Int)) × (List (Int × (List Int))))) (g4 : ROAt [] w0 pb3 0 ax3) (rr : Int) (hF : Slices.IndexFunc_Limpl_Told_impl_Told_M_FirstConflict_c1 a1 ax1 ax2 ax3 = some rr) :
 Calls Tryz.prog 66 [u1, (.func (.func 67) #[] #[(ptr pb1 0), (ptr pb2 0), (ptr pb3 0)])].toArray w0 fun e w' => ∃ v, e = .returned v ∧ Res w0 rr v w' := by
 refine calls_of_W Tryz.func66 rfl rfl ?_
 have hC0 := Ctx.start w0
 unfold Slices.IndexFunc_Limpl_Told_impl_Told_M_FirstConflict_c1 at hF
 refine W_seq_reg ?_
 refine WL_assign rfl rfl ?_
 refine WL_nil ?_
 refine W_seq ?_
 refine W_seq_reg ?_
 refine WL_move rfl rfl ?_
 refine WL_len Tryz.underlying26 g1 rfl rfl ?_
 refine WL_move rfl rfl ?_
 refine WL_nil ?_
 obtain ⟨r1, hr1, hF⟩ := bind_some hF
 refine W_norm (fun l w => .inl () = r1 ∧ l = [] ∧ Below w0.heap.size w0 w ∧ Ctx [] w0 w []) ?_ ?_
 ·refine W_block ?_
  refine W.sub (l' := [(0, u1), (1, (.func (.func 67) #[] #[(ptr pb1 0), (ptr pb2 0), (ptr pb3 0)])), (7, (.int .i64 (List.length a1 : Int))), (8, (.int .i64 0))]) ?_ ⟨rfl, rfl, rfl, rfl, trivial⟩
  refine W_loop (fun k l w => ∃ x1 : Int, l = [(0, u1), (1, (.func (.func 67) #[] #[(ptr pb1 0), (ptr pb2 0), (ptr pb3 0)])), (7, (.int .i64 (List.length a1 : Int))), (8, (.int .i64 x1))] ∧ Below w0.heap.size w0 w ∧ Ctx [] w0 w [] ∧ Slices.IndexFunc_Limpl_Told_impl_Told_M_FirstConflict_c1_l1 a1 ax1 ax2 ax3 k x1 = some r1) FUEL ⟨0, rfl, (Below.refl _ _), hC0, hr1⟩ ?_
  clear hr1
  rintro k1 _ w1 ⟨x1, rfl, hB1, hC1, hL1⟩
  cases k1 with
  | zero => rw [Slices.IndexFunc_Limpl_Told_impl_Told_M_FirstConflict_c1_l1] at hL1; cases hL1
  | succ k1 =>
   rw [Slices.IndexFunc_Limpl_Told_impl_Told_M_FirstConflict_c1_l1] at hL1
   refine W_seq_reg ?_
   refine WL_lss rfl rfl rfl ?_
   refine WL_nil ?_
   refine W_seq ?_
   refine W_cond rfl (fun hc1 => ?_) (fun hc1 => ?_)
   ·replace hL1 := ite_t hL1 hc1
    refine W_skip ?_
    refine nrm_normal ?_
    refine W_seq ?_
    refine W_block ?_
    refine W_seq_reg ?_
    refine WL_move rfl rfl ?_
    refine WL_assign rfl rfl ?_
    refine WL_nil ?_
    refine W_seq_reg ?_
    refine WL_move rfl rfl ?_
    refine WL_move rfl rfl ?_
    refine WL_move rfl rfl ?_
    obtain ⟨x2, hx1, hL1⟩ := bind_some hL1
    refine WL_index Tryz.underlying26 ty46 g1 hx1 rfl rfl rfl (fun b1 o1 h1 => ?_)
    refine WL_load ty46 h1 hC1.keep rfl rfl (fun v1 h2 => ?_)
    obtain ⟨v2, v3, rfl, h3, h4⟩ := ro_st46 h2
    obtain ⟨x3, hr2, hL1⟩ := bind_some hL1
    refine WL_callv (cap := [(ptr pb1 0), (ptr pb2 0), (ptr pb3 0)]) Tryz.call67 rfl rfl rfl (c_M_FirstConflict_c1 x2 v2 (h3.now hC1.keep) v3 (h4.now hC1.keep) pb1 ax1 (g2.now hC1.keep) pb2 ax2 (g3.now hC1.keep) pb3 ax3 (g4.now hC1.keep) x3 hr2) ?_
    intro _ w2 hv1
    obtain ⟨rfl, hB2⟩ := res_bool hv1
    have hC2 := hC1.grow hB2
    refine WL_nil ?_
    refine W_cond rfl (fun hc2 => ?_) (fun hc2 => ?_)
    ·replace hL1 := ite_t hL1 hc2
     refine W_seq_reg ?_
     refine WL_move rfl rfl ?_
     refine WL_assign rfl rfl ?_
     refine WL_nil ?_
     refine W_ret ?_
     refine blk_ret ?_
     refine nrm_ret ?_
     refine nrm_ret ?_
     refine blk_ret ?_
     refine nrm_ret ?_
     refine nrm_ret ?_
     have hq1 := Option.some.inj hL1
     subst hq1
     dsimp only at hF
     have hq2 := Option.some.inj hF
     subst hq2
     refine fn_ret1 rfl rfl ?_
     exact ⟨_, rfl, int_res hC2 _⟩
    replace hL1 := ite_f hL1 hc2
    refine W_skip ?_
    refine blk_normal ?_
    refine nrm_normal ?_
    refine W_reg ?_
    refine WL_add rfl rfl rfl ?_
    refine WL_move rfl rfl ?_
    refine WL_nil ?_
    refine nrm_sub (l' := [(0, u1), (1, (.func (.func 67) #[] #[(ptr pb1 0), (ptr pb2 0), (ptr pb3 0)])), (7, (.int .i64 (List.length a1 : Int))), (8, (.int .i64 (w64 (x1 + 1))))]) ⟨rfl, rfl, rfl, rfl, trivial⟩ ?_
    exact ⟨k1, Nat.lt_succ_self _, w64 (x1 + 1), rfl, ((Keep.of hB1).then hB2).below, hC2, hL1⟩
   replace hL1 := ite_f hL1 hc1
   refine W_exit ?_
   refine nrm_exit ?_
   refine nrm_exit ?_
   refine blk_exit ?_
   have hq3 := Option.some.inj hL1
   subst hq3
   refine nrm_sub (l' := []) trivial ?_
   exact ⟨rfl, rfl, (Keep.of hB1).below, hC1⟩
 rintro l2 _ w3 hs2 ⟨rfl, rfl, hB3, hC3⟩
 try dsimp only at hF
 refine nrm_sub' hs2 ?_
 clear hs2
 refine W_seq_reg ?_
 refine WL_assign rfl rfl ?_
 refine WL_nil ?_
 refine W_ret ?_
 have hq4 := Option.some.inj hF
 subst hq4
 refine fn_ret1 rfl rfl ?_
 exact ⟨_, rfl, int_res hC3 _⟩

theorem c_M_FirstConflict {w0 : World} (a1 : (List Int)) (u1 : Value) (g1 : RO [] w0 u1 a1) (a2 : (List (Int × (List Int) × Int × Int × Int))) (u2 : Value) (g2 : RO [] w0 u2 a2) (a3 : (List ((Int × (List Int)) × (List (Int × (List Int)))))) (u3 : Value) (g3 : RO [] w0 u3 a3) (rr : (Int × Int × Bool)) (hF : M.FirstConflict a1 a2 a3 = some rr) :
 Calls Tryz.prog 11 [u1, u2, u3].toArray w0 fun e w' => ∃ v, e = .returned v ∧ Res3 w0 rr.1 rr.2.1 rr.2.2 v w' := by
 refine calls_of_W Tryz.func11 rfl rfl ?_
 have hC0 := Ctx.start w0
 unfold M.FirstConflict at hF
 refine W_seq_reg ?_
 refine WL_boxK (cs := [u1]) hC0 (ro_cells g1) rfl rfl (fun b1 w1 hC1 hB1 hN1 => ?_)
 refine WL_boxK (cs := [u2]) hC1 (ro_cells g2) rfl rfl (fun b2 w2 hC2 hB2 hN2 => ?_)
 refine WL_assign rfl rfl ?_
 refine WL_assign rfl rfl ?_
 refine WL_assign rfl rfl ?_
 refine WL_nil ?_
 refine W_seq ?_
 refine W_seq_reg ?_
 refine WL_move rfl rfl ?_
 refine WL_len Tryz.underlying26 g3 rfl rfl ?_
 refine WL_move rfl rfl ?_
 refine WL_nil ?_
 obtain ⟨r1, hr1, hF⟩ := bind_some hF
 refine W_norm (fun l w => .inl () = r1 ∧ l = [] ∧ Ctx [] w0 w []) ?_ ?_
 ·refine W_block ?_
  refine W.sub (l' := [(2, u3), (3, (ptr b1 0)), (4, (ptr b2 0)), (12, u3), (13, (.int .i64 (List.length a3 : Int))), (14, (.int .i64 0))]) ?_ ⟨rfl, rfl, rfl, rfl, rfl, rfl, trivial⟩
  refine W_loop (fun k l w => ∃ x1 : Int, l = [(2, u3), (3, (ptr b1 0)), (4, (ptr b2 0)), (12, u3), (13, (.int .i64 (List.length a3 : Int))), (14, (.int .i64 x1))] ∧ Ctx [] w0 w [Item.box b2 [u2], Item.box b1 [u1]] ∧ M.FirstConflict_l1 a3 a1 a2 k x1 = some r1) FUEL ⟨0, rfl, hC2, hr1⟩ ?_
  clear hr1
  rintro k1 _ w3 ⟨x1, rfl, hC3, hL1⟩
  cases k1 with
  | zero => rw [M.FirstConflict_l1] at hL1; cases hL1
  | succ k1 =>
   rw [M.FirstConflict_l1] at hL1
   refine W_seq_reg ?_
   refine WL_lss rfl rfl rfl ?_
   refine WL_nil ?_
   refine W_seq ?_
   refine W_cond rfl (fun hc1 => ?_) (fun hc1 => ?_)
   ·replace hL1 := ite_t hL1 hc1
    refine W_skip ?_
    refine nrm_normal ?_
    refine W_seq ?_
    refine W_block ?_
    refine W_seq_reg ?_
    refine WL_move rfl rfl ?_
    obtain ⟨x2, hx1, hL1⟩ := bind_some hL1
    refine WL_index Tryz.underlying26 ty46 g3 hx1 rfl rfl rfl (fun b3 o1 h1 => ?_)
    refine WL_load ty46 h1 hC3.keep rfl rfl (fun v1 h2 => ?_)
    obtain ⟨v2, v3, rfl, h3, h4⟩ := ro_st46 h2
    refine WL_allocK hC3 zero46 rfl rfl (fun b4 w4 hC4 hB4 hN3 => ?_)
    refine WL_assign rfl rfl ?_
    refine WL_store_box_aggK (cs' := [(.int .i64 x2.1.1), v2, v3]) (new := [(.int .i64 x2.1.1), v2, v3]) hC4 0 rfl rfl (by intro v hv; simp only [List.mem_cons, List.not_mem_nil, or_false] at hv; rcases hv with rfl | rfl | rfl; exact rfl; exact (ro_one h3); exact (ro_one h4)) rfl Tryz.sizeOf46 rfl rfl (fun w5 hC5 hKp1 => ?_)
    try dsimp only [List.set] at hC5
    have hk1 := Keep.over (Keep.of hB4) hN3 hKp1
    refine WL_nil ?_
    refine W_seq ?_
    refine W_seq_reg ?_
    refine WL_load_box hC5 2 rfl rfl Tryz.isAgg24 rfl rfl ?_
    refine WL_load_box hC5 1 rfl rfl Tryz.isAgg25 rfl rfl ?_
    refine WL_load_box_agg [(.int .i64 x2.1.1), v2, v3] hC5 0 rfl rfl rfl Tryz.isAgg46 Tryz.sizeOf46 rfl rfl ?_
    obtain ⟨x3, hr2, hL1⟩ := bind_some hL1
    refine WL_call Tryz.call29 rfl rfl (c_M_FitsSelf a1 u1 (g1.now hC5.keep) a2 u2 (g2.now hC5.keep) ((x2.1.1, x2.1.2), x2.2) v2 (h3.now hC5.keep) v3 (h4.now hC5.keep) x3 hr2) ?_
    intro _ w6 hv1
    obtain ⟨rfl, hB5⟩ := res_bool hv1
    have hC6 := hC5.grow hB5
    refine WL_not rfl rfl ?_
    refine WL_nil ?_
    refine W_cond rfl (fun hc2 => ?_) (fun hc2 => ?_)
    ·replace hL1 := ite_t hL1 hc2
     refine W_seq_reg ?_
     refine WL_move rfl rfl ?_
     refine WL_move rfl rfl ?_
     refine WL_assign rfl rfl ?_
     refine WL_assign rfl rfl ?_
     refine WL_assign rfl rfl ?_
     refine WL_nil ?_
     refine W_ret ?_
     refine nrm_ret ?_
     refine blk_ret ?_
     refine nrm_ret ?_
     refine nrm_ret ?_
     refine blk_ret ?_
     refine nrm_ret ?_
     refine nrm_ret ?_
     have hq1 := Option.some.inj hL1
     subst hq1
     dsimp only at hF
     have hq2 := Option.some.inj hF
     subst hq2
     refine fn_ret3 rfl rfl rfl rfl ?_
     have hC7 := hC6.triv (bool_val (true))
     have hC8 := hC7.triv (int_val (x1))
     have hC9 := hC8.triv (int_val (x1))
     exact ⟨_, rfl, res3_of hC9⟩
    replace hL1 := ite_f hL1 hc2
    refine W_skip ?_
    refine nrm_normal ?_
    refine W_seq_reg ?_
    refine WL_move rfl rfl ?_
    refine WL_move rfl rfl ?_
    obtain ⟨x4, hx2, hL1⟩ := bind_some hL1
    refine WL_slice_h Tryz.underlying26 ty46 g3 hx2 rfl rfl rfl (fun v4 h5 => ?_)
    refine WL_makeFunc rfl rfl ?_
    obtain ⟨x5, hr3, hL1⟩ := bind_some hL1
    refine WL_call Tryz.call66 rfl rfl (c_Slices_IndexFunc_Limpl_Told_impl_Told_M_FirstConflict_c1 x4 v4 (h5.now hC6.keep) b1 a1 (hC6.boxAt 2 rfl (repw_slice (g1.now hC6.keep))) b2 a2 (hC6.boxAt 1 rfl (repw_slice (g2.now hC6.keep))) b4 ((x2.1.1, x2.1.2), x2.2) (hC6.boxAt 0 rfl (repw_pair (repw_pair repw_int (repw_slice (h3.now hC6.keep))) (repw_slice (h4.now hC6.keep)))) x5 hr3) ?_
    intro _ w7 hv2
    obtain ⟨rfl, hB6⟩ := res_int hv2
    have hC10 := hC6.grow hB6
    refine WL_assign rfl rfl ?_
    refine WL_nil ?_
    refine W_seq_reg ?_
    refine WL_move rfl rfl ?_
    refine WL_geq rfl rfl rfl ?_
    refine WL_nil ?_
    refine W_cond rfl (fun hc3 => ?_) (fun hc3 => ?_)
    ·replace hL1 := ite_t hL1 hc3
     refine W_seq_reg ?_
     refine WL_move rfl rfl ?_
     refine WL_move rfl rfl ?_
     refine WL_assign rfl rfl ?_
     refine WL_assign rfl rfl ?_
     refine WL_assign rfl rfl ?_
     refine WL_nil ?_
     refine W_ret ?_
     refine blk_ret ?_
     refine nrm_ret ?_
     refine nrm_ret ?_
     refine blk_ret ?_
     refine nrm_ret ?_
     refine nrm_ret ?_
     have hq3 := Option.some.inj hL1
     subst hq3
     dsimp only at hF
     have hq4 := Option.some.inj hF
     subst hq4
     refine fn_ret3 rfl rfl rfl rfl ?_
     have hC11 := hC10.triv (bool_val (true))
     have hC12 := hC11.triv (int_val (x1))
     have hC13 := hC12.triv (int_val (x5))
     exact ⟨_, rfl, res3_of hC13⟩
    replace hL1 := ite_f hL1 hc3
    refine W_skip ?_
    refine blk_normal ?_
    refine nrm_normal ?_
    refine W_reg ?_
    refine WL_add rfl rfl rfl ?_
    refine WL_move rfl rfl ?_
    refine WL_nil ?_
    have hC14 := hC10.f2
    have hC15 := hC14.f2
    have hC16 := hC15.h2
    refine nrm_sub (l' := [(2, u3), (3, (ptr b1 0)), (4, (ptr b2 0)), (12, u3), (13, (.int .i64 (List.length a3 : Int))), (14, (.int .i64 (w64 (x1 + 1))))]) ⟨rfl, rfl, rfl, rfl, rfl, rfl, trivial⟩ ?_
    exact ⟨k1, Nat.lt_succ_self _, w64 (x1 + 1), rfl, hC16, hL1⟩
   replace hL1 := ite_f hL1 hc1
   refine W_exit ?_
   refine nrm_exit ?_
   refine nrm_exit ?_
   refine blk_exit ?_
   have hq5 := Option.some.inj hL1
   subst hq5
   have hC17 := hC3.h0
   refine nrm_sub (l' := []) trivial ?_
   exact ⟨rfl, rfl, hC17⟩
 rintro l2 _ w9 hs2 ⟨rfl, rfl, hC18⟩
 try dsimp only at hF
 refine nrm_sub' hs2 ?_
 clear hs2
 refine W_seq_reg ?_
 refine WL_assign rfl rfl ?_
 refine WL_assign rfl rfl ?_
 refine WL_assign rfl rfl ?_
 refine WL_nil ?_
 refine W_ret ?_
 have hq6 := Option.some.inj hF
 subst hq6
 refine fn_ret3 rfl rfl rfl rfl ?_
 have hC19 := hC18.triv (bool_val (false))
 have hC20 := hC19.triv (int_val ((-1)))
 have hC21 := hC20.triv (int_val ((-1)))
 exact ⟨_, rfl, res3_of hC21⟩

theorem c_M_IsConsistent {w0 : World} (a1 : (List Int)) (u1 : Value) (g1 : RO [] w0 u1 a1) (a2 : (List (Int × (List Int) × Int × Int × Int))) (u2 : Value) (g2 : RO [] w0 u2 a2) (a3 : (List ((Int × (List Int)) × (List (Int × (List Int)))))) (u3 : Value) (g3 : RO [] w0 u3 a3) (rr : Bool) (hF : M.IsConsistent a1 a2 a3 = some rr) :
 Calls Tryz.prog 16 [u1, u2, u3].toArray w0 fun e w' => ∃ v, e = .returned v ∧ Res w0 rr v w' := by
 refine calls_of_W Tryz.func16 rfl rfl ?_
 have hC0 := Ctx.start w0
 unfold M.IsConsistent at hF
 refine W_seq_reg ?_
 refine WL_assign rfl rfl ?_
 refine WL_nil ?_
 refine W_seq_reg ?_
 refine WL_move rfl rfl ?_
 refine WL_move rfl rfl ?_
 refine WL_move rfl rfl ?_
 obtain ⟨x1, hr1, hF⟩ := bind_some hF
 refine WL_call Tryz.call11 rfl rfl (c_M_FirstConflict a1 u1 (g1.now hC0.keep) a2 u2 (g2.now hC0.keep) a3 u3 (g3.now hC0.keep) x1 hr1) ?_
 rintro _ w1 ⟨hB1, v1, v2, v3, F1, F2, F3, rfl, hv1, hv2, hv3, hn1, hb1⟩
 obtain ⟨rfl, rfl⟩ := val_int hv1
 obtain ⟨rfl, rfl⟩ := val_int hv2
 obtain ⟨rfl, rfl⟩ := val_bool hv3
 have hC1 := hC0.grow hB1
 refine WL_move rfl rfl ?_
 refine WL_extract rfl rfl rfl ?_
 refine WL_extract rfl rfl rfl ?_
 refine WL_extract rfl rfl rfl ?_
 refine WL_assign rfl rfl ?_
 refine WL_assign rfl rfl ?_
 refine WL_assign rfl rfl ?_
 refine WL_nil ?_
 obtain ⟨r1, hr2, hF⟩ := bind_some hF
 refine W_cut (fun l w => ∃ x2 : Bool, x2 = r1 ∧ l = [(6, (.bool x2))] ∧ Below w1.heap.size w1 w ∧ Ctx [] w0 w []) ?_ ?_
 ·refine W_reg ?_
  refine WL_move rfl rfl ?_
  refine WL_move rfl rfl ?_
  obtain ⟨x3, hr3, hr2⟩ := bind_some hr2
  refine WL_call Tryz.call71 rfl rfl (c_M_AreMethods a1 u1 (g1.now hC1.keep) a2 u2 (g2.now hC1.keep) x3 hr3) ?_
  intro _ w3 hv4
  obtain ⟨rfl, hB3⟩ := res_bool hv4
  have hC3 := hC1.grow hB3
  refine WL_move rfl rfl ?_
  refine WL_fork (fun hc1 => ?_) (fun hc1 => ?_)
  ·replace hr2 := ite_t hr2 hc1
   refine WL_guard rfl rfl ?_
   refine WL_move rfl rfl ?_
   refine WL_guard rfl rfl ?_
   refine WL_not rfl rfl ?_
   refine WL_pick_t rfl rfl rfl ?_
   refine WL_assign rfl rfl ?_
   refine WL_nil ?_
   have hq1 := Option.some.inj hr2
   subst hq1
   refine nrm_sub (l' := [(6, (.bool (!x1.2.2)))]) ⟨rfl, trivial⟩ ?_
   exact ⟨(!x1.2.2), rfl, rfl, (Keep.of hB3).below, hC3⟩
  replace hr2 := ite_f hr2 hc1
  refine WL_guard_skip rfl rfl (by simp) rfl ?_
  refine WL_guard_skip rfl rfl (by simp) rfl ?_
  refine WL_pick_f rfl rfl rfl ?_
  refine WL_assign rfl rfl ?_
  refine WL_nil ?_
  have hq2 := Option.some.inj hr2
  subst hq2
  refine nrm_sub (l' := [(6, (.bool false))]) ⟨rfl, trivial⟩ ?_
  exact ⟨false, rfl, rfl, (Keep.of hB3).below, hC3⟩
 rintro _ w2 ⟨x2, rfl, rfl, hB2, hC2⟩
 try dsimp only at hF
 refine W_ret ?_
 have hq3 := Option.some.inj hF
 subst hq3
 refine fn_ret1 rfl rfl ?_
 exact ⟨_, rfl, bool_res hC2 _⟩

theorem c_M_arePositions_c1 {w0 : World} (a1 : Int) (pb1 : Nat) (ax1 : Int) (g1 : ROAt [] w0 pb1 0 ax1) (rr : Bool) (hF : M.arePositions_c1 a1 ax1 = some rr) :
 Calls Tryz.prog 209 [(.int .i64 a1), (ptr pb1 0)].toArray w0 fun e w' => ∃ v, e = .returned v ∧ Res w0 rr v w' := by
 refine calls_of_W Tryz.func209 rfl rfl ?_
 have hC0 := Ctx.start w0
 unfold M.arePositions_c1 at hF
 refine W_seq_reg ?_
 refine WL_assign rfl rfl ?_
 refine WL_nil ?_
 refine W_seq_reg ?_
 refine WL_move rfl rfl ?_
 refine WL_load ty3 g1 hC0.keep rfl rfl (fun v1 h1 => ?_)
 obtain rfl := ro_int h1
 refine WL_sub rfl rfl rfl ?_
 obtain ⟨x1, hr1, hF⟩ := bind_some hF
 refine WL_call Tryz.call147 rfl rfl (c_M_within a1 0 (w64 (ax1 - 1)) x1 hr1) ?_
 intro _ w1 hv1
 obtain ⟨rfl, hB1⟩ := res_bool hv1
 have hC1 := hC0.grow hB1
 refine WL_not rfl rfl ?_
 refine WL_assign rfl rfl ?_
 refine WL_nil ?_
 refine W_ret ?_
 have hq1 := Option.some.inj hF
 subst hq1
 refine fn_ret1 rfl rfl ?_
 exact ⟨_, rfl, bool_res hC1 _⟩

theorem c_Slices_IndexFunc_Lint_int_M_arePositions_c1 {w0 : World} (a1 : (List Int)) (u1 : Value) (g1 : RO [] w0 u1 a1) (pb1 : Nat) (ax1 : Int) (g2 : ROAt [] w0 pb1 0 ax1) (rr : Int) (hF : Slices.IndexFunc_Lint_int_M_arePositions_c1 a1 ax1 = some rr) :
 Calls Tryz.prog 205 [u1, (.func (.func 209) #[] #[(ptr pb1 0)])].toArray w0 fun e w' => ∃ v, e = .returned v ∧ Res w0 rr v w' := by
 refine calls_of_W Tryz.func205 rfl rfl ?_
 have hC0 := Ctx.start w0
 unfold Slices.IndexFunc_Lint_int_M_arePositions_c1 at hF
 refine W_seq_reg ?_
 refine WL_assign rfl rfl ?_
 refine WL_nil ?_
 refine W_seq ?_
 refine W_seq_reg ?_
 refine WL_move rfl rfl ?_
 refine WL_len Tryz.underlying24 g1 rfl rfl ?_
 refine WL_move rfl rfl ?_
 refine WL_nil ?_
 obtain ⟨r1, hr1, hF⟩ := bind_some hF
 refine W_norm (fun l w => .inl () = r1 ∧ l = [] ∧ Below w0.heap.size w0 w ∧ Ctx [] w0 w []) ?_ ?_
 ·refine W_block ?_
  refine W.sub (l' := [(0, u1), (1, (.func (.func 209) #[] #[(ptr pb1 0)])), (7, (.int .i64 (List.length a1 : Int))), (8, (.int .i64 0))]) ?_ ⟨rfl, rfl, rfl, rfl, trivial⟩
  refine W_loop (fun k l w => ∃ x1 : Int, l = [(0, u1), (1, (.func (.func 209) #[] #[(ptr pb1 0)])), (7, (.int .i64 (List.length a1 : Int))), (8, (.int .i64 x1))] ∧ Below w0.heap.size w0 w ∧ Ctx [] w0 w [] ∧ Slices.IndexFunc_Lint_int_M_arePositions_c1_l1 a1 ax1 k x1 = some r1) FUEL ⟨0, rfl, (Below.refl _ _), hC0, hr1⟩ ?_
  clear hr1
  rintro k1 _ w1 ⟨x1, rfl, hB1, hC1, hL1⟩
  cases k1 with
  | zero => rw [Slices.IndexFunc_Lint_int_M_arePositions_c1_l1] at hL1; cases hL1
  | succ k1 =>
   rw [Slices.IndexFunc_Lint_int_M_arePositions_c1_l1] at hL1
   refine W_seq_reg ?_
   refine WL_lss rfl rfl rfl ?_
   refine WL_nil ?_
   refine W_seq ?_
   refine W_cond rfl (fun hc1 => ?_) (fun hc1 => ?_)
   ·replace hL1 := ite_t hL1 hc1
    refine W_skip ?_
    refine nrm_normal ?_
    refine W_seq ?_
    refine W_block ?_
    refine W_seq_reg ?_
    refine WL_move rfl rfl ?_
    refine WL_assign rfl rfl ?_
    refine WL_nil ?_
    refine W_seq_reg ?_
    refine WL_move rfl rfl ?_
    refine WL_move rfl rfl ?_
    refine WL_move rfl rfl ?_
    obtain ⟨x2, hx1, hL1⟩ := bind_some hL1
    refine WL_index Tryz.underlying24 ty3 g1 hx1 rfl rfl rfl (fun b1 o1 h1 => ?_)
    refine WL_load ty3 h1 hC1.keep rfl rfl (fun v1 h2 => ?_)
    obtain rfl := ro_int h2
    obtain ⟨x3, hr2, hL1⟩ := bind_some hL1
    refine WL_callv (cap := [(ptr pb1 0)]) Tryz.call209 rfl rfl rfl (c_M_arePositions_c1 x2 pb1 ax1 (g2.now hC1.keep) x3 hr2) ?_
    intro _ w2 hv1
    obtain ⟨rfl, hB2⟩ := res_bool hv1
    have hC2 := hC1.grow hB2
    refine WL_nil ?_
    refine W_cond rfl (fun hc2 => ?_) (fun hc2 => ?_)
    ·replace hL1 := ite_t hL1 hc2
     refine W_seq_reg ?_
     refine WL_move rfl rfl ?_
     refine WL_assign rfl rfl ?_
     refine WL_nil ?_
     refine W_ret ?_
     refine blk_ret ?_
     refine nrm_ret ?_
     refine nrm_ret ?_
     refine blk_ret ?_
     refine nrm_ret ?_
     refine nrm_ret ?_
     have hq1 := Option.some.inj hL1
     subst hq1
     dsimp only at hF
     have hq2 := Option.some.inj hF
     subst hq2
     refine fn_ret1 rfl rfl ?_
     exact ⟨_, rfl, int_res hC2 _⟩
    replace hL1 := ite_f hL1 hc2
    refine W_skip ?_
    refine blk_normal ?_
    refine nrm_normal ?_
    refine W_reg ?_
    refine WL_add rfl rfl rfl ?_
    refine WL_move rfl rfl ?_
    refine WL_nil ?_
    refine nrm_sub (l' := [(0, u1), (1, (.func (.func 209) #[] #[(ptr pb1 0)])), (7, (.int .i64 (List.length a1 : Int))), (8, (.int .i64 (w64 (x1 + 1))))]) ⟨rfl, rfl, rfl, rfl, trivial⟩ ?_
    exact ⟨k1, Nat.lt_succ_self _, w64 (x1 + 1), rfl, ((Keep.of hB1).then hB2).below, hC2, hL1⟩
   replace hL1 := ite_f hL1 hc1
   refine W_exit ?_
   refine nrm_exit ?_
   refine nrm_exit ?_
   refine blk_exit ?_
   have hq3 := Option.some.inj hL1
   subst hq3
   refine nrm_sub (l' := []) trivial ?_
   exact ⟨rfl, rfl, (Keep.of hB1).below, hC1⟩
 rintro l2 _ w3 hs2 ⟨rfl, rfl, hB3, hC3⟩
 try dsimp only at hF
 refine nrm_sub' hs2 ?_
 clear hs2
 refine W_seq_reg ?_
 refine WL_assign rfl rfl ?_
 refine WL_nil ?_
 refine W_ret ?_
 have hq4 := Option.some.inj hF
 subst hq4
 refine fn_ret1 rfl rfl ?_
 exact ⟨_, rfl, int_res hC3 _⟩

theorem c_Slices_ContainsFunc_Lint_int_M_arePositions_c1 {w0 : World} (a1 : (List Int)) (u1 : Value) (g1 : RO [] w0 u1 a1) (pb1 : Nat) (ax1 : Int) (g2 : ROAt [] w0 pb1 0 ax1) (rr : Bool) (hF : Slices.ContainsFunc_Lint_int_M_arePositions_c1 a1 ax1 = some rr) :
 Calls Tryz.prog 182 [u1, (.func (.func 209) #[] #[(ptr pb1 0)])].toArray w0 fun e w' => ∃ v, e = .returned v ∧ Res w0 rr v w' := by
 refine calls_of_W Tryz.func182 rfl rfl ?_
 have hC0 := Ctx.start w0
 unfold Slices.ContainsFunc_Lint_int_M_arePositions_c1 at hF
 refine W_seq_reg ?_
 refine WL_assign rfl rfl ?_
 refine WL_nil ?_
 refine W_seq_reg ?_
 refine WL_move rfl rfl ?_
 refine WL_move rfl rfl ?_
 obtain ⟨x1, hr1, hF⟩ := bind_some hF
 refine WL_call Tryz.call205 rfl rfl (c_Slices_IndexFunc_Lint_int_M_arePositions_c1 a1 u1 (g1.now hC0.keep) pb1 ax1 (g2.now hC0.keep) x1 hr1) ?_
 intro _ w1 hv1
 obtain ⟨rfl, hB1⟩ := res_int hv1
 have hC1 := hC0.grow hB1
 refine WL_geq rfl rfl rfl ?_
 refine WL_assign rfl rfl ?_
 refine WL_nil ?_
 refine W_ret ?_
 have hq1 := Option.some.inj hF
 subst hq1
 refine fn_ret1 rfl rfl ?_
 exact ⟨_, rfl, bool_res hC1 _⟩

theorem c_M_arePositions {w0 : World} (a1 : (List Int)) (u1 : Value) (g1 : RO [] w0 u1 a1) (a2 : Int) (rr : Bool) (hF : M.arePositions a1 a2 = some rr) :
 Calls Tryz.prog 188 [u1, (.int .i64 a2)].toArray w0 fun e w' => ∃ v, e = .returned v ∧ Res w0 rr v w' := by
 refine calls_of_W Tryz.func188 rfl rfl ?_
 have hC0 := Ctx.start w0
 unfold M.arePositions at hF
 refine W_seq_reg ?_
 refine WL_boxK (cs := [(.int .i64 a2)]) hC0 rfl rfl rfl (fun b1 w1 hC1 hB1 hN1 => ?_)
 refine WL_assign rfl rfl ?_
 refine WL_nil ?_
 refine W_seq_reg ?_
 refine WL_move rfl rfl ?_
 refine WL_makeFunc rfl rfl ?_
 obtain ⟨x1, hr1, hF⟩ := bind_some hF
 refine WL_call Tryz.call182 rfl rfl (c_Slices_ContainsFunc_Lint_int_M_arePositions_c1 a1 u1 (g1.now hC1.keep) b1 a2 (hC1.boxAt 0 rfl repw_int) x1 hr1) ?_
 intro _ w2 hv1
 obtain ⟨rfl, hB2⟩ := res_bool hv1
 have hC2 := hC1.grow hB2
 refine WL_not rfl rfl ?_
 refine WL_assign rfl rfl ?_
 refine WL_nil ?_
 refine W_ret ?_
 have hq1 := Option.some.inj hF
 subst hq1
 refine fn_ret1 rfl rfl ?_
 exact ⟨_, rfl, bool_res hC2 _⟩

theorem c_M_IsRule {w0 : World} (a1 : (List Int)) (u1 : Value) (g1 : RO [] w0 u1 a1) (a2 : (Int × Int × (List Int))) (u2 : Value) (g2 : RO [] w0 u2 a2.2.2) (rr : Bool) (hF : M.IsRule a1 a2 = some rr) :
 Calls Tryz.prog 142 [u1, (.agg #[(.int .i64 a2.1), (.int .i64 a2.2.1), u2])].toArray w0 fun e w' => ∃ v, e = .returned v ∧ Res w0 rr v w' := by
 refine calls_of_W Tryz.func142 rfl rfl ?_
 have hC0 := Ctx.start w0
 unfold M.IsRule at hF
 refine W_seq_reg ?_
 refine WL_boxK (cs := [(.int .i64 a2.1), (.int .i64 a2.2.1), u2]) hC0 rfl rfl rfl (fun b1 w1 hC1 hB1 hN1 => ?_)
 refine WL_assign rfl rfl ?_
 refine WL_nil ?_
 obtain ⟨r1, hr1, hF⟩ := bind_some hF
 refine W_cut (fun l w => ∃ x1 : Bool, x1 = r1 ∧ l = [(4, (.bool x1))] ∧ Below w1.heap.size w1 w ∧ Ctx [] w0 w []) ?_ ?_
 ·refine W_drawn 32 rfl hmix (fun w3 hB3 => ?_)
  have hC3 := hC1.grow hB3
  refine WA_tk 0 (by kernel_rfl) rfl rfl (fl_move rfl) ?_
  refine WL_move rfl rfl ?_
  refine WL_nil ?_
  refine WA_tk 1 (by kernel_rfl) rfl rfl (fl_field Tryz.underlying131 rfl rfl (fun w => ⟨_, Tryz.sizeOf3 w⟩) rfl) ?_
  refine WL_field Tryz.underlying131 rfl rfl (fun w => ⟨_, Tryz.sizeOf3 w⟩) rfl rfl ?_
  refine WL_nil ?_
  refine WA_one 2 (by kernel_rfl) rfl ?_
  refine WL_load_box hC3 0 rfl rfl Tryz.isAgg3 rfl rfl ?_
  refine WL_nil ?_
  obtain ⟨x2, hr2, hr1⟩ := bind_some hr1
  refine WA_one 3 (by kernel_rfl) rfl ?_
  refine WL_call Tryz.call185 rfl rfl (c_M_hasRel a1 u1 (g1.now hC3.keep) a2.1 x2 hr2) ?_
  intro _ w4 hv1
  obtain ⟨rfl, hB4⟩ := res_bool hv1
  have hC4 := hC3.grow hB4
  refine WL_nil ?_
  refine WA_tk 4 (by kernel_rfl) rfl rfl (fl_move rfl) ?_
  refine WL_move rfl rfl ?_
  refine WL_nil ?_
  refine WA_fork (fun hc1 => ?_) (fun hc1 => ?_)
  ·replace hr1 := ite_t hr1 hc1
   refine WA_takeG 5 rfl (by kernel_rfl) (by kernel_rfl) (by kernel_rfl) rfl rfl rfl (fl_move rfl) ?_
   refine WL_guard rfl rfl ?_
   refine WL_move rfl rfl ?_
   refine WL_nil ?_
   refine WA_takeG 6 rfl (by kernel_rfl) (by kernel_rfl) (by kernel_rfl) rfl rfl rfl (fl_field Tryz.underlying131 rfl rfl (fun w => ⟨_, Tryz.sizeOf3 w⟩) rfl) ?_
   refine WL_guard rfl rfl ?_
   refine WL_field Tryz.underlying131 rfl rfl (fun w => ⟨_, Tryz.sizeOf3 w⟩) rfl rfl ?_
   refine WL_nil ?_
   refine WA_one 7 (by kernel_rfl) rfl ?_
   refine WL_guard rfl rfl ?_
   refine WL_load_box hC4 0 rfl rfl Tryz.isAgg3 rfl rfl ?_
   refine WL_nil ?_
   obtain ⟨x3, hr3, hr1⟩ := bind_some hr1
   refine WA_one 8 (by kernel_rfl) rfl ?_
   refine WL_guard rfl rfl ?_
   refine WL_call Tryz.call185 rfl rfl (c_M_hasRel a1 u1 (g1.now hC4.keep) a2.2.1 x3 hr3) ?_
   intro _ w5 hv2
   obtain ⟨rfl, hB5⟩ := res_bool hv2
   have hC5 := hC4.grow hB5
   refine WL_nil ?_
   refine WA_tk 9 (by kernel_rfl) rfl rfl (fl_pick_t rfl rfl) ?_
   refine WL_pick_t rfl rfl rfl ?_
   refine WL_nil ?_
   refine WA_tk 10 (by kernel_rfl) rfl rfl (fl_move rfl) ?_
   refine WL_move rfl rfl ?_
   refine WL_nil ?_
   refine WA_fork (fun hc2 => ?_) (fun hc2 => ?_)
   ·replace hr1 := ite_t hr1 hc2
    refine WA_takeG 11 rfl (by kernel_rfl) (by kernel_rfl) (by kernel_rfl) rfl rfl rfl (fl_field Tryz.underlying131 rfl rfl (fun w => ⟨_, Tryz.sizeOf24 w⟩) rfl) ?_
    refine WL_guard rfl rfl ?_
    refine WL_field Tryz.underlying131 rfl rfl (fun w => ⟨_, Tryz.sizeOf24 w⟩) rfl rfl ?_
    refine WL_nil ?_
    refine WA_takeG 14 rfl (by kernel_rfl) (by kernel_rfl) (by kernel_rfl) rfl rfl rfl (fl_move rfl) ?_
    refine WL_guard rfl rfl ?_
    refine WL_move rfl rfl ?_
    refine WL_nil ?_
    refine WA_takeG 15 rfl (by kernel_rfl) (by kernel_rfl) (by kernel_rfl) rfl rfl rfl (fl_field Tryz.underlying131 rfl rfl (fun w => ⟨_, Tryz.sizeOf3 w⟩) rfl) ?_
    refine WL_guard rfl rfl ?_
    refine WL_field Tryz.underlying131 rfl rfl (fun w => ⟨_, Tryz.sizeOf3 w⟩) rfl rfl ?_
    refine WL_nil ?_
    obtain ⟨x4, hx1, hr1⟩ := bind_some hr1
    refine WA.sub (l' := [(0, u1), (1, (.agg #[(.int .i64 a2.1), (.int .i64 a2.2.1), u2])), (3, (ptr b1 0)), (4, (.bool false)), (5, u1), (6, (ptr b1 0)), (7, (.int .i64 a2.1)), (8, (.bool x2)), (9, (.bool true)), (10, u1), (11, (ptr b1 1)), (12, (.int .i64 a2.2.1)), (13, (.bool x3)), (14, (.bool x3)), (15, (.bool true)), (16, (ptr b1 2)), (19, u1), (20, (ptr b1 1))]) ?_ ⟨rfl, rfl, rfl, rfl, rfl, rfl, rfl, rfl, rfl, rfl, rfl, rfl, rfl, rfl, rfl, rfl, rfl, rfl, trivial⟩
    refine WA_postsE [⟨12, [], fun vs => PW.val u2, []⟩, ⟨13, [], fun vs => PW.val (.int .i64 (List.length a2.2.2 : Int)), []⟩, ⟨16, [], fun vs => PW.val (.int .i64 a2.2.1), []⟩, ⟨17, [], fun vs => PW.at [] w0 x4, []⟩, ⟨18, [], fun vs => PW.val (.int .i64 x4), []⟩] [[], [12], [], [16], [17]] 13 rfl (by kernel_rfl) (by kernel_rfl) rfl ?_ ?_
    ·refine StepsE_cons rfl ?_ ?_
     ·intro w6 hB6
      refine DepsE_nil ?_
      refine ⟨_, rfl, ?_⟩
      refine WL_guard rfl rfl ?_
      refine WL_load_box (hC5.grow hB6) 0 rfl rfl Tryz.isAgg24 rfl rfl ?_
      refine WL_nil ?_
      exact FinE_val (Below.refl _ _) rfl rfl ⟨rfl, rfl⟩
     refine StepsE_cons rfl ?_ ?_
     ·intro w6 hB6
      refine DepsE_cons rfl rfl rfl ?_
      rintro _ _ ⟨rfl, rfl⟩ _
      refine DepsE_nil ?_
      refine ⟨_, rfl, ?_⟩
      refine WL_guard rfl rfl ?_
      refine WL_len Tryz.underlying24 g2 rfl rfl ?_
      refine WL_nil ?_
      exact FinE_val (Below.refl _ _) rfl rfl ⟨rfl, rfl⟩
     refine StepsE_cons rfl ?_ ?_
     ·intro w6 hB6
      refine DepsE_nil ?_
      refine ⟨_, rfl, ?_⟩
      refine WL_guard rfl rfl ?_
      refine WL_load_box (hC5.grow hB6) 0 rfl rfl Tryz.isAgg3 rfl rfl ?_
      refine WL_nil ?_
      exact FinE_val (Below.refl _ _) rfl rfl ⟨rfl, rfl⟩
     refine StepsE_cons rfl ?_ ?_
     ·intro w6 hB6
      refine DepsE_cons rfl rfl rfl ?_
      rintro _ _ ⟨rfl, rfl⟩ _
      refine DepsE_nil ?_
      refine ⟨_, rfl, ?_⟩
      refine WL_guard rfl rfl ?_
      refine WL_index Tryz.underlying24 ty3 g1 hx1 rfl rfl rfl (fun b2 o1 h1 => ?_)
      refine WL_nil ?_
      exact FinE_val (Below.refl _ _) rfl rfl ⟨rfl, _, _, rfl, h1⟩
     refine StepsE_cons rfl ?_ ?_
     ·intro w6 hB6
      refine DepsE_cons rfl rfl rfl ?_
      rintro _ _ ⟨rfl, b2, o1, rfl, h1⟩ _
      refine DepsE_nil ?_
      refine ⟨_, rfl, ?_⟩
      refine WL_guard rfl rfl ?_
      refine WL_load ty3 h1 (hC5.keep.then hB6) rfl rfl (fun v1 h2 => ?_)
      obtain rfl := ro_int h2
      refine WL_nil ?_
      exact FinE_val (Below.refl _ _) rfl rfl ⟨rfl, rfl⟩
     exact StepsE_nil
    intro w7 hB7
    refine AllE_cons rfl rfl rfl ?_
    rintro _ _ ⟨rfl, rfl⟩
    refine AllE_cons rfl rfl rfl ?_
    rintro _ _ ⟨rfl, rfl⟩
    refine AllE_cons rfl rfl rfl ?_
    rintro _ _ ⟨rfl, rfl⟩
    refine AllE_cons rfl rfl rfl ?_
    rintro _ _ ⟨rfl, b2, o1, rfl, h1⟩
    refine AllE_cons rfl rfl rfl ?_
    rintro _ _ ⟨rfl, rfl⟩
    refine AllE_nil ?_
    intro hn1 hb1
    have hC6 := hC5.grow hB7
    refine WA_takeG 19 rfl (by kernel_rfl) (by kernel_rfl) (by kernel_rfl) rfl rfl rfl (fl_eql rfl rfl) ?_
    refine WL_guard rfl rfl ?_
    refine WL_eql rfl rfl rfl ?_
    refine WL_nil ?_
    refine WA_tk 20 (by kernel_rfl) rfl rfl (fl_pick_t rfl rfl) ?_
    refine WL_pick_t rfl rfl rfl ?_
    refine WL_nil ?_
    refine WA_tk 21 (by kernel_rfl) rfl rfl (fl_move rfl) ?_
    refine WL_move rfl rfl ?_
    refine WL_nil ?_
    refine WA_fork (fun hc3 => ?_) (fun hc3 => ?_)
    ·replace hr1 := ite_t hr1 hc3
     refine WA_takeG 22 rfl (by kernel_rfl) (by kernel_rfl) (by kernel_rfl) rfl rfl rfl (fl_field Tryz.underlying131 rfl rfl (fun w => ⟨_, Tryz.sizeOf24 w⟩) rfl) ?_
     refine WL_guard rfl rfl ?_
     refine WL_field Tryz.underlying131 rfl rfl (fun w => ⟨_, Tryz.sizeOf24 w⟩) rfl rfl ?_
     refine WL_nil ?_
     refine WA_takeG 24 rfl (by kernel_rfl) (by kernel_rfl) (by kernel_rfl) rfl rfl rfl (fl_move rfl) ?_
     refine WL_guard rfl rfl ?_
     refine WL_move rfl rfl ?_
     refine WL_nil ?_
     refine WA_takeG 25 rfl (by kernel_rfl) (by kernel_rfl) (by kernel_rfl) rfl rfl rfl (fl_field Tryz.underlying131 rfl rfl (fun w => ⟨_, Tryz.sizeOf3 w⟩) rfl) ?_
     refine WL_guard rfl rfl ?_
     refine WL_field Tryz.underlying131 rfl rfl (fun w => ⟨_, Tryz.sizeOf3 w⟩) rfl rfl ?_
     refine WL_nil ?_
     obtain ⟨x5, hx2, hr1⟩ := bind_some hr1
     refine WA.sub (l' := [(0, u1), (1, (.agg #[(.int .i64 a2.1), (.int .i64 a2.2.1), u2])), (3, (ptr b1 0)), (4, (.bool false)), (5, u1), (6, (ptr b1 0)), (7, (.int .i64 a2.1)), (8, (.bool x2)), (9, (.bool true)), (10, u1), (11, (ptr b1 1)), (12, (.int .i64 a2.2.1)), (13, (.bool x3)), (14, (.bool x3)), (15, (.bool true)), (16, (ptr b1 2)), (17, u2), (18, (.int .i64 (List.length a2.2.2 : Int))), (19, u1), (20, (ptr b1 1)), (21, (.int .i64 a2.2.1)), (22, (ptr b2 o1)), (23, (.int .i64 x4)), (24, (.bool (decide ((List.length a2.2.2 : Int) = x4)))), (25, (.bool (decide ((List.length a2.2.2 : Int) = x4)))), (26, (.bool true)), (27, (ptr b1 2)), (29, u1), (30, (ptr b1 0))]) ?_ ⟨rfl, rfl, rfl, rfl, rfl, rfl, rfl, rfl, rfl, rfl, rfl, rfl, rfl, rfl, rfl, rfl, rfl, rfl, rfl, rfl, rfl, rfl, rfl, rfl, rfl, rfl, rfl, rfl, rfl, trivial⟩
     refine WA_postsE [⟨23, [], fun vs => PW.val u2, []⟩, ⟨26, [], fun vs => PW.val (.int .i64 a2.1), []⟩, ⟨27, [], fun vs => PW.at [] w0 x5, []⟩, ⟨28, [], fun vs => PW.val (.int .i64 x5), []⟩] [[], [], [26], [27]] 3 rfl (by kernel_rfl) (by kernel_rfl) rfl ?_ ?_
     ·refine StepsE_cons rfl ?_ ?_
      ·intro w9 hB8
       refine DepsE_nil ?_
       refine ⟨_, rfl, ?_⟩
       refine WL_guard rfl rfl ?_
       refine WL_load_box (hC6.grow hB8) 0 rfl rfl Tryz.isAgg24 rfl rfl ?_
       refine WL_nil ?_
       exact FinE_val (Below.refl _ _) rfl rfl ⟨rfl, rfl⟩
      refine StepsE_cons rfl ?_ ?_
      ·intro w9 hB8
       refine DepsE_nil ?_
       refine ⟨_, rfl, ?_⟩
       refine WL_guard rfl rfl ?_
       refine WL_load_box (hC6.grow hB8) 0 rfl rfl Tryz.isAgg3 rfl rfl ?_
       refine WL_nil ?_
       exact FinE_val (Below.refl _ _) rfl rfl ⟨rfl, rfl⟩
      refine StepsE_cons rfl ?_ ?_
      ·intro w9 hB8
       refine DepsE_cons rfl rfl rfl ?_
       rintro _ _ ⟨rfl, rfl⟩ _
       refine DepsE_nil ?_
       refine ⟨_, rfl, ?_⟩
       refine WL_guard rfl rfl ?_
       refine WL_index Tryz.underlying24 ty3 g1 hx2 rfl rfl rfl (fun b3 o2 h3 => ?_)
       refine WL_nil ?_
       exact FinE_val (Below.refl _ _) rfl rfl ⟨rfl, _, _, rfl, h3⟩
      refine StepsE_cons rfl ?_ ?_
      ·intro w9 hB8
       refine DepsE_cons rfl rfl rfl ?_
       rintro _ _ ⟨rfl, b3, o2, rfl, h3⟩ _
       refine DepsE_nil ?_
       refine ⟨_, rfl, ?_⟩
       refine WL_guard rfl rfl ?_
       refine WL_load ty3 h3 (hC6.keep.then hB8) rfl rfl (fun v2 h4 => ?_)
       obtain rfl := ro_int h4
       refine WL_nil ?_
       exact FinE_val (Below.refl _ _) rfl rfl ⟨rfl, rfl⟩
      exact StepsE_nil
     intro w10 hB9
     refine AllE_cons rfl rfl rfl ?_
     rintro _ _ ⟨rfl, rfl⟩
     refine AllE_cons rfl rfl rfl ?_
     rintro _ _ ⟨rfl, rfl⟩
     refine AllE_cons rfl rfl rfl ?_
     rintro _ _ ⟨rfl, b3, o2, rfl, h3⟩
     refine AllE_cons rfl rfl rfl ?_
     rintro _ _ ⟨rfl, rfl⟩
     refine AllE_nil ?_
     intro hn2 hb2
     have hC7 := hC6.grow hB9
     obtain ⟨x6, hr4, hr1⟩ := bind_some hr1
     refine WA_one 29 (by kernel_rfl) rfl ?_
     refine WL_guard rfl rfl ?_
     refine WL_call Tryz.call188 rfl rfl (c_M_arePositions a2.2.2 u2 (g2.now hC7.keep) x5 x6 hr4) ?_
     intro _ w11 hv3
     obtain ⟨rfl, hB10⟩ := res_bool hv3
     have hC8 := hC7.grow hB10
     refine WL_nil ?_
     refine WA_tk 30 (by kernel_rfl) rfl rfl (fl_pick_t rfl rfl) ?_
     refine WL_pick_t rfl rfl rfl ?_
     refine WL_nil ?_
     refine WA_tk 31 (by kernel_rfl) rfl rfl (fl_assign rfl) ?_
     refine WL_assign rfl rfl ?_
     refine WL_nil ?_
     refine WA_done (by kernel_rfl) ?_
     have hq1 := Option.some.inj hr1
     subst hq1
     have hC9 := hC8.h0
     refine nrm_sub (l' := [(4, (.bool x6))]) ⟨rfl, trivial⟩ ?_
     exact ⟨x6, rfl, rfl, ((((((Keep.of hB3).then hB4).then hB5).then hB7).then hB9).then hB10).below, hC9⟩
    replace hr1 := ite_f hr1 hc3
    refine WA_sk 22 (by kernel_rfl) rfl rfl rfl rfl (by simp) rfl rfl ?_
    refine WA_sk 23 (by kernel_rfl) rfl rfl rfl rfl (by simp) rfl rfl ?_
    refine WA_sk 24 (by kernel_rfl) rfl rfl rfl rfl (by simp) rfl rfl ?_
    refine WA_sk 25 (by kernel_rfl) rfl rfl rfl rfl (by simp) rfl rfl ?_
    refine WA_sk 26 (by kernel_rfl) rfl rfl rfl rfl (by simp) rfl rfl ?_
    refine WA_sk 27 (by kernel_rfl) rfl rfl rfl rfl (by simp) rfl rfl ?_
    refine WA_sk 28 (by kernel_rfl) rfl rfl rfl rfl (by simp) rfl rfl ?_
    refine WA_sk 29 (by kernel_rfl) rfl rfl rfl rfl (by simp) rfl rfl ?_
    refine WA_tk 30 (by kernel_rfl) rfl rfl (fl_pick_f rfl rfl) ?_
    refine WL_pick_f rfl rfl rfl ?_
    refine WL_nil ?_
    refine WA_tk 31 (by kernel_rfl) rfl rfl (fl_assign rfl) ?_
    refine WL_assign rfl rfl ?_
    refine WL_nil ?_
    refine WA_done (by kernel_rfl) ?_
    have hq2 := Option.some.inj hr1
    subst hq2
    have hC10 := hC6.h0
    refine nrm_sub (l' := [(4, (.bool false))]) ⟨rfl, trivial⟩ ?_
    exact ⟨false, rfl, rfl, ((((Keep.of hB3).then hB4).then hB5).then hB7).below, hC10⟩
   replace hr1 := ite_f hr1 hc2
   refine WA_sk 11 (by kernel_rfl) rfl rfl rfl rfl (by simp) rfl rfl ?_
   refine WA_sk 12 (by kernel_rfl) rfl rfl rfl rfl (by simp) rfl rfl ?_
   refine WA_sk 13 (by kernel_rfl) rfl rfl rfl rfl (by simp) rfl rfl ?_
   refine WA_sk 14 (by kernel_rfl) rfl rfl rfl rfl (by simp) rfl rfl ?_
   refine WA_sk 15 (by kernel_rfl) rfl rfl rfl rfl (by simp) rfl rfl ?_
   refine WA_sk 16 (by kernel_rfl) rfl rfl rfl rfl (by simp) rfl rfl ?_
   refine WA_sk 17 (by kernel_rfl) rfl rfl rfl rfl (by simp) rfl rfl ?_
   refine WA_sk 18 (by kernel_rfl) rfl rfl rfl rfl (by simp) rfl rfl ?_
   refine WA_sk 19 (by kernel_rfl) rfl rfl rfl rfl (by simp) rfl rfl ?_
   refine WA_tk 20 (by kernel_rfl) rfl rfl (fl_pick_f rfl rfl) ?_
   refine WL_pick_f rfl rfl rfl ?_
   refine WL_nil ?_
   refine WA_tk 21 (by kernel_rfl) rfl rfl (fl_move rfl) ?_
   refine WL_move rfl rfl ?_
   refine WL_nil ?_
   refine WA_sk 22 (by kernel_rfl) rfl rfl rfl rfl (by simp) rfl rfl ?_
   refine WA_sk 23 (by kernel_rfl) rfl rfl rfl rfl (by simp) rfl rfl ?_
   refine WA_sk 24 (by kernel_rfl) rfl rfl rfl rfl (by simp) rfl rfl ?_
   refine WA_sk 25 (by kernel_rfl) rfl rfl rfl rfl (by simp) rfl rfl ?_
   refine WA_sk 26 (by kernel_rfl) rfl rfl rfl rfl (by simp) rfl rfl ?_
   refine WA_sk 27 (by kernel_rfl) rfl rfl rfl rfl (by simp) rfl rfl ?_
   refine WA_sk 28 (by kernel_rfl) rfl rfl rfl rfl (by simp) rfl rfl ?_
   refine WA_sk 29 (by kernel_rfl) rfl rfl rfl rfl (by simp) rfl rfl ?_
   refine WA_tk 30 (by kernel_rfl) rfl rfl (fl_pick_f rfl rfl) ?_
   refine WL_pick_f rfl rfl rfl ?_
   refine WL_nil ?_
   refine WA_tk 31 (by kernel_rfl) rfl rfl (fl_assign rfl) ?_
   refine WL_assign rfl rfl ?_
   refine WL_nil ?_
   refine WA_done (by kernel_rfl) ?_
   have hq3 := Option.some.inj hr1
   subst hq3
   have hC11 := hC5.h0
   refine nrm_sub (l' := [(4, (.bool false))]) ⟨rfl, trivial⟩ ?_
   exact ⟨false, rfl, rfl, (((Keep.of hB3).then hB4).then hB5).below, hC11⟩
  replace hr1 := ite_f hr1 hc1
  refine WA_sk 5 (by kernel_rfl) rfl rfl rfl rfl (by simp) rfl rfl ?_
  refine WA_sk 6 (by kernel_rfl) rfl rfl rfl rfl (by simp) rfl rfl ?_
  refine WA_sk 7 (by kernel_rfl) rfl rfl rfl rfl (by simp) rfl rfl ?_
  refine WA_sk 8 (by kernel_rfl) rfl rfl rfl rfl (by simp) rfl rfl ?_
  refine WA_tk 9 (by kernel_rfl) rfl rfl (fl_pick_f rfl rfl) ?_
  refine WL_pick_f rfl rfl rfl ?_
  refine WL_nil ?_
  refine WA_tk 10 (by kernel_rfl) rfl rfl (fl_move rfl) ?_
  refine WL_move rfl rfl ?_
  refine WL_nil ?_
  refine WA_sk 11 (by kernel_rfl) rfl rfl rfl rfl (by simp) rfl rfl ?_
  refine WA_sk 12 (by kernel_rfl) rfl rfl rfl rfl (by simp) rfl rfl ?_
  refine WA_sk 13 (by kernel_rfl) rfl rfl rfl rfl (by simp) rfl rfl ?_
  refine WA_sk 14 (by kernel_rfl) rfl rfl rfl rfl (by simp) rfl rfl ?_
  refine WA_sk 15 (by kernel_rfl) rfl rfl rfl rfl (by simp) rfl rfl ?_
  refine WA_sk 16 (by kernel_rfl) rfl rfl rfl rfl (by simp) rfl rfl ?_
  refine WA_sk 17 (by kernel_rfl) rfl rfl rfl rfl (by simp) rfl rfl ?_
  refine WA_sk 18 (by kernel_rfl) rfl rfl rfl rfl (by simp) rfl rfl ?_
  refine WA_sk 19 (by kernel_rfl) rfl rfl rfl rfl (by simp) rfl rfl ?_
  refine WA_tk 20 (by kernel_rfl) rfl rfl (fl_pick_f rfl rfl) ?_
  refine WL_pick_f rfl rfl rfl ?_
  refine WL_nil ?_
  refine WA_tk 21 (by kernel_rfl) rfl rfl (fl_move rfl) ?_
  refine WL_move rfl rfl ?_
  refine WL_nil ?_
  refine WA_sk 22 (by kernel_rfl) rfl rfl rfl rfl (by simp) rfl rfl ?_
  refine WA_sk 23 (by kernel_rfl) rfl rfl rfl rfl (by simp) rfl rfl ?_
  refine WA_sk 24 (by kernel_rfl) rfl rfl rfl rfl (by simp) rfl rfl ?_
  refine WA_sk 25 (by kernel_rfl) rfl rfl rfl rfl (by simp) rfl rfl ?_
  refine WA_sk 26 (by kernel_rfl) rfl rfl rfl rfl (by simp) rfl rfl ?_
  refine WA_sk 27 (by kernel_rfl) rfl rfl rfl rfl (by simp) rfl rfl ?_
  refine WA_sk 28 (by kernel_rfl) rfl rfl rfl rfl (by simp) rfl rfl ?_
  refine WA_sk 29 (by kernel_rfl) rfl rfl rfl rfl (by simp) rfl rfl ?_
  refine WA_tk 30 (by kernel_rfl) rfl rfl (fl_pick_f rfl rfl) ?_
  refine WL_pick_f rfl rfl rfl ?_
  refine WL_nil ?_
  refine WA_tk 31 (by kernel_rfl) rfl rfl (fl_assign rfl) ?_
  refine WL_assign rfl rfl ?_
  refine WL_nil ?_
  refine WA_done (by kernel_rfl) ?_
  have hq4 := Option.some.inj hr1
  subst hq4
  have hC12 := hC4.h0
  refine nrm_sub (l' := [(4, (.bool false))]) ⟨rfl, trivial⟩ ?_
  exact ⟨false, rfl, rfl, ((Keep.of hB3).then hB4).below, hC12⟩
 rintro _ w2 ⟨x1, rfl, rfl, hB2, hC2⟩
 try dsimp only at hF
 refine W_ret ?_
 have hq5 := Option.some.inj hF
 subst hq5
 refine fn_ret1 rfl rfl ?_
 exact ⟨_, rfl, bool_res hC2 _⟩

theorem c_M_AreRules_c1 {w0 : World} (a1 : (Int × Int × (List Int))) (u1 : Value) (g1 : RO [] w0 u1 a1.2.2) (pb1 : Nat) (ax1 : (List Int)) (g2 : ROAt [] w0 pb1 0 ax1) (rr : Bool) (hF : M.AreRules_c1 a1 ax1 = some rr) :
 Calls Tryz.prog 141 [(.agg #[(.int .i64 a1.1), (.int .i64 a1.2.1), u1]), (ptr pb1 0)].toArray w0 fun e w' => ∃ v, e = .returned v ∧ Res w0 rr v w' := by
 refine calls_of_W Tryz.func141 rfl rfl ?_
 have hC0 := Ctx.start w0
 unfold M.AreRules_c1 at hF
 refine W_seq_reg ?_
 refine WL_boxK (cs := [(.int .i64 a1.1), (.int .i64 a1.2.1), u1]) hC0 rfl rfl rfl (fun b1 w1 hC1 hB1 hN1 => ?_)
 refine WL_assign rfl rfl ?_
 refine WL_nil ?_
 refine W_seq_reg ?_
 refine WL_load ty24 g2 hC1.keep rfl rfl (fun v1 h1 => ?_)
 refine WL_load_box_agg [(.int .i64 a1.1), (.int .i64 a1.2.1), u1] hC1 0 rfl rfl rfl Tryz.isAgg131 Tryz.sizeOf131 rfl rfl ?_
 obtain ⟨x1, hr1, hF⟩ := bind_some hF
 refine WL_call Tryz.call142 rfl rfl (c_M_IsRule ax1 v1 (h1.now hC1.keep) (a1.1, a1.2.1, a1.2.2) u1 (g1.now hC1.keep) x1 hr1) ?_
 intro _ w2 hv1
 obtain ⟨rfl, hB2⟩ := res_bool hv1
 have hC2 := hC1.grow hB2
 refine WL_not rfl rfl ?_
 refine WL_assign rfl rfl ?_
 refine WL_nil ?_
 refine W_ret ?_
 have hq1 := Option.some.inj hF
 subst hq1
 refine fn_ret1 rfl rfl ?_
 exact ⟨_, rfl, bool_res hC2 _⟩

theorem c_Slices_IndexFunc_Limpl_Rule_impl_Rule_M_AreRules_c1 {w0 : World} (a1 : (List (Int × Int × (List Int)))) (u1 : Value) (g1 : RO [] w0 u1 a1) (pb1 : Nat) (ax1 : (List Int)) (g2 : ROAt [] w0 pb1 0 ax1) (rr : Int) (hF : Slices.IndexFunc_Limpl_Rule_impl_Rule_M_AreRules_c1 a1 ax1 = some rr) :
 Calls Tryz.prog 187 [u1, (.func (.func 141) #[] #[(ptr pb1 0)])].toArray w0 fun e w' => ∃ v, e = .returned v ∧ Res w0 rr v w' := by
 refine calls_of_W Tryz.func187 rfl rfl ?_
 have hC0 := Ctx.start w0
 unfold Slices.IndexFunc_Limpl_Rule_impl_Rule_M_AreRules_c1 at hF
 refine W_seq_reg ?_
 refine WL_assign rfl rfl ?_
 refine WL_nil ?_
 refine W_seq ?_
 refine W_seq_reg ?_
 refine WL_move rfl rfl ?_
 refine WL_len Tryz.underlying39 g1 rfl rfl ?_
 refine WL_move rfl rfl ?_
 refine WL_nil ?_
 obtain ⟨r1, hr1, hF⟩ := bind_some hF
 refine W_norm (fun l w => .inl () = r1 ∧ l = [] ∧ Below w0.heap.size w0 w ∧ Ctx [] w0 w []) ?_ ?_
 ·refine W_block ?_
  refine W.sub (l' := [(0, u1), (1, (.func (.func 141) #[] #[(ptr pb1 0)])), (7, (.int .i64 (List.length a1 : Int))), (8, (.int .i64 0))]) ?_ ⟨rfl, rfl, rfl, rfl, trivial⟩
  refine W_loop (fun k l w => ∃ x1 : Int, l = [(0, u1), (1, (.func (.func 141) #[] #[(ptr pb1 0)])), (7, (.int .i64 (List.length a1 : Int))), (8, (.int .i64 x1))] ∧ Below w0.heap.size w0 w ∧ Ctx [] w0 w [] ∧ Slices.IndexFunc_Limpl_Rule_impl_Rule_M_AreRules_c1_l1 a1 ax1 k x1 = some r1) FUEL ⟨0, rfl, (Below.refl _ _), hC0, hr1⟩ ?_
  clear hr1
  rintro k1 _ w1 ⟨x1, rfl, hB1, hC1, hL1⟩
  cases k1 with
  | zero => rw [Slices.IndexFunc_Limpl_Rule_impl_Rule_M_AreRules_c1_l1] at hL1; cases hL1
  | succ k1 =>
   rw [Slices.IndexFunc_Limpl_Rule_impl_Rule_M_AreRules_c1_l1] at hL1
   refine W_seq_reg ?_
   refine WL_lss rfl rfl rfl ?_
   refine WL_nil ?_
   refine W_seq ?_
   refine W_cond rfl (fun hc1 => ?_) (fun hc1 => ?_)
   ·replace hL1 := ite_t hL1 hc1
    refine W_skip ?_
    refine nrm_normal ?_
    refine W_seq ?_
    refine W_block ?_
    refine W_seq_reg ?_
    refine WL_move rfl rfl ?_
    refine WL_assign rfl rfl ?_
    refine WL_nil ?_
    refine W_seq_reg ?_
    refine WL_move rfl rfl ?_
    refine WL_move rfl rfl ?_
    refine WL_move rfl rfl ?_
    obtain ⟨x2, hx1, hL1⟩ := bind_some hL1
    refine WL_index Tryz.underlying39 ty131 g1 hx1 rfl rfl rfl (fun b1 o1 h1 => ?_)
    refine WL_load ty131 h1 hC1.keep rfl rfl (fun v1 h2 => ?_)
    obtain ⟨v2, rfl, h3⟩ := ro_st131 h2
    obtain ⟨x3, hr2, hL1⟩ := bind_some hL1
    refine WL_callv (cap := [(ptr pb1 0)]) Tryz.call141 rfl rfl rfl (c_M_AreRules_c1 x2 v2 (h3.now hC1.keep) pb1 ax1 (g2.now hC1.keep) x3 hr2) ?_
    intro _ w2 hv1
    obtain ⟨rfl, hB2⟩ := res_bool hv1
    have hC2 := hC1.grow hB2
    refine WL_nil ?_
    refine W_cond rfl (fun hc2 => ?_) (fun hc2 => ?_)
    ·replace hL1 := ite_t hL1 hc2
     refine W_seq_reg ?_
     refine WL_move rfl rfl ?_
     refine WL_assign rfl rfl ?_
     refine WL_nil ?_
     refine W_ret ?_
     refine blk_ret ?_
     refine nrm_ret ?_
     refine nrm_ret ?_
     refine blk_ret ?_
     refine nrm_ret ?_
     refine nrm_ret ?_
     have hq1 := Option.some.inj hL1
     subst hq1
     dsimp only at hF
     have hq2 := Option.some.inj hF
     subst hq2
     refine fn_ret1 rfl rfl ?_
     exact ⟨_, rfl, int_res hC2 _⟩
    replace hL1 := ite_f hL1 hc2
    refine W_skip ?_
    refine blk_normal ?_
    refine nrm_normal ?_
    refine W_reg ?_
    refine WL_add rfl rfl rfl ?_
    refine WL_move rfl rfl ?_
    refine WL_nil ?_
    refine nrm_sub (l' := [(0, u1), (1, (.func (.func 141) #[] #[(ptr pb1 0)])), (7, (.int .i64 (List.length a1 : Int))), (8, (.int .i64 (w64 (x1 + 1))))]) ⟨rfl, rfl, rfl, rfl, trivial⟩ ?_
    exact ⟨k1, Nat.lt_succ_self _, w64 (x1 + 1), rfl, ((Keep.of hB1).then hB2).below, hC2, hL1⟩
   replace hL1 := ite_f hL1 hc1
   refine W_exit ?_
   refine nrm_exit ?_
   refine nrm_exit ?_
   refine blk_exit ?_
   have hq3 := Option.some.inj hL1
   subst hq3
   refine nrm_sub (l' := []) trivial ?_
   exact ⟨rfl, rfl, (Keep.of hB1).below, hC1⟩
 rintro l2 _ w3 hs2 ⟨rfl, rfl, hB3, hC3⟩
 try dsimp only at hF
 refine nrm_sub' hs2 ?_
 clear hs2
 refine W_seq_reg ?_
 refine WL_assign rfl rfl ?_
 refine WL_nil ?_
 refine W_ret ?_
 have hq4 := Option.some.inj hF
 subst hq4
 refine fn_ret1 rfl rfl ?_
 exact ⟨_, rfl, int_res hC3 _⟩

theorem c_Slices_ContainsFunc_Limpl_Rule_impl_Rule_M_AreRules_c1 {w0 : World} (a1 : (List (Int × Int × (List Int)))) (u1 : Value) (g1 : RO [] w0 u1 a1) (pb1 : Nat) (ax1 : (List Int)) (g2 : ROAt [] w0 pb1 0 ax1) (rr : Bool) (hF : Slices.ContainsFunc_Limpl_Rule_impl_Rule_M_AreRules_c1 a1 ax1 = some rr) :
 Calls Tryz.prog 140 [u1, (.func (.func 141) #[] #[(ptr pb1 0)])].toArray w0 fun e w' => ∃ v, e = .returned v ∧ Res w0 rr v w' := by
 refine calls_of_W Tryz.func140 rfl rfl ?_
 have hC0 := Ctx.start w0
 unfold Slices.ContainsFunc_Limpl_Rule_impl_Rule_M_AreRules_c1 at hF
 refine W_seq_reg ?_
 refine WL_assign rfl rfl ?_
 refine WL_nil ?_
 refine W_seq_reg ?_
 refine WL_move rfl rfl ?_
 refine WL_move rfl rfl ?_
 obtain ⟨x1, hr1, hF⟩ := bind_some hF
 refine WL_call Tryz.call187 rfl rfl (c_Slices_IndexFunc_Limpl_Rule_impl_Rule_M_AreRules_c1 a1 u1 (g1.now hC0.keep) pb1 ax1 (g2.now hC0.keep) x1 hr1) ?_
 intro _ w1 hv1
 obtain ⟨rfl, hB1⟩ := res_int hv1
 have hC1 := hC0.grow hB1
 refine WL_geq rfl rfl rfl ?_
 refine WL_assign rfl rfl ?_
 refine WL_nil ?_
 refine W_ret ?_
 have hq1 := Option.some.inj hF
 subst hq1
 refine fn_ret1 rfl rfl ?_
 exact ⟨_, rfl, bool_res hC1 _⟩

theorem c_M_AreRules {w0 : World} (a1 : (List Int)) (u1 : Value) (g1 : RO [] w0 u1 a1) (a2 : (List (Int × Int × (List Int)))) (u2 : Value) (g2 : RO [] w0 u2 a2) (rr : Bool) (hF : M.AreRules a1 a2 = some rr) :
 Calls Tryz.prog 83 [u1, u2].toArray w0 fun e w' => ∃ v, e = .returned v ∧ Res w0 rr v w' := by
 refine calls_of_W Tryz.func83 rfl rfl ?_
 have hC0 := Ctx.start w0
 unfold M.AreRules at hF
 refine W_seq_reg ?_
 refine WL_boxK (cs := [u1]) hC0 (ro_cells g1) rfl rfl (fun b1 w1 hC1 hB1 hN1 => ?_)
 refine WL_assign rfl rfl ?_
 refine WL_nil ?_
 obtain ⟨r1, hr1, hF⟩ := bind_some hF
 refine W_cut (fun l w => ∃ x1 : Bool, x1 = r1 ∧ l = [(4, (.bool x1))] ∧ Below w1.heap.size w1 w ∧ Ctx [] w0 w []) ?_ ?_
 ·refine W_reg ?_
  refine WL_load_box hC1 0 rfl rfl Tryz.isAgg24 rfl rfl ?_
  obtain ⟨x2, hr2, hr1⟩ := bind_some hr1
  refine WL_call Tryz.call132 rfl rfl (c_M_IsSchema a1 u1 (g1.now hC1.keep) x2 hr2) ?_
  intro _ w3 hv1
  obtain ⟨rfl, hB3⟩ := res_bool hv1
  have hC3 := hC1.grow hB3
  refine WL_move rfl rfl ?_
  refine WL_fork (fun hc1 => ?_) (fun hc1 => ?_)
  ·replace hr1 := ite_t hr1 hc1
   refine WL_guard rfl rfl ?_
   refine WL_move rfl rfl ?_
   refine WL_guard rfl rfl ?_
   refine WL_len Tryz.underlying39 g2 rfl rfl ?_
   refine WL_guard rfl rfl ?_
   refine WL_leq rfl rfl rfl ?_
   refine WL_pick_t rfl rfl rfl ?_
   refine WL_move rfl rfl ?_
   refine WL_fork (fun hc2 => ?_) (fun hc2 => ?_)
   ·replace hr1 := ite_t hr1 hc2
    refine WL_guard rfl rfl ?_
    refine WL_move rfl rfl ?_
    refine WL_guard rfl rfl ?_
    refine WL_makeFunc rfl rfl ?_
    obtain ⟨x3, hr3, hr1⟩ := bind_some hr1
    refine WL_guard rfl rfl ?_
    refine WL_call Tryz.call140 rfl rfl (c_Slices_ContainsFunc_Limpl_Rule_impl_Rule_M_AreRules_c1 a2 u2 (g2.now hC3.keep) b1 a1 (hC3.boxAt 0 rfl (repw_slice (g1.now hC3.keep))) x3 hr3) ?_
    intro _ w4 hv2
    obtain ⟨rfl, hB4⟩ := res_bool hv2
    have hC4 := hC3.grow hB4
    refine WL_guard rfl rfl ?_
    refine WL_not rfl rfl ?_
    refine WL_pick_t rfl rfl rfl ?_
    refine WL_assign rfl rfl ?_
    refine WL_nil ?_
    have hq1 := Option.some.inj hr1
    subst hq1
    have hC5 := hC4.h0
    refine nrm_sub (l' := [(4, (.bool (!x3)))]) ⟨rfl, trivial⟩ ?_
    exact ⟨(!x3), rfl, rfl, ((Keep.of hB3).then hB4).below, hC5⟩
   replace hr1 := ite_f hr1 hc2
   refine WL_guard_skip rfl rfl (by simp) rfl ?_
   refine WL_guard_skip rfl rfl (by simp) rfl ?_
   refine WL_guard_skip rfl rfl (by simp) rfl ?_
   refine WL_guard_skip rfl rfl (by simp) rfl ?_
   refine WL_pick_f rfl rfl rfl ?_
   refine WL_assign rfl rfl ?_
   refine WL_nil ?_
   have hq2 := Option.some.inj hr1
   subst hq2
   have hC6 := hC3.h0
   refine nrm_sub (l' := [(4, (.bool false))]) ⟨rfl, trivial⟩ ?_
   exact ⟨false, rfl, rfl, (Keep.of hB3).below, hC6⟩
  replace hr1 := ite_f hr1 hc1
  refine WL_guard_skip rfl rfl (by simp) rfl ?_
  refine WL_guard_skip rfl rfl (by simp) rfl ?_
  refine WL_guard_skip rfl rfl (by simp) rfl ?_
  refine WL_pick_f rfl rfl rfl ?_
  refine WL_move rfl rfl ?_
  refine WL_guard_skip rfl rfl (by simp) rfl ?_
  refine WL_guard_skip rfl rfl (by simp) rfl ?_
  refine WL_guard_skip rfl rfl (by simp) rfl ?_
  refine WL_guard_skip rfl rfl (by simp) rfl ?_
  refine WL_pick_f rfl rfl rfl ?_
  refine WL_assign rfl rfl ?_
  refine WL_nil ?_
  have hq3 := Option.some.inj hr1
  subst hq3
  have hC7 := hC3.h0
  refine nrm_sub (l' := [(4, (.bool false))]) ⟨rfl, trivial⟩ ?_
  exact ⟨false, rfl, rfl, (Keep.of hB3).below, hC7⟩
 rintro _ w2 ⟨x1, rfl, rfl, hB2, hC2⟩
 try dsimp only at hF
 refine W_ret ?_
 have hq4 := Option.some.inj hF
 subst hq4
 refine fn_ret1 rfl rfl ?_
 exact ⟨_, rfl, bool_res hC2 _⟩

theorem c_M_Rule_implied {w0 : World} (a1 : (Int × Int × (List Int))) (u1 : Value) (g1 : RO [] w0 u1 a1.2.2) (a2 : (Int × (List Int))) (u2 : Value) (g2 : RO [] w0 u2 a2.2) (rr : ((Int × (List Int)) × Bool)) (hF : M.Rule_implied a1 a2 = some rr) :
 Calls Tryz.prog 143 [(.agg #[(.int .i64 a1.1), (.int .i64 a1.2.1), u1]), (.agg #[(.int .i64 a2.1), u2])].toArray w0 fun e w' => ∃ v, e = .returned v ∧ Res2 w0 rr.1 rr.2 v w' := by
 refine calls_of_W Tryz.func143 rfl rfl ?_
 have hC0 := Ctx.start w0
 unfold M.Rule_implied at hF
 refine W_seq_reg ?_
 refine WL_boxK (cs := [(.int .i64 a1.1), (.int .i64 a1.2.1), u1]) hC0 rfl rfl rfl (fun b1 w1 hC1 hB1 hN1 => ?_)
 refine WL_boxK (cs := [(.int .i64 a2.1), u2]) hC1 rfl rfl rfl (fun b2 w2 hC2 hB2 hN2 => ?_)
 refine WL_allocK hC2 zero88 rfl rfl (fun b3 w3 hC3 hB3 hN3 => ?_)
 refine WL_assign rfl rfl ?_
 refine WL_nil ?_
 refine W_seq ?_
 refine W_seq_reg ?_
 refine WL_field Tryz.underlying88 rfl rfl (fun w => ⟨_, Tryz.sizeOf3 w⟩) rfl rfl ?_
 refine WL_load_box hC3 1 rfl rfl Tryz.isAgg3 rfl rfl ?_
 refine WL_field Tryz.underlying131 rfl rfl (fun w => ⟨_, Tryz.sizeOf3 w⟩) rfl rfl ?_
 refine WL_load_box hC3 2 rfl rfl Tryz.isAgg3 rfl rfl ?_
 refine WL_neq rfl rfl rfl ?_
 refine WL_nil ?_
 refine W_cond rfl (fun hc1 => ?_) (fun hc1 => ?_)
 ·replace hF := ite_t hF hc1
  refine W_seq_reg ?_
  refine WL_build (vs := []) rfl rfl rfl built88 ?_
  refine WL_store_box_aggK (cs' := [(.int .i64 0), (.slice none 0 0)]) (new := [(.int .i64 0), (.slice none 0 0)]) hC3 0 rfl rfl (by intro v hv; simp only [List.mem_cons, List.not_mem_nil, or_false] at hv; rcases hv with rfl | rfl; exact rfl; exact rfl) rfl Tryz.sizeOf88 rfl rfl (fun w4 hC4 hKp1 => ?_)
  try dsimp only [List.set] at hC4
  have hk1 := Keep.over (((Keep.of hB1).then hB2).then hB3) (Nat.le_trans ((Keep.of hB1).then hB2).size hN3) hKp1
  have hk2 := Keep.over ((Keep.of hB2).then hB3) (Nat.le_trans (Keep.of hB2).size hN3) hKp1
  have hk3 := Keep.over (Keep.of hB3) hN3 hKp1
  refine WL_assign rfl rfl ?_
  refine WL_nil ?_
  refine W_ret ?_
  refine nrm_ret ?_
  have hq1 := Option.some.inj hF
  subst hq1
  refine fn_retG2 rfl (rv_cell_agg (cs' := [(.int .i64 0), (.slice none 0 0)]) hC4 (i := 0) rfl rfl rfl Tryz.isAgg88 Tryz.sizeOf88 rfl) (rv_tmp rfl) ?_
  have hC5 := hC4.triv (bool_val (false))
  have hC7 := hC5.triv (nil_val (α := Int))
  have hC6 := own_st88 0 (.slice none 0 0) ([]) hC7
  exact ⟨_, rfl, res2_of hC6⟩
 replace hF := ite_f hF hc1
 refine W_skip ?_
 refine nrm_normal ?_
 refine W_seq_reg ?_
 refine WL_field Tryz.underlying131 rfl rfl (fun w => ⟨_, Tryz.sizeOf3 w⟩) rfl rfl ?_
 refine WL_load_box hC3 2 rfl rfl Tryz.isAgg3 rfl rfl ?_
 refine WL_build (vs := [(0, (.int .i64 a1.2.1))]) rfl rfl rfl (built88_0 rfl) ?_
 refine WL_allocK hC3 zero88 rfl rfl (fun b4 w5 hC8 hB4 hN4 => ?_)
 refine WL_store_box_aggK (cs' := [(.int .i64 a1.2.1), (.slice none 0 0)]) (new := [(.int .i64 a1.2.1), (.slice none 0 0)]) hC8 0 rfl rfl (by intro v hv; simp only [List.mem_cons, List.not_mem_nil, or_false] at hv; rcases hv with rfl | rfl; exact rfl; exact rfl) rfl Tryz.sizeOf88 rfl rfl (fun w6 hC9 hKp2 => ?_)
 try dsimp only [List.set] at hC9
 have hk4 := Keep.over ((((Keep.of hB1).then hB2).then hB3).then hB4) (Nat.le_trans (((Keep.of hB1).then hB2).then hB3).size hN4) hKp2
 have hk5 := Keep.over (((Keep.of hB2).then hB3).then hB4) (Nat.le_trans ((Keep.of hB2).then hB3).size hN4) hKp2
 have hk6 := Keep.over ((Keep.of hB3).then hB4) (Nat.le_trans (Keep.of hB3).size hN4) hKp2
 have hk7 := Keep.over (Keep.of hB4) hN4 hKp2
 refine WL_nil ?_
 refine W_seq ?_
 refine W_seq_reg ?_
 refine WL_field Tryz.underlying131 rfl rfl (fun w => ⟨_, Tryz.sizeOf24 w⟩) rfl rfl ?_
 refine WL_load_box hC9 3 rfl rfl Tryz.isAgg24 rfl rfl ?_
 refine WL_len Tryz.underlying24 g1 rfl rfl ?_
 refine WL_move rfl rfl ?_
 refine WL_nil ?_
 obtain ⟨r1, hr1, hF⟩ := bind_some hF
 refine W_norm (fun l w => ∃ x4 : Int, ∃ v2 : Value, ∃ x5 : (List Int), (x4, x5) = r1 ∧ l = [(4, (ptr b3 0)), (6, (ptr b4 0))] ∧ Ctx [] w0 w [Item.own v2 (x5 : (List Int)), Item.box b4 [(.int .i64 x4), v2], Item.box b3 [(.int .i64 0), (.slice none 0 0)]]) ?_ ?_
 ·refine W_block ?_
  have hC30 := hC9.triv (nil_val (α := Int))
  have hC31 := hC30.f3
  have hC32 := hC31.f3
  have hC33 := hC32.f3
  have hC34 := hC33.f3
  have hC35 := hC34.h4
  refine W.sub (l' := [(3, (ptr b2 0)), (4, (ptr b3 0)), (6, (ptr b4 0)), (19, u1), (20, (.int .i64 (List.length a1.2.2 : Int))), (21, (.int .i64 0))]) ?_ ⟨rfl, rfl, rfl, rfl, rfl, rfl, trivial⟩
  refine W_loop (fun k l w => ∃ x1 : Int, ∃ v1 : Value, ∃ x2 : (List Int), ∃ x3 : Int, l = [(3, (ptr b2 0)), (4, (ptr b3 0)), (6, (ptr b4 0)), (19, u1), (20, (.int .i64 (List.length a1.2.2 : Int))), (21, (.int .i64 x3))] ∧ Ctx [] w0 w [Item.own v1 (x2 : (List Int)), Item.box b4 [(.int .i64 x1), v1], Item.box b3 [(.int .i64 0), (.slice none 0 0)], Item.box b2 [(.int .i64 a2.1), u2]] ∧ M.Rule_implied_l1 a1 a2 k x1 x2 x3 = some r1) FUEL ⟨a1.2.1, (.slice none 0 0), [], 0, rfl, hC35, hr1⟩ ?_
  clear hr1
  rintro k1 _ w7 ⟨x1, v1, x2, x3, rfl, hC10, hL1⟩
  cases k1 with
  | zero => rw [M.Rule_implied_l1] at hL1; cases hL1
  | succ k1 =>
   rw [M.Rule_implied_l1] at hL1
   refine W_seq_reg ?_
   refine WL_lss rfl rfl rfl ?_
   refine WL_nil ?_
   refine W_seq ?_
   refine W_cond rfl (fun hc2 => ?_) (fun hc2 => ?_)
   ·replace hL1 := ite_t hL1 hc2
    refine W_skip ?_
    refine nrm_normal ?_
    refine W_seq ?_
    refine W_block ?_
    refine W_seq_reg ?_
    obtain ⟨x6, hx1, hL1⟩ := bind_some hL1
    refine WL_index Tryz.underlying24 ty3 g1 hx1 rfl rfl rfl (fun b5 o1 h1 => ?_)
    refine WL_load ty3 h1 hC10.keep rfl rfl (fun v3 h2 => ?_)
    obtain rfl := ro_int h2
    refine WL_assign rfl rfl ?_
    refine WL_nil ?_
    refine W_drawn 11 rfl hmix (fun w9 hB6 => ?_)
    have hC11 := hC10.grow hB6
    refine WA_tk 0 (by kernel_rfl) rfl rfl (fl_field Tryz.underlying88 rfl rfl (fun w => ⟨_, Tryz.sizeOf24 w⟩) rfl) ?_
    refine WL_field Tryz.underlying88 rfl rfl (fun w => ⟨_, Tryz.sizeOf24 w⟩) rfl rfl ?_
    refine WL_nil ?_
    refine WA_tk 2 (by kernel_rfl) rfl rfl (fl_field Tryz.underlying88 rfl rfl (fun w => ⟨_, Tryz.sizeOf24 w⟩) rfl) ?_
    refine WL_field Tryz.underlying88 rfl rfl (fun w => ⟨_, Tryz.sizeOf24 w⟩) rfl rfl ?_
    refine WL_nil ?_
    refine WA_tk 4 (by kernel_rfl) rfl rfl (fl_move rfl) ?_
    refine WL_move rfl rfl ?_
    refine WL_nil ?_
    obtain ⟨x7, hx2, hL1⟩ := bind_some hL1
    refine WA.sub (l' := [(3, (ptr b2 0)), (4, (ptr b3 0)), (6, (ptr b4 0)), (8, (.int .i64 x6)), (19, u1), (20, (.int .i64 (List.length a1.2.2 : Int))), (21, (.int .i64 x3)), (22, (.bool (decide (x3 < (List.length a1.2.2 : Int))))), (23, (ptr b5 o1)), (24, (.int .i64 x6)), (25, (ptr b4 1)), (27, (ptr b2 1)), (29, (.int .i64 x6))]) ?_ ⟨rfl, rfl, rfl, rfl, rfl, rfl, rfl, rfl, rfl, rfl, rfl, rfl, rfl, trivial⟩
    refine WA_postsE [⟨1, [], fun vs => PW.val v1, []⟩, ⟨3, [], fun vs => PW.val u2, []⟩, ⟨5, [], fun vs => PW.at [] w0 x7, []⟩, ⟨6, [], fun vs => PW.val (.int .i64 x7), []⟩, ⟨7, [], fun vs => PW.own ([x7] : (List Int)), []⟩] [[], [], [3], [5], [6]] 3 rfl (by kernel_rfl) (by kernel_rfl) rfl ?_ ?_
    ·refine StepsE_cons rfl ?_ ?_
     ·intro w11 hB8
      refine DepsE_nil ?_
      refine ⟨_, rfl, ?_⟩
      refine WL_load_box (hC11.grow hB8) 1 rfl rfl Tryz.isAgg24 rfl rfl ?_
      refine WL_nil ?_
      exact FinE_val (Below.refl _ _) rfl rfl ⟨rfl, rfl⟩
     refine StepsE_cons rfl ?_ ?_
     ·intro w11 hB8
      refine DepsE_nil ?_
      refine ⟨_, rfl, ?_⟩
      refine WL_load_box (hC11.grow hB8) 3 rfl rfl Tryz.isAgg24 rfl rfl ?_
      refine WL_nil ?_
      exact FinE_val (Below.refl _ _) rfl rfl ⟨rfl, rfl⟩
     refine StepsE_cons rfl ?_ ?_
     ·intro w11 hB8
      refine DepsE_cons rfl rfl rfl ?_
      rintro _ _ ⟨rfl, rfl⟩ _
      refine DepsE_nil ?_
      refine ⟨_, rfl, ?_⟩
      refine WL_index Tryz.underlying24 ty3 g2 hx2 rfl rfl rfl (fun b6 o2 h3 => ?_)
      refine WL_nil ?_
      exact FinE_val (Below.refl _ _) rfl rfl ⟨rfl, _, _, rfl, h3⟩
     refine StepsE_cons rfl ?_ ?_
     ·intro w11 hB8
      refine DepsE_cons rfl rfl rfl ?_
      rintro _ _ ⟨rfl, b6, o2, rfl, h3⟩ _
      refine DepsE_nil ?_
      refine ⟨_, rfl, ?_⟩
      refine WL_load ty3 h3 (hC11.keep.then hB8) rfl rfl (fun v4 h4 => ?_)
      obtain rfl := ro_int h4
      refine WL_nil ?_
      exact FinE_val (Below.refl _ _) rfl rfl ⟨rfl, rfl⟩
     refine StepsE_cons rfl ?_ ?_
     ·intro w11 hB8
      refine DepsE_cons rfl rfl rfl ?_
      rintro _ _ ⟨rfl, rfl⟩ _
      refine DepsE_nil ?_
      refine ⟨_, rfl, ?_⟩
      refine WL_buildSlice (vs := [(.int .i64 x7)]) (Ctx.start w11) Tryz.underlying24 ty3 rfl rfl rfl rfl (by intro v hv; simp only [List.mem_cons, List.not_mem_nil, or_false] at hv; rcases hv with rfl <;> rfl) rfl rfl (fun b7 w10 hC12 hB7 => ?_)
      have hC13 := hC12.row0 (α := Int)
      have hC14 := hC13.triv (int_val (x7))
      have hC15 := hC14.row1
      have hC16 := hC15.front 1 rfl
      dsimp only [List.eraseIdx, List.cons_append, List.nil_append, List.append_nil] at hC16
      have hC17 : Ctx [] w11 w10 (Item.own (.slice (some ⟨b7, 0, none⟩) 1 1) ([x7] : List Int) :: []) := hC16.rowOwn (by simp [maxLen])
      refine WL_nil ?_
      exact FinE_ctx hC17 rfl rfl (fun F h => h)
     exact StepsE_nil
    intro w12 hB9
    refine AllE_cons rfl rfl rfl ?_
    rintro _ _ ⟨rfl, rfl⟩
    refine AllE_cons rfl rfl rfl ?_
    rintro _ _ ⟨rfl, rfl⟩
    refine AllE_cons rfl rfl rfl ?_
    rintro _ _ ⟨rfl, b6, o2, rfl, h3⟩
    refine AllE_cons rfl rfl rfl ?_
    rintro _ _ ⟨rfl, rfl⟩
    refine AllE_cons rfl rfl rfl ?_
    intro v5 F1 hv1
    refine AllE_nil ?_
    intro hn1 hb1
    have hC18 := hC11.pushL hB9 (Bs := [Item.own v5 ([x7] : (List Int))]) (Fs := [F1]) ⟨F1, _, rfl, hv1, rfl⟩ (by simpa using hn1) (fun b h => (hb1 b (by simpa using h)).1)
    obtain ⟨x8, hx3, hL1⟩ := bind_some hL1
    refine WA_one 8 (by kernel_rfl) rfl ?_
    refine WL_append_flat (α := Int) hC18 1 rfl (hC18.ro 0 rfl) (Keep.refl _ _) Tryz.underlying24 ty3 rfl hx3 rfl rfl rfl (fun v6 w13 hC19 => ?_)
    try dsimp only [List.set] at hC19
    refine WL_nil ?_
    refine WA_tk 9 (by kernel_rfl) rfl rfl (fl_field Tryz.underlying88 rfl rfl (fun w => ⟨_, Tryz.sizeOf24 w⟩) rfl) ?_
    refine WL_field Tryz.underlying88 rfl rfl (fun w => ⟨_, Tryz.sizeOf24 w⟩) rfl rfl ?_
    refine WL_nil ?_
    refine WA_one 10 (by kernel_rfl) rfl ?_
    refine WL_store_boxK (cs' := [(.int .i64 x1), v6]) hC19 2 rfl rfl (ro_one (hC19.ro 1 rfl)) rfl Tryz.sizeOf24 rfl rfl (fun w14 hC20 hKp3 => ?_)
    try dsimp only [List.set] at hC20
    refine WL_nil ?_
    refine WA_done (by kernel_rfl) ?_
    refine blk_normal ?_
    refine nrm_normal ?_
    refine W_reg ?_
    refine WL_add rfl rfl rfl ?_
    refine WL_move rfl rfl ?_
    refine WL_nil ?_
    have hC21 := hC20.f4
    have hC22 := hC21.f4
    have hC23 := hC22.f4
    have hC24 := hC23.f4
    have hC25 := hC24.h4
    refine nrm_sub (l' := [(3, (ptr b2 0)), (4, (ptr b3 0)), (6, (ptr b4 0)), (19, u1), (20, (.int .i64 (List.length a1.2.2 : Int))), (21, (.int .i64 (w64 (x3 + 1))))]) ⟨rfl, rfl, rfl, rfl, rfl, rfl, trivial⟩ ?_
    exact ⟨k1, Nat.lt_succ_self _, x1, v6, x8, w64 (x3 + 1), rfl, hC25, hL1⟩
   replace hL1 := ite_f hL1 hc2
   refine W_exit ?_
   refine nrm_exit ?_
   refine nrm_exit ?_
   refine blk_exit ?_
   have hq2 := Option.some.inj hL1
   subst hq2
   have hC26 := hC10.f2
   have hC27 := hC26.f2
   have hC28 := hC27.f2
   have hC29 := hC28.h3
   refine nrm_sub (l' := [(4, (ptr b3 0)), (6, (ptr b4 0))]) ⟨rfl, rfl, trivial⟩ ?_
   exact ⟨x1, v1, x2, rfl, rfl, hC29⟩
 rintro l2 _ w15 hs2 ⟨x4, v2, x5, rfl, rfl, hC36⟩
 try dsimp only at hF
 refine nrm_sub' hs2 ?_
 clear hs2
 refine W_seq_reg ?_
 refine WL_load_box_agg [(.int .i64 x4), v2] hC36 1 rfl rfl rfl Tryz.isAgg88 Tryz.sizeOf88 rfl rfl ?_
 refine WL_store_box_aggK (cs' := [(.int .i64 x4), v2]) (new := [(.int .i64 x4), v2]) hC36 2 rfl rfl (by intro v hv; simp only [List.mem_cons, List.not_mem_nil, or_false] at hv; rcases hv with rfl | rfl; exact rfl; exact (ro_one (hC36.ro 0 rfl))) rfl Tryz.sizeOf88 rfl rfl (fun w16 hC37 hKp4 => ?_)
 try dsimp only [List.set] at hC37
 refine WL_assign rfl rfl ?_
 refine WL_nil ?_
 refine W_ret ?_
 have hq3 := Option.some.inj hF
 subst hq3
 refine fn_retG2 rfl (rv_cell_agg (cs' := [(.int .i64 x4), v2]) hC37 (i := 2) rfl rfl rfl Tryz.isAgg88 Tryz.sizeOf88 rfl) (rv_tmp rfl) ?_
 have hC38 := hC37.triv (bool_val (true))
 have hC40 := hC38.f1
 have hC39 := own_st88 x4 v2 x5 hC40
 exact ⟨_, rfl, res2_of hC39⟩

theorem c_M_missing {w0 : World} (a1 : (List (Int × Int × (List Int)))) (u1 : Value) (g1 : RO [] w0 u1 a1) (a2 : (List (Int × (List Int)))) (u2 : Value) (g2 : RO [] w0 u2 a2) (rr : (List (Int × (List Int)))) (hF : M.missing a1 a2 = some rr) :
 Calls Tryz.prog 85 [u1, u2].toArray w0 fun e w' => ∃ v, e = .returned v ∧ Res w0 rr v w' := by
 refine calls_of_W Tryz.func85 rfl rfl ?_
 have hC0 := Ctx.start w0
 unfold M.missing at hF
 refine W_seq_reg ?_
 refine WL_assign rfl rfl ?_
 refine WL_nil ?_
 refine W_seq_reg ?_
 refine WL_buildSlice (vs := []) hC0 Tryz.underlying31 ty88 rfl rfl rfl rfl (by simp) rfl rfl (fun b1 w1 hC1 hB1 => ?_)
 have hC2 := hC1.row0 (α := (Int × (List Int)))
 have hC3 := hC2.front 1 rfl
 dsimp only [List.eraseIdx, List.cons_append, List.nil_append, List.append_nil] at hC3
 have hC4 : Ctx [] w0 w1 (Item.own (.slice (some ⟨b1, 0, none⟩) 0 0) (([] : List (Int × (List Int))) : List (Int × (List Int))) :: []) := hC3.rowOwn (by simp [maxLen])
 refine WL_assign rfl rfl ?_
 refine WL_nil ?_
 refine W_seq ?_
 refine W_seq_reg ?_
 refine WL_move rfl rfl ?_
 refine WL_len Tryz.underlying31 g2 rfl rfl ?_
 refine WL_move rfl rfl ?_
 refine WL_nil ?_
 obtain ⟨r1, hr1, hF⟩ := bind_some hF
 refine W_norm (fun l w => ∃ v2 : Value, ∃ x3 : (List (Int × (List Int))), x3 = r1 ∧ l = [(5, v2)] ∧ Ctx [] w0 w [Item.own v2 (x3 : (List (Int × (List Int))))]) ?_ ?_
 ·refine W_block ?_
  refine W.sub (l' := [(0, u1), (1, u2), (5, (.slice (some ⟨b1, 0, none⟩) 0 0)), (13, u2), (14, (.int .i64 (List.length a2 : Int))), (15, (.int .i64 0))]) ?_ ⟨rfl, rfl, rfl, rfl, rfl, rfl, trivial⟩
  refine W_loop (fun k l w => ∃ v1 : Value, ∃ x1 : (List (Int × (List Int))), ∃ x2 : Int, l = [(0, u1), (1, u2), (5, v1), (13, u2), (14, (.int .i64 (List.length a2 : Int))), (15, (.int .i64 x2))] ∧ Ctx [] w0 w [Item.own v1 (x1 : (List (Int × (List Int))))] ∧ M.missing_l1 a2 a1 k x1 x2 = some r1) FUEL ⟨(.slice (some ⟨b1, 0, none⟩) 0 0), ([] : List (Int × (List Int))), 0, rfl, hC4, hr1⟩ ?_
  clear hr1
  rintro k1 _ w2 ⟨v1, x1, x2, rfl, hC5, hL1⟩
  cases k1 with
  | zero => rw [M.missing_l1] at hL1; cases hL1
  | succ k1 =>
   rw [M.missing_l1] at hL1
   refine W_seq_reg ?_
   refine WL_lss rfl rfl rfl ?_
   refine WL_nil ?_
   refine W_seq ?_
   refine W_cond rfl (fun hc1 => ?_) (fun hc1 => ?_)
   ·replace hL1 := ite_t hL1 hc1
    refine W_skip ?_
    refine nrm_normal ?_
    refine W_seq ?_
    refine W_block ?_
    refine W_seq_reg ?_
    obtain ⟨x4, hx1, hL1⟩ := bind_some hL1
    refine WL_index Tryz.underlying31 ty88 g2 hx1 rfl rfl rfl (fun b2 o1 h1 => ?_)
    refine WL_load ty88 h1 hC5.keep rfl rfl (fun v3 h2 => ?_)
    obtain ⟨v4, rfl, h3⟩ := ro_st88 h2
    refine WL_allocK hC5 zero88 rfl rfl (fun b3 w3 hC6 hB3 hN1 => ?_)
    refine WL_store_box_aggK (cs' := [(.int .i64 x4.1), v4]) (new := [(.int .i64 x4.1), v4]) hC6 0 rfl rfl (by intro v hv; simp only [List.mem_cons, List.not_mem_nil, or_false] at hv; rcases hv with rfl | rfl; exact rfl; exact (ro_one h3)) rfl Tryz.sizeOf88 rfl rfl (fun w4 hC7 hKp1 => ?_)
    try dsimp only [List.set] at hC7
    have hk1 := Keep.over (Keep.of hB3) hN1 hKp1
    refine WL_nil ?_
    refine W_seq_reg ?_
    refine WL_move rfl rfl ?_
    refine WL_len Tryz.underlying39 g1 rfl rfl ?_
    refine WL_move rfl rfl ?_
    refine WL_nil ?_
    obtain ⟨r2, hr2, hL1⟩ := bind_some hL1
    refine W_norm (fun l w => ∃ v6 : Value, ∃ x7 : (List (Int × (List Int))), x7 = r2 ∧ l = [(0, u1), (1, u2), (5, v6), (13, u2), (14, (.int .i64 (List.length a2 : Int))), (15, (.int .i64 x2))] ∧ Ctx [] w0 w [Item.own v6 (x7 : (List (Int × (List Int))))]) ?_ ?_
    ·refine W_block ?_
     refine W.sub (l' := [(0, u1), (1, u2), (5, v1), (7, (ptr b3 0)), (13, u2), (14, (.int .i64 (List.length a2 : Int))), (15, (.int .i64 x2)), (19, u1), (20, (.int .i64 (List.length a1 : Int))), (21, (.int .i64 0))]) ?_ ⟨rfl, rfl, rfl, rfl, rfl, rfl, rfl, rfl, rfl, rfl, trivial⟩
     refine W_loop (fun k l w => ∃ v5 : Value, ∃ x5 : (List (Int × (List Int))), ∃ x6 : Int, l = [(0, u1), (1, u2), (5, v5), (7, (ptr b3 0)), (13, u2), (14, (.int .i64 (List.length a2 : Int))), (15, (.int .i64 x2)), (19, u1), (20, (.int .i64 (List.length a1 : Int))), (21, (.int .i64 x6))] ∧ Ctx [] w0 w [Item.box b3 [(.int .i64 x4.1), v4], Item.own v5 (x5 : (List (Int × (List Int))))] ∧ M.missing_l2 a1 x4 a2 k x5 x6 = some r2) FUEL ⟨v1, x1, 0, rfl, hC7, hr2⟩ ?_
     clear hr2
     rintro k2 _ w5 ⟨v5, x5, x6, rfl, hC8, hL2⟩
     cases k2 with
     | zero => rw [M.missing_l2] at hL2; cases hL2
     | succ k2 =>
      rw [M.missing_l2] at hL2
      refine W_seq_reg ?_
      refine WL_lss rfl rfl rfl ?_
      refine WL_nil ?_
      refine W_seq ?_
      refine W_cond rfl (fun hc2 => ?_) (fun hc2 => ?_)
      ·replace hL2 := ite_t hL2 hc2
       refine W_skip ?_
       refine nrm_normal ?_
       refine W_seq ?_
       refine W_block ?_
       refine W_seq_reg ?_
       obtain ⟨x8, hx2, hL2⟩ := bind_some hL2
       refine WL_index Tryz.underlying39 ty131 g1 hx2 rfl rfl rfl (fun b4 o2 h4 => ?_)
       refine WL_load ty131 h4 hC8.keep rfl rfl (fun v7 h5 => ?_)
       obtain ⟨v8, rfl, h6⟩ := ro_st131 h5
       refine WL_allocK hC8 zero131 rfl rfl (fun b5 w6 hC9 hB5 hN2 => ?_)
       refine WL_store_box_aggK (cs' := [(.int .i64 x8.1), (.int .i64 x8.2.1), v8]) (new := [(.int .i64 x8.1), (.int .i64 x8.2.1), v8]) hC9 0 rfl rfl (by intro v hv; simp only [List.mem_cons, List.not_mem_nil, or_false] at hv; rcases hv with rfl | rfl | rfl; exact rfl; exact rfl; exact (ro_one h6)) rfl Tryz.sizeOf131 rfl rfl (fun w7 hC10 hKp2 => ?_)
       try dsimp only [List.set] at hC10
       have hk2 := Keep.over (Keep.of hB5) hN2 hKp2
       refine WL_nil ?_
       refine W_seq_reg ?_
       refine WL_load_box_agg [(.int .i64 x8.1), (.int .i64 x8.2.1), v8] hC10 0 rfl rfl rfl Tryz.isAgg131 Tryz.sizeOf131 rfl rfl ?_
       refine WL_load_box_agg [(.int .i64 x4.1), v4] hC10 1 rfl rfl rfl Tryz.isAgg88 Tryz.sizeOf88 rfl rfl ?_
       obtain ⟨x9, hr3, hL2⟩ := bind_some hL2
       refine WL_call Tryz.call143 rfl rfl (c_M_Rule_implied (x8.1, x8.2.1, x8.2.2) v8 (h6.now hC10.keep) (x4.1, x4.2) v4 (h3.now hC10.keep) x9 hr3) ?_
       rintro _ w9 ⟨hB6, v9, v10, F1, F2, rfl, hv1, hv2, hn1, hb1⟩
       obtain ⟨rfl, rfl⟩ := val_bool hv2
       have hC11 := hC10.pushL hB6 (Bs := [Item.own v9 x9.1]) (Fs := [F1]) ⟨F1, _, rfl, hv1, rfl⟩ (by simpa using hn1) (fun b h => hb1 b (by simpa using h))
       obtain ⟨v11, rfl, hC12⟩ := st88_own hC11
       refine WL_move rfl rfl ?_
       refine WL_extract rfl rfl rfl ?_
       refine WL_extract rfl rfl rfl ?_
       refine WL_allocK hC12 zero88 rfl rfl (fun b6 w10 hC13 hB7 hN3 => ?_)
       refine WL_store_box_aggK (cs' := [(.int .i64 x9.1.1), v11]) (new := [(.int .i64 x9.1.1), v11]) hC13 0 rfl rfl (by intro v hv; simp only [List.mem_cons, List.not_mem_nil, or_false] at hv; rcases hv with rfl | rfl; exact rfl; exact (ro_one (hC13.ro 1 rfl))) rfl Tryz.sizeOf88 rfl rfl (fun w11 hC14 hKp3 => ?_)
       try dsimp only [List.set] at hC14
       have hk3 := Keep.over ((hk2.then hB6).then hB7) (Nat.le_trans (hk2.then hB6).size hN3) hKp3
       have hk4 := Keep.over ((Keep.of hB6).then hB7) (Nat.le_trans (Keep.of hB6).size hN3) hKp3
       have hk5 := Keep.over (Keep.of hB7) hN3 hKp3
       refine WL_assign rfl rfl ?_
       refine WL_nil ?_
       obtain ⟨r3, hr4, hL2⟩ := bind_some hL2
       refine W_cut (fun l w => ∃ x10 : Bool, x10 = r3 ∧ l = [(0, u1), (1, u2), (5, v5), (7, (ptr b3 0)), (10, (ptr b6 0)), (13, u2), (14, (.int .i64 (List.length a2 : Int))), (15, (.int .i64 x2)), (19, u1), (20, (.int .i64 (List.length a1 : Int))), (21, (.int .i64 x6)), (37, (.bool x10))] ∧ Below w11.heap.size w11 w ∧ Ctx [] w0 w [Item.box b6 [(.int .i64 x9.1.1), v11], Item.own v11 (x9.1.2 : (List Int)), Item.box b3 [(.int .i64 x4.1), v4], Item.own v5 (x5 : (List (Int × (List Int))))]) ?_ ?_
       ·refine W_reg ?_
        refine WL_move rfl rfl ?_
        refine WL_move rfl rfl ?_
        refine WL_fork (fun hc3 => ?_) (fun hc3 => ?_)
        ·replace hr4 := ite_t hr4 hc3
         refine WL_guard rfl rfl ?_
         refine WL_move rfl rfl ?_
         refine WL_guard rfl rfl ?_
         refine WL_load_box_agg [(.int .i64 x9.1.1), v11] hC14 0 rfl rfl rfl Tryz.isAgg88 Tryz.sizeOf88 rfl rfl ?_
         obtain ⟨x11, hr5, hr4⟩ := bind_some hr4
         refine WL_guard rfl rfl ?_
         refine WL_call Tryz.call125 rfl rfl (c_M_HasFact a2 u2 (g2.now hC14.keep) (x9.1.1, x9.1.2) v11 ((hC14.ro 1 rfl).now (Keep.refl _ _)) x11 hr5) ?_
         intro _ w13 hv3
         obtain ⟨rfl, hB9⟩ := res_bool hv3
         have hC16 := hC14.grow hB9
         refine WL_guard rfl rfl ?_
         refine WL_not rfl rfl ?_
         refine WL_pick_t rfl rfl rfl ?_
         refine WL_nil ?_
         have hq1 := Option.some.inj hr4
         subst hq1
         have hC17 := hC16.f4
         have hC18 := hC17.f4
         have hC19 := hC18.f3
         have hC20 := hC19.f3
         have hC21 := hC20.h4
         refine nrm_sub (l' := [(0, u1), (1, u2), (5, v5), (7, (ptr b3 0)), (10, (ptr b6 0)), (13, u2), (14, (.int .i64 (List.length a2 : Int))), (15, (.int .i64 x2)), (19, u1), (20, (.int .i64 (List.length a1 : Int))), (21, (.int .i64 x6)), (37, (.bool (!x11)))]) ⟨rfl, rfl, rfl, rfl, rfl, rfl, rfl, rfl, rfl, rfl, rfl, rfl, trivial⟩ ?_
         exact ⟨(!x11), rfl, rfl, (Keep.of hB9).below, hC21⟩
        replace hr4 := ite_f hr4 hc3
        refine WL_guard_skip rfl rfl (by simp) rfl ?_
        refine WL_guard_skip rfl rfl (by simp) rfl ?_
        refine WL_guard_skip rfl rfl (by simp) rfl ?_
        refine WL_guard_skip rfl rfl (by simp) rfl ?_
        refine WL_pick_f rfl rfl rfl ?_
        refine WL_nil ?_
        have hq2 := Option.some.inj hr4
        subst hq2
        have hC22 := hC14.f4
        have hC23 := hC22.f4
        have hC24 := hC23.f3
        have hC25 := hC24.f3
        have hC26 := hC25.h4
        refine nrm_sub (l' := [(0, u1), (1, u2), (5, v5), (7, (ptr b3 0)), (10, (ptr b6 0)), (13, u2), (14, (.int .i64 (List.length a2 : Int))), (15, (.int .i64 x2)), (19, u1), (20, (.int .i64 (List.length a1 : Int))), (21, (.int .i64 x6)), (37, (.bool false))]) ⟨rfl, rfl, rfl, rfl, rfl, rfl, rfl, rfl, rfl, rfl, rfl, rfl, trivial⟩ ?_
        exact ⟨false, rfl, rfl, (Below.refl _ _), hC26⟩
       rintro _ w12 ⟨x10, rfl, rfl, hB8, hC15⟩
       try dsimp only at hL2
       obtain ⟨r4, hr6, hL2⟩ := bind_some hL2
       refine W_norm (fun l w => ∃ v12 : Value, ∃ x12 : (List (Int × (List Int))), x12 = r4 ∧ l = [(0, u1), (1, u2), (5, v12), (7, (ptr b3 0)), (13, u2), (14, (.int .i64 (List.length a2 : Int))), (15, (.int .i64 x2)), (19, u1), (20, (.int .i64 (List.length a1 : Int))), (21, (.int .i64 x6))] ∧ Ctx [] w0 w [Item.box b3 [(.int .i64 x4.1), v4], Item.own v12 (x12 : (List (Int × (List Int))))]) ?_ ?_
       ·refine W_cond rfl (fun hc4 => ?_) (fun hc4 => ?_)
        ·replace hr6 := ite_t hr6 hc4
         refine W_reg ?_
         refine WL_move rfl rfl ?_
         refine WL_load_box_agg [(.int .i64 x9.1.1), v11] hC15 0 rfl rfl rfl Tryz.isAgg88 Tryz.sizeOf88 rfl rfl ?_
         obtain ⟨x13, hr7, hr6⟩ := bind_some hr6
         have hC28 := hC15.f3
         obtain ⟨Fs1, hH1, hn2, hF1, hO1, hb2⟩ := Ctx.lend2 (As := [Item.box b6 [(.int .i64 x9.1.1), v11], Item.own v11 (x9.1.2 : (List Int)), Item.box b3 [(.int .i64 x4.1), v4]]) [Item.own v5 (x5 : (List (Int × (List Int))))] hC28
         refine WL_call Tryz.call68 rfl rfl (c_M_added x5 v5 (x9.1.1, x9.1.2) v11 (hO1 1 _ _ _ rfl) hH1 hn2 x13 hr7) ?_
         rintro v13 w15 ⟨_, rfl, hq3⟩
         have hC29 : Ctx [] w0 w15 [Item.own v13 (x13 : (List (Int × (List Int)))), Item.box b6 [(.int .i64 x9.1.1), v11], Item.own v11 (x9.1.2 : (List Int)), Item.box b3 [(.int .i64 x4.1), v4]] := hb2 _ _ hq3
         refine WL_assign rfl rfl ?_
         refine WL_nil ?_
         have hq4 := Option.some.inj hr6
         subst hq4
         have hC30 := hC29.f3
         have hC31 := hC30.h2
         refine nrm_sub (l' := [(0, u1), (1, u2), (5, v13), (7, (ptr b3 0)), (13, u2), (14, (.int .i64 (List.length a2 : Int))), (15, (.int .i64 x2)), (19, u1), (20, (.int .i64 (List.length a1 : Int))), (21, (.int .i64 x6))]) ⟨rfl, rfl, rfl, rfl, rfl, rfl, rfl, rfl, rfl, rfl, trivial⟩ ?_
         exact ⟨v13, x13, rfl, rfl, hC31⟩
        replace hr6 := ite_f hr6 hc4
        refine W_skip ?_
        have hq5 := Option.some.inj hr6
        subst hq5
        have hC32 := hC15.f3
        have hC33 := hC32.f3
        have hC34 := hC33.h2
        refine nrm_sub (l' := [(0, u1), (1, u2), (5, v5), (7, (ptr b3 0)), (13, u2), (14, (.int .i64 (List.length a2 : Int))), (15, (.int .i64 x2)), (19, u1), (20, (.int .i64 (List.length a1 : Int))), (21, (.int .i64 x6))]) ⟨rfl, rfl, rfl, rfl, rfl, rfl, rfl, rfl, rfl, rfl, trivial⟩ ?_
        exact ⟨v5, x5, rfl, rfl, hC34⟩
       rintro l4 _ w14 hs4 ⟨v12, x12, rfl, rfl, hC27⟩
       try dsimp only at hL2
       refine blk_normal ?_
       refine nrm_sub' hs4 ?_
       clear hs4
       refine W_reg ?_
       refine WL_add rfl rfl rfl ?_
       refine WL_move rfl rfl ?_
       refine WL_nil ?_
       refine nrm_sub (l' := [(0, u1), (1, u2), (5, v12), (7, (ptr b3 0)), (13, u2), (14, (.int .i64 (List.length a2 : Int))), (15, (.int .i64 x2)), (19, u1), (20, (.int .i64 (List.length a1 : Int))), (21, (.int .i64 (w64 (x6 + 1))))]) ⟨rfl, rfl, rfl, rfl, rfl, rfl, rfl, rfl, rfl, rfl, trivial⟩ ?_
       exact ⟨k2, Nat.lt_succ_self _, v12, x12, w64 (x6 + 1), rfl, hC27, hL2⟩
      replace hL2 := ite_f hL2 hc2
      refine W_exit ?_
      refine nrm_exit ?_
      refine nrm_exit ?_
      refine blk_exit ?_
      have hq6 := Option.some.inj hL2
      subst hq6
      have hC35 := hC8.f1
      have hC36 := hC35.h1
      refine nrm_sub (l' := [(0, u1), (1, u2), (5, v5), (13, u2), (14, (.int .i64 (List.length a2 : Int))), (15, (.int .i64 x2))]) ⟨rfl, rfl, rfl, rfl, rfl, rfl, trivial⟩ ?_
      exact ⟨v5, x5, rfl, rfl, hC36⟩
    rintro l5 _ w16 hs5 ⟨v6, x7, rfl, rfl, hC37⟩
    try dsimp only at hL1
    refine blk_normal ?_
    refine nrm_sub' hs5 ?_
    clear hs5
    refine W_reg ?_
    refine WL_add rfl rfl rfl ?_
    refine WL_move rfl rfl ?_
    refine WL_nil ?_
    refine nrm_sub (l' := [(0, u1), (1, u2), (5, v6), (13, u2), (14, (.int .i64 (List.length a2 : Int))), (15, (.int .i64 (w64 (x2 + 1))))]) ⟨rfl, rfl, rfl, rfl, rfl, rfl, trivial⟩ ?_
    exact ⟨k1, Nat.lt_succ_self _, v6, x7, w64 (x2 + 1), rfl, hC37, hL1⟩
   replace hL1 := ite_f hL1 hc1
   refine W_exit ?_
   refine nrm_exit ?_
   refine nrm_exit ?_
   refine blk_exit ?_
   have hq7 := Option.some.inj hL1
   subst hq7
   refine nrm_sub (l' := [(5, v1)]) ⟨rfl, trivial⟩ ?_
   exact ⟨v1, x1, rfl, rfl, hC5⟩
 rintro l6 _ w17 hs6 ⟨v2, x3, rfl, rfl, hC38⟩
 try dsimp only at hF
 refine nrm_sub' hs6 ?_
 clear hs6
 refine W_seq_reg ?_
 refine WL_move rfl rfl ?_
 refine WL_assign rfl rfl ?_
 refine WL_nil ?_
 refine W_ret ?_
 have hq8 := Option.some.inj hF
 subst hq8
 refine fn_ret1 rfl rfl ?_
 exact ⟨_, rfl, own_res hC38 0 rfl⟩

theorem c_M_BrokenRules_c1_c1 {w0 : World} (a1 : ((Int × (List Int)) × (List (Int × (List Int))))) (u1 : Value) (g1 : RO [] w0 u1 a1.1.2) (u2 : Value) (g2 : RO [] w0 u2 a1.2) (pb1 : Nat) (ax1 : (List (Int × (List Int) × Int × Int × Int))) (g3 : ROAt [] w0 pb1 0 ax1) (pb2 : Nat) (ax2 : (Int × (List Int))) (g4 : ROAt [] w0 pb2 0 ax2) (rr : Bool) (hF : M.BrokenRules_c1_c1 a1 ax1 ax2 = some rr) :
 Calls Tryz.prog 87 [(.agg #[(.int .i64 a1.1.1), u1, u2]), (ptr pb1 0), (ptr pb2 0)].toArray w0 fun e w' => ∃ v, e = .returned v ∧ Res w0 rr v w' := by
 refine calls_of_W Tryz.func87 rfl rfl ?_
 have hC0 := Ctx.start w0
 unfold M.BrokenRules_c1_c1 at hF
 refine W_seq_reg ?_
 refine WL_boxK (cs := [(.int .i64 a1.1.1), u1, u2]) hC0 rfl rfl rfl (fun b1 w1 hC1 hB1 hN1 => ?_)
 refine WL_assign rfl rfl ?_
 refine WL_nil ?_
 refine W_seq_reg ?_
 refine WL_load_box_agg [(.int .i64 a1.1.1), u1, u2] hC1 0 rfl rfl rfl Tryz.isAgg46 Tryz.sizeOf46 rfl rfl ?_
 refine WL_load ty25 g3 hC1.keep rfl rfl (fun v1 h1 => ?_)
 refine WL_load ty88 g4 hC1.keep rfl rfl (fun v2 h2 => ?_)
 obtain ⟨v3, rfl, h3⟩ := ro_st88 h2
 obtain ⟨x1, hr1, hF⟩ := bind_some hF
 refine WL_call Tryz.call88 rfl rfl (c_M_Told_denies ((a1.1.1, a1.1.2), a1.2) u1 (g1.now hC1.keep) u2 (g2.now hC1.keep) ax1 v1 (h1.now hC1.keep) ax2 v3 (h3.now hC1.keep) x1 hr1) ?_
 intro _ w2 hv1
 obtain ⟨rfl, hB2⟩ := res_bool hv1
 have hC2 := hC1.grow hB2
 refine WL_assign rfl rfl ?_
 refine WL_nil ?_
 refine W_ret ?_
 have hq1 := Option.some.inj hF
 subst hq1
 refine fn_ret1 rfl rfl ?_
 exact ⟨_, rfl, bool_res hC2 _⟩

theorem c_Slices_IndexFunc_Limpl_Told_impl_Told_M_BrokenRules_c1_c1 {w0 : World} (a1 : (List ((Int × (List Int)) × (List (Int × (List Int)))))) (u1 : Value) (g1 : RO [] w0 u1 a1) (pb1 : Nat) (ax1 : (List (Int × (List Int) × Int × Int × Int))) (g2 : ROAt [] w0 pb1 0 ax1) (pb2 : Nat) (ax2 : (Int × (List Int))) (g3 : ROAt [] w0 pb2 0 ax2) (rr : Int) (hF : Slices.IndexFunc_Limpl_Told_impl_Told_M_BrokenRules_c1_c1 a1 ax1 ax2 = some rr) :
 Calls Tryz.prog 66 [u1, (.func (.func 87) #[] #[(ptr pb1 0), (ptr pb2 0)])].toArray w0 fun e w' => ∃ v, e = .returned v ∧ Res w0 rr v w' := by
 refine calls_of_W Tryz.func66 rfl rfl ?_
 have hC0 := Ctx.start w0
 unfold Slices.IndexFunc_Limpl_Told_impl_Told_M_BrokenRules_c1_c1 at hF
 refine W_seq_reg ?_
 refine WL_assign rfl rfl ?_
 refine WL_nil ?_
 refine W_seq ?_
 refine W_seq_reg ?_
 refine WL_move rfl rfl ?_
 refine WL_len Tryz.underlying26 g1 rfl rfl ?_
 refine WL_move rfl rfl ?_
 refine WL_nil ?_
 obtain ⟨r1, hr1, hF⟩ := bind_some hF
 refine W_norm (fun l w => .inl () = r1 ∧ l = [] ∧ Below w0.heap.size w0 w ∧ Ctx [] w0 w []) ?_ ?_
 ·refine W_block ?_
  refine W.sub (l' := [(0, u1), (1, (.func (.func 87) #[] #[(ptr pb1 0), (ptr pb2 0)])), (7, (.int .i64 (List.length a1 : Int))), (8, (.int .i64 0))]) ?_ ⟨rfl, rfl, rfl, rfl, trivial⟩
  refine W_loop (fun k l w => ∃ x1 : Int, l = [(0, u1), (1, (.func (.func 87) #[] #[(ptr pb1 0), (ptr pb2 0)])), (7, (.int .i64 (List.length a1 : Int))), (8, (.int .i64 x1))] ∧ Below w0.heap.size w0 w ∧ Ctx [] w0 w [] ∧ Slices.IndexFunc_Limpl_Told_impl_Told_M_BrokenRules_c1_c1_l1 a1 ax1 ax2 k x1 = some r1) FUEL ⟨0, rfl, (Below.refl _ _), hC0, hr1⟩ ?_
  clear hr1
  rintro k1 _ w1 ⟨x1, rfl, hB1, hC1, hL1⟩
  cases k1 with
  | zero => rw [Slices.IndexFunc_Limpl_Told_impl_Told_M_BrokenRules_c1_c1_l1] at hL1; cases hL1
  | succ k1 =>
   rw [Slices.IndexFunc_Limpl_Told_impl_Told_M_BrokenRules_c1_c1_l1] at hL1
   refine W_seq_reg ?_
   refine WL_lss rfl rfl rfl ?_
   refine WL_nil ?_
   refine W_seq ?_
   refine W_cond rfl (fun hc1 => ?_) (fun hc1 => ?_)
   ·replace hL1 := ite_t hL1 hc1
    refine W_skip ?_
    refine nrm_normal ?_
    refine W_seq ?_
    refine W_block ?_
    refine W_seq_reg ?_
    refine WL_move rfl rfl ?_
    refine WL_assign rfl rfl ?_
    refine WL_nil ?_
    refine W_seq_reg ?_
    refine WL_move rfl rfl ?_
    refine WL_move rfl rfl ?_
    refine WL_move rfl rfl ?_
    obtain ⟨x2, hx1, hL1⟩ := bind_some hL1
    refine WL_index Tryz.underlying26 ty46 g1 hx1 rfl rfl rfl (fun b1 o1 h1 => ?_)
    refine WL_load ty46 h1 hC1.keep rfl rfl (fun v1 h2 => ?_)
    obtain ⟨v2, v3, rfl, h3, h4⟩ := ro_st46 h2
    obtain ⟨x3, hr2, hL1⟩ := bind_some hL1
    refine WL_callv (cap := [(ptr pb1 0), (ptr pb2 0)]) Tryz.call87 rfl rfl rfl (c_M_BrokenRules_c1_c1 x2 v2 (h3.now hC1.keep) v3 (h4.now hC1.keep) pb1 ax1 (g2.now hC1.keep) pb2 ax2 (g3.now hC1.keep) x3 hr2) ?_
    intro _ w2 hv1
    obtain ⟨rfl, hB2⟩ := res_bool hv1
    have hC2 := hC1.grow hB2
    refine WL_nil ?_
    refine W_cond rfl (fun hc2 => ?_) (fun hc2 => ?_)
    ·replace hL1 := ite_t hL1 hc2
     refine W_seq_reg ?_
     refine WL_move rfl rfl ?_
     refine WL_assign rfl rfl ?_
     refine WL_nil ?_
     refine W_ret ?_
     refine blk_ret ?_
     refine nrm_ret ?_
     refine nrm_ret ?_
     refine blk_ret ?_
     refine nrm_ret ?_
     refine nrm_ret ?_
     have hq1 := Option.some.inj hL1
     subst hq1
     dsimp only at hF
     have hq2 := Option.some.inj hF
     subst hq2
     refine fn_ret1 rfl rfl ?_
     exact ⟨_, rfl, int_res hC2 _⟩
    replace hL1 := ite_f hL1 hc2
    refine W_skip ?_
    refine blk_normal ?_
    refine nrm_normal ?_
    refine W_reg ?_
    refine WL_add rfl rfl rfl ?_
    refine WL_move rfl rfl ?_
    refine WL_nil ?_
    refine nrm_sub (l' := [(0, u1), (1, (.func (.func 87) #[] #[(ptr pb1 0), (ptr pb2 0)])), (7, (.int .i64 (List.length a1 : Int))), (8, (.int .i64 (w64 (x1 + 1))))]) ⟨rfl, rfl, rfl, rfl, trivial⟩ ?_
    exact ⟨k1, Nat.lt_succ_self _, w64 (x1 + 1), rfl, ((Keep.of hB1).then hB2).below, hC2, hL1⟩
   replace hL1 := ite_f hL1 hc1
   refine W_exit ?_
   refine nrm_exit ?_
   refine nrm_exit ?_
   refine blk_exit ?_
   have hq3 := Option.some.inj hL1
   subst hq3
   refine nrm_sub (l' := []) trivial ?_
   exact ⟨rfl, rfl, (Keep.of hB1).below, hC1⟩
 rintro l2 _ w3 hs2 ⟨rfl, rfl, hB3, hC3⟩
 try dsimp only at hF
 refine nrm_sub' hs2 ?_
 clear hs2
 refine W_seq_reg ?_
 refine WL_assign rfl rfl ?_
 refine WL_nil ?_
 refine W_ret ?_
 have hq4 := Option.some.inj hF
 subst hq4
 refine fn_ret1 rfl rfl ?_
 exact ⟨_, rfl, int_res hC3 _⟩

theorem c_Slices_ContainsFunc_Limpl_Told_impl_Told_M_BrokenRules_c1_c1 {w0 : World} (a1 : (List ((Int × (List Int)) × (List (Int × (List Int)))))) (u1 : Value) (g1 : RO [] w0 u1 a1) (pb1 : Nat) (ax1 : (List (Int × (List Int) × Int × Int × Int))) (g2 : ROAt [] w0 pb1 0 ax1) (pb2 : Nat) (ax2 : (Int × (List Int))) (g3 : ROAt [] w0 pb2 0 ax2) (rr : Bool) (hF : Slices.ContainsFunc_Limpl_Told_impl_Told_M_BrokenRules_c1_c1 a1 ax1 ax2 = some rr) :
 Calls Tryz.prog 75 [u1, (.func (.func 87) #[] #[(ptr pb1 0), (ptr pb2 0)])].toArray w0 fun e w' => ∃ v, e = .returned v ∧ Res w0 rr v w' := by
 refine calls_of_W Tryz.func75 rfl rfl ?_
 have hC0 := Ctx.start w0
 unfold Slices.ContainsFunc_Limpl_Told_impl_Told_M_BrokenRules_c1_c1 at hF
 refine W_seq_reg ?_
 refine WL_assign rfl rfl ?_
 refine WL_nil ?_
 refine W_seq_reg ?_
 refine WL_move rfl rfl ?_
 refine WL_move rfl rfl ?_
 obtain ⟨x1, hr1, hF⟩ := bind_some hF
 refine WL_call Tryz.call66 rfl rfl (c_Slices_IndexFunc_Limpl_Told_impl_Told_M_BrokenRules_c1_c1 a1 u1 (g1.now hC0.keep) pb1 ax1 (g2.now hC0.keep) pb2 ax2 (g3.now hC0.keep) x1 hr1) ?_
 intro _ w1 hv1
 obtain ⟨rfl, hB1⟩ := res_int hv1
 have hC1 := hC0.grow hB1
 refine WL_geq rfl rfl rfl ?_
 refine WL_assign rfl rfl ?_
 refine WL_nil ?_
 refine W_ret ?_
 have hq1 := Option.some.inj hF
 subst hq1
 refine fn_ret1 rfl rfl ?_
 exact ⟨_, rfl, bool_res hC1 _⟩

theorem c_M_BrokenRules_c1 {w0 : World} (a1 : (Int × (List Int))) (u1 : Value) (g1 : RO [] w0 u1 a1.2) (pb1 : Nat) (ax1 : (List ((Int × (List Int)) × (List (Int × (List Int)))))) (g2 : ROAt [] w0 pb1 0 ax1) (pb2 : Nat) (ax2 : (List (Int × (List Int) × Int × Int × Int))) (g3 : ROAt [] w0 pb2 0 ax2) (rr : Bool) (hF : M.BrokenRules_c1 a1 ax1 ax2 = some rr) :
 Calls Tryz.prog 86 [(.agg #[(.int .i64 a1.1), u1]), (ptr pb1 0), (ptr pb2 0)].toArray w0 fun e w' => ∃ v, e = .returned v ∧ Res w0 rr v w' := by
 refine calls_of_W Tryz.func86 rfl rfl ?_
 have hC0 := Ctx.start w0
 unfold M.BrokenRules_c1 at hF
 refine W_seq_reg ?_
 refine WL_boxK (cs := [(.int .i64 a1.1), u1]) hC0 rfl rfl rfl (fun b1 w1 hC1 hB1 hN1 => ?_)
 refine WL_assign rfl rfl ?_
 refine WL_nil ?_
 refine W_seq_reg ?_
 refine WL_load ty26 g2 hC1.keep rfl rfl (fun v1 h1 => ?_)
 refine WL_makeFunc rfl rfl ?_
 obtain ⟨x1, hr1, hF⟩ := bind_some hF
 refine WL_call Tryz.call75 rfl rfl (c_Slices_ContainsFunc_Limpl_Told_impl_Told_M_BrokenRules_c1_c1 ax1 v1 (h1.now hC1.keep) pb2 ax2 (g3.now hC1.keep) b1 (a1.1, a1.2) (hC1.boxAt 0 rfl (repw_pair repw_int (repw_slice (g1.now hC1.keep)))) x1 hr1) ?_
 intro _ w2 hv1
 obtain ⟨rfl, hB2⟩ := res_bool hv1
 have hC2 := hC1.grow hB2
 refine WL_not rfl rfl ?_
 refine WL_assign rfl rfl ?_
 refine WL_nil ?_
 refine W_ret ?_
 have hq1 := Option.some.inj hF
 subst hq1
 refine fn_ret1 rfl rfl ?_
 exact ⟨_, rfl, bool_res hC2 _⟩

theorem c_Slices_IndexFunc_Limpl_Fact_impl_Fact_M_BrokenRules_c1 {w0 : World} (a1 : (List (Int × (List Int)))) (u1 : Value) (g1 : RO [] w0 u1 a1) (pb1 : Nat) (ax1 : (List ((Int × (List Int)) × (List (Int × (List Int)))))) (g2 : ROAt [] w0 pb1 0 ax1) (pb2 : Nat) (ax2 : (List (Int × (List Int) × Int × Int × Int))) (g3 : ROAt [] w0 pb2 0 ax2) (rr : Int) (hF : Slices.IndexFunc_Limpl_Fact_impl_Fact_M_BrokenRules_c1 a1 ax1 ax2 = some rr) :
 Calls Tryz.prog 126 [u1, (.func (.func 86) #[] #[(ptr pb1 0), (ptr pb2 0)])].toArray w0 fun e w' => ∃ v, e = .returned v ∧ Res w0 rr v w' := by
 refine calls_of_W Tryz.func126 rfl rfl ?_
 have hC0 := Ctx.start w0
 unfold Slices.IndexFunc_Limpl_Fact_impl_Fact_M_BrokenRules_c1 at hF
 refine W_seq_reg ?_
 refine WL_assign rfl rfl ?_
 refine WL_nil ?_
 refine W_seq ?_
 refine W_seq_reg ?_
 refine WL_move rfl rfl ?_
 refine WL_len Tryz.underlying31 g1 rfl rfl ?_
 refine WL_move rfl rfl ?_
 refine WL_nil ?_
 obtain ⟨r1, hr1, hF⟩ := bind_some hF
 refine W_norm (fun l w => .inl () = r1 ∧ l = [] ∧ Below w0.heap.size w0 w ∧ Ctx [] w0 w []) ?_ ?_
 ·refine W_block ?_
  refine W.sub (l' := [(0, u1), (1, (.func (.func 86) #[] #[(ptr pb1 0), (ptr pb2 0)])), (7, (.int .i64 (List.length a1 : Int))), (8, (.int .i64 0))]) ?_ ⟨rfl, rfl, rfl, rfl, trivial⟩
  refine W_loop (fun k l w => ∃ x1 : Int, l = [(0, u1), (1, (.func (.func 86) #[] #[(ptr pb1 0), (ptr pb2 0)])), (7, (.int .i64 (List.length a1 : Int))), (8, (.int .i64 x1))] ∧ Below w0.heap.size w0 w ∧ Ctx [] w0 w [] ∧ Slices.IndexFunc_Limpl_Fact_impl_Fact_M_BrokenRules_c1_l1 a1 ax1 ax2 k x1 = some r1) FUEL ⟨0, rfl, (Below.refl _ _), hC0, hr1⟩ ?_
  clear hr1
  rintro k1 _ w1 ⟨x1, rfl, hB1, hC1, hL1⟩
  cases k1 with
  | zero => rw [Slices.IndexFunc_Limpl_Fact_impl_Fact_M_BrokenRules_c1_l1] at hL1; cases hL1
  | succ k1 =>
   rw [Slices.IndexFunc_Limpl_Fact_impl_Fact_M_BrokenRules_c1_l1] at hL1
   refine W_seq_reg ?_
   refine WL_lss rfl rfl rfl ?_
   refine WL_nil ?_
   refine W_seq ?_
   refine W_cond rfl (fun hc1 => ?_) (fun hc1 => ?_)
   ·replace hL1 := ite_t hL1 hc1
    refine W_skip ?_
    refine nrm_normal ?_
    refine W_seq ?_
    refine W_block ?_
    refine W_seq_reg ?_
    refine WL_move rfl rfl ?_
    refine WL_assign rfl rfl ?_
    refine WL_nil ?_
    refine W_seq_reg ?_
    refine WL_move rfl rfl ?_
    refine WL_move rfl rfl ?_
    refine WL_move rfl rfl ?_
    obtain ⟨x2, hx1, hL1⟩ := bind_some hL1
    refine WL_index Tryz.underlying31 ty88 g1 hx1 rfl rfl rfl (fun b1 o1 h1 => ?_)
    refine WL_load ty88 h1 hC1.keep rfl rfl (fun v1 h2 => ?_)
    obtain ⟨v2, rfl, h3⟩ := ro_st88 h2
    obtain ⟨x3, hr2, hL1⟩ := bind_some hL1
    refine WL_callv (cap := [(ptr pb1 0), (ptr pb2 0)]) Tryz.call86 rfl rfl rfl (c_M_BrokenRules_c1 x2 v2 (h3.now hC1.keep) pb1 ax1 (g2.now hC1.keep) pb2 ax2 (g3.now hC1.keep) x3 hr2) ?_
    intro _ w2 hv1
    obtain ⟨rfl, hB2⟩ := res_bool hv1
    have hC2 := hC1.grow hB2
    refine WL_nil ?_
    refine W_cond rfl (fun hc2 => ?_) (fun hc2 => ?_)
    ·replace hL1 := ite_t hL1 hc2
     refine W_seq_reg ?_
     refine WL_move rfl rfl ?_
     refine WL_assign rfl rfl ?_
     refine WL_nil ?_
     refine W_ret ?_
     refine blk_ret ?_
     refine nrm_ret ?_
     refine nrm_ret ?_
     refine blk_ret ?_
     refine nrm_ret ?_
     refine nrm_ret ?_
     have hq1 := Option.some.inj hL1
     subst hq1
     dsimp only at hF
     have hq2 := Option.some.inj hF
     subst hq2
     refine fn_ret1 rfl rfl ?_
     exact ⟨_, rfl, int_res hC2 _⟩
    replace hL1 := ite_f hL1 hc2
    refine W_skip ?_
    refine blk_normal ?_
    refine nrm_normal ?_
    refine W_reg ?_
    refine WL_add rfl rfl rfl ?_
    refine WL_move rfl rfl ?_
    refine WL_nil ?_
    refine nrm_sub (l' := [(0, u1), (1, (.func (.func 86) #[] #[(ptr pb1 0), (ptr pb2 0)])), (7, (.int .i64 (List.length a1 : Int))), (8, (.int .i64 (w64 (x1 + 1))))]) ⟨rfl, rfl, rfl, rfl, trivial⟩ ?_
    exact ⟨k1, Nat.lt_succ_self _, w64 (x1 + 1), rfl, ((Keep.of hB1).then hB2).below, hC2, hL1⟩
   replace hL1 := ite_f hL1 hc1
   refine W_exit ?_
   refine nrm_exit ?_
   refine nrm_exit ?_
   refine blk_exit ?_
   have hq3 := Option.some.inj hL1
   subst hq3
   refine nrm_sub (l' := []) trivial ?_
   exact ⟨rfl, rfl, (Keep.of hB1).below, hC1⟩
 rintro l2 _ w3 hs2 ⟨rfl, rfl, hB3, hC3⟩
 try dsimp only at hF
 refine nrm_sub' hs2 ?_
 clear hs2
 refine W_seq_reg ?_
 refine WL_assign rfl rfl ?_
 refine WL_nil ?_
 refine W_ret ?_
 have hq4 := Option.some.inj hF
 subst hq4
 refine fn_ret1 rfl rfl ?_
 exact ⟨_, rfl, int_res hC3 _⟩

theorem c_Slices_DeleteFunc_Limpl_Fact_impl_Fact_M_BrokenRules_c1 {Fs : List (List Nat)} {w0 : World} (a1 : (List (Int × (List Int)))) (u1 : Value) (pb1 : Nat) (ax1 : (List ((Int × (List Int)) × (List (Int × (List Int)))))) (g1 : ROAt Fs.flatten w0 pb1 0 ax1) (pb2 : Nat) (ax2 : (List (Int × (List Int) × Int × Int × Int))) (g2 : ROAt Fs.flatten w0 pb2 0 ax2) (hH : Hold [Item.own u1 (a1 : (List (Int × (List Int))))] w0 Fs) (hn : Fs.flatten.Nodup) (rr : (List (Int × (List Int)))) (hF : Slices.DeleteFunc_Limpl_Fact_impl_Fact_M_BrokenRules_c1 a1 ax1 ax2 = some rr) :
 Calls Tryz.prog 84 [u1, (.func (.func 86) #[] #[(ptr pb1 0), (ptr pb2 0)])].toArray w0 fun e w' => ∃ v, e = .returned v ∧ ∃ q0 : Value, v = q0 ∧ Ctx Fs.flatten w0 w' [Item.own q0 (rr : (List (Int × (List Int))))] := by
 refine calls_of_W Tryz.func84 rfl rfl ?_
 have hC0 := Ctx.startIn hH hn
 unfold Slices.DeleteFunc_Limpl_Fact_impl_Fact_M_BrokenRules_c1 at hF
 obtain ⟨x, hx, hF⟩ := bind_some hF
 refine W_seq_reg ?_
 refine WL_assign rfl rfl ?_
 refine WL_nil ?_
 refine W_seq_reg ?_
 refine WL_move rfl rfl ?_
 refine WL_move rfl rfl ?_
 refine WL_call Tryz.call126 rfl rfl (c_Slices_IndexFunc_Limpl_Fact_impl_Fact_M_BrokenRules_c1 a1 u1 (hC0.ro 0 rfl) pb1 ax1 (g1.now (Keep.refl _ _)) pb2 ax2 (g2.now (Keep.refl _ _)) x hx) ?_
 intro _ w1 hv1
 obtain ⟨rfl, hB1⟩ := res_int hv1
 have hC1 := hC0.grow hB1
 refine WL_assign rfl rfl ?_
 refine WL_nil ?_
 refine W_seq ?_
 refine W_seq_reg ?_
 refine WL_move rfl rfl ?_
 refine WL_eql rfl rfl rfl ?_
 by_cases hx1 : x = -1
 ·rw [if_pos hx1] at hF
  obtain rfl := Option.some.inj hF
  rw [decide_eq_true hx1]
  refine WL_nil ?_
  refine W_cond_t rfl ?_
  refine W_seq_reg ?_
  refine WL_move rfl rfl ?_
  refine WL_assign rfl rfl ?_
  refine WL_nil ?_
  refine W_ret ?_
  refine nrm_ret ?_
  refine fn_ret1 rfl rfl ?_
  exact ⟨_, rfl, _, rfl, hC1⟩
 rw [if_neg hx1] at hF
 have hr : 0 ≤ x ∧ x < (a1.length : Int) := Classical.byContradiction fun h => by rw [if_neg h] at hF; cases hF
 rw [if_pos hr] at hF
 obtain ⟨m, rfl⟩ : ∃ m : Nat, x = m := ⟨x.toNat, by omega⟩
 have hm : m < a1.length := by omega
 have hlim := (hC0.ro 0 rfl).lt
 simp only [maxLen] at hlim
 rw [Int.toNat_natCast] at hF
 rw [decide_eq_false hx1]
 refine WL_nil ?_
 refine W_cond_f rfl ?_
 refine W_skip ?_
 refine nrm_normal ?_
 refine W_seq ?_
 refine W_seq_reg ?_
 refine WL_move rfl rfl ?_
 refine WL_add rfl rfl rfl ?_
 rw [show w64 ((m : Int) + 1) = ((m + 1 : Nat) : Int) by rw [w64_id (by omega) (by omega)]; omega]
 refine WL_assign rfl rfl ?_
 refine WL_nil ?_
 obtain ⟨b, c, rfl, hc1, hc2, hD0⟩ := hC1.del_open hm
 have hml : (a1.take m).length = m := by rw [List.length_take]; omega
 refine W_norm (fun l w => ∃ kept : List (Int × (List Int)), ∃ g : Nat, l = [(0, .slice (some ⟨b, 0, none⟩) a1.length c), (5, .int .i64 (kept.length : Int))] ∧ 0 < g ∧ kept.length + g = a1.length ∧ kept = rr ∧ Ctx Fs.flatten w0 w [Item.del b c kept g ([] : List (Int × (List Int)))]) ?_ ?_
 ·refine W_block ?_
  refine W.sub (l' := [(0, .slice (some ⟨b, 0, none⟩) a1.length c), (1, (.func (.func 86) #[] #[(ptr pb1 0), (ptr pb2 0)])), (5, .int .i64 (m : Int)), (6, .int .i64 ((m + 1 : Nat) : Int))]) ?_ ⟨rfl, rfl, rfl, rfl, trivial⟩
  refine W_loop (fun k l w => ∃ kept : List (Int × (List Int)), ∃ g : Nat, ∃ rest : List (Int × (List Int)), l = [(0, .slice (some ⟨b, 0, none⟩) a1.length c), (1, (.func (.func 86) #[] #[(ptr pb1 0), (ptr pb2 0)])), (5, .int .i64 (kept.length : Int)), (6, .int .i64 ((kept.length + g : Nat) : Int))] ∧ 0 < g ∧ kept.length + g + rest.length = a1.length ∧ dfl (fun e => M.BrokenRules_c1 e ax1 ax2) kept rest = some rr ∧ k = rest.length ∧ Ctx Fs.flatten w0 w [Item.del b c kept g rest]) (a1.drop (m + 1)).length ⟨a1.take m, 1, a1.drop (m + 1), by rw [hml], by omega, by rw [hml, List.length_drop]; omega, hF, rfl, hD0⟩ ?_
  clear hF hD0
  rintro k1 _ w2 ⟨kept, g, rest, rfl, hg, hlen, hL, hk, hD⟩
  refine W_seq ?_
  refine W_seq_reg ?_
  refine WL_move rfl rfl ?_
  refine WL_move rfl rfl ?_
  refine WL_len_raw Tryz.underlying31 rfl rfl ?_
  refine WL_lss rfl rfl rfl ?_
  cases rest with
  | nil =>
   have hq := Option.some.inj hL
   simp only [List.length_nil, Nat.add_zero] at hlen
   rw [decide_eq_false (show ¬ ((kept.length + g : Nat) : Int) < (a1.length : Int) by omega)]
   refine WL_nil ?_
   refine W_cond_f rfl ?_
   refine W_exit ?_
   refine nrm_exit ?_
   refine nrm_exit ?_
   refine blk_exit ?_
   refine nrm_sub (l' := [(0, .slice (some ⟨b, 0, none⟩) a1.length c), (5, .int .i64 (kept.length : Int))]) ⟨rfl, rfl, trivial⟩ ?_
   exact ⟨kept, g, rfl, hg, hlen, hq, hD⟩
  | cons x rest =>
   simp only [List.length_cons] at hlen hk
   rw [decide_eq_true (show ((kept.length + g : Nat) : Int) < (a1.length : Int) by omega)]
   refine WL_nil ?_
   refine W_cond_t rfl ?_
   refine W_skip ?_
   refine nrm_normal ?_
   refine W_seq ?_
   refine W_block ?_
   refine W_seq_reg ?_
   refine WL_move rfl rfl ?_
   refine WL_move rfl rfl ?_
   refine WL_index_raw Tryz.underlying31 ty88 (show kept.length + g < a1.length by omega) rfl rfl rfl ?_
   obtain ⟨cs, hcs, hD1⟩ := hD.del_head
   obtain ⟨hro, row, T, hh, hrow⟩ := hD1.delh_row
   refine WL_load_raw ty88 hh (by rw [Nat.zero_add]; exact hrow) hcs rfl rfl ?_
   obtain ⟨e1, hce, _⟩ := ro_st88 hro
   obtain rfl := cells_of_agg (cs' := [(.int .i64 x.1), e1]) hce
   rw [show mkv (Rep.agg (Int × (List Int))) [(.int .i64 x.1), e1] = (.agg #[(.int .i64 x.1), e1]) from rfl]
   refine WL_alloc hD1 zero88 rfl rfl (fun b7 w3 hD2 hB2 => ?_)
   have phr := hD2.delh_ro (α := (Int × (List Int))) 1 rfl
   obtain ⟨pf0, phe, pg0⟩ := ro_st88 phr
   replace phe := cells_of_agg (cs := [(.int .i64 x.1), e1]) (cs' := [(.int .i64 x.1), pf0]) phe
   simp only [List.cons.injEq, and_true, true_and] at phe
   obtain rfl := phe
   refine WL_store_box_agg (cs' := [(.int .i64 x.1), e1]) (new := [(.int .i64 x.1), e1]) hD2 0 rfl rfl (by intro v hv; simp only [List.mem_cons, List.not_mem_nil, or_false] at hv; rcases hv with rfl | rfl; exact rfl; exact (ro_one pg0)) rfl Tryz.sizeOf88 rfl rfl (fun w4 hD3 => ?_)
   try dsimp only [List.set] at hD3
   refine WL_nil ?_
   refine W_seq_reg ?_
   refine WL_move rfl rfl ?_
   refine WL_load_box_agg [(.int .i64 x.1), e1] hD3 0 rfl rfl rfl Tryz.isAgg88 Tryz.sizeOf88 rfl rfl ?_
   have qhr := hD3.delh_ro (α := (Int × (List Int))) 1 rfl
   obtain ⟨qf0, qhe, qg0⟩ := ro_st88 qhr
   replace qhe := cells_of_agg (cs := [(.int .i64 x.1), e1]) (cs' := [(.int .i64 x.1), qf0]) qhe
   simp only [List.cons.injEq, and_true, true_and] at qhe
   obtain rfl := qhe
   obtain ⟨q, hq, hL⟩ := bind_some (show (M.BrokenRules_c1 x ax1 ax2).bind (fun b => dfl (fun e => M.BrokenRules_c1 e ax1 ax2) (if b then kept else kept ++ [x]) rest) = some rr from hL)
   refine WL_callv (cap := [(ptr pb1 0), (ptr pb2 0)]) Tryz.call86 rfl rfl rfl (c_M_BrokenRules_c1 x e1 qg0 pb1 ax1 (g1.now hD3.keep) pb2 ax2 (g2.now hD3.keep) q hq) ?_
   intro _ w5 hv2
   obtain ⟨rfl, hB5⟩ := res_bool hv2
   have hD4 := hD3.grow hB5
   refine WL_not rfl rfl ?_
   refine WL_nil ?_
   refine W_cond rfl (fun hq1 => ?_) (fun hq1 => ?_)
   ·have hqf : q = false := by simpa using hq1
    rw [hqf] at hL
    rw [if_neg (by simp)] at hL
    refine W_seq_reg ?_
    refine WL_move rfl rfl ?_
    refine WL_move rfl rfl ?_
    refine WL_load_box_agg [(.int .i64 x.1), e1] hD4 0 rfl rfl rfl Tryz.isAgg88 Tryz.sizeOf88 rfl rfl ?_
    refine WL_index_raw Tryz.underlying31 ty88 (show kept.length < a1.length by omega) rfl rfl rfl ?_
    refine WL_store_del hD4.swap hg ty88 rfl rfl rfl (fun w6 hD5 => ?_)
    refine WL_nil ?_
    refine W_reg ?_
    refine WL_move rfl rfl ?_
    refine WL_add rfl rfl rfl ?_
    rw [show w64 ((kept.length : Int) + 1) = ((kept ++ [x]).length : Int) by rw [w64_id (by omega) (by omega), List.length_append]; rfl]
    refine WL_assign rfl rfl ?_
    refine WL_nil ?_
    refine blk_normal ?_
    refine nrm_normal ?_
    refine W_reg ?_
    refine WL_move rfl rfl ?_
    refine WL_add rfl rfl rfl ?_
    rw [show w64 (((kept.length + g : Nat) : Int) + 1) = (((kept ++ [x]).length + g : Nat) : Int) by rw [w64_id (by omega) (by omega), List.length_append]; simp only [List.length_cons, List.length_nil]; omega]
    refine WL_assign rfl rfl ?_
    refine WL_nil ?_
    refine nrm_sub (l' := [(0, .slice (some ⟨b, 0, none⟩) a1.length c), (1, (.func (.func 86) #[] #[(ptr pb1 0), (ptr pb2 0)])), (5, .int .i64 ((kept ++ [x]).length : Int)), (6, .int .i64 (((kept ++ [x]).length + g : Nat) : Int))]) ⟨rfl, rfl, rfl, rfl, trivial⟩ ?_
    exact ⟨rest.length, by omega, kept ++ [x], g, rest, rfl, hg, by rw [List.length_append]; simp only [List.length_cons, List.length_nil]; omega, hL, rfl, hD5.headN 1⟩
   have hqt : q = true := by simpa using hq1
   rw [hqt] at hL
   rw [if_pos rfl] at hL
   refine W_skip ?_
   refine blk_normal ?_
   refine nrm_normal ?_
   refine W_reg ?_
   refine WL_move rfl rfl ?_
   refine WL_add rfl rfl rfl ?_
   rw [show w64 (((kept.length + g : Nat) : Int) + 1) = ((kept.length + (g + 1) : Nat) : Int) by rw [w64_id (by omega) (by omega)]; omega]
   refine WL_assign rfl rfl ?_
   refine WL_nil ?_
   refine nrm_sub (l' := [(0, .slice (some ⟨b, 0, none⟩) a1.length c), (1, (.func (.func 86) #[] #[(ptr pb1 0), (ptr pb2 0)])), (5, .int .i64 (kept.length : Int)), (6, .int .i64 ((kept.length + (g + 1) : Nat) : Int))]) ⟨rfl, rfl, rfl, rfl, trivial⟩ ?_
   have hD5 := (hD4.swap.headN 1).del_skip
   exact ⟨rest.length, by omega, kept, g + 1, rest, rfl, by omega, by omega, hL, rfl, hD5⟩
 rintro l2 _ w8 hs2 ⟨kept, g, rfl, hg, hlen, rfl, hD⟩
 refine nrm_sub' hs2 ?_
 clear hs2
 refine W_seq_reg ?_
 refine WL_move rfl rfl ?_
 refine WL_move rfl rfl ?_
 refine WL_sl_l Tryz.underlying31 ty88 (show kept.length < c by omega) (show kept.length ≤ a1.length by omega) hc1 rfl rfl rfl ?_
 refine WL_clear_del hD Tryz.underlying31 ty88 zc88 (by intro v hv; simp only [List.mem_cons, List.not_mem_nil, or_false] at hv; rcases hv with rfl | rfl <;> rfl) hlen.symm rfl hg (fun w9 hD9 => ?_)
 refine WL_nil ?_
 refine W_seq_reg ?_
 refine WL_move rfl rfl ?_
 refine WL_move rfl rfl ?_
 refine WL_sl_h Tryz.underlying31 ty88 (hi := kept.length) (by omega) (by omega) rfl rfl rfl ?_
 refine WL_assign rfl rfl ?_
 refine WL_nil ?_
 refine W_ret ?_
 refine fn_ret1 rfl rfl ?_
 exact ⟨_, rfl, _, rfl, hD9⟩

theorem c_M_BrokenRules {w0 : World} (a1 : (List Int)) (u1 : Value) (g1 : RO [] w0 u1 a1) (a2 : (List (Int × (List Int) × Int × Int × Int))) (u2 : Value) (g2 : RO [] w0 u2 a2) (a3 : (List (Int × Int × (List Int)))) (u3 : Value) (g3 : RO [] w0 u3 a3) (a4 : (List ((Int × (List Int)) × (List (Int × (List Int)))))) (u4 : Value) (g4 : RO [] w0 u4 a4) (rr : (List (Int × (List Int)))) (hF : M.BrokenRules a1 a2 a3 a4 = some rr) :
 Calls Tryz.prog 23 [u1, u2, u3, u4].toArray w0 fun e w' => ∃ v, e = .returned v ∧ Res w0 rr v w' := by
 refine calls_of_W Tryz.func23 rfl rfl ?_
 have hC0 := Ctx.start w0
 unfold M.BrokenRules at hF
 refine W_seq_reg ?_
 refine WL_boxK (cs := [u2]) hC0 (ro_cells g2) rfl rfl (fun b1 w1 hC1 hB1 hN1 => ?_)
 refine WL_boxK (cs := [u4]) hC1 (ro_cells g4) rfl rfl (fun b2 w2 hC2 hB2 hN2 => ?_)
 refine WL_assign rfl rfl ?_
 refine WL_nil ?_
 refine W_seq ?_
 obtain ⟨r1, hr1, hF⟩ := bind_some hF
 refine W_cut (fun l w => ∃ x1 : Bool, x1 = r1 ∧ l = [(2, u3), (5, (ptr b1 0)), (7, (ptr b2 0)), (19, (.bool x1))] ∧ Below w2.heap.size w2 w ∧ Ctx [] w0 w [Item.box b2 [u4], Item.box b1 [u2]]) ?_ ?_
 ·refine W_reg ?_
  refine WL_move rfl rfl ?_
  refine WL_move rfl rfl ?_
  obtain ⟨x2, hr2, hr1⟩ := bind_some hr1
  refine WL_call Tryz.call83 rfl rfl (c_M_AreRules a1 u1 (g1.now hC2.keep) a3 u3 (g3.now hC2.keep) x2 hr2) ?_
  intro _ w4 hv1
  obtain ⟨rfl, hB4⟩ := res_bool hv1
  have hC4 := hC2.grow hB4
  refine WL_not rfl rfl ?_
  refine WL_move rfl rfl ?_
  refine WL_fork (fun hc1 => ?_) (fun hc1 => ?_)
  ·replace hr1 := ite_t hr1 hc1
   refine WL_guard_skip rfl rfl (by simp) rfl ?_
   refine WL_guard_skip rfl rfl (by simp) rfl ?_
   refine WL_guard_skip rfl rfl (by simp) rfl ?_
   refine WL_guard_skip rfl rfl (by simp) rfl ?_
   refine WL_guard_skip rfl rfl (by simp) rfl ?_
   refine WL_pick_t rfl rfl rfl ?_
   refine WL_nil ?_
   have hq1 := Option.some.inj hr1
   subst hq1
   refine nrm_sub (l' := [(2, u3), (5, (ptr b1 0)), (7, (ptr b2 0)), (19, (.bool true))]) ⟨rfl, rfl, rfl, rfl, trivial⟩ ?_
   exact ⟨true, rfl, rfl, (Keep.of hB4).below, hC4⟩
  replace hr1 := ite_f hr1 hc1
  refine WL_guard rfl rfl ?_
  refine WL_move rfl rfl ?_
  refine WL_guard rfl rfl ?_
  refine WL_load_box hC4 1 rfl rfl Tryz.isAgg25 rfl rfl ?_
  refine WL_guard rfl rfl ?_
  refine WL_load_box hC4 0 rfl rfl Tryz.isAgg26 rfl rfl ?_
  obtain ⟨x3, hr3, hr1⟩ := bind_some hr1
  refine WL_guard rfl rfl ?_
  refine WL_call Tryz.call16 rfl rfl (c_M_IsConsistent a1 u1 (g1.now hC4.keep) a2 u2 (g2.now hC4.keep) a4 u4 (g4.now hC4.keep) x3 hr3) ?_
  intro _ w5 hv2
  obtain ⟨rfl, hB5⟩ := res_bool hv2
  have hC5 := hC4.grow hB5
  refine WL_guard rfl rfl ?_
  refine WL_not rfl rfl ?_
  refine WL_pick_f rfl rfl rfl ?_
  refine WL_nil ?_
  have hq2 := Option.some.inj hr1
  subst hq2
  refine nrm_sub (l' := [(2, u3), (5, (ptr b1 0)), (7, (ptr b2 0)), (19, (.bool (!x3)))]) ⟨rfl, rfl, rfl, rfl, trivial⟩ ?_
  exact ⟨(!x3), rfl, rfl, ((Keep.of hB4).then hB5).below, hC5⟩
 rintro _ w3 ⟨x1, rfl, rfl, hB3, hC3⟩
 try dsimp only at hF
 refine W_cond rfl (fun hc2 => ?_) (fun hc2 => ?_)
 ·replace hF := ite_t hF hc2
  refine W_seq_reg ?_
  refine WL_assign rfl rfl ?_
  refine WL_nil ?_
  refine W_ret ?_
  refine nrm_ret ?_
  have hq3 := Option.some.inj hF
  subst hq3
  refine fn_ret1 rfl rfl ?_
  exact ⟨_, rfl, nil_res hC3⟩
 replace hF := ite_f hF hc2
 refine W_skip ?_
 refine nrm_normal ?_
 refine W_seq_reg ?_
 refine WL_move rfl rfl ?_
 refine WL_load_box hC3 0 rfl rfl Tryz.isAgg26 rfl rfl ?_
 obtain ⟨x4, hr4, hF⟩ := bind_some hF
 refine WL_call Tryz.call13 rfl rfl (c_M_UnionOf a4 u4 (g4.now hC3.keep) x4 hr4) ?_
 rintro v1 w6 ⟨hB6, F1, hv3, hn1, hb1⟩
 have hC6 := hC3.push hB6 (A := Item.own v1 x4) hv3 hn1 hb1
 obtain ⟨x5, hr5, hF⟩ := bind_some hF
 refine WL_call Tryz.call85 rfl rfl (c_M_missing a3 u3 (g3.now hC6.keep) x4 v1 ((hC6.ro 0 rfl).now (Keep.refl _ _)) x5 hr5) ?_
 rintro v2 w7 ⟨hB7, F2, hv4, hn2, hb2⟩
 have hC7 := hC6.push hB7 (A := Item.own v2 x5) hv4 hn2 hb2
 refine WL_makeFunc rfl rfl ?_
 obtain ⟨x6, hr6, hF⟩ := bind_some hF
 obtain ⟨Fs1, hH1, hn3, hF1, hO1, hX1, hb3⟩ := Ctx.lend3 (As := [Item.own v1 (x4 : (List (Int × (List Int)))), Item.box b2 [u4], Item.box b1 [u2]]) [Item.own v2 (x5 : (List (Int × (List Int))))] hC7
 refine WL_call Tryz.call84 rfl rfl (c_Slices_DeleteFunc_Limpl_Fact_impl_Fact_M_BrokenRules_c1 x5 v2 b2 a4 (roat_box (hX1 1 _ _ rfl) (repd_slice (RO.lent g4 hC7.keep hF1))) b1 a2 (roat_box (hX1 2 _ _ rfl) (repd_slice (RO.lent g2 hC7.keep hF1))) hH1 hn3 x6 hr6) ?_
 rintro v3 w9 ⟨_, rfl, hq4⟩
 have hC9 : Ctx [] w0 w9 [Item.own v3 (x6 : (List (Int × (List Int)))), Item.own v1 (x4 : (List (Int × (List Int)))), Item.box b2 [u4], Item.box b1 [u2]] := hb3 _ _ hq4
 refine WL_assign rfl rfl ?_
 refine WL_nil ?_
 refine W_ret ?_
 have hq5 := Option.some.inj hF
 subst hq5
 refine fn_ret1 rfl rfl ?_
 exact ⟨_, rfl, own_res hC9 0 rfl⟩

theorem c_S_CompareFacts {w0 : World} (a1 : (Int × (List Int))) (u1 : Value) (g1 : RO [] w0 u1 a1.2) (a2 : (Int × (List Int))) (u2 : Value) (g2 : RO [] w0 u2 a2.2) (rr : Int) (hF : S.CompareFacts a1 a2 = some rr) :
 Calls Tryz.prog 69 [(.agg #[(.int .i64 a1.1), u1]), (.agg #[(.int .i64 a2.1), u2])].toArray w0 fun e w' => ∃ v, e = .returned v ∧ Res w0 rr v w' := by
 refine calls_of_W Tryz.func69 rfl rfl ?_
 have hC0 := Ctx.start w0
 unfold S.CompareFacts at hF
 refine W_seq_reg ?_
 refine WL_boxK (cs := [(.int .i64 a1.1), u1]) hC0 rfl rfl rfl (fun b1 w1 hC1 hB1 hN1 => ?_)
 refine WL_boxK (cs := [(.int .i64 a2.1), u2]) hC1 rfl rfl rfl (fun b2 w2 hC2 hB2 hN2 => ?_)
 refine WL_assign rfl rfl ?_
 refine WL_nil ?_
 refine W_seq ?_
 refine W_seq_reg ?_
 refine WL_field Tryz.underlying88 rfl rfl (fun w => ⟨_, Tryz.sizeOf3 w⟩) rfl rfl ?_
 refine WL_load_box hC2 1 rfl rfl Tryz.isAgg3 rfl rfl ?_
 refine WL_field Tryz.underlying88 rfl rfl (fun w => ⟨_, Tryz.sizeOf3 w⟩) rfl rfl ?_
 refine WL_load_box hC2 0 rfl rfl Tryz.isAgg3 rfl rfl ?_
 refine WL_neq rfl rfl rfl ?_
 refine WL_nil ?_
 refine W_cond rfl (fun hc1 => ?_) (fun hc1 => ?_)
 ·replace hF := ite_t hF hc1
  refine W_seq ?_
  refine W_seq_reg ?_
  refine WL_field Tryz.underlying88 rfl rfl (fun w => ⟨_, Tryz.sizeOf3 w⟩) rfl rfl ?_
  refine WL_load_box hC2 1 rfl rfl Tryz.isAgg3 rfl rfl ?_
  refine WL_field Tryz.underlying88 rfl rfl (fun w => ⟨_, Tryz.sizeOf3 w⟩) rfl rfl ?_
  refine WL_load_box hC2 0 rfl rfl Tryz.isAgg3 rfl rfl ?_
  refine WL_lss rfl rfl rfl ?_
  refine WL_nil ?_
  refine W_cond rfl (fun hc2 => ?_) (fun hc2 => ?_)
  ·replace hF := ite_t hF hc2
   refine W_seq_reg ?_
   refine WL_assign rfl rfl ?_
   refine WL_nil ?_
   refine W_ret ?_
   refine nrm_ret ?_
   refine nrm_ret ?_
   have hq1 := Option.some.inj hF
   subst hq1
   refine fn_ret1 rfl rfl ?_
   exact ⟨_, rfl, int_res hC2 _⟩
  replace hF := ite_f hF hc2
  refine W_skip ?_
  refine nrm_normal ?_
  refine W_seq_reg ?_
  refine WL_assign rfl rfl ?_
  refine WL_nil ?_
  refine W_ret ?_
  refine nrm_ret ?_
  have hq2 := Option.some.inj hF
  subst hq2
  refine fn_ret1 rfl rfl ?_
  exact ⟨_, rfl, int_res hC2 _⟩
 replace hF := ite_f hF hc1
 refine W_skip ?_
 refine nrm_normal ?_
 refine W_seq ?_
 refine W_seq_reg ?_
 refine WL_assign rfl rfl ?_
 refine WL_nil ?_
 obtain ⟨r1, hr1, hF⟩ := bind_some hF
 refine W_norm (fun l w => .inl () = r1 ∧ l = [(2, (ptr b1 0)), (3, (ptr b2 0))] ∧ Below w2.heap.size w2 w ∧ Ctx [] w0 w [Item.box b2 [(.int .i64 a2.1), u2], Item.box b1 [(.int .i64 a1.1), u1]]) ?_ ?_
 ·refine W_block ?_
  refine W.sub (l' := [(2, (ptr b1 0)), (3, (ptr b2 0)), (5, (.int .i64 0))]) ?_ ⟨rfl, rfl, rfl, trivial⟩
  refine W_loop (fun k l w => ∃ x1 : Int, l = [(2, (ptr b1 0)), (3, (ptr b2 0)), (5, (.int .i64 x1))] ∧ Below w2.heap.size w2 w ∧ Ctx [] w0 w [Item.box b2 [(.int .i64 a2.1), u2], Item.box b1 [(.int .i64 a1.1), u1]] ∧ S.CompareFacts_l1 a1 a2 k x1 = some r1) FUEL ⟨0, rfl, (Below.refl _ _), hC2, hr1⟩ ?_
  clear hr1
  rintro k1 _ w3 ⟨x1, rfl, hB3, hC3, hL1⟩
  cases k1 with
  | zero => rw [S.CompareFacts_l1] at hL1; cases hL1
  | succ k1 =>
   rw [S.CompareFacts_l1] at hL1
   refine W_seq ?_
   obtain ⟨r2, hr2, hL1⟩ := bind_some hL1
   refine W_cut (fun l w => ∃ x2 : Bool, x2 = r2 ∧ l = [(2, (ptr b1 0)), (3, (ptr b2 0)), (5, (.int .i64 x1)), (27, (.bool x2))] ∧ Below w3.heap.size w3 w ∧ Ctx [] w0 w [Item.box b2 [(.int .i64 a2.1), u2], Item.box b1 [(.int .i64 a1.1), u1]]) ?_ ?_
   ·refine W_reg ?_
    refine WL_move rfl rfl ?_
    refine WL_field Tryz.underlying88 rfl rfl (fun w => ⟨_, Tryz.sizeOf24 w⟩) rfl rfl ?_
    refine WL_load_box hC3 1 rfl rfl Tryz.isAgg24 rfl rfl ?_
    refine WL_len Tryz.underlying24 g1 rfl rfl ?_
    refine WL_lss rfl rfl rfl ?_
    refine WL_move rfl rfl ?_
    refine WL_fork (fun hc3 => ?_) (fun hc3 => ?_)
    ·replace hr2 := ite_t hr2 hc3
     refine WL_guard rfl rfl ?_
     refine WL_move rfl rfl ?_
     refine WL_guard rfl rfl ?_
     refine WL_field Tryz.underlying88 rfl rfl (fun w => ⟨_, Tryz.sizeOf24 w⟩) rfl rfl ?_
     refine WL_guard rfl rfl ?_
     refine WL_load_box hC3 0 rfl rfl Tryz.isAgg24 rfl rfl ?_
     refine WL_guard rfl rfl ?_
     refine WL_len Tryz.underlying24 g2 rfl rfl ?_
     refine WL_guard rfl rfl ?_
     refine WL_lss rfl rfl rfl ?_
     refine WL_pick_t rfl rfl rfl ?_
     refine WL_nil ?_
     have hq3 := Option.some.inj hr2
     subst hq3
     refine nrm_sub (l' := [(2, (ptr b1 0)), (3, (ptr b2 0)), (5, (.int .i64 x1)), (27, (.bool (decide (x1 < (List.length a2.2 : Int)))))]) ⟨rfl, rfl, rfl, rfl, trivial⟩ ?_
     exact ⟨(decide (x1 < (List.length a2.2 : Int))), rfl, rfl, (Below.refl _ _), hC3⟩
    replace hr2 := ite_f hr2 hc3
    refine WL_guard_skip rfl rfl (by simp) rfl ?_
    refine WL_guard_skip rfl rfl (by simp) rfl ?_
    refine WL_guard_skip rfl rfl (by simp) rfl ?_
    refine WL_guard_skip rfl rfl (by simp) rfl ?_
    refine WL_guard_skip rfl rfl (by simp) rfl ?_
    refine WL_pick_f rfl rfl rfl ?_
    refine WL_nil ?_
    have hq4 := Option.some.inj hr2
    subst hq4
    refine nrm_sub (l' := [(2, (ptr b1 0)), (3, (ptr b2 0)), (5, (.int .i64 x1)), (27, (.bool false))]) ⟨rfl, rfl, rfl, rfl, trivial⟩ ?_
    exact ⟨false, rfl, rfl, (Below.refl _ _), hC3⟩
   rintro _ w4 ⟨x2, rfl, rfl, hB4, hC4⟩
   try dsimp only at hL1
   refine W_cond rfl (fun hc4 => ?_) (fun hc4 => ?_)
   ·replace hL1 := ite_t hL1 hc4
    refine W_skip ?_
    refine nrm_normal ?_
    refine W_seq ?_
    refine W_block ?_
    refine W_seq ?_
    refine W_seq ?_
    refine W_drawn 11 rfl hmix (fun w5 hB5 => ?_)
    have hC5 := hC4.grow hB5
    refine WA_tk 0 (by kernel_rfl) rfl rfl (fl_field Tryz.underlying88 rfl rfl (fun w => ⟨_, Tryz.sizeOf24 w⟩) rfl) ?_
    refine WL_field Tryz.underlying88 rfl rfl (fun w => ⟨_, Tryz.sizeOf24 w⟩) rfl rfl ?_
    refine WL_nil ?_
    refine WA_tk 2 (by kernel_rfl) rfl rfl (fl_move rfl) ?_
    refine WL_move rfl rfl ?_
    refine WL_nil ?_
    refine WA_tk 5 (by kernel_rfl) rfl rfl (fl_field Tryz.underlying88 rfl rfl (fun w => ⟨_, Tryz.sizeOf24 w⟩) rfl) ?_
    refine WL_field Tryz.underlying88 rfl rfl (fun w => ⟨_, Tryz.sizeOf24 w⟩) rfl rfl ?_
    refine WL_nil ?_
    refine WA_tk 7 (by kernel_rfl) rfl rfl (fl_move rfl) ?_
    refine WL_move rfl rfl ?_
    refine WL_nil ?_
    obtain ⟨x3, hx1, hL1⟩ := bind_some hL1
    obtain ⟨x4, hx2, hL1⟩ := bind_some hL1
    refine WA.sub (l' := [(2, (ptr b1 0)), (3, (ptr b2 0)), (5, (.int .i64 x1)), (27, (.bool x2)), (30, (ptr b1 1)), (32, (.int .i64 x1)), (35, (ptr b2 1)), (37, (.int .i64 x1))]) ?_ ⟨rfl, rfl, rfl, rfl, rfl, rfl, rfl, rfl, trivial⟩
    refine WA_postsE [⟨1, [], fun vs => PW.val u1, []⟩, ⟨3, [], fun vs => PW.at [] w0 x3, []⟩, ⟨4, [], fun vs => PW.val (.int .i64 x3), []⟩, ⟨6, [], fun vs => PW.val u2, []⟩, ⟨8, [], fun vs => PW.at [] w0 x4, []⟩, ⟨9, [], fun vs => PW.val (.int .i64 x4), []⟩] [[], [1], [3], [], [6], [8]] 1 rfl (by kernel_rfl) (by kernel_rfl) rfl ?_ ?_
    ·refine StepsE_cons rfl ?_ ?_
     ·intro w6 hB6
      refine DepsE_nil ?_
      refine ⟨_, rfl, ?_⟩
      refine WL_load_box (hC5.grow hB6) 1 rfl rfl Tryz.isAgg24 rfl rfl ?_
      refine WL_nil ?_
      exact FinE_val (Below.refl _ _) rfl rfl ⟨rfl, rfl⟩
     refine StepsE_cons rfl ?_ ?_
     ·intro w6 hB6
      refine DepsE_cons rfl rfl rfl ?_
      rintro _ _ ⟨rfl, rfl⟩ _
      refine DepsE_nil ?_
      refine ⟨_, rfl, ?_⟩
      refine WL_index Tryz.underlying24 ty3 g1 hx1 rfl rfl rfl (fun b3 o1 h1 => ?_)
      refine WL_nil ?_
      exact FinE_val (Below.refl _ _) rfl rfl ⟨rfl, _, _, rfl, h1⟩
     refine StepsE_cons rfl ?_ ?_
     ·intro w6 hB6
      refine DepsE_cons rfl rfl rfl ?_
      rintro _ _ ⟨rfl, b3, o1, rfl, h1⟩ _
      refine DepsE_nil ?_
      refine ⟨_, rfl, ?_⟩
      refine WL_load ty3 h1 (hC5.keep.then hB6) rfl rfl (fun v1 h2 => ?_)
      obtain rfl := ro_int h2
      refine WL_nil ?_
      exact FinE_val (Below.refl _ _) rfl rfl ⟨rfl, rfl⟩
     refine StepsE_cons rfl ?_ ?_
     ·intro w6 hB6
      refine DepsE_nil ?_
      refine ⟨_, rfl, ?_⟩
      refine WL_load_box (hC5.grow hB6) 0 rfl rfl Tryz.isAgg24 rfl rfl ?_
      refine WL_nil ?_
      exact FinE_val (Below.refl _ _) rfl rfl ⟨rfl, rfl⟩
     refine StepsE_cons rfl ?_ ?_
     ·intro w6 hB6
      refine DepsE_cons rfl rfl rfl ?_
      rintro _ _ ⟨rfl, rfl⟩ _
      refine DepsE_nil ?_
      refine ⟨_, rfl, ?_⟩
      refine WL_index Tryz.underlying24 ty3 g2 hx2 rfl rfl rfl (fun b4 o2 h3 => ?_)
      refine WL_nil ?_
      exact FinE_val (Below.refl _ _) rfl rfl ⟨rfl, _, _, rfl, h3⟩
     refine StepsE_cons rfl ?_ ?_
     ·intro w6 hB6
      refine DepsE_cons rfl rfl rfl ?_
      rintro _ _ ⟨rfl, b4, o2, rfl, h3⟩ _
      refine DepsE_nil ?_
      refine ⟨_, rfl, ?_⟩
      refine WL_load ty3 h3 (hC5.keep.then hB6) rfl rfl (fun v2 h4 => ?_)
      obtain rfl := ro_int h4
      refine WL_nil ?_
      exact FinE_val (Below.refl _ _) rfl rfl ⟨rfl, rfl⟩
     exact StepsE_nil
    intro w7 hB7
    refine AllE_cons rfl rfl rfl ?_
    rintro _ _ ⟨rfl, rfl⟩
    refine AllE_cons rfl rfl rfl ?_
    rintro _ _ ⟨rfl, b3, o1, rfl, h1⟩
    refine AllE_cons rfl rfl rfl ?_
    rintro _ _ ⟨rfl, rfl⟩
    refine AllE_cons rfl rfl rfl ?_
    rintro _ _ ⟨rfl, rfl⟩
    refine AllE_cons rfl rfl rfl ?_
    rintro _ _ ⟨rfl, b4, o2, rfl, h3⟩
    refine AllE_cons rfl rfl rfl ?_
    rintro _ _ ⟨rfl, rfl⟩
    refine AllE_nil ?_
    intro hn1 hb1
    have hC6 := hC5.grow hB7
    refine WA_tk 10 (by kernel_rfl) rfl rfl (fl_lss rfl rfl) ?_
    refine WL_lss rfl rfl rfl ?_
    refine WL_nil ?_
    refine WA_done (by kernel_rfl) ?_
    refine nrm_normal ?_
    refine W_cond rfl (fun hc5 => ?_) (fun hc5 => ?_)
    ·replace hL1 := ite_t hL1 hc5
     refine W_seq_reg ?_
     refine WL_assign rfl rfl ?_
     refine WL_nil ?_
     refine W_ret ?_
     refine nrm_ret ?_
     refine blk_ret ?_
     refine nrm_ret ?_
     refine nrm_ret ?_
     refine blk_ret ?_
     refine nrm_ret ?_
     refine nrm_ret ?_
     have hq5 := Option.some.inj hL1
     subst hq5
     dsimp only at hF
     have hq6 := Option.some.inj hF
     subst hq6
     refine fn_ret1 rfl rfl ?_
     exact ⟨_, rfl, int_res hC6 _⟩
    replace hL1 := ite_f hL1 hc5
    refine W_skip ?_
    refine nrm_normal ?_
    refine W_seq ?_
    refine W_drawn 11 rfl hmix (fun w9 hB8 => ?_)
    have hC7 := hC6.grow hB8
    refine WA_tk 0 (by kernel_rfl) rfl rfl (fl_field Tryz.underlying88 rfl rfl (fun w => ⟨_, Tryz.sizeOf24 w⟩) rfl) ?_
    refine WL_field Tryz.underlying88 rfl rfl (fun w => ⟨_, Tryz.sizeOf24 w⟩) rfl rfl ?_
    refine WL_nil ?_
    refine WA_tk 2 (by kernel_rfl) rfl rfl (fl_move rfl) ?_
    refine WL_move rfl rfl ?_
    refine WL_nil ?_
    refine WA_tk 5 (by kernel_rfl) rfl rfl (fl_field Tryz.underlying88 rfl rfl (fun w => ⟨_, Tryz.sizeOf24 w⟩) rfl) ?_
    refine WL_field Tryz.underlying88 rfl rfl (fun w => ⟨_, Tryz.sizeOf24 w⟩) rfl rfl ?_
    refine WL_nil ?_
    refine WA_tk 7 (by kernel_rfl) rfl rfl (fl_move rfl) ?_
    refine WL_move rfl rfl ?_
    refine WL_nil ?_
    obtain ⟨x5, hx3, hL1⟩ := bind_some hL1
    obtain ⟨x6, hx4, hL1⟩ := bind_some hL1
    refine WA.sub (l' := [(2, (ptr b1 0)), (3, (ptr b2 0)), (5, (.int .i64 x1)), (27, (.bool x2)), (30, (ptr b1 1)), (31, u1), (32, (.int .i64 x1)), (33, (ptr b3 o1)), (34, (.int .i64 x3)), (35, (ptr b2 1)), (36, u2), (37, (.int .i64 x1)), (38, (ptr b4 o2)), (39, (.int .i64 x4)), (40, (.bool (decide (x3 < x4)))), (41, (ptr b1 1)), (43, (.int .i64 x1)), (46, (ptr b2 1)), (48, (.int .i64 x1))]) ?_ ⟨rfl, rfl, rfl, rfl, rfl, rfl, rfl, rfl, rfl, rfl, rfl, rfl, rfl, rfl, rfl, rfl, rfl, rfl, rfl, trivial⟩
    refine WA_postsE [⟨1, [], fun vs => PW.val u1, []⟩, ⟨3, [], fun vs => PW.at [] w0 x5, []⟩, ⟨4, [], fun vs => PW.val (.int .i64 x5), []⟩, ⟨6, [], fun vs => PW.val u2, []⟩, ⟨8, [], fun vs => PW.at [] w0 x6, []⟩, ⟨9, [], fun vs => PW.val (.int .i64 x6), []⟩] [[], [1], [3], [], [6], [8]] 1 rfl (by kernel_rfl) (by kernel_rfl) rfl ?_ ?_
    ·refine StepsE_cons rfl ?_ ?_
     ·intro w10 hB9
      refine DepsE_nil ?_
      refine ⟨_, rfl, ?_⟩
      refine WL_load_box (hC7.grow hB9) 1 rfl rfl Tryz.isAgg24 rfl rfl ?_
      refine WL_nil ?_
      exact FinE_val (Below.refl _ _) rfl rfl ⟨rfl, rfl⟩
     refine StepsE_cons rfl ?_ ?_
     ·intro w10 hB9
      refine DepsE_cons rfl rfl rfl ?_
      rintro _ _ ⟨rfl, rfl⟩ _
      refine DepsE_nil ?_
      refine ⟨_, rfl, ?_⟩
      refine WL_index Tryz.underlying24 ty3 g1 hx3 rfl rfl rfl (fun b5 o3 h5 => ?_)
      refine WL_nil ?_
      exact FinE_val (Below.refl _ _) rfl rfl ⟨rfl, _, _, rfl, h5⟩
     refine StepsE_cons rfl ?_ ?_
     ·intro w10 hB9
      refine DepsE_cons rfl rfl rfl ?_
      rintro _ _ ⟨rfl, b5, o3, rfl, h5⟩ _
      refine DepsE_nil ?_
      refine ⟨_, rfl, ?_⟩
      refine WL_load ty3 h5 (hC7.keep.then hB9) rfl rfl (fun v3 h6 => ?_)
      obtain rfl := ro_int h6
      refine WL_nil ?_
      exact FinE_val (Below.refl _ _) rfl rfl ⟨rfl, rfl⟩
     refine StepsE_cons rfl ?_ ?_
     ·intro w10 hB9
      refine DepsE_nil ?_
      refine ⟨_, rfl, ?_⟩
      refine WL_load_box (hC7.grow hB9) 0 rfl rfl Tryz.isAgg24 rfl rfl ?_
      refine WL_nil ?_
      exact FinE_val (Below.refl _ _) rfl rfl ⟨rfl, rfl⟩
     refine StepsE_cons rfl ?_ ?_
     ·intro w10 hB9
      refine DepsE_cons rfl rfl rfl ?_
      rintro _ _ ⟨rfl, rfl⟩ _
      refine DepsE_nil ?_
      refine ⟨_, rfl, ?_⟩
      refine WL_index Tryz.underlying24 ty3 g2 hx4 rfl rfl rfl (fun b6 o4 h7 => ?_)
      refine WL_nil ?_
      exact FinE_val (Below.refl _ _) rfl rfl ⟨rfl, _, _, rfl, h7⟩
     refine StepsE_cons rfl ?_ ?_
     ·intro w10 hB9
      refine DepsE_cons rfl rfl rfl ?_
      rintro _ _ ⟨rfl, b6, o4, rfl, h7⟩ _
      refine DepsE_nil ?_
      refine ⟨_, rfl, ?_⟩
      refine WL_load ty3 h7 (hC7.keep.then hB9) rfl rfl (fun v4 h8 => ?_)
      obtain rfl := ro_int h8
      refine WL_nil ?_
      exact FinE_val (Below.refl _ _) rfl rfl ⟨rfl, rfl⟩
     exact StepsE_nil
    intro w11 hB10
    refine AllE_cons rfl rfl rfl ?_
    rintro _ _ ⟨rfl, rfl⟩
    refine AllE_cons rfl rfl rfl ?_
    rintro _ _ ⟨rfl, b5, o3, rfl, h5⟩
    refine AllE_cons rfl rfl rfl ?_
    rintro _ _ ⟨rfl, rfl⟩
    refine AllE_cons rfl rfl rfl ?_
    rintro _ _ ⟨rfl, rfl⟩
    refine AllE_cons rfl rfl rfl ?_
    rintro _ _ ⟨rfl, b6, o4, rfl, h7⟩
    refine AllE_cons rfl rfl rfl ?_
    rintro _ _ ⟨rfl, rfl⟩
    refine AllE_nil ?_
    intro hn2 hb2
    have hC8 := hC7.grow hB10
    refine WA_tk 10 (by kernel_rfl) rfl rfl (fl_gtr rfl rfl) ?_
    refine WL_gtr rfl rfl rfl ?_
    refine WL_nil ?_
    refine WA_done (by kernel_rfl) ?_
    refine nrm_normal ?_
    refine W_cond rfl (fun hc6 => ?_) (fun hc6 => ?_)
    ·replace hL1 := ite_t hL1 hc6
     refine W_seq_reg ?_
     refine WL_assign rfl rfl ?_
     refine WL_nil ?_
     refine W_ret ?_
     refine blk_ret ?_
     refine nrm_ret ?_
     refine nrm_ret ?_
     refine blk_ret ?_
     refine nrm_ret ?_
     refine nrm_ret ?_
     have hq7 := Option.some.inj hL1
     subst hq7
     dsimp only at hF
     have hq8 := Option.some.inj hF
     subst hq8
     refine fn_ret1 rfl rfl ?_
     exact ⟨_, rfl, int_res hC8 _⟩
    replace hL1 := ite_f hL1 hc6
    refine W_skip ?_
    refine blk_normal ?_
    refine nrm_normal ?_
    refine W_reg ?_
    refine WL_move rfl rfl ?_
    refine WL_add rfl rfl rfl ?_
    refine WL_assign rfl rfl ?_
    refine WL_nil ?_
    refine nrm_sub (l' := [(2, (ptr b1 0)), (3, (ptr b2 0)), (5, (.int .i64 (w64 (x1 + 1))))]) ⟨rfl, rfl, rfl, trivial⟩ ?_
    exact ⟨k1, Nat.lt_succ_self _, w64 (x1 + 1), rfl, ((((((Keep.of hB3).then hB4).then hB5).then hB7).then hB8).then hB10).below, hC8, hL1⟩
   replace hL1 := ite_f hL1 hc4
   refine W_exit ?_
   refine nrm_exit ?_
   refine nrm_exit ?_
   refine blk_exit ?_
   have hq9 := Option.some.inj hL1
   subst hq9
   refine nrm_sub (l' := [(2, (ptr b1 0)), (3, (ptr b2 0))]) ⟨rfl, rfl, trivial⟩ ?_
   exact ⟨rfl, rfl, ((Keep.of hB3).then hB4).below, hC4⟩
 rintro l3 _ w12 hs3 ⟨rfl, rfl, hB11, hC9⟩
 try dsimp only at hF
 refine nrm_sub' hs3 ?_
 clear hs3
 refine W_seq ?_
 refine W_seq_reg ?_
 refine WL_field Tryz.underlying88 rfl rfl (fun w => ⟨_, Tryz.sizeOf24 w⟩) rfl rfl ?_
 refine WL_load_box hC9 1 rfl rfl Tryz.isAgg24 rfl rfl ?_
 refine WL_len Tryz.underlying24 g1 rfl rfl ?_
 refine WL_field Tryz.underlying88 rfl rfl (fun w => ⟨_, Tryz.sizeOf24 w⟩) rfl rfl ?_
 refine WL_load_box hC9 0 rfl rfl Tryz.isAgg24 rfl rfl ?_
 refine WL_len Tryz.underlying24 g2 rfl rfl ?_
 refine WL_lss rfl rfl rfl ?_
 refine WL_nil ?_
 refine W_cond rfl (fun hc7 => ?_) (fun hc7 => ?_)
 ·replace hF := ite_t hF hc7
  refine W_seq_reg ?_
  refine WL_assign rfl rfl ?_
  refine WL_nil ?_
  refine W_ret ?_
  refine nrm_ret ?_
  have hq10 := Option.some.inj hF
  subst hq10
  refine fn_ret1 rfl rfl ?_
  exact ⟨_, rfl, int_res hC9 _⟩
 replace hF := ite_f hF hc7
 refine W_skip ?_
 refine nrm_normal ?_
 refine W_seq ?_
 refine W_seq_reg ?_
 refine WL_field Tryz.underlying88 rfl rfl (fun w => ⟨_, Tryz.sizeOf24 w⟩) rfl rfl ?_
 refine WL_load_box hC9 1 rfl rfl Tryz.isAgg24 rfl rfl ?_
 refine WL_len Tryz.underlying24 g1 rfl rfl ?_
 refine WL_field Tryz.underlying88 rfl rfl (fun w => ⟨_, Tryz.sizeOf24 w⟩) rfl rfl ?_
 refine WL_load_box hC9 0 rfl rfl Tryz.isAgg24 rfl rfl ?_
 refine WL_len Tryz.underlying24 g2 rfl rfl ?_
 refine WL_gtr rfl rfl rfl ?_
 refine WL_nil ?_
 refine W_cond rfl (fun hc8 => ?_) (fun hc8 => ?_)
 ·replace hF := ite_t hF hc8
  refine W_seq_reg ?_
  refine WL_assign rfl rfl ?_
  refine WL_nil ?_
  refine W_ret ?_
  refine nrm_ret ?_
  have hq11 := Option.some.inj hF
  subst hq11
  refine fn_ret1 rfl rfl ?_
  exact ⟨_, rfl, int_res hC9 _⟩
 replace hF := ite_f hF hc8
 refine W_skip ?_
 refine nrm_normal ?_
 refine W_seq_reg ?_
 refine WL_assign rfl rfl ?_
 refine WL_nil ?_
 refine W_ret ?_
 have hq12 := Option.some.inj hF
 subst hq12
 refine fn_ret1 rfl rfl ?_
 exact ⟨_, rfl, int_res hC9 _⟩

theorem c_S_HasFact {w0 : World} (a1 : (List (Int × (List Int)))) (u1 : Value) (g1 : RO [] w0 u1 a1) (a2 : (Int × (List Int))) (u2 : Value) (g2 : RO [] w0 u2 a2.2) (rr : Bool) (hF : S.HasFact a1 a2 = some rr) :
 Calls Tryz.prog 81 [u1, (.agg #[(.int .i64 a2.1), u2])].toArray w0 fun e w' => ∃ v, e = .returned v ∧ Res w0 rr v w' := by
 refine calls_of_W Tryz.func81 rfl rfl ?_
 have hC0 := Ctx.start w0
 unfold S.HasFact at hF
 refine W_seq_reg ?_
 refine WL_boxK (cs := [(.int .i64 a2.1), u2]) hC0 rfl rfl rfl (fun b1 w1 hC1 hB1 hN1 => ?_)
 refine WL_assign rfl rfl ?_
 refine WL_nil ?_
 refine W_seq ?_
 refine W_seq_reg ?_
 refine WL_assign rfl rfl ?_
 refine WL_nil ?_
 obtain ⟨r1, hr1, hF⟩ := bind_some hF
 refine W_norm (fun l w => .inl () = r1 ∧ l = [] ∧ Below w1.heap.size w1 w ∧ Ctx [] w0 w []) ?_ ?_
 ·refine W_block ?_
  refine W.sub (l' := [(0, u1), (3, (ptr b1 0)), (5, (.int .i64 0))]) ?_ ⟨rfl, rfl, rfl, trivial⟩
  refine W_loop (fun k l w => ∃ x1 : Int, l = [(0, u1), (3, (ptr b1 0)), (5, (.int .i64 x1))] ∧ Below w1.heap.size w1 w ∧ Ctx [] w0 w [Item.box b1 [(.int .i64 a2.1), u2]] ∧ S.HasFact_l1 a1 a2 k x1 = some r1) FUEL ⟨0, rfl, (Below.refl _ _), hC1, hr1⟩ ?_
  clear hr1
  rintro k1 _ w2 ⟨x1, rfl, hB2, hC2, hL1⟩
  cases k1 with
  | zero => rw [S.HasFact_l1] at hL1; cases hL1
  | succ k1 =>
   rw [S.HasFact_l1] at hL1
   refine W_seq ?_
   refine W_seq_reg ?_
   refine WL_move rfl rfl ?_
   refine WL_move rfl rfl ?_
   refine WL_len Tryz.underlying31 g1 rfl rfl ?_
   refine WL_lss rfl rfl rfl ?_
   refine WL_nil ?_
   refine W_cond rfl (fun hc1 => ?_) (fun hc1 => ?_)
   ·replace hL1 := ite_t hL1 hc1
    refine W_skip ?_
    refine nrm_normal ?_
    refine W_seq ?_
    refine W_block ?_
    refine W_seq ?_
    refine W_drawn 7 rfl hmix (fun w3 hB3 => ?_)
    have hC3 := hC2.grow hB3
    refine WA_tk 0 (by kernel_rfl) rfl rfl (fl_move rfl) ?_
    refine WL_move rfl rfl ?_
    refine WL_nil ?_
    refine WA_tk 1 (by kernel_rfl) rfl rfl (fl_move rfl) ?_
    refine WL_move rfl rfl ?_
    refine WL_nil ?_
    obtain ⟨x2, hx1, hL1⟩ := bind_some hL1
    refine WA_tk 2 (by kernel_rfl) rfl rfl (fl_index Tryz.underlying31 ty88 g1 hx1 rfl rfl) ?_
    refine WL_index Tryz.underlying31 ty88 g1 hx1 rfl rfl rfl (fun b2 o1 h1 => ?_)
    refine WL_nil ?_
    refine WA.sub (l' := [(0, u1), (3, (ptr b1 0)), (5, (.int .i64 x1)), (6, (.int .i64 x1)), (7, u1), (8, (.int .i64 (List.length a1 : Int))), (9, (.bool (decide (x1 < (List.length a1 : Int))))), (12, u1), (13, (.int .i64 x1)), (14, (ptr b2 o1))]) ?_ ⟨rfl, rfl, rfl, rfl, rfl, rfl, rfl, rfl, rfl, rfl, trivial⟩
    refine WA_postsE [⟨3, [], fun vs => PW.ro [] w0 x2, []⟩, ⟨4, [], fun vs => PW.val (.agg #[(.int .i64 a2.1), u2]), []⟩] [[], []] 2 rfl (by kernel_rfl) (by kernel_rfl) rfl ?_ ?_
    ·refine StepsE_cons rfl ?_ ?_
     ·intro w4 hB4
      refine DepsE_nil ?_
      refine ⟨_, rfl, ?_⟩
      refine WL_load ty88 h1 (hC3.keep.then hB4) rfl rfl (fun v3 h4 => ?_)
      refine WL_nil ?_
      exact FinE_val (Below.refl _ _) rfl rfl ⟨rfl, h4⟩
     refine StepsE_cons rfl ?_ ?_
     ·intro w4 hB4
      refine DepsE_nil ?_
      refine ⟨_, rfl, ?_⟩
      refine WL_load_box_agg [(.int .i64 a2.1), u2] (hC3.grow hB4) 0 rfl rfl rfl Tryz.isAgg88 Tryz.sizeOf88 rfl rfl ?_
      refine WL_nil ?_
      exact FinE_val (Below.refl _ _) rfl rfl ⟨rfl, rfl⟩
     exact StepsE_nil
    intro w5 hB5
    refine AllE_cons rfl rfl rfl ?_
    rintro v3 _ ⟨rfl, h4⟩
    obtain ⟨v2, rfl, h3⟩ := ro_st88 h4
    refine AllE_cons rfl rfl rfl ?_
    rintro _ _ ⟨rfl, rfl⟩
    refine AllE_nil ?_
    intro hn1 hb1
    have hC4 := hC3.grow hB5
    obtain ⟨x3, hr2, hL1⟩ := bind_some hL1
    refine WA_one 5 (by kernel_rfl) rfl ?_
    refine WL_call Tryz.call69 rfl rfl (c_S_CompareFacts x2 v2 (h3.now hC4.keep) (a2.1, a2.2) u2 (g2.now hC4.keep) x3 hr2) ?_
    intro _ w6 hv1
    obtain ⟨rfl, hB6⟩ := res_int hv1
    have hC5 := hC4.grow hB6
    refine WL_nil ?_
    refine WA_tk 6 (by kernel_rfl) rfl rfl (fl_eql rfl rfl) ?_
    refine WL_eql rfl rfl rfl ?_
    refine WL_nil ?_
    refine WA_done (by kernel_rfl) ?_
    refine nrm_normal ?_
    refine W_cond rfl (fun hc2 => ?_) (fun hc2 => ?_)
    ·replace hL1 := ite_t hL1 hc2
     refine W_seq_reg ?_
     refine WL_assign rfl rfl ?_
     refine WL_nil ?_
     refine W_ret ?_
     refine blk_ret ?_
     refine nrm_ret ?_
     refine nrm_ret ?_
     refine blk_ret ?_
     refine nrm_ret ?_
     refine nrm_ret ?_
     have hq1 := Option.some.inj hL1
     subst hq1
     dsimp only at hF
     have hq2 := Option.some.inj hF
     subst hq2
     refine fn_ret1 rfl rfl ?_
     exact ⟨_, rfl, bool_res hC5 _⟩
    replace hL1 := ite_f hL1 hc2
    refine W_skip ?_
    refine blk_normal ?_
    refine nrm_normal ?_
    refine W_reg ?_
    refine WL_move rfl rfl ?_
    refine WL_add rfl rfl rfl ?_
    refine WL_assign rfl rfl ?_
    refine WL_nil ?_
    refine nrm_sub (l' := [(0, u1), (3, (ptr b1 0)), (5, (.int .i64 (w64 (x1 + 1))))]) ⟨rfl, rfl, rfl, trivial⟩ ?_
    exact ⟨k1, Nat.lt_succ_self _, w64 (x1 + 1), rfl, ((((Keep.of hB2).then hB3).then hB5).then hB6).below, hC5, hL1⟩
   replace hL1 := ite_f hL1 hc1
   refine W_exit ?_
   refine nrm_exit ?_
   refine nrm_exit ?_
   refine blk_exit ?_
   have hq3 := Option.some.inj hL1
   subst hq3
   have hC6 := hC2.h0
   refine nrm_sub (l' := []) trivial ?_
   exact ⟨rfl, rfl, (Keep.of hB2).below, hC6⟩
 rintro l2 _ w7 hs2 ⟨rfl, rfl, hB7, hC7⟩
 try dsimp only at hF
 refine nrm_sub' hs2 ?_
 clear hs2
 refine W_seq_reg ?_
 refine WL_assign rfl rfl ?_
 refine WL_nil ?_
 refine W_ret ?_
 have hq4 := Option.some.inj hF
 subst hq4
 refine fn_ret1 rfl rfl ?_
 exact ⟨_, rfl, bool_res hC7 _⟩

theorem c_S_l2One {w0 : World} (a1 : Int) (a2 : (List Int)) (u1 : Value) (g1 : RO [] w0 u1 a2) (rr : (Int × (List Int))) (hF : S.l2One a1 a2 = some rr) :
 Calls Tryz.prog 131 [(.int .i64 a1), u1].toArray w0 fun e w' => ∃ v, e = .returned v ∧ Res w0 rr v w' := by
 refine calls_of_W Tryz.func131 rfl rfl ?_
 have hC0 := Ctx.start w0
 unfold S.l2One at hF
 refine W_seq_reg ?_
 refine WL_allocK hC0 zero88 rfl rfl (fun b1 w1 hC1 hB1 hN1 => ?_)
 refine WL_nil ?_
 refine W_seq_reg ?_
 refine WL_move rfl rfl ?_
 refine WL_buildSlice (vs := []) hC1 Tryz.underlying24 ty3 rfl rfl rfl rfl (by simp) rfl rfl (fun b2 w2 hC2 hB2 => ?_)
 have hC3 := hC2.row0 (α := Int)
 have hC4 := hC3.front 1 rfl
 dsimp only [List.eraseIdx, List.cons_append, List.nil_append, List.append_nil] at hC4
 have hC5 : Ctx [] w0 w2 (Item.own (.slice (some ⟨b2, 0, none⟩) 0 0) (([] : List Int) : List Int) :: [Item.box b1 [(.int .i64 0), (.slice none 0 0)]]) := hC4.rowOwn (by simp [maxLen])
 refine WL_move rfl rfl ?_
 obtain ⟨x1, hx1, hF⟩ := bind_some hF
 refine WL_append_flat (α := Int) hC5 0 rfl g1 hC5.keep Tryz.underlying24 ty3 rfl hx1 rfl rfl rfl (fun v1 w3 hC6 => ?_)
 try dsimp only [List.set] at hC6
 refine WL_build (vs := [(0, (.int .i64 a1)), (1, v1)]) rfl rfl rfl (built88_0_1 rfl (ro_cells (hC6.ro 0 rfl))) ?_
 refine WL_store_box_aggK (cs' := [(.int .i64 a1), v1]) (new := [(.int .i64 a1), v1]) hC6 1 rfl rfl (by intro v hv; simp only [List.mem_cons, List.not_mem_nil, or_false] at hv; rcases hv with rfl | rfl; exact rfl; exact (ro_one (hC6.ro 0 rfl))) rfl Tryz.sizeOf88 rfl rfl (fun w4 hC7 hKp1 => ?_)
 try dsimp only [List.set] at hC7
 refine WL_nil ?_
 refine W_ret ?_
 have hq1 := Option.some.inj hF
 subst hq1
 refine fn_retG1 rfl (rv_cell_agg (cs' := [(.int .i64 a1), v1]) hC7 (i := 1) rfl rfl rfl Tryz.isAgg88 Tryz.sizeOf88 rfl) ?_
 have hC8 := own_st88 a1 v1 x1 hC7
 exact ⟨_, rfl, own_res hC8 0 rfl⟩

theorem c_S_AddFact {w0 : World} (a1 : (List (Int × (List Int)))) (u1 : Value) (g1 : RO [] w0 u1 a1) (a2 : (Int × (List Int))) (u2 : Value) (g2 : RO [] w0 u2 a2.2) (rr : (List (Int × (List Int)))) (hF : S.AddFact a1 a2 = some rr) :
 Calls Tryz.prog 70 [u1, (.agg #[(.int .i64 a2.1), u2])].toArray w0 fun e w' => ∃ v, e = .returned v ∧ Res w0 rr v w' := by
 refine calls_of_W Tryz.func70 rfl rfl ?_
 have hC0 := Ctx.start w0
 unfold S.AddFact at hF
 refine W_seq_reg ?_
 refine WL_boxK (cs := [(.int .i64 a2.1), u2]) hC0 rfl rfl rfl (fun b1 w1 hC1 hB1 hN1 => ?_)
 refine WL_assign rfl rfl ?_
 refine WL_nil ?_
 refine W_seq_reg ?_
 refine WL_buildSlice (vs := []) hC1 Tryz.underlying31 ty88 rfl rfl rfl rfl (by simp) rfl rfl (fun b2 w2 hC2 hB2 => ?_)
 have hC3 := hC2.row0 (α := (Int × (List Int)))
 have hC4 := hC3.front 1 rfl
 dsimp only [List.eraseIdx, List.cons_append, List.nil_append, List.append_nil] at hC4
 have hC5 : Ctx [] w0 w2 (Item.own (.slice (some ⟨b2, 0, none⟩) 0 0) (([] : List (Int × (List Int))) : List (Int × (List Int))) :: [Item.box b1 [(.int .i64 a2.1), u2]]) := hC4.rowOwn (by simp [maxLen])
 refine WL_assign rfl rfl ?_
 refine WL_nil ?_
 refine W_seq_reg ?_
 refine WL_move rfl rfl ?_
 refine WL_load_box_agg [(.int .i64 a2.1), u2] hC5 1 rfl rfl rfl Tryz.isAgg88 Tryz.sizeOf88 rfl rfl ?_
 obtain ⟨x1, hr1, hF⟩ := bind_some hF
 refine WL_call Tryz.call81 rfl rfl (c_S_HasFact a1 u1 (g1.now hC5.keep) (a2.1, a2.2) u2 (g2.now hC5.keep) x1 hr1) ?_
 intro _ w3 hv1
 obtain ⟨rfl, hB3⟩ := res_bool hv1
 have hC6 := hC5.grow hB3
 refine WL_assign rfl rfl ?_
 refine WL_nil ?_
 refine W_seq ?_
 refine W_seq_reg ?_
 refine WL_assign rfl rfl ?_
 refine WL_nil ?_
 obtain ⟨r1, hr2, hF⟩ := bind_some hF
 refine W_norm (fun l w => ∃ v2 : Value, ∃ x5 : (List (Int × (List Int))), ∃ x6 : Bool, (x5, x6) = r1 ∧ l = [(3, (ptr b1 0)), (5, v2), (6, (.bool x6))] ∧ Ctx [] w0 w [Item.own v2 (x5 : (List (Int × (List Int)))), Item.box b1 [(.int .i64 a2.1), u2]]) ?_ ?_
 ·refine W_block ?_
  refine W.sub (l' := [(0, u1), (3, (ptr b1 0)), (5, (.slice (some ⟨b2, 0, none⟩) 0 0)), (6, (.bool x1)), (7, (.int .i64 0))]) ?_ ⟨rfl, rfl, rfl, rfl, rfl, trivial⟩
  refine W_loop (fun k l w => ∃ v1 : Value, ∃ x2 : (List (Int × (List Int))), ∃ x3 : Bool, ∃ x4 : Int, l = [(0, u1), (3, (ptr b1 0)), (5, v1), (6, (.bool x3)), (7, (.int .i64 x4))] ∧ Ctx [] w0 w [Item.own v1 (x2 : (List (Int × (List Int)))), Item.box b1 [(.int .i64 a2.1), u2]] ∧ S.AddFact_l1 a1 a2 k x2 x3 x4 = some r1) FUEL ⟨(.slice (some ⟨b2, 0, none⟩) 0 0), ([] : List (Int × (List Int))), x1, 0, rfl, hC6, hr2⟩ ?_
  clear hr2
  rintro k1 _ w4 ⟨v1, x2, x3, x4, rfl, hC7, hL1⟩
  cases k1 with
  | zero => rw [S.AddFact_l1] at hL1; cases hL1
  | succ k1 =>
   rw [S.AddFact_l1] at hL1
   refine W_seq ?_
   refine W_seq_reg ?_
   refine WL_move rfl rfl ?_
   refine WL_move rfl rfl ?_
   refine WL_len Tryz.underlying31 g1 rfl rfl ?_
   refine WL_lss rfl rfl rfl ?_
   refine WL_nil ?_
   refine W_cond rfl (fun hc1 => ?_) (fun hc1 => ?_)
   ·replace hL1 := ite_t hL1 hc1
    refine W_skip ?_
    refine nrm_normal ?_
    refine W_seq ?_
    refine W_block ?_
    refine W_seq ?_
    obtain ⟨r2, hr3, hL1⟩ := bind_some hL1
    refine W_cut (fun l w => ∃ x7 : Bool, x7 = r2 ∧ l = [(0, u1), (3, (ptr b1 0)), (5, v1), (6, (.bool x3)), (7, (.int .i64 x4)), (28, (.bool x7))] ∧ Below w4.heap.size w4 w ∧ Ctx [] w0 w [Item.own v1 (x2 : (List (Int × (List Int)))), Item.box b1 [(.int .i64 a2.1), u2]]) ?_ ?_
    ·refine W_drawn 11 rfl hmix (fun w6 hB6 => ?_)
     have hC9 := hC7.grow hB6
     refine WA_tk 0 (by kernel_rfl) rfl rfl (fl_move rfl) ?_
     refine WL_move rfl rfl ?_
     refine WL_nil ?_
     refine WA_tk 1 (by kernel_rfl) rfl rfl (fl_not rfl) ?_
     refine WL_not rfl rfl ?_
     refine WL_nil ?_
     refine WA_tk 2 (by kernel_rfl) rfl rfl (fl_move rfl) ?_
     refine WL_move rfl rfl ?_
     refine WL_nil ?_
     refine WA_fork (fun hc2 => ?_) (fun hc2 => ?_)
     ·replace hr3 := ite_t hr3 hc2
      refine WA_takeG 4 rfl (by kernel_rfl) (by kernel_rfl) (by kernel_rfl) rfl rfl rfl (fl_move rfl) ?_
      refine WL_guard rfl rfl ?_
      refine WL_move rfl rfl ?_
      refine WL_nil ?_
      refine WA_takeG 5 rfl (by kernel_rfl) (by kernel_rfl) (by kernel_rfl) rfl rfl rfl (fl_move rfl) ?_
      refine WL_guard rfl rfl ?_
      refine WL_move rfl rfl ?_
      refine WL_nil ?_
      obtain ⟨x8, hx1, hr3⟩ := bind_some hr3
      refine WA_takeG 6 rfl (by kernel_rfl) (by kernel_rfl) (by kernel_rfl) rfl rfl rfl (fl_index Tryz.underlying31 ty88 g1 hx1 rfl rfl) ?_
      refine WL_guard rfl rfl ?_
      refine WL_index Tryz.underlying31 ty88 g1 hx1 rfl rfl rfl (fun b3 o1 h1 => ?_)
      refine WL_nil ?_
      refine WA.sub (l' := [(0, u1), (3, (ptr b1 0)), (5, v1), (6, (.bool x3)), (7, (.int .i64 x4)), (12, (.int .i64 x4)), (13, u1), (14, (.int .i64 (List.length a1 : Int))), (15, (.bool (decide (x4 < (List.length a1 : Int))))), (18, (.bool x3)), (19, (.bool (!x3))), (20, (.bool true)), (22, u1), (23, (.int .i64 x4)), (24, (ptr b3 o1))]) ?_ ⟨rfl, rfl, rfl, rfl, rfl, rfl, rfl, rfl, rfl, rfl, rfl, rfl, rfl, rfl, rfl, trivial⟩
      refine WA_postsE [⟨3, [], fun vs => PW.val (.agg #[(.int .i64 a2.1), u2]), []⟩, ⟨7, [], fun vs => PW.ro [] w0 x8, []⟩] [[], []] 3 rfl (by kernel_rfl) (by kernel_rfl) rfl ?_ ?_
      ·refine StepsE_cons rfl ?_ ?_
       ·intro w7 hB7
        refine DepsE_nil ?_
        refine ⟨_, rfl, ?_⟩
        refine WL_guard rfl rfl ?_
        refine WL_load_box_agg [(.int .i64 a2.1), u2] (hC9.grow hB7) 1 rfl rfl rfl Tryz.isAgg88 Tryz.sizeOf88 rfl rfl ?_
        refine WL_nil ?_
        exact FinE_val (Below.refl _ _) rfl rfl ⟨rfl, rfl⟩
       refine StepsE_cons rfl ?_ ?_
       ·intro w7 hB7
        refine DepsE_nil ?_
        refine ⟨_, rfl, ?_⟩
        refine WL_guard rfl rfl ?_
        refine WL_load ty88 h1 (hC9.keep.then hB7) rfl rfl (fun v5 h4 => ?_)
        refine WL_nil ?_
        exact FinE_val (Below.refl _ _) rfl rfl ⟨rfl, h4⟩
       exact StepsE_nil
      intro w9 hB8
      refine AllE_cons rfl rfl rfl ?_
      rintro _ _ ⟨rfl, rfl⟩
      refine AllE_cons rfl rfl rfl ?_
      rintro v5 _ ⟨rfl, h4⟩
      obtain ⟨v4, rfl, h3⟩ := ro_st88 h4
      refine AllE_nil ?_
      intro hn1 hb1
      have hC10 := hC9.grow hB8
      obtain ⟨x9, hr4, hr3⟩ := bind_some hr3
      refine WA_one 8 (by kernel_rfl) rfl ?_
      refine WL_guard rfl rfl ?_
      refine WL_call Tryz.call69 rfl rfl (c_S_CompareFacts (a2.1, a2.2) u2 (g2.now hC10.keep) x8 v4 (h3.now hC10.keep) x9 hr4) ?_
      intro _ w10 hv2
      obtain ⟨rfl, hB9⟩ := res_int hv2
      have hC11 := hC10.grow hB9
      refine WL_nil ?_
      refine WA_takeG 9 rfl (by kernel_rfl) (by kernel_rfl) (by kernel_rfl) rfl rfl rfl (fl_lss rfl rfl) ?_
      refine WL_guard rfl rfl ?_
      refine WL_lss rfl rfl rfl ?_
      refine WL_nil ?_
      refine WA_tk 10 (by kernel_rfl) rfl rfl (fl_pick_t rfl rfl) ?_
      refine WL_pick_t rfl rfl rfl ?_
      refine WL_nil ?_
      refine WA_done (by kernel_rfl) ?_
      have hq1 := Option.some.inj hr3
      subst hq1
      refine nrm_sub (l' := [(0, u1), (3, (ptr b1 0)), (5, v1), (6, (.bool x3)), (7, (.int .i64 x4)), (28, (.bool (decide (x9 < 0))))]) ⟨rfl, rfl, rfl, rfl, rfl, rfl, trivial⟩ ?_
      exact ⟨(decide (x9 < 0)), rfl, rfl, (((Keep.of hB6).then hB8).then hB9).below, hC11⟩
     replace hr3 := ite_f hr3 hc2
     refine WA_sk 3 (by kernel_rfl) rfl rfl rfl rfl (by simp) rfl rfl ?_
     refine WA_sk 4 (by kernel_rfl) rfl rfl rfl rfl (by simp) rfl rfl ?_
     refine WA_sk 5 (by kernel_rfl) rfl rfl rfl rfl (by simp) rfl rfl ?_
     refine WA_sk 6 (by kernel_rfl) rfl rfl rfl rfl (by simp) rfl rfl ?_
     refine WA_sk 7 (by kernel_rfl) rfl rfl rfl rfl (by simp) rfl rfl ?_
     refine WA_sk 8 (by kernel_rfl) rfl rfl rfl rfl (by simp) rfl rfl ?_
     refine WA_sk 9 (by kernel_rfl) rfl rfl rfl rfl (by simp) rfl rfl ?_
     refine WA_tk 10 (by kernel_rfl) rfl rfl (fl_pick_f rfl rfl) ?_
     refine WL_pick_f rfl rfl rfl ?_
     refine WL_nil ?_
     refine WA_done (by kernel_rfl) ?_
     have hq2 := Option.some.inj hr3
     subst hq2
     refine nrm_sub (l' := [(0, u1), (3, (ptr b1 0)), (5, v1), (6, (.bool x3)), (7, (.int .i64 x4)), (28, (.bool false))]) ⟨rfl, rfl, rfl, rfl, rfl, rfl, trivial⟩ ?_
     exact ⟨false, rfl, rfl, (Keep.of hB6).below, hC9⟩
    rintro _ w5 ⟨x7, rfl, rfl, hB5, hC8⟩
    try dsimp only at hL1
    obtain ⟨r3, hr5, hL1⟩ := bind_some hL1
    refine W_norm (fun l w => ∃ v6 : Value, ∃ x10 : (List (Int × (List Int))), ∃ x11 : Bool, (x10, x11) = r3 ∧ l = [(0, u1), (3, (ptr b1 0)), (5, v6), (6, (.bool x11)), (7, (.int .i64 x4))] ∧ Ctx [] w0 w [Item.own v6 (x10 : (List (Int × (List Int)))), Item.box b1 [(.int .i64 a2.1), u2]]) ?_ ?_
    ·refine W_cond rfl (fun hc3 => ?_) (fun hc3 => ?_)
     ·replace hr5 := ite_t hr5 hc3
      refine W_seq_reg ?_
      refine WL_move rfl rfl ?_
      refine WL_field Tryz.underlying88 rfl rfl (fun w => ⟨_, Tryz.sizeOf3 w⟩) rfl rfl ?_
      refine WL_load_box hC8 1 rfl rfl Tryz.isAgg3 rfl rfl ?_
      refine WL_field Tryz.underlying88 rfl rfl (fun w => ⟨_, Tryz.sizeOf24 w⟩) rfl rfl ?_
      refine WL_load_box hC8 1 rfl rfl Tryz.isAgg24 rfl rfl ?_
      obtain ⟨x12, hr6, hr5⟩ := bind_some hr5
      refine WL_call Tryz.call131 rfl rfl (c_S_l2One a2.1 a2.2 u2 (g2.now hC8.keep) x12 hr6) ?_
      rintro v7 w12 ⟨hB11, F1, hv3, hn2, hb2⟩
      have hC13 := hC8.push hB11 (A := Item.own v7 x12) hv3 hn2 hb2
      obtain ⟨v8, rfl, hC14⟩ := st88_own hC13
      refine WL_buildSlice (vs := [(.agg #[(.int .i64 x12.1), v8])]) hC14 Tryz.underlying31 ty88 rfl rfl rfl rfl (by intro v hv; simp only [List.mem_cons, List.not_mem_nil, or_false] at hv; rcases hv with rfl <;> rfl) rfl rfl (fun b4 w13 hC15 hB12 => ?_)
      have hC16 := hC15.row0 (α := (Int × (List Int)))
      have hC18 := hC16.f2
      have hC17 := own_st88 x12.1 v8 x12.2 hC18
      have hC19 := hC17.row1
      have hC20 := hC19.front 1 rfl
      dsimp only [List.eraseIdx, List.cons_append, List.nil_append, List.append_nil] at hC20
      have hC21 : Ctx [] w0 w13 (Item.own (.slice (some ⟨b4, 0, none⟩) 1 1) ([(x12.1, x12.2)] : List (Int × (List Int))) :: [Item.own v1 (x2 : (List (Int × (List Int)))), Item.box b1 [(.int .i64 a2.1), u2]]) := hC20.rowOwn (by simp [maxLen])
      obtain ⟨x13, hx2, hr5⟩ := bind_some hr5
      refine WL_append_head hC21 0 rfl Tryz.underlying31 ty88 rfl hx2 rfl rfl rfl (fun v9 w14 hC22 => ?_)
      try dsimp only [List.set] at hC22
      refine WL_assign rfl rfl ?_
      refine WL_nil ?_
      refine W_reg ?_
      refine WL_assign rfl rfl ?_
      refine WL_nil ?_
      have hq3 := Option.some.inj hr5
      subst hq3
      refine nrm_sub (l' := [(0, u1), (3, (ptr b1 0)), (5, v9), (6, (.bool true)), (7, (.int .i64 x4))]) ⟨rfl, rfl, rfl, rfl, rfl, trivial⟩ ?_
      exact ⟨v9, x13, true, rfl, rfl, hC22⟩
     replace hr5 := ite_f hr5 hc3
     refine W_skip ?_
     have hq4 := Option.some.inj hr5
     subst hq4
     refine nrm_sub (l' := [(0, u1), (3, (ptr b1 0)), (5, v1), (6, (.bool x3)), (7, (.int .i64 x4))]) ⟨rfl, rfl, rfl, rfl, rfl, trivial⟩ ?_
     exact ⟨v1, x2, x3, rfl, rfl, hC8⟩
    rintro l3 _ w11 hs3 ⟨v6, x10, x11, rfl, rfl, hC12⟩
    try dsimp only at hL1
    refine nrm_sub' hs3 ?_
    clear hs3
    refine W_drawn 15 rfl hmix (fun w15 hB13 => ?_)
    have hC24 := hC12.grow hB13
    refine WA_tk 0 (by kernel_rfl) rfl rfl (fl_move rfl) ?_
    refine WL_move rfl rfl ?_
    refine WL_nil ?_
    refine WA_tk 1 (by kernel_rfl) rfl rfl (fl_move rfl) ?_
    refine WL_move rfl rfl ?_
    refine WL_nil ?_
    refine WA_tk 2 (by kernel_rfl) rfl rfl (fl_move rfl) ?_
    refine WL_move rfl rfl ?_
    refine WL_nil ?_
    obtain ⟨x14, hx3, hL1⟩ := bind_some hL1
    refine WA_tk 3 (by kernel_rfl) rfl rfl (fl_index Tryz.underlying31 ty88 g1 hx3 rfl rfl) ?_
    refine WL_index Tryz.underlying31 ty88 g1 hx3 rfl rfl rfl (fun b5 o2 h5 => ?_)
    refine WL_nil ?_
    refine WA_tk 4 (by kernel_rfl) rfl rfl (fl_field Tryz.underlying88 rfl rfl (fun w => ⟨_, Tryz.sizeOf3 w⟩) rfl) ?_
    refine WL_field Tryz.underlying88 rfl rfl (fun w => ⟨_, Tryz.sizeOf3 w⟩) rfl rfl ?_
    refine WL_nil ?_
    refine WA_tk 6 (by kernel_rfl) rfl rfl (fl_move rfl) ?_
    refine WL_move rfl rfl ?_
    refine WL_nil ?_
    refine WA_tk 7 (by kernel_rfl) rfl rfl (fl_move rfl) ?_
    refine WL_move rfl rfl ?_
    refine WL_nil ?_
    obtain ⟨x15, hx4, hL1⟩ := bind_some hL1
    refine WA_tk 8 (by kernel_rfl) rfl rfl (fl_index Tryz.underlying31 ty88 g1 hx4 rfl rfl) ?_
    refine WL_index Tryz.underlying31 ty88 g1 hx4 rfl rfl rfl (fun b6 o3 h6 => ?_)
    refine WL_nil ?_
    refine WA_tk 9 (by kernel_rfl) rfl rfl (fl_field Tryz.underlying88 rfl rfl (fun w => ⟨_, Tryz.sizeOf24 w⟩) rfl) ?_
    refine WL_field Tryz.underlying88 rfl rfl (fun w => ⟨_, Tryz.sizeOf24 w⟩) rfl rfl ?_
    refine WL_nil ?_
    refine WA.sub (l' := [(0, u1), (3, (ptr b1 0)), (5, v6), (6, (.bool x11)), (7, (.int .i64 x4)), (37, v6), (38, u1), (39, (.int .i64 x4)), (40, (ptr b5 o2)), (41, (ptr b5 (o2 + 0))), (43, u1), (44, (.int .i64 x4)), (45, (ptr b6 o3)), (46, (ptr b6 (o3 + 1)))]) ?_ ⟨rfl, rfl, rfl, rfl, rfl, rfl, rfl, rfl, rfl, rfl, rfl, rfl, rfl, rfl, trivial⟩
    refine WA_postsE [⟨5, [], fun vs => PW.val (.int .i64 x14.1), []⟩, ⟨10, [], fun vs => PW.ro [] w0 x15.2, []⟩] [[], []] 4 rfl (by kernel_rfl) (by kernel_rfl) rfl ?_ ?_
    ·refine StepsE_cons rfl ?_ ?_
     ·intro w16 hB14
      refine DepsE_nil ?_
      refine ⟨_, rfl, ?_⟩
      refine WL_load ty3 h5.fst (hC24.keep.then hB14) rfl rfl (fun v10 h7 => ?_)
      obtain rfl := ro_int h7
      refine WL_nil ?_
      exact FinE_val (Below.refl _ _) rfl rfl ⟨rfl, rfl⟩
     refine StepsE_cons rfl ?_ ?_
     ·intro w16 hB14
      refine DepsE_nil ?_
      refine ⟨_, rfl, ?_⟩
      refine WL_load ty24 h6.snd (hC24.keep.then hB14) rfl rfl (fun v11 h8 => ?_)
      refine WL_nil ?_
      exact FinE_val (Below.refl _ _) rfl rfl ⟨rfl, h8⟩
     exact StepsE_nil
    intro w17 hB15
    refine AllE_cons rfl rfl rfl ?_
    rintro _ _ ⟨rfl, rfl⟩
    refine AllE_cons rfl rfl rfl ?_
    rintro v11 _ ⟨rfl, h8⟩
    refine AllE_nil ?_
    intro hn3 hb3
    have hC25 := hC24.grow hB15
    obtain ⟨x16, hr7, hL1⟩ := bind_some hL1
    refine WA_one 11 (by kernel_rfl) rfl ?_
    refine WL_call Tryz.call131 rfl rfl (c_S_l2One x14.1 x15.2 v11 (h8.now hC25.keep) x16 hr7) ?_
    rintro v12 w18 ⟨hB16, F2, hv4, hn4, hb4⟩
    have hC26 := hC25.push hB16 (A := Item.own v12 x16) hv4 hn4 hb4
    obtain ⟨v13, rfl, hC27⟩ := st88_own hC26
    refine WL_nil ?_
    refine WA_one 12 (by kernel_rfl) rfl ?_
    refine WL_buildSlice (vs := [(.agg #[(.int .i64 x16.1), v13])]) hC27 Tryz.underlying31 ty88 rfl rfl rfl rfl (by intro v hv; simp only [List.mem_cons, List.not_mem_nil, or_false] at hv; rcases hv with rfl <;> rfl) rfl rfl (fun b7 w19 hC28 hB17 => ?_)
    have hC29 := hC28.row0 (α := (Int × (List Int)))
    have hC31 := hC29.f2
    have hC30 := own_st88 x16.1 v13 x16.2 hC31
    have hC32 := hC30.row1
    have hC33 := hC32.front 1 rfl
    dsimp only [List.eraseIdx, List.cons_append, List.nil_append, List.append_nil] at hC33
    have hC34 : Ctx [] w0 w19 (Item.own (.slice (some ⟨b7, 0, none⟩) 1 1) ([(x16.1, x16.2)] : List (Int × (List Int))) :: [Item.own v6 (x10 : (List (Int × (List Int)))), Item.box b1 [(.int .i64 a2.1), u2]]) := hC33.rowOwn (by simp [maxLen])
    refine WL_nil ?_
    obtain ⟨x17, hx5, hL1⟩ := bind_some hL1
    refine WA_one 13 (by kernel_rfl) rfl ?_
    refine WL_append_head hC34 0 rfl Tryz.underlying31 ty88 rfl hx5 rfl rfl rfl (fun v14 w20 hC35 => ?_)
    try dsimp only [List.set] at hC35
    refine WL_nil ?_
    refine WA_tk 14 (by kernel_rfl) rfl rfl (fl_assign rfl) ?_
    refine WL_assign rfl rfl ?_
    refine WL_nil ?_
    refine WA_done (by kernel_rfl) ?_
    refine blk_normal ?_
    refine nrm_normal ?_
    refine W_reg ?_
    refine WL_move rfl rfl ?_
    refine WL_add rfl rfl rfl ?_
    refine WL_assign rfl rfl ?_
    refine WL_nil ?_
    refine nrm_sub (l' := [(0, u1), (3, (ptr b1 0)), (5, v14), (6, (.bool x11)), (7, (.int .i64 (w64 (x4 + 1))))]) ⟨rfl, rfl, rfl, rfl, rfl, trivial⟩ ?_
    exact ⟨k1, Nat.lt_succ_self _, v14, x17, x11, w64 (x4 + 1), rfl, hC35, hL1⟩
   replace hL1 := ite_f hL1 hc1
   refine W_exit ?_
   refine nrm_exit ?_
   refine nrm_exit ?_
   refine blk_exit ?_
   have hq5 := Option.some.inj hL1
   subst hq5
   refine nrm_sub (l' := [(3, (ptr b1 0)), (5, v1), (6, (.bool x3))]) ⟨rfl, rfl, rfl, trivial⟩ ?_
   exact ⟨v1, x2, x3, rfl, rfl, hC7⟩
 rintro l4 _ w21 hs4 ⟨v2, x5, x6, rfl, rfl, hC37⟩
 try dsimp only at hF
 refine nrm_sub' hs4 ?_
 clear hs4
 refine W_seq ?_
 refine W_seq_reg ?_
 refine WL_move rfl rfl ?_
 refine WL_not rfl rfl ?_
 refine WL_nil ?_
 obtain ⟨r4, hr8, hF⟩ := bind_some hF
 refine W_norm (fun l w => ∃ v15 : Value, ∃ x18 : (List (Int × (List Int))), x18 = r4 ∧ l = [(5, v15)] ∧ Ctx [] w0 w [Item.own v15 (x18 : (List (Int × (List Int))))]) ?_ ?_
 ·refine W_cond rfl (fun hc4 => ?_) (fun hc4 => ?_)
  ·replace hr8 := ite_t hr8 hc4
   refine W_reg ?_
   refine WL_move rfl rfl ?_
   refine WL_field Tryz.underlying88 rfl rfl (fun w => ⟨_, Tryz.sizeOf3 w⟩) rfl rfl ?_
   refine WL_load_box hC37 1 rfl rfl Tryz.isAgg3 rfl rfl ?_
   refine WL_field Tryz.underlying88 rfl rfl (fun w => ⟨_, Tryz.sizeOf24 w⟩) rfl rfl ?_
   refine WL_load_box hC37 1 rfl rfl Tryz.isAgg24 rfl rfl ?_
   obtain ⟨x19, hr9, hr8⟩ := bind_some hr8
   refine WL_call Tryz.call131 rfl rfl (c_S_l2One a2.1 a2.2 u2 (g2.now hC37.keep) x19 hr9) ?_
   rintro v16 w23 ⟨hB20, F3, hv5, hn5, hb5⟩
   have hC39 := hC37.push hB20 (A := Item.own v16 x19) hv5 hn5 hb5
   obtain ⟨v17, rfl, hC40⟩ := st88_own hC39
   refine WL_buildSlice (vs := [(.agg #[(.int .i64 x19.1), v17])]) hC40 Tryz.underlying31 ty88 rfl rfl rfl rfl (by intro v hv; simp only [List.mem_cons, List.not_mem_nil, or_false] at hv; rcases hv with rfl <;> rfl) rfl rfl (fun b8 w24 hC41 hB21 => ?_)
   have hC42 := hC41.row0 (α := (Int × (List Int)))
   have hC44 := hC42.f2
   have hC43 := own_st88 x19.1 v17 x19.2 hC44
   have hC45 := hC43.row1
   have hC46 := hC45.front 1 rfl
   dsimp only [List.eraseIdx, List.cons_append, List.nil_append, List.append_nil] at hC46
   have hC47 : Ctx [] w0 w24 (Item.own (.slice (some ⟨b8, 0, none⟩) 1 1) ([(x19.1, x19.2)] : List (Int × (List Int))) :: [Item.own v2 (x5 : (List (Int × (List Int)))), Item.box b1 [(.int .i64 a2.1), u2]]) := hC46.rowOwn (by simp [maxLen])
   obtain ⟨x20, hx6, hr8⟩ := bind_some hr8
   refine WL_append_head hC47 0 rfl Tryz.underlying31 ty88 rfl hx6 rfl rfl rfl (fun v18 w25 hC48 => ?_)
   try dsimp only [List.set] at hC48
   refine WL_assign rfl rfl ?_
   refine WL_nil ?_
   have hq6 := Option.some.inj hr8
   subst hq6
   have hC50 := hC48.h1
   refine nrm_sub (l' := [(5, v18)]) ⟨rfl, trivial⟩ ?_
   exact ⟨v18, x20, rfl, rfl, hC50⟩
  replace hr8 := ite_f hr8 hc4
  refine W_skip ?_
  have hq7 := Option.some.inj hr8
  subst hq7
  have hC51 := hC37.h1
  refine nrm_sub (l' := [(5, v2)]) ⟨rfl, trivial⟩ ?_
  exact ⟨v2, x5, rfl, rfl, hC51⟩
 rintro l5 _ w22 hs5 ⟨v15, x18, rfl, rfl, hC38⟩
 try dsimp only at hF
 refine nrm_sub' hs5 ?_
 clear hs5
 refine W_seq_reg ?_
 refine WL_move rfl rfl ?_
 refine WL_assign rfl rfl ?_
 refine WL_nil ?_
 refine W_ret ?_
 have hq8 := Option.some.inj hF
 subst hq8
 refine fn_ret1 rfl rfl ?_
 exact ⟨_, rfl, own_res hC38 0 rfl⟩

theorem c_S_UnionOf {w0 : World} (a1 : (List ((Int × (List Int)) × (List (Int × (List Int)))))) (u1 : Value) (g1 : RO [] w0 u1 a1) (rr : (List (Int × (List Int)))) (hF : S.UnionOf a1 = some rr) :
 Calls Tryz.prog 15 [u1].toArray w0 fun e w' => ∃ v, e = .returned v ∧ Res w0 rr v w' := by
 refine calls_of_W Tryz.func15 rfl rfl ?_
 have hC0 := Ctx.start w0
 unfold S.UnionOf at hF
 refine W_seq_reg ?_
 refine WL_assign rfl rfl ?_
 refine WL_nil ?_
 refine W_seq_reg ?_
 refine WL_buildSlice (vs := []) hC0 Tryz.underlying31 ty88 rfl rfl rfl rfl (by simp) rfl rfl (fun b1 w1 hC1 hB1 => ?_)
 have hC2 := hC1.row0 (α := (Int × (List Int)))
 have hC3 := hC2.front 1 rfl
 dsimp only [List.eraseIdx, List.cons_append, List.nil_append, List.append_nil] at hC3
 have hC4 : Ctx [] w0 w1 (Item.own (.slice (some ⟨b1, 0, none⟩) 0 0) (([] : List (Int × (List Int))) : List (Int × (List Int))) :: []) := hC3.rowOwn (by simp [maxLen])
 refine WL_assign rfl rfl ?_
 refine WL_nil ?_
 refine W_seq ?_
 refine W_seq_reg ?_
 refine WL_assign rfl rfl ?_
 refine WL_nil ?_
 obtain ⟨r1, hr1, hF⟩ := bind_some hF
 refine W_norm (fun l w => ∃ v2 : Value, ∃ x3 : (List (Int × (List Int))), x3 = r1 ∧ l = [(3, v2)] ∧ Below w1.heap.size w1 w ∧ Ctx [] w0 w [Item.own v2 (x3 : (List (Int × (List Int))))]) ?_ ?_
 ·refine W_block ?_
  refine W.sub (l' := [(0, u1), (3, (.slice (some ⟨b1, 0, none⟩) 0 0)), (4, (.int .i64 0))]) ?_ ⟨rfl, rfl, rfl, trivial⟩
  refine W_loop (fun k l w => ∃ v1 : Value, ∃ x1 : (List (Int × (List Int))), ∃ x2 : Int, l = [(0, u1), (3, v1), (4, (.int .i64 x2))] ∧ Below w1.heap.size w1 w ∧ Ctx [] w0 w [Item.own v1 (x1 : (List (Int × (List Int))))] ∧ S.UnionOf_l1 a1 k x1 x2 = some r1) FUEL ⟨(.slice (some ⟨b1, 0, none⟩) 0 0), ([] : List (Int × (List Int))), 0, rfl, (Below.refl _ _), hC4, hr1⟩ ?_
  clear hr1
  rintro k1 _ w2 ⟨v1, x1, x2, rfl, hB2, hC5, hL1⟩
  cases k1 with
  | zero => rw [S.UnionOf_l1] at hL1; cases hL1
  | succ k1 =>
   rw [S.UnionOf_l1] at hL1
   refine W_seq ?_
   refine W_seq_reg ?_
   refine WL_move rfl rfl ?_
   refine WL_move rfl rfl ?_
   refine WL_len Tryz.underlying26 g1 rfl rfl ?_
   refine WL_lss rfl rfl rfl ?_
   refine WL_nil ?_
   refine W_cond rfl (fun hc1 => ?_) (fun hc1 => ?_)
   ·replace hL1 := ite_t hL1 hc1
    refine W_skip ?_
    refine nrm_normal ?_
    refine W_seq ?_
    refine W_block ?_
    refine W_seq_reg ?_
    refine WL_assign rfl rfl ?_
    refine WL_nil ?_
    obtain ⟨r2, hr2, hL1⟩ := bind_some hL1
    refine W_norm (fun l w => ∃ v4 : Value, ∃ x6 : (List (Int × (List Int))), x6 = r2 ∧ l = [(0, u1), (3, v4), (4, (.int .i64 x2))] ∧ Below w2.heap.size w2 w ∧ Ctx [] w0 w [Item.own v4 (x6 : (List (Int × (List Int))))]) ?_ ?_
    ·refine W_block ?_
     refine W.sub (l' := [(0, u1), (3, v1), (4, (.int .i64 x2)), (5, (.int .i64 0))]) ?_ ⟨rfl, rfl, rfl, rfl, trivial⟩
     refine W_loop (fun k l w => ∃ v3 : Value, ∃ x4 : (List (Int × (List Int))), ∃ x5 : Int, l = [(0, u1), (3, v3), (4, (.int .i64 x2)), (5, (.int .i64 x5))] ∧ Below w2.heap.size w2 w ∧ Ctx [] w0 w [Item.own v3 (x4 : (List (Int × (List Int))))] ∧ S.UnionOf_l2 a1 x2 k x4 x5 = some r2) FUEL ⟨v1, x1, 0, rfl, (Below.refl _ _), hC5, hr2⟩ ?_
     clear hr2
     rintro k2 _ w3 ⟨v3, x4, x5, rfl, hB3, hC6, hL2⟩
     cases k2 with
     | zero => rw [S.UnionOf_l2] at hL2; cases hL2
     | succ k2 =>
      rw [S.UnionOf_l2] at hL2
      refine W_seq ?_
      refine W_seq_reg ?_
      refine WL_move rfl rfl ?_
      refine WL_move rfl rfl ?_
      refine WL_move rfl rfl ?_
      obtain ⟨x7, hx1, hL2⟩ := bind_some hL2
      refine WL_index Tryz.underlying26 ty46 g1 hx1 rfl rfl rfl (fun b2 o1 h1 => ?_)
      refine WL_field Tryz.underlying46 rfl rfl (fun w => ⟨_, Tryz.sizeOf31 w⟩) rfl rfl ?_
      refine WL_load ty31 h1.snd hC6.keep rfl rfl (fun v5 h2 => ?_)
      refine WL_len Tryz.underlying31 h2 rfl rfl ?_
      refine WL_lss rfl rfl rfl ?_
      refine WL_nil ?_
      refine W_cond rfl (fun hc2 => ?_) (fun hc2 => ?_)
      ·replace hL2 := ite_t hL2 hc2
       refine W_skip ?_
       refine nrm_normal ?_
       refine W_seq ?_
       refine W_block ?_
       refine W_reg ?_
       refine WL_move rfl rfl ?_
       refine WL_move rfl rfl ?_
       refine WL_move rfl rfl ?_
       obtain ⟨x8, hx2, hL2⟩ := bind_some hL2
       refine WL_index Tryz.underlying26 ty46 g1 hx2 rfl rfl rfl (fun b3 o2 h3 => ?_)
       refine WL_field Tryz.underlying46 rfl rfl (fun w => ⟨_, Tryz.sizeOf31 w⟩) rfl rfl ?_
       refine WL_load ty31 h3.snd hC6.keep rfl rfl (fun v6 h4 => ?_)
       refine WL_move rfl rfl ?_
       obtain ⟨x9, hx3, hL2⟩ := bind_some hL2
       refine WL_index Tryz.underlying31 ty88 h4 hx3 rfl rfl rfl (fun b4 o3 h5 => ?_)
       refine WL_load ty88 h5 hC6.keep rfl rfl (fun v7 h6 => ?_)
       obtain ⟨v8, rfl, h7⟩ := ro_st88 h6
       obtain ⟨x10, hr3, hL2⟩ := bind_some hL2
       refine WL_call Tryz.call70 rfl rfl (c_S_AddFact x4 v3 ((hC6.ro 0 rfl).now (Keep.refl _ _)) x9 v8 (h7.now hC6.keep) x10 hr3) ?_
       rintro v9 w4 ⟨hB4, F1, hv1, hn1, hb1⟩
       have hC7 := hC6.push hB4 (A := Item.own v9 x10) hv1 hn1 hb1
       refine WL_assign rfl rfl ?_
       refine WL_nil ?_
       refine blk_normal ?_
       refine nrm_normal ?_
       refine W_reg ?_
       refine WL_move rfl rfl ?_
       refine WL_add rfl rfl rfl ?_
       refine WL_assign rfl rfl ?_
       refine WL_nil ?_
       have hC8 := hC7.h1
       refine nrm_sub (l' := [(0, u1), (3, v9), (4, (.int .i64 x2)), (5, (.int .i64 (w64 (x5 + 1))))]) ⟨rfl, rfl, rfl, rfl, trivial⟩ ?_
       exact ⟨k2, Nat.lt_succ_self _, v9, x10, w64 (x5 + 1), rfl, ((Keep.of hB3).then hB4).below, hC8, hL2⟩
      replace hL2 := ite_f hL2 hc2
      refine W_exit ?_
      refine nrm_exit ?_
      refine nrm_exit ?_
      refine blk_exit ?_
      have hq1 := Option.some.inj hL2
      subst hq1
      refine nrm_sub (l' := [(0, u1), (3, v3), (4, (.int .i64 x2))]) ⟨rfl, rfl, rfl, trivial⟩ ?_
      exact ⟨v3, x4, rfl, rfl, (Keep.of hB3).below, hC6⟩
    rintro l3 _ w5 hs3 ⟨v4, x6, rfl, rfl, hB5, hC9⟩
    try dsimp only at hL1
    refine blk_normal ?_
    refine nrm_sub' hs3 ?_
    clear hs3
    refine W_reg ?_
    refine WL_move rfl rfl ?_
    refine WL_add rfl rfl rfl ?_
    refine WL_assign rfl rfl ?_
    refine WL_nil ?_
    refine nrm_sub (l' := [(0, u1), (3, v4), (4, (.int .i64 (w64 (x2 + 1))))]) ⟨rfl, rfl, rfl, trivial⟩ ?_
    exact ⟨k1, Nat.lt_succ_self _, v4, x6, w64 (x2 + 1), rfl, ((Keep.of hB2).then hB5).below, hC9, hL1⟩
   replace hL1 := ite_f hL1 hc1
   refine W_exit ?_
   refine nrm_exit ?_
   refine nrm_exit ?_
   refine blk_exit ?_
   have hq2 := Option.some.inj hL1
   subst hq2
   refine nrm_sub (l' := [(3, v1)]) ⟨rfl, trivial⟩ ?_
   exact ⟨v1, x1, rfl, rfl, (Keep.of hB2).below, hC5⟩
 rintro l4 _ w6 hs4 ⟨v2, x3, rfl, rfl, hB6, hC10⟩
 try dsimp only at hF
 refine nrm_sub' hs4 ?_
 clear hs4
 refine W_seq_reg ?_
 refine WL_move rfl rfl ?_
 refine WL_assign rfl rfl ?_
 refine WL_nil ?_
 refine W_ret ?_
 have hq3 := Option.some.inj hF
 subst hq3
 refine fn_ret1 rfl rfl ?_
 exact ⟨_, rfl, own_res hC10 0 rfl⟩

theorem c_S_l1In {w0 : World} (a1 : Int) (a2 : Int) (a3 : Int) (rr : Bool) (hF : S.l1In a1 a2 a3 = some rr) :
 Calls Tryz.prog 136 [(.int .i64 a1), (.int .i64 a2), (.int .i64 a3)].toArray w0 fun e w' => ∃ v, e = .returned v ∧ Res w0 rr v w' := by
 refine calls_of_W Tryz.func136 rfl rfl ?_
 have hC0 := Ctx.start w0
 unfold S.l1In at hF
 refine W_seq_reg ?_
 refine WL_assign rfl rfl ?_
 refine WL_nil ?_
 obtain ⟨r1, hr1, hF⟩ := bind_some hF
 refine W_cut (fun l w => ∃ x1 : Bool, x1 = r1 ∧ l = [(6, (.bool x1))] ∧ Below w0.heap.size w0 w ∧ Ctx [] w0 w []) ?_ ?_
 ·refine W_reg ?_
  refine WL_move rfl rfl ?_
  refine WL_move rfl rfl ?_
  refine WL_geq rfl rfl rfl ?_
  refine WL_move rfl rfl ?_
  refine WL_fork (fun hc1 => ?_) (fun hc1 => ?_)
  ·replace hr1 := ite_t hr1 hc1
   refine WL_guard rfl rfl ?_
   refine WL_move rfl rfl ?_
   refine WL_guard rfl rfl ?_
   refine WL_move rfl rfl ?_
   refine WL_guard rfl rfl ?_
   refine WL_leq rfl rfl rfl ?_
   refine WL_pick_t rfl rfl rfl ?_
   refine WL_assign rfl rfl ?_
   refine WL_nil ?_
   have hq1 := Option.some.inj hr1
   subst hq1
   refine nrm_sub (l' := [(6, (.bool (decide (a1 ≤ a3))))]) ⟨rfl, trivial⟩ ?_
   exact ⟨(decide (a1 ≤ a3)), rfl, rfl, (Below.refl _ _), hC0⟩
  replace hr1 := ite_f hr1 hc1
  refine WL_guard_skip rfl rfl (by simp) rfl ?_
  refine WL_guard_skip rfl rfl (by simp) rfl ?_
  refine WL_guard_skip rfl rfl (by simp) rfl ?_
  refine WL_pick_f rfl rfl rfl ?_
  refine WL_assign rfl rfl ?_
  refine WL_nil ?_
  have hq2 := Option.some.inj hr1
  subst hq2
  refine nrm_sub (l' := [(6, (.bool false))]) ⟨rfl, trivial⟩ ?_
  exact ⟨false, rfl, rfl, (Below.refl _ _), hC0⟩
 rintro _ w1 ⟨x1, rfl, rfl, hB1, hC1⟩
 try dsimp only at hF
 refine W_ret ?_
 have hq3 := Option.some.inj hF
 subst hq3
 refine fn_ret1 rfl rfl ?_
 exact ⟨_, rfl, bool_res hC1 _⟩

end Go.Gx.Px
