/- The contracts of the Go functions against the pure functions, printed by program. Conditions: each says them. -/
import Derived.Test.YtdkfiadoiapnbaaGreatC2
set_option linter.unusedVariables false
set_option linter.unusedSimpArgs false
set_option maxRecDepth 100000
set_option maxHeartbeats 4000000
namespace Go.Gx.Px
open Go.Proofs Go.RowKit

theorem c_M_IsAtom {w0 : World} (a1 : (List Int)) (u1 : Value) (g1 : RO [] w0 u1 a1) (a2 : (Int × (List Int))) (u2 : Value) (g2 : RO [] w0 u2 a2.2) (rr : Bool) (hF : M.IsAtom a1 a2 = some rr) :
 Calls Tryz.prog 120 [u1, (.agg #[(.int .i64 a2.1), u2])].toArray w0 fun e w' => ∃ v, e = .returned v ∧ Res w0 rr v w' := by
 refine calls_of_W Tryz.func120 rfl rfl ?_
 have hC0 := Ctx.start w0
 unfold M.IsAtom at hF
 refine W_seq_reg ?_
 refine WL_boxK (cs := [(.int .i64 a2.1), u2]) hC0 rfl rfl rfl (fun b1 w1 hC1 hB1 hN1 => ?_)
 refine WL_assign rfl rfl ?_
 refine WL_nil ?_
 obtain ⟨r1, hr1, hF⟩ := bind_some hF
 refine W_cut (fun l w => ∃ x1 : Bool, x1 = r1 ∧ l = [(4, (.bool x1))] ∧ Below w1.heap.size w1 w ∧ Ctx [] w0 w []) ?_ ?_
 ·refine W_drawn 21 rfl hmix (fun w3 hB3 => ?_)
  have hC3 := hC1.grow hB3
  refine WA_tk 0 (by kernel_rfl) rfl rfl (fl_move rfl) ?_
  refine WL_move rfl rfl ?_
  refine WL_nil ?_
  refine WA_tk 1 (by kernel_rfl) rfl rfl (fl_field Tryz.underlying84 rfl rfl (fun w => ⟨_, Tryz.sizeOf3 w⟩) rfl) ?_
  refine WL_field Tryz.underlying84 rfl rfl (fun w => ⟨_, Tryz.sizeOf3 w⟩) rfl rfl ?_
  refine WL_nil ?_
  refine WA_one 2 (by kernel_rfl) rfl ?_
  refine WL_load_box hC3 0 rfl rfl Tryz.isAgg3 rfl rfl ?_
  refine WL_nil ?_
  obtain ⟨x2, hr2, hr1⟩ := bind_some hr1
  refine WA_one 3 (by kernel_rfl) rfl ?_
  refine WL_call Tryz.call146 rfl rfl (c_M_hasRel a1 u1 (g1.now hC3.keep) a2.1 x2 hr2) ?_
  intro _ w4 hv1
  obtain ⟨rfl, hB4⟩ := res_bool hv1
  have hC4 := hC3.grow hB4
  refine WL_nil ?_
  refine WA_tk 4 (by kernel_rfl) rfl rfl (fl_move rfl) ?_
  refine WL_move rfl rfl ?_
  refine WL_nil ?_
  refine WA_fork (fun hc1 => ?_) (fun hc1 => ?_)
  ·replace hr1 := ite_t hr1 hc1
   refine WA_takeG 5 rfl (by kernel_rfl) (by kernel_rfl) (by kernel_rfl) rfl rfl rfl (fl_field Tryz.underlying84 rfl rfl (fun w => ⟨_, Tryz.sizeOf22 w⟩) rfl) ?_
   refine WL_guard rfl rfl ?_
   refine WL_field Tryz.underlying84 rfl rfl (fun w => ⟨_, Tryz.sizeOf22 w⟩) rfl rfl ?_
   refine WL_nil ?_
   refine WA_takeG 8 rfl (by kernel_rfl) (by kernel_rfl) (by kernel_rfl) rfl rfl rfl (fl_move rfl) ?_
   refine WL_guard rfl rfl ?_
   refine WL_move rfl rfl ?_
   refine WL_nil ?_
   refine WA_takeG 9 rfl (by kernel_rfl) (by kernel_rfl) (by kernel_rfl) rfl rfl rfl (fl_field Tryz.underlying84 rfl rfl (fun w => ⟨_, Tryz.sizeOf3 w⟩) rfl) ?_
   refine WL_guard rfl rfl ?_
   refine WL_field Tryz.underlying84 rfl rfl (fun w => ⟨_, Tryz.sizeOf3 w⟩) rfl rfl ?_
   refine WL_nil ?_
   obtain ⟨x3, hx1, hr1⟩ := bind_some hr1
   refine WA.sub (l' := [(0, u1), (1, (.agg #[(.int .i64 a2.1), u2])), (3, (ptr b1 0)), (4, (.bool false)), (5, u1), (6, (ptr b1 0)), (7, (.int .i64 a2.1)), (8, (.bool x2)), (9, (.bool true)), (10, (ptr b1 1)), (13, u1), (14, (ptr b1 0))]) ?_ ⟨rfl, rfl, rfl, rfl, rfl, rfl, rfl, rfl, rfl, rfl, rfl, rfl, trivial⟩
   refine WA_postsE [⟨6, [], fun vs => PW.val u2, []⟩, ⟨7, [], fun vs => PW.val (.int .i64 (List.length a2.2 : Int)), []⟩, ⟨10, [], fun vs => PW.val (.int .i64 a2.1), []⟩, ⟨11, [], fun vs => PW.at [] w0 x3, []⟩, ⟨12, [], fun vs => PW.val (.int .i64 x3), []⟩] [[], [6], [], [10], [11]] 8 rfl (by kernel_rfl) (by kernel_rfl) rfl ?_ ?_
   ·refine StepsE_cons rfl ?_ ?_
    ·intro w5 hB5
     refine DepsE_nil ?_
     refine ⟨_, rfl, ?_⟩
     refine WL_guard rfl rfl ?_
     refine WL_load_box (hC4.grow hB5) 0 rfl rfl Tryz.isAgg22 rfl rfl ?_
     refine WL_nil ?_
     exact FinE_val (Below.refl _ _) rfl rfl ⟨rfl, rfl⟩
    refine StepsE_cons rfl ?_ ?_
    ·intro w5 hB5
     refine DepsE_cons rfl rfl rfl ?_
     rintro _ _ ⟨rfl, rfl⟩ _
     refine DepsE_nil ?_
     refine ⟨_, rfl, ?_⟩
     refine WL_guard rfl rfl ?_
     refine WL_len Tryz.underlying22 g2 rfl rfl ?_
     refine WL_nil ?_
     exact FinE_val (Below.refl _ _) rfl rfl ⟨rfl, rfl⟩
    refine StepsE_cons rfl ?_ ?_
    ·intro w5 hB5
     refine DepsE_nil ?_
     refine ⟨_, rfl, ?_⟩
     refine WL_guard rfl rfl ?_
     refine WL_load_box (hC4.grow hB5) 0 rfl rfl Tryz.isAgg3 rfl rfl ?_
     refine WL_nil ?_
     exact FinE_val (Below.refl _ _) rfl rfl ⟨rfl, rfl⟩
    refine StepsE_cons rfl ?_ ?_
    ·intro w5 hB5
     refine DepsE_cons rfl rfl rfl ?_
     rintro _ _ ⟨rfl, rfl⟩ _
     refine DepsE_nil ?_
     refine ⟨_, rfl, ?_⟩
     refine WL_guard rfl rfl ?_
     refine WL_index Tryz.underlying22 ty3 g1 hx1 rfl rfl rfl (fun b2 o1 h1 => ?_)
     refine WL_nil ?_
     exact FinE_val (Below.refl _ _) rfl rfl ⟨rfl, _, _, rfl, h1⟩
    refine StepsE_cons rfl ?_ ?_
    ·intro w5 hB5
     refine DepsE_cons rfl rfl rfl ?_
     rintro _ _ ⟨rfl, b2, o1, rfl, h1⟩ _
     refine DepsE_nil ?_
     refine ⟨_, rfl, ?_⟩
     refine WL_guard rfl rfl ?_
     refine WL_load ty3 h1 (hC4.keep.then hB5) rfl rfl (fun v1 h2 => ?_)
     obtain rfl := ro_int h2
     refine WL_nil ?_
     exact FinE_val (Below.refl _ _) rfl rfl ⟨rfl, rfl⟩
    exact StepsE_nil
   intro w6 hB6
   refine AllE_cons rfl rfl rfl ?_
   rintro _ _ ⟨rfl, rfl⟩
   refine AllE_cons rfl rfl rfl ?_
   rintro _ _ ⟨rfl, rfl⟩
   refine AllE_cons rfl rfl rfl ?_
   rintro _ _ ⟨rfl, rfl⟩
   refine AllE_cons rfl rfl rfl ?_
   rintro _ _ ⟨rfl, b2, o1, rfl, h1⟩
   refine AllE_cons rfl rfl rfl ?_
   rintro _ _ ⟨rfl, rfl⟩
   refine AllE_nil ?_
   intro hn1 hb1
   have hC5 := hC4.grow hB6
   refine WA_takeG 13 rfl (by kernel_rfl) (by kernel_rfl) (by kernel_rfl) rfl rfl rfl (fl_eql rfl rfl) ?_
   refine WL_guard rfl rfl ?_
   refine WL_eql rfl rfl rfl ?_
   refine WL_nil ?_
   refine WA_tk 14 (by kernel_rfl) rfl rfl (fl_pick_t rfl rfl) ?_
   refine WL_pick_t rfl rfl rfl ?_
   refine WL_nil ?_
   refine WA_tk 15 (by kernel_rfl) rfl rfl (fl_move rfl) ?_
   refine WL_move rfl rfl ?_
   refine WL_nil ?_
   refine WA_fork (fun hc2 => ?_) (fun hc2 => ?_)
   ·replace hr1 := ite_t hr1 hc2
    refine WA_takeG 16 rfl (by kernel_rfl) (by kernel_rfl) (by kernel_rfl) rfl rfl rfl (fl_field Tryz.underlying84 rfl rfl (fun w => ⟨_, Tryz.sizeOf22 w⟩) rfl) ?_
    refine WL_guard rfl rfl ?_
    refine WL_field Tryz.underlying84 rfl rfl (fun w => ⟨_, Tryz.sizeOf22 w⟩) rfl rfl ?_
    refine WL_nil ?_
    refine WA_one 17 (by kernel_rfl) rfl ?_
    refine WL_guard rfl rfl ?_
    refine WL_load_box hC5 0 rfl rfl Tryz.isAgg22 rfl rfl ?_
    refine WL_nil ?_
    obtain ⟨x4, hr3, hr1⟩ := bind_some hr1
    refine WA_one 18 (by kernel_rfl) rfl ?_
    refine WL_guard rfl rfl ?_
    refine WL_call Tryz.call149 rfl rfl (c_M_areTerms a2.2 u2 (g2.now hC5.keep) x4 hr3) ?_
    intro _ w7 hv2
    obtain ⟨rfl, hB7⟩ := res_bool hv2
    have hC6 := hC5.grow hB7
    refine WL_nil ?_
    refine WA_tk 19 (by kernel_rfl) rfl rfl (fl_pick_t rfl rfl) ?_
    refine WL_pick_t rfl rfl rfl ?_
    refine WL_nil ?_
    refine WA_tk 20 (by kernel_rfl) rfl rfl (fl_assign rfl) ?_
    refine WL_assign rfl rfl ?_
    refine WL_nil ?_
    refine WA_done (by kernel_rfl) ?_
    have hq1 := Option.some.inj hr1
    subst hq1
    have hC7 := hC6.h0
    refine nrm_sub (l' := [(4, (.bool x4))]) ⟨rfl, trivial⟩ ?_
    exact ⟨x4, rfl, rfl, ((((Keep.of hB3).then hB4).then hB6).then hB7).below, hC7⟩
   replace hr1 := ite_f hr1 hc2
   refine WA_sk 16 (by kernel_rfl) rfl rfl rfl rfl (by simp) rfl rfl ?_
   refine WA_sk 17 (by kernel_rfl) rfl rfl rfl rfl (by simp) rfl rfl ?_
   refine WA_sk 18 (by kernel_rfl) rfl rfl rfl rfl (by simp) rfl rfl ?_
   refine WA_tk 19 (by kernel_rfl) rfl rfl (fl_pick_f rfl rfl) ?_
   refine WL_pick_f rfl rfl rfl ?_
   refine WL_nil ?_
   refine WA_tk 20 (by kernel_rfl) rfl rfl (fl_assign rfl) ?_
   refine WL_assign rfl rfl ?_
   refine WL_nil ?_
   refine WA_done (by kernel_rfl) ?_
   have hq2 := Option.some.inj hr1
   subst hq2
   have hC8 := hC5.h0
   refine nrm_sub (l' := [(4, (.bool false))]) ⟨rfl, trivial⟩ ?_
   exact ⟨false, rfl, rfl, (((Keep.of hB3).then hB4).then hB6).below, hC8⟩
  replace hr1 := ite_f hr1 hc1
  refine WA_sk 5 (by kernel_rfl) rfl rfl rfl rfl (by simp) rfl rfl ?_
  refine WA_sk 6 (by kernel_rfl) rfl rfl rfl rfl (by simp) rfl rfl ?_
  refine WA_sk 7 (by kernel_rfl) rfl rfl rfl rfl (by simp) rfl rfl ?_
  refine WA_sk 8 (by kernel_rfl) rfl rfl rfl rfl (by simp) rfl rfl ?_
  refine WA_sk 9 (by kernel_rfl) rfl rfl rfl rfl (by simp) rfl rfl ?_
  refine WA_sk 10 (by kernel_rfl) rfl rfl rfl rfl (by simp) rfl rfl ?_
  refine WA_sk 11 (by kernel_rfl) rfl rfl rfl rfl (by simp) rfl rfl ?_
  refine WA_sk 12 (by kernel_rfl) rfl rfl rfl rfl (by simp) rfl rfl ?_
  refine WA_sk 13 (by kernel_rfl) rfl rfl rfl rfl (by simp) rfl rfl ?_
  refine WA_tk 14 (by kernel_rfl) rfl rfl (fl_pick_f rfl rfl) ?_
  refine WL_pick_f rfl rfl rfl ?_
  refine WL_nil ?_
  refine WA_tk 15 (by kernel_rfl) rfl rfl (fl_move rfl) ?_
  refine WL_move rfl rfl ?_
  refine WL_nil ?_
  refine WA_sk 16 (by kernel_rfl) rfl rfl rfl rfl (by simp) rfl rfl ?_
  refine WA_sk 17 (by kernel_rfl) rfl rfl rfl rfl (by simp) rfl rfl ?_
  refine WA_sk 18 (by kernel_rfl) rfl rfl rfl rfl (by simp) rfl rfl ?_
  refine WA_tk 19 (by kernel_rfl) rfl rfl (fl_pick_f rfl rfl) ?_
  refine WL_pick_f rfl rfl rfl ?_
  refine WL_nil ?_
  refine WA_tk 20 (by kernel_rfl) rfl rfl (fl_assign rfl) ?_
  refine WL_assign rfl rfl ?_
  refine WL_nil ?_
  refine WA_done (by kernel_rfl) ?_
  have hq3 := Option.some.inj hr1
  subst hq3
  have hC9 := hC4.h0
  refine nrm_sub (l' := [(4, (.bool false))]) ⟨rfl, trivial⟩ ?_
  exact ⟨false, rfl, rfl, ((Keep.of hB3).then hB4).below, hC9⟩
 rintro _ w2 ⟨x1, rfl, rfl, hB2, hC2⟩
 try dsimp only at hF
 refine W_ret ?_
 have hq4 := Option.some.inj hF
 subst hq4
 refine fn_ret1 rfl rfl ?_
 exact ⟨_, rfl, bool_res hC2 _⟩

theorem c_M_IsQuery_c1 {w0 : World} (a1 : (Int × (List Int))) (u1 : Value) (g1 : RO [] w0 u1 a1.2) (pb1 : Nat) (ax1 : (List Int)) (g2 : ROAt [] w0 pb1 0 ax1) (rr : Bool) (hF : M.IsQuery_c1 a1 ax1 = some rr) :
 Calls Tryz.prog 119 [(.agg #[(.int .i64 a1.1), u1]), (ptr pb1 0)].toArray w0 fun e w' => ∃ v, e = .returned v ∧ Res w0 rr v w' := by
 refine calls_of_W Tryz.func119 rfl rfl ?_
 have hC0 := Ctx.start w0
 unfold M.IsQuery_c1 at hF
 refine W_seq_reg ?_
 refine WL_boxK (cs := [(.int .i64 a1.1), u1]) hC0 rfl rfl rfl (fun b1 w1 hC1 hB1 hN1 => ?_)
 refine WL_assign rfl rfl ?_
 refine WL_nil (W_seq_reg ?_)
 refine WL_load ty22 g2 hC1.keep rfl rfl (fun v1 h1 => ?_)
 refine WL_load_box_agg [(.int .i64 a1.1), u1] hC1 0 rfl rfl rfl Tryz.isAgg84 Tryz.sizeOf84 rfl rfl ?_
 obtain ⟨x1, hr1, hF⟩ := bind_some hF
 refine WL_call Tryz.call120 rfl rfl (c_M_IsAtom ax1 v1 (h1.now hC1.keep) (a1.1, a1.2) u1 (g1.now hC1.keep) x1 hr1) ?_
 intro _ w2 hv1
 obtain ⟨rfl, hB2⟩ := res_bool hv1
 have hC2 := hC1.grow hB2
 refine WL_not rfl rfl ?_
 refine WL_assign rfl rfl ?_
 refine WL_nil (W_ret ?_)
 have hq1 := Option.some.inj hF
 subst hq1
 refine fn_ret1 rfl rfl ?_
 exact ⟨_, rfl, bool_res hC2 _⟩

theorem c_Slices_Sort_Lint_int {Fs : List (List Nat)} {w0 : World} (a1 : (List Int)) (u1 : Value) (hH : Hold [Item.own u1 (a1 : (List Int))] w0 Fs) (hn : Fs.flatten.Nodup) (rr : (List Int)) (hF : Slices.Sort_Lint_int a1 = some rr) :
    Calls Tryz.prog 80 [u1].toArray w0 fun e w' => ∃ v, e = .returned v ∧ v = (.tuple #[]) ∧ Ctx Fs.flatten w0 w' [Item.own u1 (rr : (List Int))] := sort_calls Tryz.lays189 a1 u1 hH hn rr hF

theorem c_Slices_Compact_Lint_int {Fs : List (List Nat)} {w0 : World} (a1 : (List Int)) (u1 : Value) (hH : Hold [Item.own u1 (a1 : (List Int))] w0 Fs) (hn : Fs.flatten.Nodup) (rr : (List Int)) (hF : Slices.Compact_Lint_int a1 = some rr) :
    Calls Tryz.prog 81 [u1].toArray w0 fun e w' => ∃ v, e = .returned v ∧ ∃ q0 : Value, v = q0 ∧ Ctx Fs.flatten w0 w' [Item.own q0 (rr : (List Int))] := compact_calls Tryz.laysNm220 a1 u1 hH hn rr hF

theorem c_M_termsOf_M_IsVar {w0 : World} (a1 : (List (Int × (List Int)))) (u1 : Value) (g1 : RO [] w0 u1 a1) (rr : (List Int)) (hF : M.termsOf_M_IsVar a1 = some rr) :
 Calls Tryz.prog 97 [u1, (.func (.func 109) #[] #[])].toArray w0 fun e w' => ∃ v, e = .returned v ∧ Res w0 rr v w' := by
 refine calls_of_W Tryz.func97 rfl rfl ?_
 have hC0 := Ctx.start w0
 unfold M.termsOf_M_IsVar at hF
 refine W_seq_reg ?_
 refine WL_assign rfl rfl ?_
 refine WL_nil (W_seq_reg ?_)
 refine WL_buildSlice (vs := []) hC0 Tryz.underlying22 ty3 rfl rfl rfl rfl (by simp) rfl rfl (fun b1 w1 hC1 hB1 => ?_)
 have hC2 := hC1.row0 (α := Int)
 have hC3 := hC2.front 1 rfl
 dsimp only [List.eraseIdx, List.cons_append, List.nil_append, List.append_nil] at hC3
 have hC4 : Ctx [] w0 w1 (Item.own (.slice (some ⟨b1, 0, none⟩) 0 0) (([] : List Int) : List Int) :: []) := hC3.rowOwn (by simp [maxLen])
 refine WL_assign rfl rfl ?_
 refine WL_nil (W_seq (W_seq_reg ?_))
 refine WL_move rfl rfl ?_
 refine WL_len Tryz.underlying35 g1 rfl rfl ?_
 refine WL_move rfl rfl ?_
 refine WL_nil ?_
 obtain ⟨r1, hr1, hF⟩ := bind_some hF
 refine W_norm (fun l w => ∃ v2 : Value, ∃ x3 : (List Int), x3 = r1 ∧ l = [(5, v2)] ∧ Ctx [] w0 w [Item.own v2 (x3 : (List Int))]) ?_ ?_
 ·refine W_block ?_
  refine W.sub (l' := [(1, (.func (.func 109) #[] #[])), (5, (.slice (some ⟨b1, 0, none⟩) 0 0)), (11, u1), (12, (.int .i64 (List.length a1 : Int))), (13, (.int .i64 0))]) ?_ ⟨rfl, rfl, rfl, rfl, rfl, trivial⟩
  refine W_loop (fun k l w => ∃ v1 : Value, ∃ x1 : (List Int), ∃ x2 : Int, l = [(1, (.func (.func 109) #[] #[])), (5, v1), (11, u1), (12, (.int .i64 (List.length a1 : Int))), (13, (.int .i64 x2))] ∧ Ctx [] w0 w [Item.own v1 (x1 : (List Int))] ∧ M.termsOf_M_IsVar_l1 a1 k x1 x2 = some r1) FUEL ⟨(.slice (some ⟨b1, 0, none⟩) 0 0), ([] : List Int), 0, rfl, hC4, hr1⟩ ?_
  clear hr1
  rintro k1 _ w2 ⟨v1, x1, x2, rfl, hC5, hL1⟩
  cases k1 with
  | zero => rw [M.termsOf_M_IsVar_l1] at hL1; cases hL1
  | succ k1 =>
   rw [M.termsOf_M_IsVar_l1] at hL1
   refine W_seq_reg ?_
   refine WL_lss rfl rfl rfl ?_
   refine WL_nil (W_seq ?_)
   refine W_cond rfl (fun hc1 => ?_) (fun hc1 => ?_)
   ·replace hL1 := ite_t hL1 hc1
    refine W_skip (nrm_normal (W_seq (W_block (W_seq_reg ?_))))
    obtain ⟨x4, hx1, hL1⟩ := bind_some hL1
    refine WL_index Tryz.underlying35 ty84 g1 hx1 rfl rfl rfl (fun b2 o1 h1 => ?_)
    refine WL_load ty84 h1 hC5.keep rfl rfl (fun v3 h2 => ?_)
    obtain ⟨v4, rfl, h3⟩ := ro_st84 h2
    refine WL_allocK hC5 zero84 rfl rfl (fun b3 w3 hC6 hB3 hN1 => ?_)
    refine WL_store_box_aggK (cs' := [(.int .i64 x4.1), v4]) (new := [(.int .i64 x4.1), v4]) hC6 0 rfl rfl (by intro v hv; simp only [List.mem_cons, List.not_mem_nil, or_false] at hv; rcases hv with rfl | rfl; exact rfl; exact (ro_one h3)) rfl Tryz.sizeOf84 rfl rfl (fun w4 hC7 hKp1 => ?_)
    try dsimp only [List.set] at hC7
    have hk1 := Keep.over (Keep.of hB3) hN1 hKp1
    refine WL_nil (W_seq_reg ?_)
    refine WL_field Tryz.underlying84 rfl rfl (fun w => ⟨_, Tryz.sizeOf22 w⟩) rfl rfl ?_
    refine WL_load_box hC7 0 rfl rfl Tryz.isAgg22 rfl rfl ?_
    refine WL_len Tryz.underlying22 h3 rfl rfl ?_
    refine WL_move rfl rfl ?_
    refine WL_nil ?_
    obtain ⟨r2, hr2, hL1⟩ := bind_some hL1
    refine W_norm (fun l w => ∃ v6 : Value, ∃ x7 : (List Int), x7 = r2 ∧ l = [(1, (.func (.func 109) #[] #[])), (5, v6), (11, u1), (12, (.int .i64 (List.length a1 : Int))), (13, (.int .i64 x2))] ∧ Ctx [] w0 w [Item.own v6 (x7 : (List Int))]) ?_ ?_
    ·refine W_block ?_
     have hC20 := hC7.f1
     have hC21 := hC20.h1
     refine W.sub (l' := [(1, (.func (.func 109) #[] #[])), (5, v1), (11, u1), (12, (.int .i64 (List.length a1 : Int))), (13, (.int .i64 x2)), (18, v4), (19, (.int .i64 (List.length x4.2 : Int))), (20, (.int .i64 0))]) ?_ ⟨rfl, rfl, rfl, rfl, rfl, rfl, rfl, rfl, trivial⟩
     refine W_loop (fun k l w => ∃ v5 : Value, ∃ x5 : (List Int), ∃ x6 : Int, l = [(1, (.func (.func 109) #[] #[])), (5, v5), (11, u1), (12, (.int .i64 (List.length a1 : Int))), (13, (.int .i64 x2)), (18, v4), (19, (.int .i64 (List.length x4.2 : Int))), (20, (.int .i64 x6))] ∧ Ctx [] w0 w [Item.own v5 (x5 : (List Int))] ∧ M.termsOf_M_IsVar_l2 x4 k x5 x6 = some r2) FUEL ⟨v1, x1, 0, rfl, hC21, hr2⟩ ?_
     clear hr2
     rintro k2 _ w5 ⟨v5, x5, x6, rfl, hC8, hL2⟩
     cases k2 with
     | zero => rw [M.termsOf_M_IsVar_l2] at hL2; cases hL2
     | succ k2 =>
      rw [M.termsOf_M_IsVar_l2] at hL2
      refine W_seq_reg ?_
      refine WL_lss rfl rfl rfl ?_
      refine WL_nil (W_seq ?_)
      refine W_cond rfl (fun hc2 => ?_) (fun hc2 => ?_)
      ·replace hL2 := ite_t hL2 hc2
       refine W_skip (nrm_normal (W_seq (W_block (W_seq_reg ?_))))
       obtain ⟨x8, hx2, hL2⟩ := bind_some hL2
       refine WL_index Tryz.underlying22 ty3 h3 hx2 rfl rfl rfl (fun b4 o2 h4 => ?_)
       refine WL_load ty3 h4 hC8.keep rfl rfl (fun v7 h5 => ?_)
       obtain rfl := ro_int h5
       refine WL_assign rfl rfl ?_
       refine WL_nil (W_seq_reg ?_)
       refine WL_move rfl rfl ?_
       refine WL_move rfl rfl ?_
       obtain ⟨x9, hr3, hL2⟩ := bind_some hL2
       refine WL_callv (cap := []) Tryz.call109 rfl rfl rfl (c_M_IsVar x8 x9 hr3) ?_
       intro _ w6 hv1
       obtain ⟨rfl, hB5⟩ := res_bool hv1
       have hC9 := hC8.grow hB5
       refine WL_nil ?_
       obtain ⟨r3, hr4, hL2⟩ := bind_some hL2
       refine W_norm (fun l w => ∃ v8 : Value, ∃ x10 : (List Int), x10 = r3 ∧ l = [(1, (.func (.func 109) #[] #[])), (5, v8), (11, u1), (12, (.int .i64 (List.length a1 : Int))), (13, (.int .i64 x2)), (18, v4), (19, (.int .i64 (List.length x4.2 : Int))), (20, (.int .i64 x6))] ∧ Ctx [] w0 w [Item.own v8 (x10 : (List Int))]) ?_ ?_
       ·refine W_cond rfl (fun hc3 => ?_) (fun hc3 => ?_)
        ·replace hr4 := ite_t hr4 hc3
         refine W_reg ?_
         refine WL_move rfl rfl ?_
         refine WL_move rfl rfl ?_
         refine WL_buildSlice (vs := [(.int .i64 x8)]) hC9 Tryz.underlying22 ty3 rfl rfl rfl rfl (by intro v hv; simp only [List.mem_cons, List.not_mem_nil, or_false] at hv; rcases hv with rfl <;> rfl) rfl rfl (fun b5 w9 hC11 hB7 => ?_)
         have hC12 := hC11.row0 (α := Int)
         have hC13 := hC12.triv (int_val (x8))
         have hC14 := hC13.row1
         have hC15 := hC14.front 1 rfl
         dsimp only [List.eraseIdx, List.cons_append, List.nil_append, List.append_nil] at hC15
         have hC16 : Ctx [] w0 w9 (Item.own (.slice (some ⟨b5, 0, none⟩) 1 1) ([x8] : List Int) :: [Item.own v5 (x5 : (List Int))]) := hC15.rowOwn (by simp [maxLen])
         obtain ⟨x11, hx3, hr4⟩ := bind_some hr4
         refine WL_append_flat (α := Int) hC16 1 rfl (hC16.ro 0 rfl) (Keep.refl _ _) Tryz.underlying22 ty3 rfl hx3 rfl rfl rfl (fun v9 w10 hC17 => ?_)
         try dsimp only [List.set] at hC17
         refine WL_assign rfl rfl ?_
         refine WL_nil ?_
         have hq1 := Option.some.inj hr4
         subst hq1
         have hC18 := hC17.f1
         have hC19 := hC18.h1
         refine nrm_sub (l' := [(1, (.func (.func 109) #[] #[])), (5, v9), (11, u1), (12, (.int .i64 (List.length a1 : Int))), (13, (.int .i64 x2)), (18, v4), (19, (.int .i64 (List.length x4.2 : Int))), (20, (.int .i64 x6))]) ⟨rfl, rfl, rfl, rfl, rfl, rfl, rfl, rfl, trivial⟩ ?_
         exact ⟨v9, x11, rfl, rfl, hC19⟩
        replace hr4 := ite_f hr4 hc3
        refine W_skip ?_
        have hq2 := Option.some.inj hr4
        subst hq2
        refine nrm_sub (l' := [(1, (.func (.func 109) #[] #[])), (5, v5), (11, u1), (12, (.int .i64 (List.length a1 : Int))), (13, (.int .i64 x2)), (18, v4), (19, (.int .i64 (List.length x4.2 : Int))), (20, (.int .i64 x6))]) ⟨rfl, rfl, rfl, rfl, rfl, rfl, rfl, rfl, trivial⟩ ?_
        exact ⟨v5, x5, rfl, rfl, hC9⟩
       rintro l3 _ w7 hs3 ⟨v8, x10, rfl, rfl, hC10⟩
       try dsimp only at hL2
       refine blk_normal ?_
       refine nrm_sub' hs3 ?_
       clear hs3
       refine W_reg ?_
       refine WL_add rfl rfl rfl ?_
       refine WL_move rfl rfl ?_
       refine WL_nil ?_
       refine nrm_sub (l' := [(1, (.func (.func 109) #[] #[])), (5, v8), (11, u1), (12, (.int .i64 (List.length a1 : Int))), (13, (.int .i64 x2)), (18, v4), (19, (.int .i64 (List.length x4.2 : Int))), (20, (.int .i64 (w64 (x6 + 1))))]) ⟨rfl, rfl, rfl, rfl, rfl, rfl, rfl, rfl, trivial⟩ ?_
       exact ⟨k2, Nat.lt_succ_self _, v8, x10, w64 (x6 + 1), rfl, hC10, hL2⟩
      replace hL2 := ite_f hL2 hc2
      refine W_exit (nrm_exit (nrm_exit (blk_exit ?_)))
      have hq3 := Option.some.inj hL2
      subst hq3
      refine nrm_sub (l' := [(1, (.func (.func 109) #[] #[])), (5, v5), (11, u1), (12, (.int .i64 (List.length a1 : Int))), (13, (.int .i64 x2))]) ⟨rfl, rfl, rfl, rfl, rfl, trivial⟩ ?_
      exact ⟨v5, x5, rfl, rfl, hC8⟩
    rintro l4 _ w11 hs4 ⟨v6, x7, rfl, rfl, hC22⟩
    try dsimp only at hL1
    refine blk_normal ?_
    refine nrm_sub' hs4 ?_
    clear hs4
    refine W_reg ?_
    refine WL_add rfl rfl rfl ?_
    refine WL_move rfl rfl ?_
    refine WL_nil ?_
    refine nrm_sub (l' := [(1, (.func (.func 109) #[] #[])), (5, v6), (11, u1), (12, (.int .i64 (List.length a1 : Int))), (13, (.int .i64 (w64 (x2 + 1))))]) ⟨rfl, rfl, rfl, rfl, rfl, trivial⟩ ?_
    exact ⟨k1, Nat.lt_succ_self _, v6, x7, w64 (x2 + 1), rfl, hC22, hL1⟩
   replace hL1 := ite_f hL1 hc1
   refine W_exit (nrm_exit (nrm_exit (blk_exit ?_)))
   have hq4 := Option.some.inj hL1
   subst hq4
   refine nrm_sub (l' := [(5, v1)]) ⟨rfl, trivial⟩ ?_
   exact ⟨v1, x1, rfl, rfl, hC5⟩
 rintro l5 _ w12 hs5 ⟨v2, x3, rfl, rfl, hC23⟩
 try dsimp only at hF
 refine nrm_sub' hs5 ?_
 clear hs5
 refine W_seq_reg ?_
 refine WL_move rfl rfl ?_
 obtain ⟨x12, hr5, hF⟩ := bind_some hF
 obtain ⟨Fs1, hH1, hn1, hF1, hO1, hb1⟩ := Ctx.lend2 (As := []) [Item.own v2 (x3 : (List Int))] hC23
 refine WL_call Tryz.call80 rfl rfl (c_Slices_Sort_Lint_int x3 v2 hH1 hn1 x12 hr5) ?_
 rintro _ w13 ⟨rfl, hq5⟩
 have hC25 : Ctx [] w0 w13 [Item.own v2 (x12 : (List Int))] := hb1 _ _ hq5
 refine WL_nil (W_seq_reg ?_)
 refine WL_move rfl rfl ?_
 obtain ⟨x13, hr6, hF⟩ := bind_some hF
 obtain ⟨Fs2, hH2, hn2, hF2, hO2, hb2⟩ := Ctx.lend2 (As := []) [Item.own v2 (x12 : (List Int))] hC25
 refine WL_call Tryz.call81 rfl rfl (c_Slices_Compact_Lint_int x12 v2 hH2 hn2 x13 hr6) ?_
 rintro v10 w14 ⟨_, rfl, hq6⟩
 have hC27 : Ctx [] w0 w14 [Item.own v10 (x13 : (List Int))] := hb2 _ _ hq6
 refine WL_assign rfl rfl ?_
 refine WL_nil (W_ret ?_)
 have hq7 := Option.some.inj hF
 subst hq7
 refine fn_ret1 rfl rfl ?_
 exact ⟨_, rfl, own_res hC27 0 rfl⟩

theorem c_M_VarsOf {w0 : World} (a1 : ((List Int) × (List (Int × (List Int))))) (u1 : Value) (g1 : RO [] w0 u1 a1.1) (u2 : Value) (g2 : RO [] w0 u2 a1.2) (rr : (List Int)) (hF : M.VarsOf a1 = some rr) :
 Calls Tryz.prog 150 [(.agg #[u1, u2])].toArray w0 fun e w' => ∃ v, e = .returned v ∧ Res w0 rr v w' := by
 refine calls_of_W Tryz.func150 rfl rfl ?_
 have hC0 := Ctx.start w0
 unfold M.VarsOf at hF
 refine W_seq_reg ?_
 refine WL_boxK (cs := [u1, u2]) hC0 rfl rfl rfl (fun b1 w1 hC1 hB1 hN1 => ?_)
 refine WL_assign rfl rfl ?_
 refine WL_nil (W_seq_reg ?_)
 refine WL_field Tryz.underlying37 rfl rfl (fun w => ⟨_, Tryz.sizeOf35 w⟩) rfl rfl ?_
 refine WL_load_box hC1 0 rfl rfl Tryz.isAgg35 rfl rfl ?_
 obtain ⟨x1, hr1, hF⟩ := bind_some hF
 refine WL_call Tryz.call97 rfl rfl (c_M_termsOf_M_IsVar a1.2 u2 (g2.now hC1.keep) x1 hr1) ?_
 rintro v1 w2 ⟨hB2, F1, hv1, hn1, hb1⟩
 have hC2 := hC1.push hB2 (A := Item.own v1 x1) hv1 hn1 hb1
 refine WL_assign rfl rfl ?_
 refine WL_nil (W_ret ?_)
 have hq1 := Option.some.inj hF
 subst hq1
 refine fn_ret1 rfl rfl ?_
 exact ⟨_, rfl, own_res hC2 0 rfl⟩

theorem c_Slices_Index_Lint_int {w0 : World} (a1 : (List Int)) (u1 : Value) (g1 : RO [] w0 u1 a1) (a2 : Int) (rr : Int) (hF : Slices.Index_Lint_int a1 a2 = some rr) :
 Calls Tryz.prog 100 [u1, (.int .i64 a2)].toArray w0 fun e w' => ∃ v, e = .returned v ∧ Res w0 rr v w' := by
 refine calls_of_W Tryz.func100 rfl rfl ?_
 have hC0 := Ctx.start w0
 unfold Slices.Index_Lint_int at hF
 refine W_seq_reg ?_
 refine WL_assign rfl rfl ?_
 refine WL_nil (W_seq (W_seq_reg ?_))
 refine WL_move rfl rfl ?_
 refine WL_len Tryz.underlying22 g1 rfl rfl ?_
 refine WL_move rfl rfl ?_
 refine WL_nil ?_
 obtain ⟨r1, hr1, hF⟩ := bind_some hF
 refine W_norm (fun l w => .inl () = r1 ∧ l = [] ∧ Below w0.heap.size w0 w ∧ Ctx [] w0 w []) ?_ ?_
 ·refine W_block ?_
  refine W.sub (l' := [(0, u1), (1, (.int .i64 a2)), (7, (.int .i64 (List.length a1 : Int))), (8, (.int .i64 0))]) ?_ ⟨rfl, rfl, rfl, rfl, trivial⟩
  refine W_loop (fun k l w => ∃ x1 : Int, l = [(0, u1), (1, (.int .i64 a2)), (7, (.int .i64 (List.length a1 : Int))), (8, (.int .i64 x1))] ∧ Below w0.heap.size w0 w ∧ Ctx [] w0 w [] ∧ Slices.Index_Lint_int_l1 a1 a2 k x1 = some r1) FUEL ⟨0, rfl, (Below.refl _ _), hC0, hr1⟩ ?_
  clear hr1
  rintro k1 _ w1 ⟨x1, rfl, hB1, hC1, hL1⟩
  cases k1 with
  | zero => rw [Slices.Index_Lint_int_l1] at hL1; cases hL1
  | succ k1 =>
   rw [Slices.Index_Lint_int_l1] at hL1
   refine W_seq_reg ?_
   refine WL_lss rfl rfl rfl ?_
   refine WL_nil (W_seq ?_)
   refine W_cond rfl (fun hc1 => ?_) (fun hc1 => ?_)
   ·replace hL1 := ite_t hL1 hc1
    refine W_skip (nrm_normal (W_seq (W_block (W_seq_reg ?_))))
    refine WL_move rfl rfl ?_
    refine WL_assign rfl rfl ?_
    refine WL_nil (W_seq_reg ?_)
    refine WL_move rfl rfl ?_
    refine WL_move rfl rfl ?_
    refine WL_move rfl rfl ?_
    obtain ⟨x2, hx1, hL1⟩ := bind_some hL1
    refine WL_index Tryz.underlying22 ty3 g1 hx1 rfl rfl rfl (fun b1 o1 h1 => ?_)
    refine WL_load ty3 h1 hC1.keep rfl rfl (fun v1 h2 => ?_)
    obtain rfl := ro_int h2
    refine WL_eql rfl rfl rfl ?_
    refine WL_nil ?_
    refine W_cond rfl (fun hc2 => ?_) (fun hc2 => ?_)
    ·replace hL1 := ite_t hL1 hc2
     refine W_seq_reg ?_
     refine WL_move rfl rfl ?_
     refine WL_assign rfl rfl ?_
     refine WL_nil (W_ret (blk_ret (nrm_ret (nrm_ret (blk_ret (nrm_ret (nrm_ret ?_)))))))
     have hq1 := Option.some.inj hL1
     subst hq1
     dsimp only at hF
     have hq2 := Option.some.inj hF
     subst hq2
     refine fn_ret1 rfl rfl ?_
     exact ⟨_, rfl, int_res hC1 _⟩
    replace hL1 := ite_f hL1 hc2
    refine W_skip (blk_normal (nrm_normal (W_reg ?_)))
    refine WL_add rfl rfl rfl ?_
    refine WL_move rfl rfl ?_
    refine WL_nil ?_
    refine nrm_sub (l' := [(0, u1), (1, (.int .i64 a2)), (7, (.int .i64 (List.length a1 : Int))), (8, (.int .i64 (w64 (x1 + 1))))]) ⟨rfl, rfl, rfl, rfl, trivial⟩ ?_
    exact ⟨k1, Nat.lt_succ_self _, w64 (x1 + 1), rfl, (Keep.of hB1).below, hC1, hL1⟩
   replace hL1 := ite_f hL1 hc1
   refine W_exit (nrm_exit (nrm_exit (blk_exit ?_)))
   have hq3 := Option.some.inj hL1
   subst hq3
   refine nrm_sub (l' := []) trivial ?_
   exact ⟨rfl, rfl, (Keep.of hB1).below, hC1⟩
 rintro l2 _ w2 hs2 ⟨rfl, rfl, hB2, hC2⟩
 try dsimp only at hF
 refine nrm_sub' hs2 ?_
 clear hs2
 refine W_seq_reg ?_
 refine WL_assign rfl rfl ?_
 refine WL_nil (W_ret ?_)
 have hq4 := Option.some.inj hF
 subst hq4
 refine fn_ret1 rfl rfl ?_
 exact ⟨_, rfl, int_res hC2 _⟩

theorem c_Slices_Contains_Lint_int {w0 : World} (a1 : (List Int)) (u1 : Value) (g1 : RO [] w0 u1 a1) (a2 : Int) (rr : Bool) (hF : Slices.Contains_Lint_int a1 a2 = some rr) :
 Calls Tryz.prog 66 [u1, (.int .i64 a2)].toArray w0 fun e w' => ∃ v, e = .returned v ∧ Res w0 rr v w' := by
 refine calls_of_W Tryz.func66 rfl rfl ?_
 have hC0 := Ctx.start w0
 unfold Slices.Contains_Lint_int at hF
 refine W_seq_reg ?_
 refine WL_assign rfl rfl ?_
 refine WL_nil (W_seq_reg ?_)
 refine WL_move rfl rfl ?_
 refine WL_move rfl rfl ?_
 obtain ⟨x1, hr1, hF⟩ := bind_some hF
 refine WL_call Tryz.call100 rfl rfl (c_Slices_Index_Lint_int a1 u1 (g1.now hC0.keep) a2 x1 hr1) ?_
 intro _ w1 hv1
 obtain ⟨rfl, hB1⟩ := res_int hv1
 have hC1 := hC0.grow hB1
 refine WL_geq rfl rfl rfl ?_
 refine WL_assign rfl rfl ?_
 refine WL_nil (W_ret ?_)
 have hq1 := Option.some.inj hF
 subst hq1
 refine fn_ret1 rfl rfl ?_
 exact ⟨_, rfl, bool_res hC1 _⟩

theorem c_M_hasHead_c1 {w0 : World} (a1 : Int) (pb1 : Nat) (ax1 : (List Int)) (g1 : ROAt [] w0 pb1 0 ax1) (rr : Bool) (hF : M.hasHead_c1 a1 ax1 = some rr) :
 Calls Tryz.prog 151 [(.int .i64 a1), (ptr pb1 0)].toArray w0 fun e w' => ∃ v, e = .returned v ∧ Res w0 rr v w' := by
 refine calls_of_W Tryz.func151 rfl rfl ?_
 have hC0 := Ctx.start w0
 unfold M.hasHead_c1 at hF
 refine W_seq_reg ?_
 refine WL_assign rfl rfl ?_
 refine WL_nil (W_seq_reg ?_)
 refine WL_load ty22 g1 hC0.keep rfl rfl (fun v1 h1 => ?_)
 refine WL_move rfl rfl ?_
 obtain ⟨x1, hr1, hF⟩ := bind_some hF
 refine WL_call Tryz.call66 rfl rfl (c_Slices_Contains_Lint_int ax1 v1 (h1.now hC0.keep) a1 x1 hr1) ?_
 intro _ w1 hv1
 obtain ⟨rfl, hB1⟩ := res_bool hv1
 have hC1 := hC0.grow hB1
 refine WL_not rfl rfl ?_
 refine WL_assign rfl rfl ?_
 refine WL_nil (W_ret ?_)
 have hq1 := Option.some.inj hF
 subst hq1
 refine fn_ret1 rfl rfl ?_
 exact ⟨_, rfl, bool_res hC1 _⟩

theorem c_Slices_IndexFunc_Lint_int_M_hasHead_c1 {w0 : World} (a1 : (List Int)) (u1 : Value) (g1 : RO [] w0 u1 a1) (pb1 : Nat) (ax1 : (List Int)) (g2 : ROAt [] w0 pb1 0 ax1) (rr : Int) (hF : Slices.IndexFunc_Lint_int_M_hasHead_c1 a1 ax1 = some rr) :
 Calls Tryz.prog 99 [u1, (.func (.func 151) #[] #[(ptr pb1 0)])].toArray w0 fun e w' => ∃ v, e = .returned v ∧ Res w0 rr v w' := by
 refine calls_of_W Tryz.func99 rfl rfl ?_
 have hC0 := Ctx.start w0
 unfold Slices.IndexFunc_Lint_int_M_hasHead_c1 at hF
 refine W_seq_reg ?_
 refine WL_assign rfl rfl ?_
 refine WL_nil (W_seq (W_seq_reg ?_))
 refine WL_move rfl rfl ?_
 refine WL_len Tryz.underlying22 g1 rfl rfl ?_
 refine WL_move rfl rfl ?_
 refine WL_nil ?_
 obtain ⟨r1, hr1, hF⟩ := bind_some hF
 refine W_norm (fun l w => .inl () = r1 ∧ l = [] ∧ Below w0.heap.size w0 w ∧ Ctx [] w0 w []) ?_ ?_
 ·refine W_block ?_
  refine W.sub (l' := [(0, u1), (1, (.func (.func 151) #[] #[(ptr pb1 0)])), (7, (.int .i64 (List.length a1 : Int))), (8, (.int .i64 0))]) ?_ ⟨rfl, rfl, rfl, rfl, trivial⟩
  refine W_loop (fun k l w => ∃ x1 : Int, l = [(0, u1), (1, (.func (.func 151) #[] #[(ptr pb1 0)])), (7, (.int .i64 (List.length a1 : Int))), (8, (.int .i64 x1))] ∧ Below w0.heap.size w0 w ∧ Ctx [] w0 w [] ∧ Slices.IndexFunc_Lint_int_M_hasHead_c1_l1 a1 ax1 k x1 = some r1) FUEL ⟨0, rfl, (Below.refl _ _), hC0, hr1⟩ ?_
  clear hr1
  rintro k1 _ w1 ⟨x1, rfl, hB1, hC1, hL1⟩
  cases k1 with
  | zero => rw [Slices.IndexFunc_Lint_int_M_hasHead_c1_l1] at hL1; cases hL1
  | succ k1 =>
   rw [Slices.IndexFunc_Lint_int_M_hasHead_c1_l1] at hL1
   refine W_seq_reg ?_
   refine WL_lss rfl rfl rfl ?_
   refine WL_nil (W_seq ?_)
   refine W_cond rfl (fun hc1 => ?_) (fun hc1 => ?_)
   ·replace hL1 := ite_t hL1 hc1
    refine W_skip (nrm_normal (W_seq (W_block (W_seq_reg ?_))))
    refine WL_move rfl rfl ?_
    refine WL_assign rfl rfl ?_
    refine WL_nil (W_seq_reg ?_)
    refine WL_move rfl rfl ?_
    refine WL_move rfl rfl ?_
    refine WL_move rfl rfl ?_
    obtain ⟨x2, hx1, hL1⟩ := bind_some hL1
    refine WL_index Tryz.underlying22 ty3 g1 hx1 rfl rfl rfl (fun b1 o1 h1 => ?_)
    refine WL_load ty3 h1 hC1.keep rfl rfl (fun v1 h2 => ?_)
    obtain rfl := ro_int h2
    obtain ⟨x3, hr2, hL1⟩ := bind_some hL1
    refine WL_callv (cap := [(ptr pb1 0)]) Tryz.call151 rfl rfl rfl (c_M_hasHead_c1 x2 pb1 ax1 (g2.now hC1.keep) x3 hr2) ?_
    intro _ w2 hv1
    obtain ⟨rfl, hB2⟩ := res_bool hv1
    have hC2 := hC1.grow hB2
    refine WL_nil ?_
    refine W_cond rfl (fun hc2 => ?_) (fun hc2 => ?_)
    ·replace hL1 := ite_t hL1 hc2
     refine W_seq_reg ?_
     refine WL_move rfl rfl ?_
     refine WL_assign rfl rfl ?_
     refine WL_nil (W_ret (blk_ret (nrm_ret (nrm_ret (blk_ret (nrm_ret (nrm_ret ?_)))))))
     have hq1 := Option.some.inj hL1
     subst hq1
     dsimp only at hF
     have hq2 := Option.some.inj hF
     subst hq2
     refine fn_ret1 rfl rfl ?_
     exact ⟨_, rfl, int_res hC2 _⟩
    replace hL1 := ite_f hL1 hc2
    refine W_skip (blk_normal (nrm_normal (W_reg ?_)))
    refine WL_add rfl rfl rfl ?_
    refine WL_move rfl rfl ?_
    refine WL_nil ?_
    refine nrm_sub (l' := [(0, u1), (1, (.func (.func 151) #[] #[(ptr pb1 0)])), (7, (.int .i64 (List.length a1 : Int))), (8, (.int .i64 (w64 (x1 + 1))))]) ⟨rfl, rfl, rfl, rfl, trivial⟩ ?_
    exact ⟨k1, Nat.lt_succ_self _, w64 (x1 + 1), rfl, ((Keep.of hB1).then hB2).below, hC2, hL1⟩
   replace hL1 := ite_f hL1 hc1
   refine W_exit (nrm_exit (nrm_exit (blk_exit ?_)))
   have hq3 := Option.some.inj hL1
   subst hq3
   refine nrm_sub (l' := []) trivial ?_
   exact ⟨rfl, rfl, (Keep.of hB1).below, hC1⟩
 rintro l2 _ w3 hs2 ⟨rfl, rfl, hB3, hC3⟩
 try dsimp only at hF
 refine nrm_sub' hs2 ?_
 clear hs2
 refine W_seq_reg ?_
 refine WL_assign rfl rfl ?_
 refine WL_nil (W_ret ?_)
 have hq4 := Option.some.inj hF
 subst hq4
 refine fn_ret1 rfl rfl ?_
 exact ⟨_, rfl, int_res hC3 _⟩

theorem c_Slices_ContainsFunc_Lint_int_M_hasHead_c1 {w0 : World} (a1 : (List Int)) (u1 : Value) (g1 : RO [] w0 u1 a1) (pb1 : Nat) (ax1 : (List Int)) (g2 : ROAt [] w0 pb1 0 ax1) (rr : Bool) (hF : Slices.ContainsFunc_Lint_int_M_hasHead_c1 a1 ax1 = some rr) :
 Calls Tryz.prog 71 [u1, (.func (.func 151) #[] #[(ptr pb1 0)])].toArray w0 fun e w' => ∃ v, e = .returned v ∧ Res w0 rr v w' := by
 refine calls_of_W Tryz.func71 rfl rfl ?_
 have hC0 := Ctx.start w0
 unfold Slices.ContainsFunc_Lint_int_M_hasHead_c1 at hF
 refine W_seq_reg ?_
 refine WL_assign rfl rfl ?_
 refine WL_nil (W_seq_reg ?_)
 refine WL_move rfl rfl ?_
 refine WL_move rfl rfl ?_
 obtain ⟨x1, hr1, hF⟩ := bind_some hF
 refine WL_call Tryz.call99 rfl rfl (c_Slices_IndexFunc_Lint_int_M_hasHead_c1 a1 u1 (g1.now hC0.keep) pb1 ax1 (g2.now hC0.keep) x1 hr1) ?_
 intro _ w1 hv1
 obtain ⟨rfl, hB1⟩ := res_int hv1
 have hC1 := hC0.grow hB1
 refine WL_geq rfl rfl rfl ?_
 refine WL_assign rfl rfl ?_
 refine WL_nil (W_ret ?_)
 have hq1 := Option.some.inj hF
 subst hq1
 refine fn_ret1 rfl rfl ?_
 exact ⟨_, rfl, bool_res hC1 _⟩

theorem c_M_hasHead {w0 : World} (a1 : ((List Int) × (List (Int × (List Int))))) (u1 : Value) (g1 : RO [] w0 u1 a1.1) (u2 : Value) (g2 : RO [] w0 u2 a1.2) (rr : Bool) (hF : M.hasHead a1 = some rr) :
 Calls Tryz.prog 121 [(.agg #[u1, u2])].toArray w0 fun e w' => ∃ v, e = .returned v ∧ Res w0 rr v w' := by
 refine calls_of_W Tryz.func121 rfl rfl ?_
 have hC0 := Ctx.start w0
 unfold M.hasHead at hF
 refine W_seq_reg ?_
 refine WL_boxK (cs := [u1, u2]) hC0 rfl rfl rfl (fun b1 w1 hC1 hB1 hN1 => ?_)
 refine WL_assign rfl rfl ?_
 refine WL_nil (W_seq_reg ?_)
 refine WL_load_box_agg [u1, u2] hC1 0 rfl rfl rfl Tryz.isAgg37 Tryz.sizeOf37 rfl rfl ?_
 obtain ⟨x1, hr1, hF⟩ := bind_some hF
 refine WL_call Tryz.call150 rfl rfl (c_M_VarsOf (a1.1, a1.2) u1 (g1.now hC1.keep) u2 (g2.now hC1.keep) x1 hr1) ?_
 rintro v1 w2 ⟨hB2, F1, hv1, hn1, hb1⟩
 have hC2 := hC1.push hB2 (A := Item.own v1 x1) hv1 hn1 hb1
 refine WL_allocK hC2 zero22 rfl rfl (fun b2 w3 hC3 hB3 hN2 => ?_)
 refine WL_store_boxK (cs' := [v1]) hC3 0 rfl rfl (ro_one (hC3.ro 1 rfl)) rfl Tryz.sizeOf22 rfl rfl (fun w4 hC4 hKp1 => ?_)
 try dsimp only [List.set] at hC4
 have hk1 := Keep.over (((Keep.of hB1).then hB2).then hB3) (Nat.le_trans ((Keep.of hB1).then hB2).size hN2) hKp1
 have hk2 := Keep.over ((Keep.of hB2).then hB3) (Nat.le_trans (Keep.of hB2).size hN2) hKp1
 have hk3 := Keep.over (Keep.of hB3) hN2 hKp1
 refine WL_nil ?_
 obtain ⟨r1, hr2, hF⟩ := bind_some hF
 refine W_cut (fun l w => ∃ x2 : Bool, x2 = r1 ∧ l = [(2, (.bool x2))] ∧ Below w4.heap.size w4 w ∧ Ctx [] w0 w []) ?_ ?_
 ·refine W_reg ?_
  refine WL_field Tryz.underlying37 rfl rfl (fun w => ⟨_, Tryz.sizeOf22 w⟩) rfl rfl ?_
  refine WL_load_box hC4 2 rfl rfl Tryz.isAgg22 rfl rfl ?_
  refine WL_len Tryz.underlying22 g1 rfl rfl ?_
  refine WL_leq rfl rfl rfl ?_
  refine WL_move rfl rfl ?_
  refine WL_fork (fun hc1 => ?_) (fun hc1 => ?_)
  ·replace hr2 := ite_t hr2 hc1
   refine WL_guard rfl rfl ?_
   refine WL_field Tryz.underlying37 rfl rfl (fun w => ⟨_, Tryz.sizeOf22 w⟩) rfl rfl ?_
   refine WL_guard rfl rfl ?_
   refine WL_load_box hC4 2 rfl rfl Tryz.isAgg22 rfl rfl ?_
   refine WL_guard rfl rfl ?_
   refine WL_makeFunc rfl rfl ?_
   obtain ⟨x3, hr3, hr2⟩ := bind_some hr2
   refine WL_guard rfl rfl ?_
   refine WL_call Tryz.call71 rfl rfl (c_Slices_ContainsFunc_Lint_int_M_hasHead_c1 a1.1 u1 (g1.now hC4.keep) b2 x1 (hC4.boxAt 0 rfl (repw_slice (hC4.ro 1 rfl))) x3 hr3) ?_
   intro _ w6 hv2
   obtain ⟨rfl, hB5⟩ := res_bool hv2
   have hC6 := hC4.grow hB5
   refine WL_guard rfl rfl ?_
   refine WL_not rfl rfl ?_
   refine WL_pick_t rfl rfl rfl ?_
   refine WL_assign rfl rfl ?_
   refine WL_nil ?_
   have hq1 := Option.some.inj hr2
   subst hq1
   have hC7 := hC6.h0
   refine nrm_sub (l' := [(2, (.bool (!x3)))]) ⟨rfl, trivial⟩ ?_
   exact ⟨(!x3), rfl, rfl, (Keep.of hB5).below, hC7⟩
  replace hr2 := ite_f hr2 hc1
  refine WL_guard_skip rfl rfl (by simp) rfl ?_
  refine WL_guard_skip rfl rfl (by simp) rfl ?_
  refine WL_guard_skip rfl rfl (by simp) rfl ?_
  refine WL_guard_skip rfl rfl (by simp) rfl ?_
  refine WL_guard_skip rfl rfl (by simp) rfl ?_
  refine WL_pick_f rfl rfl rfl ?_
  refine WL_assign rfl rfl ?_
  refine WL_nil ?_
  have hq2 := Option.some.inj hr2
  subst hq2
  have hC8 := hC4.h0
  refine nrm_sub (l' := [(2, (.bool false))]) ⟨rfl, trivial⟩ ?_
  exact ⟨false, rfl, rfl, (Below.refl _ _), hC8⟩
 rintro _ w5 ⟨x2, rfl, rfl, hB4, hC5⟩
 try dsimp only at hF
 refine W_ret ?_
 have hq3 := Option.some.inj hF
 subst hq3
 refine fn_ret1 rfl rfl ?_
 exact ⟨_, rfl, bool_res hC5 _⟩

theorem c_Slices_IndexFunc_Limpl_Atom_impl_Atom_M_IsQuery_c1 {w0 : World} (a1 : (List (Int × (List Int)))) (u1 : Value) (g1 : RO [] w0 u1 a1) (pb1 : Nat) (ax1 : (List Int)) (g2 : ROAt [] w0 pb1 0 ax1) (rr : Int) (hF : Slices.IndexFunc_Limpl_Atom_impl_Atom_M_IsQuery_c1 a1 ax1 = some rr) :
 Calls Tryz.prog 148 [u1, (.func (.func 119) #[] #[(ptr pb1 0)])].toArray w0 fun e w' => ∃ v, e = .returned v ∧ Res w0 rr v w' := by
 refine calls_of_W Tryz.func148 rfl rfl ?_
 have hC0 := Ctx.start w0
 unfold Slices.IndexFunc_Limpl_Atom_impl_Atom_M_IsQuery_c1 at hF
 refine W_seq_reg ?_
 refine WL_assign rfl rfl ?_
 refine WL_nil (W_seq (W_seq_reg ?_))
 refine WL_move rfl rfl ?_
 refine WL_len Tryz.underlying35 g1 rfl rfl ?_
 refine WL_move rfl rfl ?_
 refine WL_nil ?_
 obtain ⟨r1, hr1, hF⟩ := bind_some hF
 refine W_norm (fun l w => .inl () = r1 ∧ l = [] ∧ Below w0.heap.size w0 w ∧ Ctx [] w0 w []) ?_ ?_
 ·refine W_block ?_
  refine W.sub (l' := [(0, u1), (1, (.func (.func 119) #[] #[(ptr pb1 0)])), (7, (.int .i64 (List.length a1 : Int))), (8, (.int .i64 0))]) ?_ ⟨rfl, rfl, rfl, rfl, trivial⟩
  refine W_loop (fun k l w => ∃ x1 : Int, l = [(0, u1), (1, (.func (.func 119) #[] #[(ptr pb1 0)])), (7, (.int .i64 (List.length a1 : Int))), (8, (.int .i64 x1))] ∧ Below w0.heap.size w0 w ∧ Ctx [] w0 w [] ∧ Slices.IndexFunc_Limpl_Atom_impl_Atom_M_IsQuery_c1_l1 a1 ax1 k x1 = some r1) FUEL ⟨0, rfl, (Below.refl _ _), hC0, hr1⟩ ?_
  clear hr1
  rintro k1 _ w1 ⟨x1, rfl, hB1, hC1, hL1⟩
  cases k1 with
  | zero => rw [Slices.IndexFunc_Limpl_Atom_impl_Atom_M_IsQuery_c1_l1] at hL1; cases hL1
  | succ k1 =>
   rw [Slices.IndexFunc_Limpl_Atom_impl_Atom_M_IsQuery_c1_l1] at hL1
   refine W_seq_reg ?_
   refine WL_lss rfl rfl rfl ?_
   refine WL_nil (W_seq ?_)
   refine W_cond rfl (fun hc1 => ?_) (fun hc1 => ?_)
   ·replace hL1 := ite_t hL1 hc1
    refine W_skip (nrm_normal (W_seq (W_block (W_seq_reg ?_))))
    refine WL_move rfl rfl ?_
    refine WL_assign rfl rfl ?_
    refine WL_nil (W_seq_reg ?_)
    refine WL_move rfl rfl ?_
    refine WL_move rfl rfl ?_
    refine WL_move rfl rfl ?_
    obtain ⟨x2, hx1, hL1⟩ := bind_some hL1
    refine WL_index Tryz.underlying35 ty84 g1 hx1 rfl rfl rfl (fun b1 o1 h1 => ?_)
    refine WL_load ty84 h1 hC1.keep rfl rfl (fun v1 h2 => ?_)
    obtain ⟨v2, rfl, h3⟩ := ro_st84 h2
    obtain ⟨x3, hr2, hL1⟩ := bind_some hL1
    refine WL_callv (cap := [(ptr pb1 0)]) Tryz.call119 rfl rfl rfl (c_M_IsQuery_c1 x2 v2 (h3.now hC1.keep) pb1 ax1 (g2.now hC1.keep) x3 hr2) ?_
    intro _ w2 hv1
    obtain ⟨rfl, hB2⟩ := res_bool hv1
    have hC2 := hC1.grow hB2
    refine WL_nil ?_
    refine W_cond rfl (fun hc2 => ?_) (fun hc2 => ?_)
    ·replace hL1 := ite_t hL1 hc2
     refine W_seq_reg ?_
     refine WL_move rfl rfl ?_
     refine WL_assign rfl rfl ?_
     refine WL_nil (W_ret (blk_ret (nrm_ret (nrm_ret (blk_ret (nrm_ret (nrm_ret ?_)))))))
     have hq1 := Option.some.inj hL1
     subst hq1
     dsimp only at hF
     have hq2 := Option.some.inj hF
     subst hq2
     refine fn_ret1 rfl rfl ?_
     exact ⟨_, rfl, int_res hC2 _⟩
    replace hL1 := ite_f hL1 hc2
    refine W_skip (blk_normal (nrm_normal (W_reg ?_)))
    refine WL_add rfl rfl rfl ?_
    refine WL_move rfl rfl ?_
    refine WL_nil ?_
    refine nrm_sub (l' := [(0, u1), (1, (.func (.func 119) #[] #[(ptr pb1 0)])), (7, (.int .i64 (List.length a1 : Int))), (8, (.int .i64 (w64 (x1 + 1))))]) ⟨rfl, rfl, rfl, rfl, trivial⟩ ?_
    exact ⟨k1, Nat.lt_succ_self _, w64 (x1 + 1), rfl, ((Keep.of hB1).then hB2).below, hC2, hL1⟩
   replace hL1 := ite_f hL1 hc1
   refine W_exit (nrm_exit (nrm_exit (blk_exit ?_)))
   have hq3 := Option.some.inj hL1
   subst hq3
   refine nrm_sub (l' := []) trivial ?_
   exact ⟨rfl, rfl, (Keep.of hB1).below, hC1⟩
 rintro l2 _ w3 hs2 ⟨rfl, rfl, hB3, hC3⟩
 try dsimp only at hF
 refine nrm_sub' hs2 ?_
 clear hs2
 refine W_seq_reg ?_
 refine WL_assign rfl rfl ?_
 refine WL_nil (W_ret ?_)
 have hq4 := Option.some.inj hF
 subst hq4
 refine fn_ret1 rfl rfl ?_
 exact ⟨_, rfl, int_res hC3 _⟩

theorem c_Slices_ContainsFunc_Limpl_Atom_impl_Atom_M_IsQuery_c1 {w0 : World} (a1 : (List (Int × (List Int)))) (u1 : Value) (g1 : RO [] w0 u1 a1) (pb1 : Nat) (ax1 : (List Int)) (g2 : ROAt [] w0 pb1 0 ax1) (rr : Bool) (hF : Slices.ContainsFunc_Limpl_Atom_impl_Atom_M_IsQuery_c1 a1 ax1 = some rr) :
 Calls Tryz.prog 118 [u1, (.func (.func 119) #[] #[(ptr pb1 0)])].toArray w0 fun e w' => ∃ v, e = .returned v ∧ Res w0 rr v w' := by
 refine calls_of_W Tryz.func118 rfl rfl ?_
 have hC0 := Ctx.start w0
 unfold Slices.ContainsFunc_Limpl_Atom_impl_Atom_M_IsQuery_c1 at hF
 refine W_seq_reg ?_
 refine WL_assign rfl rfl ?_
 refine WL_nil (W_seq_reg ?_)
 refine WL_move rfl rfl ?_
 refine WL_move rfl rfl ?_
 obtain ⟨x1, hr1, hF⟩ := bind_some hF
 refine WL_call Tryz.call148 rfl rfl (c_Slices_IndexFunc_Limpl_Atom_impl_Atom_M_IsQuery_c1 a1 u1 (g1.now hC0.keep) pb1 ax1 (g2.now hC0.keep) x1 hr1) ?_
 intro _ w1 hv1
 obtain ⟨rfl, hB1⟩ := res_int hv1
 have hC1 := hC0.grow hB1
 refine WL_geq rfl rfl rfl ?_
 refine WL_assign rfl rfl ?_
 refine WL_nil (W_ret ?_)
 have hq1 := Option.some.inj hF
 subst hq1
 refine fn_ret1 rfl rfl ?_
 exact ⟨_, rfl, bool_res hC1 _⟩

theorem c_M_IsQuery {w0 : World} (a1 : (List Int)) (u1 : Value) (g1 : RO [] w0 u1 a1) (a2 : ((List Int) × (List (Int × (List Int))))) (u2 : Value) (g2 : RO [] w0 u2 a2.1) (u3 : Value) (g3 : RO [] w0 u3 a2.2) (rr : Bool) (hF : M.IsQuery a1 a2 = some rr) :
 Calls Tryz.prog 93 [u1, (.agg #[u2, u3])].toArray w0 fun e w' => ∃ v, e = .returned v ∧ Res w0 rr v w' := by
 refine calls_of_W Tryz.func93 rfl rfl ?_
 have hC0 := Ctx.start w0
 unfold M.IsQuery at hF
 refine W_seq_reg ?_
 refine WL_boxK (cs := [u1]) hC0 (ro_cells g1) rfl rfl (fun b1 w1 hC1 hB1 hN1 => ?_)
 refine WL_boxK (cs := [u2, u3]) hC1 rfl rfl rfl (fun b2 w2 hC2 hB2 hN2 => ?_)
 refine WL_assign rfl rfl ?_
 refine WL_nil ?_
 obtain ⟨r1, hr1, hF⟩ := bind_some hF
 refine W_cut (fun l w => ∃ x1 : Bool, x1 = r1 ∧ l = [(4, (.bool x1))] ∧ Below w2.heap.size w2 w ∧ Ctx [] w0 w []) ?_ ?_
 ·refine W_reg ?_
  refine WL_load_box hC2 1 rfl rfl Tryz.isAgg22 rfl rfl ?_
  obtain ⟨x2, hr2, hr1⟩ := bind_some hr1
  refine WL_call Tryz.call114 rfl rfl (c_M_IsSchema a1 u1 (g1.now hC2.keep) x2 hr2) ?_
  intro _ w4 hv1
  obtain ⟨rfl, hB4⟩ := res_bool hv1
  have hC4 := hC2.grow hB4
  refine WL_move rfl rfl ?_
  refine WL_fork (fun hc1 => ?_) (fun hc1 => ?_)
  ·replace hr1 := ite_t hr1 hc1
   refine WL_guard rfl rfl ?_
   refine WL_field Tryz.underlying37 rfl rfl (fun w => ⟨_, Tryz.sizeOf35 w⟩) rfl rfl ?_
   refine WL_guard rfl rfl ?_
   refine WL_load_box hC4 0 rfl rfl Tryz.isAgg35 rfl rfl ?_
   refine WL_guard rfl rfl ?_
   refine WL_len Tryz.underlying35 g3 rfl rfl ?_
   obtain ⟨x3, hr3, hr1⟩ := bind_some hr1
   refine WL_guard rfl rfl ?_
   refine WL_call Tryz.call78 rfl rfl (c_M_within (List.length a2.2 : Int) 1 4 x3 hr3) ?_
   intro _ w5 hv2
   obtain ⟨rfl, hB5⟩ := res_bool hv2
   have hC5 := hC4.grow hB5
   refine WL_pick_t rfl rfl rfl ?_
   refine WL_move rfl rfl ?_
   refine WL_fork (fun hc2 => ?_) (fun hc2 => ?_)
   ·replace hr1 := ite_t hr1 hc2
    refine WL_guard rfl rfl ?_
    refine WL_field Tryz.underlying37 rfl rfl (fun w => ⟨_, Tryz.sizeOf35 w⟩) rfl rfl ?_
    refine WL_guard rfl rfl ?_
    refine WL_load_box hC5 0 rfl rfl Tryz.isAgg35 rfl rfl ?_
    refine WL_guard rfl rfl ?_
    refine WL_makeFunc rfl rfl ?_
    obtain ⟨x4, hr4, hr1⟩ := bind_some hr1
    refine WL_guard rfl rfl ?_
    refine WL_call Tryz.call118 rfl rfl (c_Slices_ContainsFunc_Limpl_Atom_impl_Atom_M_IsQuery_c1 a2.2 u3 (g3.now hC5.keep) b1 a1 (hC5.boxAt 1 rfl (repw_slice (g1.now hC5.keep))) x4 hr4) ?_
    intro _ w6 hv3
    obtain ⟨rfl, hB6⟩ := res_bool hv3
    have hC6 := hC5.grow hB6
    refine WL_guard rfl rfl ?_
    refine WL_not rfl rfl ?_
    refine WL_pick_t rfl rfl rfl ?_
    refine WL_move rfl rfl ?_
    refine WL_fork (fun hc3 => ?_) (fun hc3 => ?_)
    ·replace hr1 := ite_t hr1 hc3
     refine WL_guard rfl rfl ?_
     refine WL_load_box_agg [u2, u3] hC6 0 rfl rfl rfl Tryz.isAgg37 Tryz.sizeOf37 rfl rfl ?_
     obtain ⟨x5, hr5, hr1⟩ := bind_some hr1
     refine WL_guard rfl rfl ?_
     refine WL_call Tryz.call121 rfl rfl (c_M_hasHead (a2.1, a2.2) u2 (g2.now hC6.keep) u3 (g3.now hC6.keep) x5 hr5) ?_
     intro _ w7 hv4
     obtain ⟨rfl, hB7⟩ := res_bool hv4
     have hC7 := hC6.grow hB7
     refine WL_pick_t rfl rfl rfl ?_
     refine WL_assign rfl rfl ?_
     refine WL_nil ?_
     have hq1 := Option.some.inj hr1
     subst hq1
     have hC8 := hC7.h0
     refine nrm_sub (l' := [(4, (.bool x5))]) ⟨rfl, trivial⟩ ?_
     exact ⟨x5, rfl, rfl, ((((Keep.of hB4).then hB5).then hB6).then hB7).below, hC8⟩
    replace hr1 := ite_f hr1 hc3
    refine WL_guard_skip rfl rfl (by simp) rfl ?_
    refine WL_guard_skip rfl rfl (by simp) rfl ?_
    refine WL_pick_f rfl rfl rfl ?_
    refine WL_assign rfl rfl ?_
    refine WL_nil ?_
    have hq2 := Option.some.inj hr1
    subst hq2
    have hC9 := hC6.h0
    refine nrm_sub (l' := [(4, (.bool false))]) ⟨rfl, trivial⟩ ?_
    exact ⟨false, rfl, rfl, (((Keep.of hB4).then hB5).then hB6).below, hC9⟩
   replace hr1 := ite_f hr1 hc2
   refine WL_guard_skip rfl rfl (by simp) rfl ?_
   refine WL_guard_skip rfl rfl (by simp) rfl ?_
   refine WL_guard_skip rfl rfl (by simp) rfl ?_
   refine WL_guard_skip rfl rfl (by simp) rfl ?_
   refine WL_guard_skip rfl rfl (by simp) rfl ?_
   refine WL_pick_f rfl rfl rfl ?_
   refine WL_move rfl rfl ?_
   refine WL_guard_skip rfl rfl (by simp) rfl ?_
   refine WL_guard_skip rfl rfl (by simp) rfl ?_
   refine WL_pick_f rfl rfl rfl ?_
   refine WL_assign rfl rfl ?_
   refine WL_nil ?_
   have hq3 := Option.some.inj hr1
   subst hq3
   have hC10 := hC5.h0
   refine nrm_sub (l' := [(4, (.bool false))]) ⟨rfl, trivial⟩ ?_
   exact ⟨false, rfl, rfl, ((Keep.of hB4).then hB5).below, hC10⟩
  replace hr1 := ite_f hr1 hc1
  refine WL_guard_skip rfl rfl (by simp) rfl ?_
  refine WL_guard_skip rfl rfl (by simp) rfl ?_
  refine WL_guard_skip rfl rfl (by simp) rfl ?_
  refine WL_guard_skip rfl rfl (by simp) rfl ?_
  refine WL_pick_f rfl rfl rfl ?_
  refine WL_move rfl rfl ?_
  refine WL_guard_skip rfl rfl (by simp) rfl ?_
  refine WL_guard_skip rfl rfl (by simp) rfl ?_
  refine WL_guard_skip rfl rfl (by simp) rfl ?_
  refine WL_guard_skip rfl rfl (by simp) rfl ?_
  refine WL_guard_skip rfl rfl (by simp) rfl ?_
  refine WL_pick_f rfl rfl rfl ?_
  refine WL_move rfl rfl ?_
  refine WL_guard_skip rfl rfl (by simp) rfl ?_
  refine WL_guard_skip rfl rfl (by simp) rfl ?_
  refine WL_pick_f rfl rfl rfl ?_
  refine WL_assign rfl rfl ?_
  refine WL_nil ?_
  have hq4 := Option.some.inj hr1
  subst hq4
  have hC11 := hC4.h0
  refine nrm_sub (l' := [(4, (.bool false))]) ⟨rfl, trivial⟩ ?_
  exact ⟨false, rfl, rfl, (Keep.of hB4).below, hC11⟩
 rintro _ w3 ⟨x1, rfl, rfl, hB3, hC3⟩
 try dsimp only at hF
 refine W_ret ?_
 have hq5 := Option.some.inj hF
 subst hq5
 refine fn_ret1 rfl rfl ?_
 exact ⟨_, rfl, bool_res hC3 _⟩

theorem c_M_areAsked {w0 : World} (a1 : (List Int)) (u1 : Value) (g1 : RO [] w0 u1 a1) (a2 : (List (Int × (List Int) × Int × Int × Int))) (u2 : Value) (g2 : RO [] w0 u2 a2) (a3 : ((List Int) × (List (Int × (List Int))))) (u3 : Value) (g3 : RO [] w0 u3 a3.1) (u4 : Value) (g4 : RO [] w0 u4 a3.2) (rr : Bool) (hF : M.areAsked a1 a2 a3 = some rr) :
 Calls Tryz.prog 58 [u1, u2, (.agg #[u3, u4])].toArray w0 fun e w' => ∃ v, e = .returned v ∧ Res w0 rr v w' := by
 refine calls_of_W Tryz.func58 rfl rfl ?_
 have hC0 := Ctx.start w0
 unfold M.areAsked at hF
 refine W_seq_reg ?_
 refine WL_boxK (cs := [u3, u4]) hC0 rfl rfl rfl (fun b1 w1 hC1 hB1 hN1 => ?_)
 refine WL_assign rfl rfl ?_
 refine WL_nil ?_
 obtain ⟨r1, hr1, hF⟩ := bind_some hF
 refine W_cut (fun l w => ∃ x1 : Bool, x1 = r1 ∧ l = [(6, (.bool x1))] ∧ Below w1.heap.size w1 w ∧ Ctx [] w0 w []) ?_ ?_
 ·refine W_reg ?_
  refine WL_move rfl rfl ?_
  refine WL_move rfl rfl ?_
  obtain ⟨x2, hr2, hr1⟩ := bind_some hr1
  refine WL_call Tryz.call92 rfl rfl (c_M_AreMethods a1 u1 (g1.now hC1.keep) a2 u2 (g2.now hC1.keep) x2 hr2) ?_
  intro _ w3 hv1
  obtain ⟨rfl, hB3⟩ := res_bool hv1
  have hC3 := hC1.grow hB3
  refine WL_move rfl rfl ?_
  refine WL_fork (fun hc1 => ?_) (fun hc1 => ?_)
  ·replace hr1 := ite_t hr1 hc1
   refine WL_guard rfl rfl ?_
   refine WL_move rfl rfl ?_
   refine WL_guard rfl rfl ?_
   refine WL_load_box_agg [u3, u4] hC3 0 rfl rfl rfl Tryz.isAgg37 Tryz.sizeOf37 rfl rfl ?_
   obtain ⟨x3, hr3, hr1⟩ := bind_some hr1
   refine WL_guard rfl rfl ?_
   refine WL_call Tryz.call93 rfl rfl (c_M_IsQuery a1 u1 (g1.now hC3.keep) (a3.1, a3.2) u3 (g3.now hC3.keep) u4 (g4.now hC3.keep) x3 hr3) ?_
   intro _ w4 hv2
   obtain ⟨rfl, hB4⟩ := res_bool hv2
   have hC4 := hC3.grow hB4
   refine WL_pick_t rfl rfl rfl ?_
   refine WL_assign rfl rfl ?_
   refine WL_nil ?_
   have hq1 := Option.some.inj hr1
   subst hq1
   have hC5 := hC4.h0
   refine nrm_sub (l' := [(6, (.bool x3))]) ⟨rfl, trivial⟩ ?_
   exact ⟨x3, rfl, rfl, ((Keep.of hB3).then hB4).below, hC5⟩
  replace hr1 := ite_f hr1 hc1
  refine WL_guard_skip rfl rfl (by simp) rfl ?_
  refine WL_guard_skip rfl rfl (by simp) rfl ?_
  refine WL_guard_skip rfl rfl (by simp) rfl ?_
  refine WL_pick_f rfl rfl rfl ?_
  refine WL_assign rfl rfl ?_
  refine WL_nil ?_
  have hq2 := Option.some.inj hr1
  subst hq2
  have hC6 := hC3.h0
  refine nrm_sub (l' := [(6, (.bool false))]) ⟨rfl, trivial⟩ ?_
  exact ⟨false, rfl, rfl, (Keep.of hB3).below, hC6⟩
 rintro _ w2 ⟨x1, rfl, rfl, hB2, hC2⟩
 try dsimp only at hF
 refine W_ret ?_
 have hq3 := Option.some.inj hF
 subst hq3
 refine fn_ret1 rfl rfl ?_
 exact ⟨_, rfl, bool_res hC2 _⟩

theorem c_M_termsOf_M_isValue {w0 : World} (a1 : (List (Int × (List Int)))) (u1 : Value) (g1 : RO [] w0 u1 a1) (rr : (List Int)) (hF : M.termsOf_M_isValue a1 = some rr) :
 Calls Tryz.prog 97 [u1, (.func (.func 98) #[] #[])].toArray w0 fun e w' => ∃ v, e = .returned v ∧ Res w0 rr v w' := by
 refine calls_of_W Tryz.func97 rfl rfl ?_
 have hC0 := Ctx.start w0
 unfold M.termsOf_M_isValue at hF
 refine W_seq_reg ?_
 refine WL_assign rfl rfl ?_
 refine WL_nil (W_seq_reg ?_)
 refine WL_buildSlice (vs := []) hC0 Tryz.underlying22 ty3 rfl rfl rfl rfl (by simp) rfl rfl (fun b1 w1 hC1 hB1 => ?_)
 have hC2 := hC1.row0 (α := Int)
 have hC3 := hC2.front 1 rfl
 dsimp only [List.eraseIdx, List.cons_append, List.nil_append, List.append_nil] at hC3
 have hC4 : Ctx [] w0 w1 (Item.own (.slice (some ⟨b1, 0, none⟩) 0 0) (([] : List Int) : List Int) :: []) := hC3.rowOwn (by simp [maxLen])
 refine WL_assign rfl rfl ?_
 refine WL_nil (W_seq (W_seq_reg ?_))
 refine WL_move rfl rfl ?_
 refine WL_len Tryz.underlying35 g1 rfl rfl ?_
 refine WL_move rfl rfl ?_
 refine WL_nil ?_
 obtain ⟨r1, hr1, hF⟩ := bind_some hF
 refine W_norm (fun l w => ∃ v2 : Value, ∃ x3 : (List Int), x3 = r1 ∧ l = [(5, v2)] ∧ Ctx [] w0 w [Item.own v2 (x3 : (List Int))]) ?_ ?_
 ·refine W_block ?_
  refine W.sub (l' := [(1, (.func (.func 98) #[] #[])), (5, (.slice (some ⟨b1, 0, none⟩) 0 0)), (11, u1), (12, (.int .i64 (List.length a1 : Int))), (13, (.int .i64 0))]) ?_ ⟨rfl, rfl, rfl, rfl, rfl, trivial⟩
  refine W_loop (fun k l w => ∃ v1 : Value, ∃ x1 : (List Int), ∃ x2 : Int, l = [(1, (.func (.func 98) #[] #[])), (5, v1), (11, u1), (12, (.int .i64 (List.length a1 : Int))), (13, (.int .i64 x2))] ∧ Ctx [] w0 w [Item.own v1 (x1 : (List Int))] ∧ M.termsOf_M_isValue_l1 a1 k x1 x2 = some r1) FUEL ⟨(.slice (some ⟨b1, 0, none⟩) 0 0), ([] : List Int), 0, rfl, hC4, hr1⟩ ?_
  clear hr1
  rintro k1 _ w2 ⟨v1, x1, x2, rfl, hC5, hL1⟩
  cases k1 with
  | zero => rw [M.termsOf_M_isValue_l1] at hL1; cases hL1
  | succ k1 =>
   rw [M.termsOf_M_isValue_l1] at hL1
   refine W_seq_reg ?_
   refine WL_lss rfl rfl rfl ?_
   refine WL_nil (W_seq ?_)
   refine W_cond rfl (fun hc1 => ?_) (fun hc1 => ?_)
   ·replace hL1 := ite_t hL1 hc1
    refine W_skip (nrm_normal (W_seq (W_block (W_seq_reg ?_))))
    obtain ⟨x4, hx1, hL1⟩ := bind_some hL1
    refine WL_index Tryz.underlying35 ty84 g1 hx1 rfl rfl rfl (fun b2 o1 h1 => ?_)
    refine WL_load ty84 h1 hC5.keep rfl rfl (fun v3 h2 => ?_)
    obtain ⟨v4, rfl, h3⟩ := ro_st84 h2
    refine WL_allocK hC5 zero84 rfl rfl (fun b3 w3 hC6 hB3 hN1 => ?_)
    refine WL_store_box_aggK (cs' := [(.int .i64 x4.1), v4]) (new := [(.int .i64 x4.1), v4]) hC6 0 rfl rfl (by intro v hv; simp only [List.mem_cons, List.not_mem_nil, or_false] at hv; rcases hv with rfl | rfl; exact rfl; exact (ro_one h3)) rfl Tryz.sizeOf84 rfl rfl (fun w4 hC7 hKp1 => ?_)
    try dsimp only [List.set] at hC7
    have hk1 := Keep.over (Keep.of hB3) hN1 hKp1
    refine WL_nil (W_seq_reg ?_)
    refine WL_field Tryz.underlying84 rfl rfl (fun w => ⟨_, Tryz.sizeOf22 w⟩) rfl rfl ?_
    refine WL_load_box hC7 0 rfl rfl Tryz.isAgg22 rfl rfl ?_
    refine WL_len Tryz.underlying22 h3 rfl rfl ?_
    refine WL_move rfl rfl ?_
    refine WL_nil ?_
    obtain ⟨r2, hr2, hL1⟩ := bind_some hL1
    refine W_norm (fun l w => ∃ v6 : Value, ∃ x7 : (List Int), x7 = r2 ∧ l = [(1, (.func (.func 98) #[] #[])), (5, v6), (11, u1), (12, (.int .i64 (List.length a1 : Int))), (13, (.int .i64 x2))] ∧ Ctx [] w0 w [Item.own v6 (x7 : (List Int))]) ?_ ?_
    ·refine W_block ?_
     have hC20 := hC7.f1
     have hC21 := hC20.h1
     refine W.sub (l' := [(1, (.func (.func 98) #[] #[])), (5, v1), (11, u1), (12, (.int .i64 (List.length a1 : Int))), (13, (.int .i64 x2)), (18, v4), (19, (.int .i64 (List.length x4.2 : Int))), (20, (.int .i64 0))]) ?_ ⟨rfl, rfl, rfl, rfl, rfl, rfl, rfl, rfl, trivial⟩
     refine W_loop (fun k l w => ∃ v5 : Value, ∃ x5 : (List Int), ∃ x6 : Int, l = [(1, (.func (.func 98) #[] #[])), (5, v5), (11, u1), (12, (.int .i64 (List.length a1 : Int))), (13, (.int .i64 x2)), (18, v4), (19, (.int .i64 (List.length x4.2 : Int))), (20, (.int .i64 x6))] ∧ Ctx [] w0 w [Item.own v5 (x5 : (List Int))] ∧ M.termsOf_M_isValue_l2 x4 k x5 x6 = some r2) FUEL ⟨v1, x1, 0, rfl, hC21, hr2⟩ ?_
     clear hr2
     rintro k2 _ w5 ⟨v5, x5, x6, rfl, hC8, hL2⟩
     cases k2 with
     | zero => rw [M.termsOf_M_isValue_l2] at hL2; cases hL2
     | succ k2 =>
      rw [M.termsOf_M_isValue_l2] at hL2
      refine W_seq_reg ?_
      refine WL_lss rfl rfl rfl ?_
      refine WL_nil (W_seq ?_)
      refine W_cond rfl (fun hc2 => ?_) (fun hc2 => ?_)
      ·replace hL2 := ite_t hL2 hc2
       refine W_skip (nrm_normal (W_seq (W_block (W_seq_reg ?_))))
       obtain ⟨x8, hx2, hL2⟩ := bind_some hL2
       refine WL_index Tryz.underlying22 ty3 h3 hx2 rfl rfl rfl (fun b4 o2 h4 => ?_)
       refine WL_load ty3 h4 hC8.keep rfl rfl (fun v7 h5 => ?_)
       obtain rfl := ro_int h5
       refine WL_assign rfl rfl ?_
       refine WL_nil (W_seq_reg ?_)
       refine WL_move rfl rfl ?_
       refine WL_move rfl rfl ?_
       obtain ⟨x9, hr3, hL2⟩ := bind_some hL2
       refine WL_callv (cap := []) Tryz.call98 rfl rfl rfl (c_M_isValue x8 x9 hr3) ?_
       intro _ w6 hv1
       obtain ⟨rfl, hB5⟩ := res_bool hv1
       have hC9 := hC8.grow hB5
       refine WL_nil ?_
       obtain ⟨r3, hr4, hL2⟩ := bind_some hL2
       refine W_norm (fun l w => ∃ v8 : Value, ∃ x10 : (List Int), x10 = r3 ∧ l = [(1, (.func (.func 98) #[] #[])), (5, v8), (11, u1), (12, (.int .i64 (List.length a1 : Int))), (13, (.int .i64 x2)), (18, v4), (19, (.int .i64 (List.length x4.2 : Int))), (20, (.int .i64 x6))] ∧ Ctx [] w0 w [Item.own v8 (x10 : (List Int))]) ?_ ?_
       ·refine W_cond rfl (fun hc3 => ?_) (fun hc3 => ?_)
        ·replace hr4 := ite_t hr4 hc3
         refine W_reg ?_
         refine WL_move rfl rfl ?_
         refine WL_move rfl rfl ?_
         refine WL_buildSlice (vs := [(.int .i64 x8)]) hC9 Tryz.underlying22 ty3 rfl rfl rfl rfl (by intro v hv; simp only [List.mem_cons, List.not_mem_nil, or_false] at hv; rcases hv with rfl <;> rfl) rfl rfl (fun b5 w9 hC11 hB7 => ?_)
         have hC12 := hC11.row0 (α := Int)
         have hC13 := hC12.triv (int_val (x8))
         have hC14 := hC13.row1
         have hC15 := hC14.front 1 rfl
         dsimp only [List.eraseIdx, List.cons_append, List.nil_append, List.append_nil] at hC15
         have hC16 : Ctx [] w0 w9 (Item.own (.slice (some ⟨b5, 0, none⟩) 1 1) ([x8] : List Int) :: [Item.own v5 (x5 : (List Int))]) := hC15.rowOwn (by simp [maxLen])
         obtain ⟨x11, hx3, hr4⟩ := bind_some hr4
         refine WL_append_flat (α := Int) hC16 1 rfl (hC16.ro 0 rfl) (Keep.refl _ _) Tryz.underlying22 ty3 rfl hx3 rfl rfl rfl (fun v9 w10 hC17 => ?_)
         try dsimp only [List.set] at hC17
         refine WL_assign rfl rfl ?_
         refine WL_nil ?_
         have hq1 := Option.some.inj hr4
         subst hq1
         have hC18 := hC17.f1
         have hC19 := hC18.h1
         refine nrm_sub (l' := [(1, (.func (.func 98) #[] #[])), (5, v9), (11, u1), (12, (.int .i64 (List.length a1 : Int))), (13, (.int .i64 x2)), (18, v4), (19, (.int .i64 (List.length x4.2 : Int))), (20, (.int .i64 x6))]) ⟨rfl, rfl, rfl, rfl, rfl, rfl, rfl, rfl, trivial⟩ ?_
         exact ⟨v9, x11, rfl, rfl, hC19⟩
        replace hr4 := ite_f hr4 hc3
        refine W_skip ?_
        have hq2 := Option.some.inj hr4
        subst hq2
        refine nrm_sub (l' := [(1, (.func (.func 98) #[] #[])), (5, v5), (11, u1), (12, (.int .i64 (List.length a1 : Int))), (13, (.int .i64 x2)), (18, v4), (19, (.int .i64 (List.length x4.2 : Int))), (20, (.int .i64 x6))]) ⟨rfl, rfl, rfl, rfl, rfl, rfl, rfl, rfl, trivial⟩ ?_
        exact ⟨v5, x5, rfl, rfl, hC9⟩
       rintro l3 _ w7 hs3 ⟨v8, x10, rfl, rfl, hC10⟩
       try dsimp only at hL2
       refine blk_normal ?_
       refine nrm_sub' hs3 ?_
       clear hs3
       refine W_reg ?_
       refine WL_add rfl rfl rfl ?_
       refine WL_move rfl rfl ?_
       refine WL_nil ?_
       refine nrm_sub (l' := [(1, (.func (.func 98) #[] #[])), (5, v8), (11, u1), (12, (.int .i64 (List.length a1 : Int))), (13, (.int .i64 x2)), (18, v4), (19, (.int .i64 (List.length x4.2 : Int))), (20, (.int .i64 (w64 (x6 + 1))))]) ⟨rfl, rfl, rfl, rfl, rfl, rfl, rfl, rfl, trivial⟩ ?_
       exact ⟨k2, Nat.lt_succ_self _, v8, x10, w64 (x6 + 1), rfl, hC10, hL2⟩
      replace hL2 := ite_f hL2 hc2
      refine W_exit (nrm_exit (nrm_exit (blk_exit ?_)))
      have hq3 := Option.some.inj hL2
      subst hq3
      refine nrm_sub (l' := [(1, (.func (.func 98) #[] #[])), (5, v5), (11, u1), (12, (.int .i64 (List.length a1 : Int))), (13, (.int .i64 x2))]) ⟨rfl, rfl, rfl, rfl, rfl, trivial⟩ ?_
      exact ⟨v5, x5, rfl, rfl, hC8⟩
    rintro l4 _ w11 hs4 ⟨v6, x7, rfl, rfl, hC22⟩
    try dsimp only at hL1
    refine blk_normal ?_
    refine nrm_sub' hs4 ?_
    clear hs4
    refine W_reg ?_
    refine WL_add rfl rfl rfl ?_
    refine WL_move rfl rfl ?_
    refine WL_nil ?_
    refine nrm_sub (l' := [(1, (.func (.func 98) #[] #[])), (5, v6), (11, u1), (12, (.int .i64 (List.length a1 : Int))), (13, (.int .i64 (w64 (x2 + 1))))]) ⟨rfl, rfl, rfl, rfl, rfl, trivial⟩ ?_
    exact ⟨k1, Nat.lt_succ_self _, v6, x7, w64 (x2 + 1), rfl, hC22, hL1⟩
   replace hL1 := ite_f hL1 hc1
   refine W_exit (nrm_exit (nrm_exit (blk_exit ?_)))
   have hq4 := Option.some.inj hL1
   subst hq4
   refine nrm_sub (l' := [(5, v1)]) ⟨rfl, trivial⟩ ?_
   exact ⟨v1, x1, rfl, rfl, hC5⟩
 rintro l5 _ w12 hs5 ⟨v2, x3, rfl, rfl, hC23⟩
 try dsimp only at hF
 refine nrm_sub' hs5 ?_
 clear hs5
 refine W_seq_reg ?_
 refine WL_move rfl rfl ?_
 obtain ⟨x12, hr5, hF⟩ := bind_some hF
 obtain ⟨Fs1, hH1, hn1, hF1, hO1, hb1⟩ := Ctx.lend2 (As := []) [Item.own v2 (x3 : (List Int))] hC23
 refine WL_call Tryz.call80 rfl rfl (c_Slices_Sort_Lint_int x3 v2 hH1 hn1 x12 hr5) ?_
 rintro _ w13 ⟨rfl, hq5⟩
 have hC25 : Ctx [] w0 w13 [Item.own v2 (x12 : (List Int))] := hb1 _ _ hq5
 refine WL_nil (W_seq_reg ?_)
 refine WL_move rfl rfl ?_
 obtain ⟨x13, hr6, hF⟩ := bind_some hF
 obtain ⟨Fs2, hH2, hn2, hF2, hO2, hb2⟩ := Ctx.lend2 (As := []) [Item.own v2 (x12 : (List Int))] hC25
 refine WL_call Tryz.call81 rfl rfl (c_Slices_Compact_Lint_int x12 v2 hH2 hn2 x13 hr6) ?_
 rintro v10 w14 ⟨_, rfl, hq6⟩
 have hC27 : Ctx [] w0 w14 [Item.own v10 (x13 : (List Int))] := hb2 _ _ hq6
 refine WL_assign rfl rfl ?_
 refine WL_nil (W_ret ?_)
 have hq7 := Option.some.inj hF
 subst hq7
 refine fn_ret1 rfl rfl ?_
 exact ⟨_, rfl, own_res hC27 0 rfl⟩

theorem c_M_ConstantsOf {w0 : World} (a1 : ((List Int) × (List (Int × (List Int))))) (u1 : Value) (g1 : RO [] w0 u1 a1.1) (u2 : Value) (g2 : RO [] w0 u2 a1.2) (rr : (List Int)) (hF : M.ConstantsOf a1 = some rr) :
 Calls Tryz.prog 63 [(.agg #[u1, u2])].toArray w0 fun e w' => ∃ v, e = .returned v ∧ Res w0 rr v w' := by
 refine calls_of_W Tryz.func63 rfl rfl ?_
 have hC0 := Ctx.start w0
 unfold M.ConstantsOf at hF
 refine W_seq_reg ?_
 refine WL_boxK (cs := [u1, u2]) hC0 rfl rfl rfl (fun b1 w1 hC1 hB1 hN1 => ?_)
 refine WL_assign rfl rfl ?_
 refine WL_nil (W_seq_reg ?_)
 refine WL_field Tryz.underlying37 rfl rfl (fun w => ⟨_, Tryz.sizeOf35 w⟩) rfl rfl ?_
 refine WL_load_box hC1 0 rfl rfl Tryz.isAgg35 rfl rfl ?_
 obtain ⟨x1, hr1, hF⟩ := bind_some hF
 refine WL_call Tryz.call97 rfl rfl (c_M_termsOf_M_isValue a1.2 u2 (g2.now hC1.keep) x1 hr1) ?_
 rintro v1 w2 ⟨hB2, F1, hv1, hn1, hb1⟩
 have hC2 := hC1.push hB2 (A := Item.own v1 x1) hv1 hn1 hb1
 refine WL_assign rfl rfl ?_
 refine WL_nil (W_ret ?_)
 have hq1 := Option.some.inj hF
 subst hq1
 refine fn_ret1 rfl rfl ?_
 exact ⟨_, rfl, own_res hC2 0 rfl⟩

theorem c_M_LeastDisclosure_c1 {w0 : World} (a1 : Int) (pb1 : Nat) (ax1 : (List Int)) (g1 : ROAt [] w0 pb1 0 ax1) (rr : Bool) (hF : M.LeastDisclosure_c1 a1 ax1 = some rr) :
 Calls Tryz.prog 65 [(.int .i64 a1), (ptr pb1 0)].toArray w0 fun e w' => ∃ v, e = .returned v ∧ Res w0 rr v w' := by
 refine calls_of_W Tryz.func65 rfl rfl ?_
 have hC0 := Ctx.start w0
 unfold M.LeastDisclosure_c1 at hF
 refine W_seq_reg ?_
 refine WL_assign rfl rfl ?_
 refine WL_nil (W_seq_reg ?_)
 refine WL_load ty22 g1 hC0.keep rfl rfl (fun v1 h1 => ?_)
 refine WL_move rfl rfl ?_
 obtain ⟨x1, hr1, hF⟩ := bind_some hF
 refine WL_call Tryz.call66 rfl rfl (c_Slices_Contains_Lint_int ax1 v1 (h1.now hC0.keep) a1 x1 hr1) ?_
 intro _ w1 hv1
 obtain ⟨rfl, hB1⟩ := res_bool hv1
 have hC1 := hC0.grow hB1
 refine WL_not rfl rfl ?_
 refine WL_assign rfl rfl ?_
 refine WL_nil (W_ret ?_)
 have hq1 := Option.some.inj hF
 subst hq1
 refine fn_ret1 rfl rfl ?_
 exact ⟨_, rfl, bool_res hC1 _⟩

theorem c_Cmp_isNaN_int {w0 : World} (a1 : Int) (rr : Bool) (hF : Cmp.isNaN_int a1 = some rr) :
 Calls Tryz.prog 152 [(.int .i64 a1)].toArray w0 fun e w' => ∃ v, e = .returned v ∧ Res w0 rr v w' := by
 refine calls_of_W Tryz.func152 rfl rfl ?_
 have hC0 := Ctx.start w0
 unfold Cmp.isNaN_int at hF
 refine W_seq_reg ?_
 refine WL_assign rfl rfl ?_
 refine WL_nil (W_seq_reg ?_)
 refine WL_move rfl rfl ?_
 refine WL_move rfl rfl ?_
 refine WL_neq rfl rfl rfl ?_
 refine WL_assign rfl rfl ?_
 refine WL_nil (W_ret ?_)
 have hq1 := Option.some.inj hF
 subst hq1
 refine fn_ret1 rfl rfl ?_
 exact ⟨_, rfl, bool_res hC0 _⟩

theorem c_Cmp_Compare_int {w0 : World} (a1 : Int) (a2 : Int) (rr : Int) (hF : Cmp.Compare_int a1 a2 = some rr) :
 Calls Tryz.prog 125 [(.int .i64 a1), (.int .i64 a2)].toArray w0 fun e w' => ∃ v, e = .returned v ∧ Res w0 rr v w' := by
 refine calls_of_W Tryz.func125 rfl rfl ?_
 have hC0 := Ctx.start w0
 unfold Cmp.Compare_int at hF
 refine W_seq_reg ?_
 refine WL_assign rfl rfl ?_
 refine WL_nil (W_seq_reg ?_)
 refine WL_move rfl rfl ?_
 obtain ⟨x1, hr1, hF⟩ := bind_some hF
 refine WL_call Tryz.call152 rfl rfl (c_Cmp_isNaN_int a1 x1 hr1) ?_
 intro _ w1 hv1
 obtain ⟨rfl, hB1⟩ := res_bool hv1
 have hC1 := hC0.grow hB1
 refine WL_assign rfl rfl ?_
 refine WL_nil (W_seq_reg ?_)
 refine WL_move rfl rfl ?_
 obtain ⟨x2, hr2, hF⟩ := bind_some hF
 refine WL_call Tryz.call152 rfl rfl (c_Cmp_isNaN_int a2 x2 hr2) ?_
 intro _ w2 hv2
 obtain ⟨rfl, hB2⟩ := res_bool hv2
 have hC2 := hC1.grow hB2
 refine WL_assign rfl rfl ?_
 refine WL_nil (W_seq (W_seq_reg ?_))
 refine WL_move rfl rfl ?_
 refine WL_nil ?_
 refine W_cond rfl (fun hc1 => ?_) (fun hc1 => ?_)
 ·replace hF := ite_t hF hc1
  refine W_seq (W_seq_reg ?_)
  refine WL_move rfl rfl ?_
  refine WL_nil ?_
  refine W_cond rfl (fun hc2 => ?_) (fun hc2 => ?_)
  ·replace hF := ite_t hF hc2
   refine W_seq_reg ?_
   refine WL_assign rfl rfl ?_
   refine WL_nil (W_ret (nrm_ret (nrm_ret ?_)))
   have hq1 := Option.some.inj hF
   subst hq1
   refine fn_ret1 rfl rfl ?_
   exact ⟨_, rfl, int_res hC2 _⟩
  replace hF := ite_f hF hc2
  refine W_skip (nrm_normal (W_seq_reg ?_))
  refine WL_assign rfl rfl ?_
  refine WL_nil (W_ret (nrm_ret ?_))
  have hq2 := Option.some.inj hF
  subst hq2
  refine fn_ret1 rfl rfl ?_
  exact ⟨_, rfl, int_res hC2 _⟩
 replace hF := ite_f hF hc1
 refine W_skip (nrm_normal (W_seq (W_seq_reg ?_)))
 refine WL_move rfl rfl ?_
 refine WL_nil ?_
 refine W_cond rfl (fun hc3 => ?_) (fun hc3 => ?_)
 ·replace hF := ite_t hF hc3
  refine W_seq_reg ?_
  refine WL_assign rfl rfl ?_
  refine WL_nil (W_ret (nrm_ret ?_))
  have hq3 := Option.some.inj hF
  subst hq3
  refine fn_ret1 rfl rfl ?_
  exact ⟨_, rfl, int_res hC2 _⟩
 replace hF := ite_f hF hc3
 refine W_skip (nrm_normal (W_seq (W_seq_reg ?_)))
 refine WL_move rfl rfl ?_
 refine WL_move rfl rfl ?_
 refine WL_lss rfl rfl rfl ?_
 refine WL_nil ?_
 refine W_cond rfl (fun hc4 => ?_) (fun hc4 => ?_)
 ·replace hF := ite_t hF hc4
  refine W_seq_reg ?_
  refine WL_assign rfl rfl ?_
  refine WL_nil (W_ret (nrm_ret ?_))
  have hq4 := Option.some.inj hF
  subst hq4
  refine fn_ret1 rfl rfl ?_
  exact ⟨_, rfl, int_res hC2 _⟩
 replace hF := ite_f hF hc4
 refine W_skip (nrm_normal (W_seq (W_seq_reg ?_)))
 refine WL_move rfl rfl ?_
 refine WL_move rfl rfl ?_
 refine WL_gtr rfl rfl rfl ?_
 refine WL_nil ?_
 refine W_cond rfl (fun hc5 => ?_) (fun hc5 => ?_)
 ·replace hF := ite_t hF hc5
  refine W_seq_reg ?_
  refine WL_assign rfl rfl ?_
  refine WL_nil (W_ret (nrm_ret ?_))
  have hq5 := Option.some.inj hF
  subst hq5
  refine fn_ret1 rfl rfl ?_
  exact ⟨_, rfl, int_res hC2 _⟩
 replace hF := ite_f hF hc5
 refine W_skip (nrm_normal (W_seq_reg ?_))
 refine WL_assign rfl rfl ?_
 refine WL_nil (W_ret ?_)
 have hq6 := Option.some.inj hF
 subst hq6
 refine fn_ret1 rfl rfl ?_
 exact ⟨_, rfl, int_res hC2 _⟩

theorem c_Slices_Compare_Lint_int {w0 : World} (a1 : (List Int)) (u1 : Value) (g1 : RO [] w0 u1 a1) (a2 : (List Int)) (u2 : Value) (g2 : RO [] w0 u2 a2) (rr : Int) (hF : Slices.Compare_Lint_int a1 a2 = some rr) :
 Calls Tryz.prog 101 [u1, u2].toArray w0 fun e w' => ∃ v, e = .returned v ∧ Res w0 rr v w' := by
 refine calls_of_W Tryz.func101 rfl rfl ?_
 have hC0 := Ctx.start w0
 unfold Slices.Compare_Lint_int at hF
 refine W_seq_reg ?_
 refine WL_assign rfl rfl ?_
 refine WL_nil (W_seq (W_seq_reg ?_))
 refine WL_move rfl rfl ?_
 refine WL_len Tryz.underlying22 g1 rfl rfl ?_
 refine WL_move rfl rfl ?_
 refine WL_nil ?_
 obtain ⟨r1, hr1, hF⟩ := bind_some hF
 refine W_norm (fun l w => .inl () = r1 ∧ l = [(0, u1), (1, u2)] ∧ Below w0.heap.size w0 w ∧ Ctx [] w0 w []) ?_ ?_
 ·refine W_block ?_
  refine W.sub (l' := [(0, u1), (1, u2), (9, u1), (10, (.int .i64 (List.length a1 : Int))), (11, (.int .i64 0))]) ?_ ⟨rfl, rfl, rfl, rfl, rfl, trivial⟩
  refine W_loop (fun k l w => ∃ x1 : Int, l = [(0, u1), (1, u2), (9, u1), (10, (.int .i64 (List.length a1 : Int))), (11, (.int .i64 x1))] ∧ Below w0.heap.size w0 w ∧ Ctx [] w0 w [] ∧ Slices.Compare_Lint_int_l1 a1 a2 k x1 = some r1) FUEL ⟨0, rfl, (Below.refl _ _), hC0, hr1⟩ ?_
  clear hr1
  rintro k1 _ w1 ⟨x1, rfl, hB1, hC1, hL1⟩
  cases k1 with
  | zero => rw [Slices.Compare_Lint_int_l1] at hL1; cases hL1
  | succ k1 =>
   rw [Slices.Compare_Lint_int_l1] at hL1
   refine W_seq_reg ?_
   refine WL_lss rfl rfl rfl ?_
   refine WL_nil (W_seq ?_)
   refine W_cond rfl (fun hc1 => ?_) (fun hc1 => ?_)
   ·replace hL1 := ite_t hL1 hc1
    refine W_skip (nrm_normal (W_seq (W_block (W_seq_reg ?_))))
    refine WL_move rfl rfl ?_
    obtain ⟨x2, hx1, hL1⟩ := bind_some hL1
    refine WL_index Tryz.underlying22 ty3 g1 hx1 rfl rfl rfl (fun b1 o1 h1 => ?_)
    refine WL_load ty3 h1 hC1.keep rfl rfl (fun v1 h2 => ?_)
    obtain rfl := ro_int h2
    refine WL_assign rfl rfl ?_
    refine WL_assign rfl rfl ?_
    refine WL_nil (W_seq (W_seq_reg ?_))
    refine WL_move rfl rfl ?_
    refine WL_move rfl rfl ?_
    refine WL_len Tryz.underlying22 g2 rfl rfl ?_
    refine WL_geq rfl rfl rfl ?_
    refine WL_nil ?_
    refine W_cond rfl (fun hc2 => ?_) (fun hc2 => ?_)
    ·replace hL1 := ite_t hL1 hc2
     refine W_seq_reg ?_
     refine WL_assign rfl rfl ?_
     refine WL_nil (W_ret (nrm_ret (blk_ret (nrm_ret (nrm_ret (blk_ret (nrm_ret (nrm_ret ?_))))))))
     have hq1 := Option.some.inj hL1
     subst hq1
     dsimp only at hF
     have hq2 := Option.some.inj hF
     subst hq2
     refine fn_ret1 rfl rfl ?_
     exact ⟨_, rfl, int_res hC1 _⟩
    replace hL1 := ite_f hL1 hc2
    refine W_skip (nrm_normal (W_seq_reg ?_))
    refine WL_move rfl rfl ?_
    refine WL_move rfl rfl ?_
    obtain ⟨x3, hx2, hL1⟩ := bind_some hL1
    refine WL_index Tryz.underlying22 ty3 g2 hx2 rfl rfl rfl (fun b2 o2 h3 => ?_)
    refine WL_load ty3 h3 hC1.keep rfl rfl (fun v2 h4 => ?_)
    obtain rfl := ro_int h4
    refine WL_assign rfl rfl ?_
    refine WL_nil (W_seq_reg ?_)
    refine WL_move rfl rfl ?_
    refine WL_move rfl rfl ?_
    obtain ⟨x4, hr2, hL1⟩ := bind_some hL1
    refine WL_call Tryz.call125 rfl rfl (c_Cmp_Compare_int x2 x3 x4 hr2) ?_
    intro _ w2 hv1
    obtain ⟨rfl, hB2⟩ := res_int hv1
    have hC2 := hC1.grow hB2
    refine WL_assign rfl rfl ?_
    refine WL_nil (W_seq_reg ?_)
    refine WL_move rfl rfl ?_
    refine WL_neq rfl rfl rfl ?_
    refine WL_nil ?_
    refine W_cond rfl (fun hc3 => ?_) (fun hc3 => ?_)
    ·replace hL1 := ite_t hL1 hc3
     refine W_seq_reg ?_
     refine WL_move rfl rfl ?_
     refine WL_assign rfl rfl ?_
     refine WL_nil (W_ret (blk_ret (nrm_ret (nrm_ret (blk_ret (nrm_ret (nrm_ret ?_)))))))
     have hq3 := Option.some.inj hL1
     subst hq3
     dsimp only at hF
     have hq4 := Option.some.inj hF
     subst hq4
     refine fn_ret1 rfl rfl ?_
     exact ⟨_, rfl, int_res hC2 _⟩
    replace hL1 := ite_f hL1 hc3
    refine W_skip (blk_normal (nrm_normal (W_reg ?_)))
    refine WL_add rfl rfl rfl ?_
    refine WL_move rfl rfl ?_
    refine WL_nil ?_
    refine nrm_sub (l' := [(0, u1), (1, u2), (9, u1), (10, (.int .i64 (List.length a1 : Int))), (11, (.int .i64 (w64 (x1 + 1))))]) ⟨rfl, rfl, rfl, rfl, rfl, trivial⟩ ?_
    exact ⟨k1, Nat.lt_succ_self _, w64 (x1 + 1), rfl, ((Keep.of hB1).then hB2).below, hC2, hL1⟩
   replace hL1 := ite_f hL1 hc1
   refine W_exit (nrm_exit (nrm_exit (blk_exit ?_)))
   have hq5 := Option.some.inj hL1
   subst hq5
   refine nrm_sub (l' := [(0, u1), (1, u2)]) ⟨rfl, rfl, trivial⟩ ?_
   exact ⟨rfl, rfl, (Keep.of hB1).below, hC1⟩
 rintro l2 _ w3 hs2 ⟨rfl, rfl, hB3, hC3⟩
 try dsimp only at hF
 refine nrm_sub' hs2 ?_
 clear hs2
 refine W_seq (W_seq_reg ?_)
 refine WL_move rfl rfl ?_
 refine WL_len Tryz.underlying22 g1 rfl rfl ?_
 refine WL_move rfl rfl ?_
 refine WL_len Tryz.underlying22 g2 rfl rfl ?_
 refine WL_lss rfl rfl rfl ?_
 refine WL_nil ?_
 refine W_cond rfl (fun hc4 => ?_) (fun hc4 => ?_)
 ·replace hF := ite_t hF hc4
  refine W_seq_reg ?_
  refine WL_assign rfl rfl ?_
  refine WL_nil (W_ret (nrm_ret ?_))
  have hq6 := Option.some.inj hF
  subst hq6
  refine fn_ret1 rfl rfl ?_
  exact ⟨_, rfl, int_res hC3 _⟩
 replace hF := ite_f hF hc4
 refine W_skip (nrm_normal (W_seq_reg ?_))
 refine WL_assign rfl rfl ?_
 refine WL_nil (W_ret ?_)
 have hq7 := Option.some.inj hF
 subst hq7
 refine fn_ret1 rfl rfl ?_
 exact ⟨_, rfl, int_res hC3 _⟩

theorem c_M_CanCall_c1 {w0 : World} (a1 : Int) (pb1 : Nat) (ax1 : (Int × (List Int))) (g1 : ROAt [] w0 pb1 0 ax1) (pb2 : Nat) (ax2 : (List Int)) (g2 : ROAt [] w0 pb2 0 ax2) (rr : Bool) (hF : M.CanCall_c1 a1 ax1 ax2 = some rr) :
 Calls Tryz.prog 108 [(.int .i64 a1), (ptr pb1 0), (ptr pb2 0)].toArray w0 fun e w' => ∃ v, e = .returned v ∧ Res w0 rr v w' := by
 refine calls_of_W Tryz.func108 rfl rfl ?_
 have hC0 := Ctx.start w0
 unfold M.CanCall_c1 at hF
 refine W_seq_reg ?_
 refine WL_assign rfl rfl ?_
 refine WL_nil ?_
 obtain ⟨r1, hr1, hF⟩ := bind_some hF
 refine W_cut (fun l w => ∃ x1 : Bool, x1 = r1 ∧ l = [(4, (.bool x1))] ∧ Below w0.heap.size w0 w ∧ Ctx [] w0 w []) ?_ ?_
 ·refine W_drawn 26 rfl hmix (fun w2 hB2 => ?_)
  have hC2 := hC0.grow hB2
  refine WA_tk 0 (by kernel_rfl) rfl rfl (fl_move rfl) ?_
  refine WL_move rfl rfl ?_
  refine WL_nil ?_
  refine WA_tk 1 (by kernel_rfl) rfl rfl (fl_field Tryz.underlying84 rfl rfl (fun w => ⟨_, Tryz.sizeOf22 w⟩) rfl) ?_
  refine WL_field Tryz.underlying84 rfl rfl (fun w => ⟨_, Tryz.sizeOf22 w⟩) rfl rfl ?_
  refine WL_nil ?_
  refine WA_one 2 (by kernel_rfl) rfl ?_
  refine WL_load ty22 g1.snd hC2.keep rfl rfl (fun v1 h1 => ?_)
  refine WL_nil ?_
  refine WA_tk 3 (by kernel_rfl) rfl rfl (fl_len Tryz.underlying22 h1 rfl) ?_
  refine WL_len Tryz.underlying22 h1 rfl rfl ?_
  refine WL_nil ?_
  refine WA_tk 4 (by kernel_rfl) rfl rfl (fl_sub rfl rfl) ?_
  refine WL_sub rfl rfl rfl ?_
  refine WL_nil ?_
  obtain ⟨x2, hr2, hr1⟩ := bind_some hr1
  refine WA_one 5 (by kernel_rfl) rfl ?_
  refine WL_call Tryz.call78 rfl rfl (c_M_within a1 0 (w64 ((List.length ax1.2 : Int) - 1)) x2 hr2) ?_
  intro _ w3 hv1
  obtain ⟨rfl, hB3⟩ := res_bool hv1
  have hC3 := hC2.grow hB3
  refine WL_nil ?_
  refine WA_tk 6 (by kernel_rfl) rfl rfl (fl_not rfl) ?_
  refine WL_not rfl rfl ?_
  refine WL_nil ?_
  refine WA_tk 7 (by kernel_rfl) rfl rfl (fl_move rfl) ?_
  refine WL_move rfl rfl ?_
  refine WL_nil ?_
  refine WA_fork (fun hc1 => ?_) (fun hc1 => ?_)
  ·replace hr1 := ite_t hr1 hc1
   refine WA_sk 8 (by kernel_rfl) rfl rfl rfl rfl (by simp) rfl rfl ?_
   refine WA_sk 9 (by kernel_rfl) rfl rfl rfl rfl (by simp) rfl rfl ?_
   refine WA_sk 10 (by kernel_rfl) rfl rfl rfl rfl (by simp) rfl rfl ?_
   refine WA_sk 11 (by kernel_rfl) rfl rfl rfl rfl (by simp) rfl rfl ?_
   refine WA_sk 12 (by kernel_rfl) rfl rfl rfl rfl (by simp) rfl rfl ?_
   refine WA_sk 13 (by kernel_rfl) rfl rfl rfl rfl (by simp) rfl rfl ?_
   refine WA_sk 14 (by kernel_rfl) rfl rfl rfl rfl (by simp) rfl rfl ?_
   refine WA_sk 15 (by kernel_rfl) rfl rfl rfl rfl (by simp [undef]) rfl rfl ?_
   refine WA_sk 16 (by kernel_rfl) rfl rfl rfl rfl (by simp [undef]) rfl rfl ?_
   refine WA_sk 17 (by kernel_rfl) rfl rfl rfl rfl (by simp [undef]) rfl rfl ?_
   refine WA_sk 18 (by kernel_rfl) rfl rfl rfl rfl (by simp [undef]) rfl rfl ?_
   refine WA_sk 19 (by kernel_rfl) rfl rfl rfl rfl (by simp [undef]) rfl rfl ?_
   refine WA_sk 20 (by kernel_rfl) rfl rfl rfl rfl (by simp [undef]) rfl rfl ?_
   refine WA_sk 21 (by kernel_rfl) rfl rfl rfl rfl (by simp [undef]) rfl rfl ?_
   refine WA_sk 22 (by kernel_rfl) rfl rfl rfl rfl (by simp [undef]) rfl rfl ?_
   refine WA_sk 23 (by kernel_rfl) rfl rfl rfl rfl (by simp) rfl rfl ?_
   refine WA_tk 24 (by kernel_rfl) rfl rfl (fl_pick_t rfl rfl) ?_
   refine WL_pick_t rfl rfl rfl ?_
   refine WL_nil ?_
   refine WA_tk 25 (by kernel_rfl) rfl rfl (fl_assign rfl) ?_
   refine WL_assign rfl rfl ?_
   refine WL_nil ?_
   refine WA_done (by kernel_rfl) ?_
   have hq1 := Option.some.inj hr1
   subst hq1
   refine nrm_sub (l' := [(4, (.bool true))]) ⟨rfl, trivial⟩ ?_
   exact ⟨true, rfl, rfl, ((Keep.of hB2).then hB3).below, hC3⟩
  replace hr1 := ite_f hr1 hc1
  refine WA_takeG 8 rfl (by kernel_rfl) (by kernel_rfl) (by kernel_rfl) rfl rfl rfl (fl_field Tryz.underlying84 rfl rfl (fun w => ⟨_, Tryz.sizeOf22 w⟩) rfl) ?_
  refine WL_guard rfl rfl ?_
  refine WL_field Tryz.underlying84 rfl rfl (fun w => ⟨_, Tryz.sizeOf22 w⟩) rfl rfl ?_
  refine WL_nil ?_
  refine WA_takeG 10 rfl (by kernel_rfl) (by kernel_rfl) (by kernel_rfl) rfl rfl rfl (fl_move rfl) ?_
  refine WL_guard rfl rfl ?_
  refine WL_move rfl rfl ?_
  refine WL_nil ?_
  refine WA_one 9 (by kernel_rfl) rfl ?_
  refine WL_guard rfl rfl ?_
  refine WL_load ty22 g1.snd hC3.keep rfl rfl (fun v2 h2 => ?_)
  refine WL_nil ?_
  obtain ⟨x3, hx1, hr1⟩ := bind_some hr1
  refine WA_takeG 11 rfl (by kernel_rfl) (by kernel_rfl) (by kernel_rfl) rfl rfl rfl (fl_index Tryz.underlying22 ty3 h2 hx1 rfl rfl) ?_
  refine WL_guard rfl rfl ?_
  refine WL_index Tryz.underlying22 ty3 h2 hx1 rfl rfl rfl (fun b1 o1 h3 => ?_)
  refine WL_nil ?_
  refine WA_one 12 (by kernel_rfl) rfl ?_
  refine WL_guard rfl rfl ?_
  refine WL_load ty3 h3 hC3.keep rfl rfl (fun v3 h4 => ?_)
  obtain rfl := ro_int h4
  refine WL_nil ?_
  obtain ⟨x4, hr3, hr1⟩ := bind_some hr1
  refine WA_one 13 (by kernel_rfl) rfl ?_
  refine WL_guard rfl rfl ?_
  refine WL_call Tryz.call109 rfl rfl (c_M_IsVar x3 x4 hr3) ?_
  intro _ w4 hv2
  obtain ⟨rfl, hB4⟩ := res_bool hv2
  have hC4 := hC3.grow hB4
  refine WL_nil ?_
  refine WA_takeG 14 rfl (by kernel_rfl) (by kernel_rfl) (by kernel_rfl) rfl rfl rfl (fl_move rfl) ?_
  refine WL_guard rfl rfl ?_
  refine WL_move rfl rfl ?_
  refine WL_nil ?_
  refine WA_fork (fun hc2 => ?_) (fun hc2 => ?_)
  ·replace hr1 := ite_t hr1 hc2
   refine WA_takeG 16 rfl (by kernel_rfl) (by kernel_rfl) (by kernel_rfl) rfl rfl rfl (fl_field Tryz.underlying84 rfl rfl (fun w => ⟨_, Tryz.sizeOf22 w⟩) rfl) ?_
   refine WL_guard rfl rfl ?_
   refine WL_field Tryz.underlying84 rfl rfl (fun w => ⟨_, Tryz.sizeOf22 w⟩) rfl rfl ?_
   refine WL_nil ?_
   refine WA_takeG 18 rfl (by kernel_rfl) (by kernel_rfl) (by kernel_rfl) rfl rfl rfl (fl_move rfl) ?_
   refine WL_guard rfl rfl ?_
   refine WL_move rfl rfl ?_
   refine WL_nil ?_
   obtain ⟨x5, hx2, hr1⟩ := bind_some hr1
   refine WA.sub (l' := [(0, (.int .i64 a1)), (1, (ptr pb1 0)), (2, (ptr pb2 0)), (4, (.bool false)), (5, (.int .i64 a1)), (6, (ptr pb1 (0 + 1))), (7, v1), (8, (.int .i64 (List.length ax1.2 : Int))), (9, (.int .i64 (w64 ((List.length ax1.2 : Int) - 1)))), (10, (.bool x2)), (11, (.bool (!x2))), (12, (.bool false)), (13, (ptr pb1 (0 + 1))), (14, v2), (15, (.int .i64 a1)), (16, (ptr b1 o1)), (17, (.int .i64 x3)), (18, (.bool x4)), (19, (.bool true)), (21, (ptr pb1 (0 + 1))), (23, (.int .i64 a1))]) ?_ ⟨rfl, rfl, rfl, rfl, rfl, rfl, rfl, rfl, rfl, rfl, rfl, rfl, rfl, rfl, rfl, rfl, rfl, rfl, rfl, rfl, rfl, trivial⟩
   refine WA_postsE [⟨15, [], fun vs => PW.ro [] w0 ax2, []⟩, ⟨17, [], fun vs => PW.ro [] w0 ax1.2, []⟩, ⟨19, [], fun vs => PW.at [] w0 x5, []⟩, ⟨20, [], fun vs => PW.val (.int .i64 x5), []⟩] [[], [], [17], [19]] 5 rfl (by kernel_rfl) (by kernel_rfl) rfl ?_ ?_
   ·refine StepsE_cons rfl ?_ ?_
    ·intro w5 hB5
     refine DepsE_nil ?_
     refine ⟨_, rfl, ?_⟩
     refine WL_guard rfl rfl ?_
     refine WL_load ty22 g2 (hC4.keep.then hB5) rfl rfl (fun v4 h5 => ?_)
     refine WL_nil ?_
     exact FinE_val (Below.refl _ _) rfl rfl ⟨rfl, h5⟩
    refine StepsE_cons rfl ?_ ?_
    ·intro w5 hB5
     refine DepsE_nil ?_
     refine ⟨_, rfl, ?_⟩
     refine WL_guard rfl rfl ?_
     refine WL_load ty22 g1.snd (hC4.keep.then hB5) rfl rfl (fun v5 h6 => ?_)
     refine WL_nil ?_
     exact FinE_val (Below.refl _ _) rfl rfl ⟨rfl, h6⟩
    refine StepsE_cons rfl ?_ ?_
    ·intro w5 hB5
     refine DepsE_cons rfl rfl rfl ?_
     rintro v5 _ ⟨rfl, h6⟩ _
     refine DepsE_nil ?_
     refine ⟨_, rfl, ?_⟩
     refine WL_guard rfl rfl ?_
     refine WL_index Tryz.underlying22 ty3 h6 hx2 rfl rfl rfl (fun b2 o2 h7 => ?_)
     refine WL_nil ?_
     exact FinE_val (Below.refl _ _) rfl rfl ⟨rfl, _, _, rfl, h7⟩
    refine StepsE_cons rfl ?_ ?_
    ·intro w5 hB5
     refine DepsE_cons rfl rfl rfl ?_
     rintro _ _ ⟨rfl, b2, o2, rfl, h7⟩ _
     refine DepsE_nil ?_
     refine ⟨_, rfl, ?_⟩
     refine WL_guard rfl rfl ?_
     refine WL_load ty3 h7 (hC4.keep.then hB5) rfl rfl (fun v6 h8 => ?_)
     obtain rfl := ro_int h8
     refine WL_nil ?_
     exact FinE_val (Below.refl _ _) rfl rfl ⟨rfl, rfl⟩
    exact StepsE_nil
   intro w6 hB6
   refine AllE_cons rfl rfl rfl ?_
   rintro v4 _ ⟨rfl, h5⟩
   refine AllE_cons rfl rfl rfl ?_
   rintro v5 _ ⟨rfl, h6⟩
   refine AllE_cons rfl rfl rfl ?_
   rintro _ _ ⟨rfl, b2, o2, rfl, h7⟩
   refine AllE_cons rfl rfl rfl ?_
   rintro _ _ ⟨rfl, rfl⟩
   refine AllE_nil ?_
   intro hn1 hb1
   have hC5 := hC4.grow hB6
   obtain ⟨x6, hr4, hr1⟩ := bind_some hr1
   refine WA_one 21 (by kernel_rfl) rfl ?_
   refine WL_guard rfl rfl ?_
   refine WL_call Tryz.call66 rfl rfl (c_Slices_Contains_Lint_int ax2 v4 (h5.now hC5.keep) x5 x6 hr4) ?_
   intro _ w7 hv3
   obtain ⟨rfl, hB7⟩ := res_bool hv3
   have hC6 := hC5.grow hB7
   refine WL_nil ?_
   refine WA_takeG 22 rfl (by kernel_rfl) (by kernel_rfl) (by kernel_rfl) rfl rfl rfl (fl_not rfl) ?_
   refine WL_guard rfl rfl ?_
   refine WL_not rfl rfl ?_
   refine WL_nil ?_
   refine WA_takeG 23 rfl (by kernel_rfl) (by kernel_rfl) (by kernel_rfl) rfl rfl rfl (fl_pick_t rfl rfl) ?_
   refine WL_guard rfl rfl ?_
   refine WL_pick_t rfl rfl rfl ?_
   refine WL_nil ?_
   refine WA_tk 24 (by kernel_rfl) rfl rfl (fl_pick_f rfl rfl) ?_
   refine WL_pick_f rfl rfl rfl ?_
   refine WL_nil ?_
   refine WA_tk 25 (by kernel_rfl) rfl rfl (fl_assign rfl) ?_
   refine WL_assign rfl rfl ?_
   refine WL_nil ?_
   refine WA_done (by kernel_rfl) ?_
   have hq2 := Option.some.inj hr1
   subst hq2
   refine nrm_sub (l' := [(4, (.bool (!x6)))]) ⟨rfl, trivial⟩ ?_
   exact ⟨(!x6), rfl, rfl, (((((Keep.of hB2).then hB3).then hB4).then hB6).then hB7).below, hC6⟩
  replace hr1 := ite_f hr1 hc2
  refine WA_sk 15 (by kernel_rfl) rfl rfl rfl rfl (by simp) rfl rfl ?_
  refine WA_sk 16 (by kernel_rfl) rfl rfl rfl rfl (by simp) rfl rfl ?_
  refine WA_sk 17 (by kernel_rfl) rfl rfl rfl rfl (by simp) rfl rfl ?_
  refine WA_sk 18 (by kernel_rfl) rfl rfl rfl rfl (by simp) rfl rfl ?_
  refine WA_sk 19 (by kernel_rfl) rfl rfl rfl rfl (by simp) rfl rfl ?_
  refine WA_sk 20 (by kernel_rfl) rfl rfl rfl rfl (by simp) rfl rfl ?_
  refine WA_sk 21 (by kernel_rfl) rfl rfl rfl rfl (by simp) rfl rfl ?_
  refine WA_sk 22 (by kernel_rfl) rfl rfl rfl rfl (by simp) rfl rfl ?_
  refine WA_takeG 23 rfl (by kernel_rfl) (by kernel_rfl) (by kernel_rfl) rfl rfl rfl (fl_pick_f rfl rfl) ?_
  refine WL_guard rfl rfl ?_
  refine WL_pick_f rfl rfl rfl ?_
  refine WL_nil ?_
  refine WA_tk 24 (by kernel_rfl) rfl rfl (fl_pick_f rfl rfl) ?_
  refine WL_pick_f rfl rfl rfl ?_
  refine WL_nil ?_
  refine WA_tk 25 (by kernel_rfl) rfl rfl (fl_assign rfl) ?_
  refine WL_assign rfl rfl ?_
  refine WL_nil ?_
  refine WA_done (by kernel_rfl) ?_
  have hq3 := Option.some.inj hr1
  subst hq3
  refine nrm_sub (l' := [(4, (.bool false))]) ⟨rfl, trivial⟩ ?_
  exact ⟨false, rfl, rfl, (((Keep.of hB2).then hB3).then hB4).below, hC4⟩
 rintro _ w1 ⟨x1, rfl, rfl, hB1, hC1⟩
 try dsimp only at hF
 refine W_ret ?_
 have hq4 := Option.some.inj hF
 subst hq4
 refine fn_ret1 rfl rfl ?_
 exact ⟨_, rfl, bool_res hC1 _⟩

theorem c_Slices_IndexFunc_Lint_int_M_CanCall_c1 {w0 : World} (a1 : (List Int)) (u1 : Value) (g1 : RO [] w0 u1 a1) (pb1 : Nat) (ax1 : (Int × (List Int))) (g2 : ROAt [] w0 pb1 0 ax1) (pb2 : Nat) (ax2 : (List Int)) (g3 : ROAt [] w0 pb2 0 ax2) (rr : Int) (hF : Slices.IndexFunc_Lint_int_M_CanCall_c1 a1 ax1 ax2 = some rr) :
 Calls Tryz.prog 99 [u1, (.func (.func 108) #[] #[(ptr pb1 0), (ptr pb2 0)])].toArray w0 fun e w' => ∃ v, e = .returned v ∧ Res w0 rr v w' := by
 refine calls_of_W Tryz.func99 rfl rfl ?_
 have hC0 := Ctx.start w0
 unfold Slices.IndexFunc_Lint_int_M_CanCall_c1 at hF
 refine W_seq_reg ?_
 refine WL_assign rfl rfl ?_
 refine WL_nil (W_seq (W_seq_reg ?_))
 refine WL_move rfl rfl ?_
 refine WL_len Tryz.underlying22 g1 rfl rfl ?_
 refine WL_move rfl rfl ?_
 refine WL_nil ?_
 obtain ⟨r1, hr1, hF⟩ := bind_some hF
 refine W_norm (fun l w => .inl () = r1 ∧ l = [] ∧ Below w0.heap.size w0 w ∧ Ctx [] w0 w []) ?_ ?_
 ·refine W_block ?_
  refine W.sub (l' := [(0, u1), (1, (.func (.func 108) #[] #[(ptr pb1 0), (ptr pb2 0)])), (7, (.int .i64 (List.length a1 : Int))), (8, (.int .i64 0))]) ?_ ⟨rfl, rfl, rfl, rfl, trivial⟩
  refine W_loop (fun k l w => ∃ x1 : Int, l = [(0, u1), (1, (.func (.func 108) #[] #[(ptr pb1 0), (ptr pb2 0)])), (7, (.int .i64 (List.length a1 : Int))), (8, (.int .i64 x1))] ∧ Below w0.heap.size w0 w ∧ Ctx [] w0 w [] ∧ Slices.IndexFunc_Lint_int_M_CanCall_c1_l1 a1 ax1 ax2 k x1 = some r1) FUEL ⟨0, rfl, (Below.refl _ _), hC0, hr1⟩ ?_
  clear hr1
  rintro k1 _ w1 ⟨x1, rfl, hB1, hC1, hL1⟩
  cases k1 with
  | zero => rw [Slices.IndexFunc_Lint_int_M_CanCall_c1_l1] at hL1; cases hL1
  | succ k1 =>
   rw [Slices.IndexFunc_Lint_int_M_CanCall_c1_l1] at hL1
   refine W_seq_reg ?_
   refine WL_lss rfl rfl rfl ?_
   refine WL_nil (W_seq ?_)
   refine W_cond rfl (fun hc1 => ?_) (fun hc1 => ?_)
   ·replace hL1 := ite_t hL1 hc1
    refine W_skip (nrm_normal (W_seq (W_block (W_seq_reg ?_))))
    refine WL_move rfl rfl ?_
    refine WL_assign rfl rfl ?_
    refine WL_nil (W_seq_reg ?_)
    refine WL_move rfl rfl ?_
    refine WL_move rfl rfl ?_
    refine WL_move rfl rfl ?_
    obtain ⟨x2, hx1, hL1⟩ := bind_some hL1
    refine WL_index Tryz.underlying22 ty3 g1 hx1 rfl rfl rfl (fun b1 o1 h1 => ?_)
    refine WL_load ty3 h1 hC1.keep rfl rfl (fun v1 h2 => ?_)
    obtain rfl := ro_int h2
    obtain ⟨x3, hr2, hL1⟩ := bind_some hL1
    refine WL_callv (cap := [(ptr pb1 0), (ptr pb2 0)]) Tryz.call108 rfl rfl rfl (c_M_CanCall_c1 x2 pb1 ax1 (g2.now hC1.keep) pb2 ax2 (g3.now hC1.keep) x3 hr2) ?_
    intro _ w2 hv1
    obtain ⟨rfl, hB2⟩ := res_bool hv1
    have hC2 := hC1.grow hB2
    refine WL_nil ?_
    refine W_cond rfl (fun hc2 => ?_) (fun hc2 => ?_)
    ·replace hL1 := ite_t hL1 hc2
     refine W_seq_reg ?_
     refine WL_move rfl rfl ?_
     refine WL_assign rfl rfl ?_
     refine WL_nil (W_ret (blk_ret (nrm_ret (nrm_ret (blk_ret (nrm_ret (nrm_ret ?_)))))))
     have hq1 := Option.some.inj hL1
     subst hq1
     dsimp only at hF
     have hq2 := Option.some.inj hF
     subst hq2
     refine fn_ret1 rfl rfl ?_
     exact ⟨_, rfl, int_res hC2 _⟩
    replace hL1 := ite_f hL1 hc2
    refine W_skip (blk_normal (nrm_normal (W_reg ?_)))
    refine WL_add rfl rfl rfl ?_
    refine WL_move rfl rfl ?_
    refine WL_nil ?_
    refine nrm_sub (l' := [(0, u1), (1, (.func (.func 108) #[] #[(ptr pb1 0), (ptr pb2 0)])), (7, (.int .i64 (List.length a1 : Int))), (8, (.int .i64 (w64 (x1 + 1))))]) ⟨rfl, rfl, rfl, rfl, trivial⟩ ?_
    exact ⟨k1, Nat.lt_succ_self _, w64 (x1 + 1), rfl, ((Keep.of hB1).then hB2).below, hC2, hL1⟩
   replace hL1 := ite_f hL1 hc1
   refine W_exit (nrm_exit (nrm_exit (blk_exit ?_)))
   have hq3 := Option.some.inj hL1
   subst hq3
   refine nrm_sub (l' := []) trivial ?_
   exact ⟨rfl, rfl, (Keep.of hB1).below, hC1⟩
 rintro l2 _ w3 hs2 ⟨rfl, rfl, hB3, hC3⟩
 try dsimp only at hF
 refine nrm_sub' hs2 ?_
 clear hs2
 refine W_seq_reg ?_
 refine WL_assign rfl rfl ?_
 refine WL_nil (W_ret ?_)
 have hq4 := Option.some.inj hF
 subst hq4
 refine fn_ret1 rfl rfl ?_
 exact ⟨_, rfl, int_res hC3 _⟩

theorem c_Slices_ContainsFunc_Lint_int_M_CanCall_c1 {w0 : World} (a1 : (List Int)) (u1 : Value) (g1 : RO [] w0 u1 a1) (pb1 : Nat) (ax1 : (Int × (List Int))) (g2 : ROAt [] w0 pb1 0 ax1) (pb2 : Nat) (ax2 : (List Int)) (g3 : ROAt [] w0 pb2 0 ax2) (rr : Bool) (hF : Slices.ContainsFunc_Lint_int_M_CanCall_c1 a1 ax1 ax2 = some rr) :
 Calls Tryz.prog 71 [u1, (.func (.func 108) #[] #[(ptr pb1 0), (ptr pb2 0)])].toArray w0 fun e w' => ∃ v, e = .returned v ∧ Res w0 rr v w' := by
 refine calls_of_W Tryz.func71 rfl rfl ?_
 have hC0 := Ctx.start w0
 unfold Slices.ContainsFunc_Lint_int_M_CanCall_c1 at hF
 refine W_seq_reg ?_
 refine WL_assign rfl rfl ?_
 refine WL_nil (W_seq_reg ?_)
 refine WL_move rfl rfl ?_
 refine WL_move rfl rfl ?_
 obtain ⟨x1, hr1, hF⟩ := bind_some hF
 refine WL_call Tryz.call99 rfl rfl (c_Slices_IndexFunc_Lint_int_M_CanCall_c1 a1 u1 (g1.now hC0.keep) pb1 ax1 (g2.now hC0.keep) pb2 ax2 (g3.now hC0.keep) x1 hr1) ?_
 intro _ w1 hv1
 obtain ⟨rfl, hB1⟩ := res_int hv1
 have hC1 := hC0.grow hB1
 refine WL_geq rfl rfl rfl ?_
 refine WL_assign rfl rfl ?_
 refine WL_nil (W_ret ?_)
 have hq1 := Option.some.inj hF
 subst hq1
 refine fn_ret1 rfl rfl ?_
 exact ⟨_, rfl, bool_res hC1 _⟩

theorem c_M_CanCall {w0 : World} (a1 : (Int × (List Int) × Int × Int × Int)) (u1 : Value) (g1 : RO [] w0 u1 a1.2.1) (a2 : (Int × (List Int))) (u2 : Value) (g2 : RO [] w0 u2 a2.2) (a3 : (List Int)) (u3 : Value) (g3 : RO [] w0 u3 a3) (rr : Bool) (hF : M.CanCall a1 a2 a3 = some rr) :
 Calls Tryz.prog 86 [(.agg #[(.int .i64 a1.1), u1, (.int .i64 a1.2.2.1), (.int .i64 a1.2.2.2.1), (.int .i64 a1.2.2.2.2)]), (.agg #[(.int .i64 a2.1), u2]), u3].toArray w0 fun e w' => ∃ v, e = .returned v ∧ Res w0 rr v w' := by
 refine calls_of_W Tryz.func86 rfl rfl ?_
 have hC0 := Ctx.start w0
 unfold M.CanCall at hF
 refine W_seq_reg ?_
 refine WL_boxK (cs := [(.int .i64 a1.1), u1, (.int .i64 a1.2.2.1), (.int .i64 a1.2.2.2.1), (.int .i64 a1.2.2.2.2)]) hC0 rfl rfl rfl (fun b1 w1 hC1 hB1 hN1 => ?_)
 refine WL_boxK (cs := [(.int .i64 a2.1), u2]) hC1 rfl rfl rfl (fun b2 w2 hC2 hB2 hN2 => ?_)
 refine WL_boxK (cs := [u3]) hC2 (ro_cells g3) rfl rfl (fun b3 w3 hC3 hB3 hN3 => ?_)
 refine WL_assign rfl rfl ?_
 refine WL_nil ?_
 obtain ⟨r1, hr1, hF⟩ := bind_some hF
 refine W_cut (fun l w => ∃ x1 : Bool, x1 = r1 ∧ l = [(6, (.bool x1))] ∧ Below w3.heap.size w3 w ∧ Ctx [] w0 w []) ?_ ?_
 ·refine W_reg ?_
  refine WL_field Tryz.underlying71 rfl rfl (fun w => ⟨_, Tryz.sizeOf3 w⟩) rfl rfl ?_
  refine WL_load_box hC3 2 rfl rfl Tryz.isAgg3 rfl rfl ?_
  refine WL_field Tryz.underlying84 rfl rfl (fun w => ⟨_, Tryz.sizeOf3 w⟩) rfl rfl ?_
  refine WL_load_box hC3 1 rfl rfl Tryz.isAgg3 rfl rfl ?_
  refine WL_eql rfl rfl rfl ?_
  refine WL_move rfl rfl ?_
  refine WL_fork (fun hc1 => ?_) (fun hc1 => ?_)
  ·replace hr1 := ite_t hr1 hc1
   refine WL_guard rfl rfl ?_
   refine WL_field Tryz.underlying71 rfl rfl (fun w => ⟨_, Tryz.sizeOf22 w⟩) rfl rfl ?_
   refine WL_guard rfl rfl ?_
   refine WL_load_box hC3 2 rfl rfl Tryz.isAgg22 rfl rfl ?_
   refine WL_guard rfl rfl ?_
   refine WL_makeFunc rfl rfl ?_
   obtain ⟨x2, hr2, hr1⟩ := bind_some hr1
   refine WL_guard rfl rfl ?_
   refine WL_call Tryz.call71 rfl rfl (c_Slices_ContainsFunc_Lint_int_M_CanCall_c1 a1.2.1 u1 (g1.now hC3.keep) b2 (a2.1, a2.2) (hC3.boxAt 1 rfl (repw_pair repw_int (repw_slice (g2.now hC3.keep)))) b3 a3 (hC3.boxAt 0 rfl (repw_slice (g3.now hC3.keep))) x2 hr2) ?_
   intro _ w5 hv1
   obtain ⟨rfl, hB5⟩ := res_bool hv1
   have hC5 := hC3.grow hB5
   refine WL_guard rfl rfl ?_
   refine WL_not rfl rfl ?_
   refine WL_pick_t rfl rfl rfl ?_
   refine WL_assign rfl rfl ?_
   refine WL_nil ?_
   have hq1 := Option.some.inj hr1
   subst hq1
   have hC6 := hC5.h0
   refine nrm_sub (l' := [(6, (.bool (!x2)))]) ⟨rfl, trivial⟩ ?_
   exact ⟨(!x2), rfl, rfl, (Keep.of hB5).below, hC6⟩
  replace hr1 := ite_f hr1 hc1
  refine WL_guard_skip rfl rfl (by simp) rfl ?_
  refine WL_guard_skip rfl rfl (by simp) rfl ?_
  refine WL_guard_skip rfl rfl (by simp) rfl ?_
  refine WL_guard_skip rfl rfl (by simp) rfl ?_
  refine WL_guard_skip rfl rfl (by simp) rfl ?_
  refine WL_pick_f rfl rfl rfl ?_
  refine WL_assign rfl rfl ?_
  refine WL_nil ?_
  have hq2 := Option.some.inj hr1
  subst hq2
  have hC7 := hC3.h0
  refine nrm_sub (l' := [(6, (.bool false))]) ⟨rfl, trivial⟩ ?_
  exact ⟨false, rfl, rfl, (Below.refl _ _), hC7⟩
 rintro _ w4 ⟨x1, rfl, rfl, hB4, hC4⟩
 try dsimp only at hF
 refine W_ret ?_
 have hq3 := Option.some.inj hF
 subst hq3
 refine fn_ret1 rfl rfl ?_
 exact ⟨_, rfl, bool_res hC4 _⟩

theorem c_M_meets_c1 {w0 : World} (a1 : Int) (pb1 : Nat) (ax1 : (List Int)) (g1 : ROAt [] w0 pb1 0 ax1) (rr : Bool) (hF : M.meets_c1 a1 ax1 = some rr) :
 Calls Tryz.prog 87 [(.int .i64 a1), (ptr pb1 0)].toArray w0 fun e w' => ∃ v, e = .returned v ∧ Res w0 rr v w' := by
 refine calls_of_W Tryz.func87 rfl rfl ?_
 have hC0 := Ctx.start w0
 unfold M.meets_c1 at hF
 refine W_seq_reg ?_
 refine WL_assign rfl rfl ?_
 refine WL_nil (W_seq_reg ?_)
 refine WL_load ty22 g1 hC0.keep rfl rfl (fun v1 h1 => ?_)
 refine WL_move rfl rfl ?_
 obtain ⟨x1, hr1, hF⟩ := bind_some hF
 refine WL_call Tryz.call66 rfl rfl (c_Slices_Contains_Lint_int ax1 v1 (h1.now hC0.keep) a1 x1 hr1) ?_
 intro _ w1 hv1
 obtain ⟨rfl, hB1⟩ := res_bool hv1
 have hC1 := hC0.grow hB1
 refine WL_assign rfl rfl ?_
 refine WL_nil (W_ret ?_)
 have hq1 := Option.some.inj hF
 subst hq1
 refine fn_ret1 rfl rfl ?_
 exact ⟨_, rfl, bool_res hC1 _⟩

theorem c_Slices_IndexFunc_Lint_int_M_meets_c1 {w0 : World} (a1 : (List Int)) (u1 : Value) (g1 : RO [] w0 u1 a1) (pb1 : Nat) (ax1 : (List Int)) (g2 : ROAt [] w0 pb1 0 ax1) (rr : Int) (hF : Slices.IndexFunc_Lint_int_M_meets_c1 a1 ax1 = some rr) :
 Calls Tryz.prog 99 [u1, (.func (.func 87) #[] #[(ptr pb1 0)])].toArray w0 fun e w' => ∃ v, e = .returned v ∧ Res w0 rr v w' := by
 refine calls_of_W Tryz.func99 rfl rfl ?_
 have hC0 := Ctx.start w0
 unfold Slices.IndexFunc_Lint_int_M_meets_c1 at hF
 refine W_seq_reg ?_
 refine WL_assign rfl rfl ?_
 refine WL_nil (W_seq (W_seq_reg ?_))
 refine WL_move rfl rfl ?_
 refine WL_len Tryz.underlying22 g1 rfl rfl ?_
 refine WL_move rfl rfl ?_
 refine WL_nil ?_
 obtain ⟨r1, hr1, hF⟩ := bind_some hF
 refine W_norm (fun l w => .inl () = r1 ∧ l = [] ∧ Below w0.heap.size w0 w ∧ Ctx [] w0 w []) ?_ ?_
 ·refine W_block ?_
  refine W.sub (l' := [(0, u1), (1, (.func (.func 87) #[] #[(ptr pb1 0)])), (7, (.int .i64 (List.length a1 : Int))), (8, (.int .i64 0))]) ?_ ⟨rfl, rfl, rfl, rfl, trivial⟩
  refine W_loop (fun k l w => ∃ x1 : Int, l = [(0, u1), (1, (.func (.func 87) #[] #[(ptr pb1 0)])), (7, (.int .i64 (List.length a1 : Int))), (8, (.int .i64 x1))] ∧ Below w0.heap.size w0 w ∧ Ctx [] w0 w [] ∧ Slices.IndexFunc_Lint_int_M_meets_c1_l1 a1 ax1 k x1 = some r1) FUEL ⟨0, rfl, (Below.refl _ _), hC0, hr1⟩ ?_
  clear hr1
  rintro k1 _ w1 ⟨x1, rfl, hB1, hC1, hL1⟩
  cases k1 with
  | zero => rw [Slices.IndexFunc_Lint_int_M_meets_c1_l1] at hL1; cases hL1
  | succ k1 =>
   rw [Slices.IndexFunc_Lint_int_M_meets_c1_l1] at hL1
   refine W_seq_reg ?_
   refine WL_lss rfl rfl rfl ?_
   refine WL_nil (W_seq ?_)
   refine W_cond rfl (fun hc1 => ?_) (fun hc1 => ?_)
   ·replace hL1 := ite_t hL1 hc1
    refine W_skip (nrm_normal (W_seq (W_block (W_seq_reg ?_))))
    refine WL_move rfl rfl ?_
    refine WL_assign rfl rfl ?_
    refine WL_nil (W_seq_reg ?_)
    refine WL_move rfl rfl ?_
    refine WL_move rfl rfl ?_
    refine WL_move rfl rfl ?_
    obtain ⟨x2, hx1, hL1⟩ := bind_some hL1
    refine WL_index Tryz.underlying22 ty3 g1 hx1 rfl rfl rfl (fun b1 o1 h1 => ?_)
    refine WL_load ty3 h1 hC1.keep rfl rfl (fun v1 h2 => ?_)
    obtain rfl := ro_int h2
    obtain ⟨x3, hr2, hL1⟩ := bind_some hL1
    refine WL_callv (cap := [(ptr pb1 0)]) Tryz.call87 rfl rfl rfl (c_M_meets_c1 x2 pb1 ax1 (g2.now hC1.keep) x3 hr2) ?_
    intro _ w2 hv1
    obtain ⟨rfl, hB2⟩ := res_bool hv1
    have hC2 := hC1.grow hB2
    refine WL_nil ?_
    refine W_cond rfl (fun hc2 => ?_) (fun hc2 => ?_)
    ·replace hL1 := ite_t hL1 hc2
     refine W_seq_reg ?_
     refine WL_move rfl rfl ?_
     refine WL_assign rfl rfl ?_
     refine WL_nil (W_ret (blk_ret (nrm_ret (nrm_ret (blk_ret (nrm_ret (nrm_ret ?_)))))))
     have hq1 := Option.some.inj hL1
     subst hq1
     dsimp only at hF
     have hq2 := Option.some.inj hF
     subst hq2
     refine fn_ret1 rfl rfl ?_
     exact ⟨_, rfl, int_res hC2 _⟩
    replace hL1 := ite_f hL1 hc2
    refine W_skip (blk_normal (nrm_normal (W_reg ?_)))
    refine WL_add rfl rfl rfl ?_
    refine WL_move rfl rfl ?_
    refine WL_nil ?_
    refine nrm_sub (l' := [(0, u1), (1, (.func (.func 87) #[] #[(ptr pb1 0)])), (7, (.int .i64 (List.length a1 : Int))), (8, (.int .i64 (w64 (x1 + 1))))]) ⟨rfl, rfl, rfl, rfl, trivial⟩ ?_
    exact ⟨k1, Nat.lt_succ_self _, w64 (x1 + 1), rfl, ((Keep.of hB1).then hB2).below, hC2, hL1⟩
   replace hL1 := ite_f hL1 hc1
   refine W_exit (nrm_exit (nrm_exit (blk_exit ?_)))
   have hq3 := Option.some.inj hL1
   subst hq3
   refine nrm_sub (l' := []) trivial ?_
   exact ⟨rfl, rfl, (Keep.of hB1).below, hC1⟩
 rintro l2 _ w3 hs2 ⟨rfl, rfl, hB3, hC3⟩
 try dsimp only at hF
 refine nrm_sub' hs2 ?_
 clear hs2
 refine W_seq_reg ?_
 refine WL_assign rfl rfl ?_
 refine WL_nil (W_ret ?_)
 have hq4 := Option.some.inj hF
 subst hq4
 refine fn_ret1 rfl rfl ?_
 exact ⟨_, rfl, int_res hC3 _⟩

theorem c_Slices_ContainsFunc_Lint_int_M_meets_c1 {w0 : World} (a1 : (List Int)) (u1 : Value) (g1 : RO [] w0 u1 a1) (pb1 : Nat) (ax1 : (List Int)) (g2 : ROAt [] w0 pb1 0 ax1) (rr : Bool) (hF : Slices.ContainsFunc_Lint_int_M_meets_c1 a1 ax1 = some rr) :
 Calls Tryz.prog 71 [u1, (.func (.func 87) #[] #[(ptr pb1 0)])].toArray w0 fun e w' => ∃ v, e = .returned v ∧ Res w0 rr v w' := by
 refine calls_of_W Tryz.func71 rfl rfl ?_
 have hC0 := Ctx.start w0
 unfold Slices.ContainsFunc_Lint_int_M_meets_c1 at hF
 refine W_seq_reg ?_
 refine WL_assign rfl rfl ?_
 refine WL_nil (W_seq_reg ?_)
 refine WL_move rfl rfl ?_
 refine WL_move rfl rfl ?_
 obtain ⟨x1, hr1, hF⟩ := bind_some hF
 refine WL_call Tryz.call99 rfl rfl (c_Slices_IndexFunc_Lint_int_M_meets_c1 a1 u1 (g1.now hC0.keep) pb1 ax1 (g2.now hC0.keep) x1 hr1) ?_
 intro _ w1 hv1
 obtain ⟨rfl, hB1⟩ := res_int hv1
 have hC1 := hC0.grow hB1
 refine WL_geq rfl rfl rfl ?_
 refine WL_assign rfl rfl ?_
 refine WL_nil (W_ret ?_)
 have hq1 := Option.some.inj hF
 subst hq1
 refine fn_ret1 rfl rfl ?_
 exact ⟨_, rfl, bool_res hC1 _⟩

theorem c_M_meets {w0 : World} (a1 : (List Int)) (u1 : Value) (g1 : RO [] w0 u1 a1) (a2 : (List Int)) (u2 : Value) (g2 : RO [] w0 u2 a2) (rr : Bool) (hF : M.meets a1 a2 = some rr) :
 Calls Tryz.prog 49 [u1, u2].toArray w0 fun e w' => ∃ v, e = .returned v ∧ Res w0 rr v w' := by
 refine calls_of_W Tryz.func49 rfl rfl ?_
 have hC0 := Ctx.start w0
 unfold M.meets at hF
 refine W_seq_reg ?_
 refine WL_boxK (cs := [u2]) hC0 (ro_cells g2) rfl rfl (fun b1 w1 hC1 hB1 hN1 => ?_)
 refine WL_assign rfl rfl ?_
 refine WL_nil (W_seq_reg ?_)
 refine WL_move rfl rfl ?_
 refine WL_makeFunc rfl rfl ?_
 obtain ⟨x1, hr1, hF⟩ := bind_some hF
 refine WL_call Tryz.call71 rfl rfl (c_Slices_ContainsFunc_Lint_int_M_meets_c1 a1 u1 (g1.now hC1.keep) b1 a2 (hC1.boxAt 0 rfl (repw_slice (g2.now hC1.keep))) x1 hr1) ?_
 intro _ w2 hv1
 obtain ⟨rfl, hB2⟩ := res_bool hv1
 have hC2 := hC1.grow hB2
 refine WL_assign rfl rfl ?_
 refine WL_nil (W_ret ?_)
 have hq1 := Option.some.inj hF
 subst hq1
 refine fn_ret1 rfl rfl ?_
 exact ⟨_, rfl, bool_res hC2 _⟩

theorem c_M_passed {w0 : World} (a1 : (Int × (List Int) × Int × Int × Int)) (u1 : Value) (g1 : RO [] w0 u1 a1.2.1) (a2 : (Int × (List Int))) (u2 : Value) (g2 : RO [] w0 u2 a2.2) (rr : (List Int)) (hF : M.passed a1 a2 = some rr) :
 Calls Tryz.prog 79 [(.agg #[(.int .i64 a1.1), u1, (.int .i64 a1.2.2.1), (.int .i64 a1.2.2.2.1), (.int .i64 a1.2.2.2.2)]), (.agg #[(.int .i64 a2.1), u2])].toArray w0 fun e w' => ∃ v, e = .returned v ∧ Res w0 rr v w' := by
 refine calls_of_W Tryz.func79 rfl rfl ?_
 have hC0 := Ctx.start w0
 unfold M.passed at hF
 refine W_seq_reg ?_
 refine WL_boxK (cs := [(.int .i64 a1.1), u1, (.int .i64 a1.2.2.1), (.int .i64 a1.2.2.2.1), (.int .i64 a1.2.2.2.2)]) hC0 rfl rfl rfl (fun b1 w1 hC1 hB1 hN1 => ?_)
 refine WL_boxK (cs := [(.int .i64 a2.1), u2]) hC1 rfl rfl rfl (fun b2 w2 hC2 hB2 hN2 => ?_)
 refine WL_assign rfl rfl ?_
 refine WL_nil (W_seq_reg ?_)
 refine WL_buildSlice (vs := []) hC2 Tryz.underlying22 ty3 rfl rfl rfl rfl (by simp) rfl rfl (fun b3 w3 hC3 hB3 => ?_)
 have hC4 := hC3.row0 (α := Int)
 have hC5 := hC4.front 1 rfl
 dsimp only [List.eraseIdx, List.cons_append, List.nil_append, List.append_nil] at hC5
 have hC6 : Ctx [] w0 w3 (Item.own (.slice (some ⟨b3, 0, none⟩) 0 0) (([] : List Int) : List Int) :: [Item.box b2 [(.int .i64 a2.1), u2], Item.box b1 [(.int .i64 a1.1), u1, (.int .i64 a1.2.2.1), (.int .i64 a1.2.2.2.1), (.int .i64 a1.2.2.2.2)]]) := hC5.rowOwn (by simp [maxLen])
 refine WL_assign rfl rfl ?_
 refine WL_nil (W_seq (W_seq_reg ?_))
 refine WL_field Tryz.underlying71 rfl rfl (fun w => ⟨_, Tryz.sizeOf22 w⟩) rfl rfl ?_
 refine WL_load_box hC6 2 rfl rfl Tryz.isAgg22 rfl rfl ?_
 refine WL_len Tryz.underlying22 g1 rfl rfl ?_
 refine WL_move rfl rfl ?_
 refine WL_nil ?_
 obtain ⟨r1, hr1, hF⟩ := bind_some hF
 refine W_norm (fun l w => ∃ v2 : Value, ∃ x3 : (List Int), x3 = r1 ∧ l = [(5, v2)] ∧ Ctx [] w0 w [Item.own v2 (x3 : (List Int))]) ?_ ?_
 ·refine W_block ?_
  have hC23 := hC6.f1
  have hC24 := hC23.f1
  have hC25 := hC24.h2
  refine W.sub (l' := [(3, (ptr b2 0)), (5, (.slice (some ⟨b3, 0, none⟩) 0 0)), (10, u1), (11, (.int .i64 (List.length a1.2.1 : Int))), (12, (.int .i64 0))]) ?_ ⟨rfl, rfl, rfl, rfl, rfl, trivial⟩
  refine W_loop (fun k l w => ∃ v1 : Value, ∃ x1 : (List Int), ∃ x2 : Int, l = [(3, (ptr b2 0)), (5, v1), (10, u1), (11, (.int .i64 (List.length a1.2.1 : Int))), (12, (.int .i64 x2))] ∧ Ctx [] w0 w [Item.own v1 (x1 : (List Int)), Item.box b2 [(.int .i64 a2.1), u2]] ∧ M.passed_l1 a1 a2 k x1 x2 = some r1) FUEL ⟨(.slice (some ⟨b3, 0, none⟩) 0 0), ([] : List Int), 0, rfl, hC25, hr1⟩ ?_
  clear hr1
  rintro k1 _ w4 ⟨v1, x1, x2, rfl, hC7, hL1⟩
  cases k1 with
  | zero => rw [M.passed_l1] at hL1; cases hL1
  | succ k1 =>
   rw [M.passed_l1] at hL1
   refine W_seq_reg ?_
   refine WL_lss rfl rfl rfl ?_
   refine WL_nil (W_seq ?_)
   refine W_cond rfl (fun hc1 => ?_) (fun hc1 => ?_)
   ·replace hL1 := ite_t hL1 hc1
    refine W_skip (nrm_normal (W_seq (W_block (W_seq_reg ?_))))
    obtain ⟨x4, hx1, hL1⟩ := bind_some hL1
    refine WL_index Tryz.underlying22 ty3 g1 hx1 rfl rfl rfl (fun b4 o1 h1 => ?_)
    refine WL_load ty3 h1 hC7.keep rfl rfl (fun v3 h2 => ?_)
    obtain rfl := ro_int h2
    refine WL_assign rfl rfl ?_
    refine WL_nil ?_
    obtain ⟨r2, hr2, hL1⟩ := bind_some hL1
    refine W_cut (fun l w => ∃ x5 : Bool, x5 = r2 ∧ l = [(3, (ptr b2 0)), (5, v1), (7, (.int .i64 x4)), (10, u1), (11, (.int .i64 (List.length a1.2.1 : Int))), (12, (.int .i64 x2)), (29, (.bool x5))] ∧ Below w4.heap.size w4 w ∧ Ctx [] w0 w [Item.own v1 (x1 : (List Int)), Item.box b2 [(.int .i64 a2.1), u2]]) ?_ ?_
    ·refine W_reg ?_
     refine WL_move rfl rfl ?_
     refine WL_field Tryz.underlying84 rfl rfl (fun w => ⟨_, Tryz.sizeOf22 w⟩) rfl rfl ?_
     refine WL_load_box hC7 1 rfl rfl Tryz.isAgg22 rfl rfl ?_
     refine WL_len Tryz.underlying22 g2 rfl rfl ?_
     refine WL_sub rfl rfl rfl ?_
     obtain ⟨x6, hr3, hr2⟩ := bind_some hr2
     refine WL_call Tryz.call78 rfl rfl (c_M_within x4 0 (w64 ((List.length a2.2 : Int) - 1)) x6 hr3) ?_
     intro _ w6 hv1
     obtain ⟨rfl, hB6⟩ := res_bool hv1
     have hC9 := hC7.grow hB6
     refine WL_move rfl rfl ?_
     refine WL_fork (fun hc2 => ?_) (fun hc2 => ?_)
     ·replace hr2 := ite_t hr2 hc2
      refine WL_guard rfl rfl ?_
      refine WL_field Tryz.underlying84 rfl rfl (fun w => ⟨_, Tryz.sizeOf22 w⟩) rfl rfl ?_
      refine WL_guard rfl rfl ?_
      refine WL_load_box hC9 1 rfl rfl Tryz.isAgg22 rfl rfl ?_
      refine WL_guard rfl rfl ?_
      refine WL_move rfl rfl ?_
      obtain ⟨x7, hx2, hr2⟩ := bind_some hr2
      refine WL_guard rfl rfl ?_
      refine WL_index Tryz.underlying22 ty3 g2 hx2 rfl rfl rfl (fun b5 o2 h3 => ?_)
      refine WL_guard rfl rfl ?_
      refine WL_load ty3 h3 hC9.keep rfl rfl (fun v4 h4 => ?_)
      obtain rfl := ro_int h4
      obtain ⟨x8, hr4, hr2⟩ := bind_some hr2
      refine WL_guard rfl rfl ?_
      refine WL_call Tryz.call98 rfl rfl (c_M_isValue x7 x8 hr4) ?_
      intro _ w7 hv2
      obtain ⟨rfl, hB7⟩ := res_bool hv2
      have hC10 := hC9.grow hB7
      refine WL_pick_t rfl rfl rfl ?_
      refine WL_nil ?_
      have hq1 := Option.some.inj hr2
      subst hq1
      refine nrm_sub (l' := [(3, (ptr b2 0)), (5, v1), (7, (.int .i64 x4)), (10, u1), (11, (.int .i64 (List.length a1.2.1 : Int))), (12, (.int .i64 x2)), (29, (.bool x8))]) ⟨rfl, rfl, rfl, rfl, rfl, rfl, rfl, trivial⟩ ?_
      exact ⟨x8, rfl, rfl, ((Keep.of hB6).then hB7).below, hC10⟩
     replace hr2 := ite_f hr2 hc2
     refine WL_guard_skip rfl rfl (by simp) rfl ?_
     refine WL_guard_skip rfl rfl (by simp) rfl ?_
     refine WL_guard_skip rfl rfl (by simp) rfl ?_
     refine WL_guard_skip rfl rfl (by simp) rfl ?_
     refine WL_guard_skip rfl rfl (by simp) rfl ?_
     refine WL_guard_skip rfl rfl (by simp) rfl ?_
     refine WL_pick_f rfl rfl rfl ?_
     refine WL_nil ?_
     have hq2 := Option.some.inj hr2
     subst hq2
     refine nrm_sub (l' := [(3, (ptr b2 0)), (5, v1), (7, (.int .i64 x4)), (10, u1), (11, (.int .i64 (List.length a1.2.1 : Int))), (12, (.int .i64 x2)), (29, (.bool false))]) ⟨rfl, rfl, rfl, rfl, rfl, rfl, rfl, trivial⟩ ?_
     exact ⟨false, rfl, rfl, (Keep.of hB6).below, hC9⟩
    rintro _ w5 ⟨x5, rfl, rfl, hB5, hC8⟩
    try dsimp only at hL1
    obtain ⟨r3, hr5, hL1⟩ := bind_some hL1
    refine W_norm (fun l w => ∃ v5 : Value, ∃ x9 : (List Int), x9 = r3 ∧ l = [(3, (ptr b2 0)), (5, v5), (10, u1), (11, (.int .i64 (List.length a1.2.1 : Int))), (12, (.int .i64 x2))] ∧ Ctx [] w0 w [Item.own v5 (x9 : (List Int)), Item.box b2 [(.int .i64 a2.1), u2]]) ?_ ?_
    ·refine W_cond rfl (fun hc3 => ?_) (fun hc3 => ?_)
     ·replace hr5 := ite_t hr5 hc3
      refine W_reg ?_
      refine WL_move rfl rfl ?_
      refine WL_field Tryz.underlying84 rfl rfl (fun w => ⟨_, Tryz.sizeOf22 w⟩) rfl rfl ?_
      refine WL_load_box hC8 1 rfl rfl Tryz.isAgg22 rfl rfl ?_
      refine WL_move rfl rfl ?_
      obtain ⟨x10, hx3, hr5⟩ := bind_some hr5
      refine WL_index Tryz.underlying22 ty3 g2 hx3 rfl rfl rfl (fun b6 o3 h5 => ?_)
      refine WL_load ty3 h5 hC8.keep rfl rfl (fun v6 h6 => ?_)
      obtain rfl := ro_int h6
      refine WL_buildSlice (vs := [(.int .i64 x10)]) hC8 Tryz.underlying22 ty3 rfl rfl rfl rfl (by intro v hv; simp only [List.mem_cons, List.not_mem_nil, or_false] at hv; rcases hv with rfl <;> rfl) rfl rfl (fun b7 w10 hC12 hB9 => ?_)
      have hC13 := hC12.row0 (α := Int)
      have hC14 := hC13.triv (int_val (x10))
      have hC15 := hC14.row1
      have hC16 := hC15.front 1 rfl
      dsimp only [List.eraseIdx, List.cons_append, List.nil_append, List.append_nil] at hC16
      have hC17 : Ctx [] w0 w10 (Item.own (.slice (some ⟨b7, 0, none⟩) 1 1) ([x10] : List Int) :: [Item.own v1 (x1 : (List Int)), Item.box b2 [(.int .i64 a2.1), u2]]) := hC16.rowOwn (by simp [maxLen])
      obtain ⟨x11, hx4, hr5⟩ := bind_some hr5
      refine WL_append_flat (α := Int) hC17 1 rfl (hC17.ro 0 rfl) (Keep.refl _ _) Tryz.underlying22 ty3 rfl hx4 rfl rfl rfl (fun v7 w11 hC18 => ?_)
      try dsimp only [List.set] at hC18
      refine WL_assign rfl rfl ?_
      refine WL_nil ?_
      have hq3 := Option.some.inj hr5
      subst hq3
      have hC19 := hC18.f2
      have hC20 := hC19.f2
      have hC21 := hC20.h2
      refine nrm_sub (l' := [(3, (ptr b2 0)), (5, v7), (10, u1), (11, (.int .i64 (List.length a1.2.1 : Int))), (12, (.int .i64 x2))]) ⟨rfl, rfl, rfl, rfl, rfl, trivial⟩ ?_
      exact ⟨v7, x11, rfl, rfl, hC21⟩
     replace hr5 := ite_f hr5 hc3
     refine W_skip ?_
     have hq4 := Option.some.inj hr5
     subst hq4
     refine nrm_sub (l' := [(3, (ptr b2 0)), (5, v1), (10, u1), (11, (.int .i64 (List.length a1.2.1 : Int))), (12, (.int .i64 x2))]) ⟨rfl, rfl, rfl, rfl, rfl, trivial⟩ ?_
     exact ⟨v1, x1, rfl, rfl, hC8⟩
    rintro l3 _ w9 hs3 ⟨v5, x9, rfl, rfl, hC11⟩
    try dsimp only at hL1
    refine blk_normal ?_
    refine nrm_sub' hs3 ?_
    clear hs3
    refine W_reg ?_
    refine WL_add rfl rfl rfl ?_
    refine WL_move rfl rfl ?_
    refine WL_nil ?_
    refine nrm_sub (l' := [(3, (ptr b2 0)), (5, v5), (10, u1), (11, (.int .i64 (List.length a1.2.1 : Int))), (12, (.int .i64 (w64 (x2 + 1))))]) ⟨rfl, rfl, rfl, rfl, rfl, trivial⟩ ?_
    exact ⟨k1, Nat.lt_succ_self _, v5, x9, w64 (x2 + 1), rfl, hC11, hL1⟩
   replace hL1 := ite_f hL1 hc1
   refine W_exit (nrm_exit (nrm_exit (blk_exit ?_)))
   have hq5 := Option.some.inj hL1
   subst hq5
   have hC22 := hC7.h1
   refine nrm_sub (l' := [(5, v1)]) ⟨rfl, trivial⟩ ?_
   exact ⟨v1, x1, rfl, rfl, hC22⟩
 rintro l4 _ w12 hs4 ⟨v2, x3, rfl, rfl, hC26⟩
 try dsimp only at hF
 refine nrm_sub' hs4 ?_
 clear hs4
 refine W_seq_reg ?_
 refine WL_move rfl rfl ?_
 refine WL_assign rfl rfl ?_
 refine WL_nil (W_ret ?_)
 have hq6 := Option.some.inj hF
 subst hq6
 refine fn_ret1 rfl rfl ?_
 exact ⟨_, rfl, own_res hC26 0 rfl⟩

theorem c_M_privateOrder_c1 {w0 : World} (a1 : (Int × (List Int) × Int × Int × Int)) (u1 : Value) (g1 : RO [] w0 u1 a1.2.1) (a2 : (Int × (List Int))) (u2 : Value) (g2 : RO [] w0 u2 a2.2) (pb1 : Nat) (ax1 : (List Int)) (g3 : ROAt [] w0 pb1 0 ax1) (rr : Bool) (hF : M.privateOrder_c1 a1 a2 ax1 = some rr) :
 Calls Tryz.prog 95 [(.agg #[(.int .i64 a1.1), u1, (.int .i64 a1.2.2.1), (.int .i64 a1.2.2.2.1), (.int .i64 a1.2.2.2.2)]), (.agg #[(.int .i64 a2.1), u2]), (ptr pb1 0)].toArray w0 fun e w' => ∃ v, e = .returned v ∧ Res w0 rr v w' := by
 refine calls_of_W Tryz.func95 rfl rfl ?_
 have hC0 := Ctx.start w0
 unfold M.privateOrder_c1 at hF
 refine W_seq_reg ?_
 refine WL_boxK (cs := [(.int .i64 a1.1), u1, (.int .i64 a1.2.2.1), (.int .i64 a1.2.2.2.1), (.int .i64 a1.2.2.2.2)]) hC0 rfl rfl rfl (fun b1 w1 hC1 hB1 hN1 => ?_)
 refine WL_boxK (cs := [(.int .i64 a2.1), u2]) hC1 rfl rfl rfl (fun b2 w2 hC2 hB2 hN2 => ?_)
 refine WL_assign rfl rfl ?_
 refine WL_nil (W_seq ?_)
 refine W_drawn 7 rfl hmix (fun w3 hB3 => ?_)
 have hC3 := hC2.grow hB3
 obtain ⟨x1, hr1, hF⟩ := bind_some hF
 refine WA.sub (l' := [(0, (.agg #[(.int .i64 a1.1), u1, (.int .i64 a1.2.2.1), (.int .i64 a1.2.2.2.1), (.int .i64 a1.2.2.2.2)])), (1, (.agg #[(.int .i64 a2.1), u2])), (2, (ptr pb1 0)), (3, (ptr b1 0)), (4, (ptr b2 0)), (5, (.bool false))]) ?_ ⟨rfl, rfl, rfl, rfl, rfl, rfl, trivial⟩
 refine WA_postsE [⟨0, [], fun vs => PW.val (.agg #[(.int .i64 a1.1), u1, (.int .i64 a1.2.2.1), (.int .i64 a1.2.2.2.1), (.int .i64 a1.2.2.2.2)]), []⟩, ⟨1, [], fun vs => PW.val (.agg #[(.int .i64 a2.1), u2]), []⟩, ⟨2, [], fun vs => PW.own x1, []⟩, ⟨3, [], fun vs => PW.ro [] w0 ax1, []⟩] [[], [], [0, 1], []] 3 rfl (by kernel_rfl) (by kernel_rfl) rfl ?_ ?_
 ·refine StepsE_cons rfl ?_ ?_
  ·intro w5 hB5
   refine DepsE_nil ?_
   refine ⟨_, rfl, ?_⟩
   refine WL_load_box_agg [(.int .i64 a1.1), u1, (.int .i64 a1.2.2.1), (.int .i64 a1.2.2.2.1), (.int .i64 a1.2.2.2.2)] (hC3.grow hB5) 1 rfl rfl rfl Tryz.isAgg71 Tryz.sizeOf71 rfl rfl ?_
   refine WL_nil ?_
   exact FinE_val (Below.refl _ _) rfl rfl ⟨rfl, rfl⟩
  refine StepsE_cons rfl ?_ ?_
  ·intro w5 hB5
   refine DepsE_nil ?_
   refine ⟨_, rfl, ?_⟩
   refine WL_load_box_agg [(.int .i64 a2.1), u2] (hC3.grow hB5) 0 rfl rfl rfl Tryz.isAgg84 Tryz.sizeOf84 rfl rfl ?_
   refine WL_nil ?_
   exact FinE_val (Below.refl _ _) rfl rfl ⟨rfl, rfl⟩
  refine StepsE_cons rfl ?_ ?_
  ·intro w5 hB5
   refine DepsE_cons rfl rfl rfl ?_
   rintro _ _ ⟨rfl, rfl⟩ _
   refine DepsE_cons rfl rfl rfl ?_
   rintro _ _ ⟨rfl, rfl⟩ _
   refine DepsE_nil ?_
   refine ⟨_, rfl, ?_⟩
   refine WL_call Tryz.call79 rfl rfl (c_M_passed (a1.1, a1.2.1, a1.2.2.1, a1.2.2.2.1, a1.2.2.2.2) u1 (g1.now (hC3.keep.then hB5)) (a2.1, a2.2) u2 (g2.now (hC3.keep.then hB5)) x1 hr1) ?_
   rintro v1 w4 ⟨hB4, F1, hv1, hn1, hb1⟩
   refine WL_nil ?_
   exact FinE_own hB4 rfl rfl hv1 hn1 hb1 (Val.inh hv1)
  refine StepsE_cons rfl ?_ ?_
  ·intro w5 hB5
   refine DepsE_nil ?_
   refine ⟨_, rfl, ?_⟩
   refine WL_load ty22 g3 (hC3.keep.then hB5) rfl rfl (fun v2 h1 => ?_)
   refine WL_nil ?_
   exact FinE_val (Below.refl _ _) rfl rfl ⟨rfl, h1⟩
  exact StepsE_nil
 intro w6 hB6
 refine AllE_cons rfl rfl rfl ?_
 rintro _ _ ⟨rfl, rfl⟩
 refine AllE_cons rfl rfl rfl ?_
 rintro _ _ ⟨rfl, rfl⟩
 refine AllE_cons rfl rfl rfl ?_
 intro v1 F1 hv1
 refine AllE_cons rfl rfl rfl ?_
 rintro v2 _ ⟨rfl, h1⟩
 refine AllE_nil ?_
 intro hn2 hb2
 have hC4 := hC3.pushL hB6 (Bs := [Item.own v1 (x1 : (List Int))]) (Fs := [F1]) ⟨F1, _, rfl, hv1, rfl⟩ (by simpa using hn2) (fun b h => (hb2 b (by simpa using h)).1)
 obtain ⟨x2, hr2, hF⟩ := bind_some hF
 refine WA_one 4 (by kernel_rfl) rfl ?_
 refine WL_call Tryz.call49 rfl rfl (c_M_meets x1 v1 ((hC4.ro 0 rfl).now (Keep.refl _ _)) ax1 v2 (h1.now hC4.keep) x2 hr2) ?_
 intro _ w7 hv2
 obtain ⟨rfl, hB7⟩ := res_bool hv2
 have hC5 := hC4.grow hB7
 refine WL_nil ?_
 refine WA_tk 5 (by kernel_rfl) rfl rfl (fl_not rfl) ?_
 refine WL_not rfl rfl ?_
 refine WL_nil ?_
 refine WA_tk 6 (by kernel_rfl) rfl rfl (fl_assign rfl) ?_
 refine WL_assign rfl rfl ?_
 refine WL_nil ?_
 refine WA_done (by kernel_rfl) ?_
 refine nrm_normal (W_ret ?_)
 have hq1 := Option.some.inj hF
 subst hq1
 refine fn_ret1 rfl rfl ?_
 exact ⟨_, rfl, bool_res hC5 _⟩

theorem c_M_greedyWhere_c1_c1_M_privateOrder_c1 {w0 : World} (a1 : (Int × (List Int) × Int × Int × Int)) (u1 : Value) (g1 : RO [] w0 u1 a1.2.1) (pb1 : Nat) (ax1 : (Int × (List Int))) (g2 : ROAt [] w0 pb1 0 ax1) (pb2 : Nat) (ax2 : (List Int)) (g3 : ROAt [] w0 pb2 0 ax2) (pb3 : Nat) (ax3 : (List Int)) (g4 : ROAt [] w0 pb3 0 ax3) (pb4 : Nat) (g5 : ROAt [] w0 pb4 0 (RawF.mk : RawF 95 [(ptr pb3 0)])) (rr : Bool) (hF : M.greedyWhere_c1_c1_M_privateOrder_c1 a1 ax1 ax2 ax3 = some rr) :
 Calls Tryz.prog 124 [(.agg #[(.int .i64 a1.1), u1, (.int .i64 a1.2.2.1), (.int .i64 a1.2.2.2.1), (.int .i64 a1.2.2.2.2)]), (ptr pb1 0), (ptr pb2 0), (ptr pb4 0)].toArray w0 fun e w' => ∃ v, e = .returned v ∧ Res w0 rr v w' := by
 refine calls_of_W Tryz.func124 rfl rfl ?_
 have hC0 := Ctx.start w0
 unfold M.greedyWhere_c1_c1_M_privateOrder_c1 at hF
 refine W_seq_reg ?_
 refine WL_boxK (cs := [(.int .i64 a1.1), u1, (.int .i64 a1.2.2.1), (.int .i64 a1.2.2.2.1), (.int .i64 a1.2.2.2.2)]) hC0 rfl rfl rfl (fun b1 w1 hC1 hB1 hN1 => ?_)
 refine WL_assign rfl rfl ?_
 refine WL_nil ?_
 obtain ⟨r1, hr1, hF⟩ := bind_some hF
 refine W_cut (fun l w => ∃ x1 : Bool, x1 = r1 ∧ l = [(5, (.bool x1))] ∧ Below w1.heap.size w1 w ∧ Ctx [] w0 w []) ?_ ?_
 ·refine W_reg ?_
  refine WL_load_box_agg [(.int .i64 a1.1), u1, (.int .i64 a1.2.2.1), (.int .i64 a1.2.2.2.1), (.int .i64 a1.2.2.2.2)] hC1 0 rfl rfl rfl Tryz.isAgg71 Tryz.sizeOf71 rfl rfl ?_
  refine WL_load ty84 g2 hC1.keep rfl rfl (fun v1 h1 => ?_)
  obtain ⟨v2, rfl, h2⟩ := ro_st84 h1
  refine WL_load ty22 g3 hC1.keep rfl rfl (fun v3 h3 => ?_)
  obtain ⟨x2, hr2, hr1⟩ := bind_some hr1
  refine WL_call Tryz.call86 rfl rfl (c_M_CanCall (a1.1, a1.2.1, a1.2.2.1, a1.2.2.2.1, a1.2.2.2.2) u1 (g1.now hC1.keep) ax1 v2 (h2.now hC1.keep) ax2 v3 (h3.now hC1.keep) x2 hr2) ?_
  intro _ w3 hv1
  obtain ⟨rfl, hB3⟩ := res_bool hv1
  have hC3 := hC1.grow hB3
  refine WL_move rfl rfl ?_
  refine WL_fork (fun hc1 => ?_) (fun hc1 => ?_)
  ·replace hr1 := ite_t hr1 hc1
   refine WL_guard rfl rfl ?_
   refine WL_load (tyr113 _ _) g5 hC3.keep rfl rfl (fun v4 h4 => ?_)
   obtain rfl := ro_raw h4
   refine WL_guard rfl rfl ?_
   refine WL_load_box_agg [(.int .i64 a1.1), u1, (.int .i64 a1.2.2.1), (.int .i64 a1.2.2.2.1), (.int .i64 a1.2.2.2.2)] hC3 0 rfl rfl rfl Tryz.isAgg71 Tryz.sizeOf71 rfl rfl ?_
   refine WL_guard rfl rfl ?_
   refine WL_load ty84 g2 hC3.keep rfl rfl (fun v5 h5 => ?_)
   obtain ⟨v6, rfl, h6⟩ := ro_st84 h5
   obtain ⟨x3, hr3, hr1⟩ := bind_some hr1
   refine WL_guard rfl rfl ?_
   refine WL_callv (cap := [(ptr pb3 0)]) Tryz.call95 rfl rfl rfl (c_M_privateOrder_c1 (a1.1, a1.2.1, a1.2.2.1, a1.2.2.2.1, a1.2.2.2.2) u1 (g1.now hC3.keep) ax1 v6 (h6.now hC3.keep) pb3 ax3 (g4.now hC3.keep) x3 hr3) ?_
   intro _ w4 hv2
   obtain ⟨rfl, hB4⟩ := res_bool hv2
   have hC4 := hC3.grow hB4
   refine WL_pick_t rfl rfl rfl ?_
   refine WL_assign rfl rfl ?_
   refine WL_nil ?_
   have hq1 := Option.some.inj hr1
   subst hq1
   have hC5 := hC4.h0
   refine nrm_sub (l' := [(5, (.bool x3))]) ⟨rfl, trivial⟩ ?_
   exact ⟨x3, rfl, rfl, ((Keep.of hB3).then hB4).below, hC5⟩
  replace hr1 := ite_f hr1 hc1
  refine WL_guard_skip rfl rfl (by simp) rfl ?_
  refine WL_guard_skip rfl rfl (by simp) rfl ?_
  refine WL_guard_skip rfl rfl (by simp) rfl ?_
  refine WL_guard_skip rfl rfl (by simp) rfl ?_
  refine WL_pick_f rfl rfl rfl ?_
  refine WL_assign rfl rfl ?_
  refine WL_nil ?_
  have hq2 := Option.some.inj hr1
  subst hq2
  have hC6 := hC3.h0
  refine nrm_sub (l' := [(5, (.bool false))]) ⟨rfl, trivial⟩ ?_
  exact ⟨false, rfl, rfl, (Keep.of hB3).below, hC6⟩
 rintro _ w2 ⟨x1, rfl, rfl, hB2, hC2⟩
 try dsimp only at hF
 refine W_ret ?_
 have hq3 := Option.some.inj hF
 subst hq3
 refine fn_ret1 rfl rfl ?_
 exact ⟨_, rfl, bool_res hC2 _⟩

theorem c_Slices_IndexFunc_Limpl_Method_impl_Method_M_greedyWhere_c1_c1_M_privateOrder_c1 {w0 : World} (a1 : (List (Int × (List Int) × Int × Int × Int))) (u1 : Value) (g1 : RO [] w0 u1 a1) (pb1 : Nat) (ax1 : (Int × (List Int))) (g2 : ROAt [] w0 pb1 0 ax1) (pb2 : Nat) (ax2 : (List Int)) (g3 : ROAt [] w0 pb2 0 ax2) (pb3 : Nat) (ax3 : (List Int)) (g4 : ROAt [] w0 pb3 0 ax3) (pb4 : Nat) (g5 : ROAt [] w0 pb4 0 (RawF.mk : RawF 95 [(ptr pb3 0)])) (rr : Int) (hF : Slices.IndexFunc_Limpl_Method_impl_Method_M_greedyWhere_c1_c1_M_privateOrder_c1 a1 ax1 ax2 ax3 = some rr) :
 Calls Tryz.prog 123 [u1, (.func (.func 124) #[] #[(ptr pb1 0), (ptr pb2 0), (ptr pb4 0)])].toArray w0 fun e w' => ∃ v, e = .returned v ∧ Res w0 rr v w' := by
 refine calls_of_W Tryz.func123 rfl rfl ?_
 have hC0 := Ctx.start w0
 unfold Slices.IndexFunc_Limpl_Method_impl_Method_M_greedyWhere_c1_c1_M_privateOrder_c1 at hF
 refine W_seq_reg ?_
 refine WL_assign rfl rfl ?_
 refine WL_nil (W_seq (W_seq_reg ?_))
 refine WL_move rfl rfl ?_
 refine WL_len Tryz.underlying33 g1 rfl rfl ?_
 refine WL_move rfl rfl ?_
 refine WL_nil ?_
 obtain ⟨r1, hr1, hF⟩ := bind_some hF
 refine W_norm (fun l w => .inl () = r1 ∧ l = [] ∧ Below w0.heap.size w0 w ∧ Ctx [] w0 w []) ?_ ?_
 ·refine W_block ?_
  refine W.sub (l' := [(0, u1), (1, (.func (.func 124) #[] #[(ptr pb1 0), (ptr pb2 0), (ptr pb4 0)])), (7, (.int .i64 (List.length a1 : Int))), (8, (.int .i64 0))]) ?_ ⟨rfl, rfl, rfl, rfl, trivial⟩
  refine W_loop (fun k l w => ∃ x1 : Int, l = [(0, u1), (1, (.func (.func 124) #[] #[(ptr pb1 0), (ptr pb2 0), (ptr pb4 0)])), (7, (.int .i64 (List.length a1 : Int))), (8, (.int .i64 x1))] ∧ Below w0.heap.size w0 w ∧ Ctx [] w0 w [] ∧ Slices.IndexFunc_Limpl_Method_impl_Method_M_greedyWhere_c1_c1_M_privateOrder_c1_l1 a1 ax1 ax2 ax3 k x1 = some r1) FUEL ⟨0, rfl, (Below.refl _ _), hC0, hr1⟩ ?_
  clear hr1
  rintro k1 _ w1 ⟨x1, rfl, hB1, hC1, hL1⟩
  cases k1 with
  | zero => rw [Slices.IndexFunc_Limpl_Method_impl_Method_M_greedyWhere_c1_c1_M_privateOrder_c1_l1] at hL1; cases hL1
  | succ k1 =>
   rw [Slices.IndexFunc_Limpl_Method_impl_Method_M_greedyWhere_c1_c1_M_privateOrder_c1_l1] at hL1
   refine W_seq_reg ?_
   refine WL_lss rfl rfl rfl ?_
   refine WL_nil (W_seq ?_)
   refine W_cond rfl (fun hc1 => ?_) (fun hc1 => ?_)
   ·replace hL1 := ite_t hL1 hc1
    refine W_skip (nrm_normal (W_seq (W_block (W_seq_reg ?_))))
    refine WL_move rfl rfl ?_
    refine WL_assign rfl rfl ?_
    refine WL_nil (W_seq_reg ?_)
    refine WL_move rfl rfl ?_
    refine WL_move rfl rfl ?_
    refine WL_move rfl rfl ?_
    obtain ⟨x2, hx1, hL1⟩ := bind_some hL1
    refine WL_index Tryz.underlying33 ty71 g1 hx1 rfl rfl rfl (fun b1 o1 h1 => ?_)
    refine WL_load ty71 h1 hC1.keep rfl rfl (fun v1 h2 => ?_)
    obtain ⟨v2, rfl, h3⟩ := ro_st71 h2
    obtain ⟨x3, hr2, hL1⟩ := bind_some hL1
    refine WL_callv (cap := [(ptr pb1 0), (ptr pb2 0), (ptr pb4 0)]) Tryz.call124 rfl rfl rfl (c_M_greedyWhere_c1_c1_M_privateOrder_c1 x2 v2 (h3.now hC1.keep) pb1 ax1 (g2.now hC1.keep) pb2 ax2 (g3.now hC1.keep) pb3 ax3 (g4.now hC1.keep) pb4 (g5.now hC1.keep) x3 hr2) ?_
    intro _ w2 hv1
    obtain ⟨rfl, hB2⟩ := res_bool hv1
    have hC2 := hC1.grow hB2
    refine WL_nil ?_
    refine W_cond rfl (fun hc2 => ?_) (fun hc2 => ?_)
    ·replace hL1 := ite_t hL1 hc2
     refine W_seq_reg ?_
     refine WL_move rfl rfl ?_
     refine WL_assign rfl rfl ?_
     refine WL_nil (W_ret (blk_ret (nrm_ret (nrm_ret (blk_ret (nrm_ret (nrm_ret ?_)))))))
     have hq1 := Option.some.inj hL1
     subst hq1
     dsimp only at hF
     have hq2 := Option.some.inj hF
     subst hq2
     refine fn_ret1 rfl rfl ?_
     exact ⟨_, rfl, int_res hC2 _⟩
    replace hL1 := ite_f hL1 hc2
    refine W_skip (blk_normal (nrm_normal (W_reg ?_)))
    refine WL_add rfl rfl rfl ?_
    refine WL_move rfl rfl ?_
    refine WL_nil ?_
    refine nrm_sub (l' := [(0, u1), (1, (.func (.func 124) #[] #[(ptr pb1 0), (ptr pb2 0), (ptr pb4 0)])), (7, (.int .i64 (List.length a1 : Int))), (8, (.int .i64 (w64 (x1 + 1))))]) ⟨rfl, rfl, rfl, rfl, trivial⟩ ?_
    exact ⟨k1, Nat.lt_succ_self _, w64 (x1 + 1), rfl, ((Keep.of hB1).then hB2).below, hC2, hL1⟩
   replace hL1 := ite_f hL1 hc1
   refine W_exit (nrm_exit (nrm_exit (blk_exit ?_)))
   have hq3 := Option.some.inj hL1
   subst hq3
   refine nrm_sub (l' := []) trivial ?_
   exact ⟨rfl, rfl, (Keep.of hB1).below, hC1⟩
 rintro l2 _ w3 hs2 ⟨rfl, rfl, hB3, hC3⟩
 try dsimp only at hF
 refine nrm_sub' hs2 ?_
 clear hs2
 refine W_seq_reg ?_
 refine WL_assign rfl rfl ?_
 refine WL_nil (W_ret ?_)
 have hq4 := Option.some.inj hF
 subst hq4
 refine fn_ret1 rfl rfl ?_
 exact ⟨_, rfl, int_res hC3 _⟩

theorem c_M_greedyWhere_c1_M_privateOrder_c1 {w0 : World} (pb1 : Nat) (ax1 : (List (Int × (List Int)))) (g1 : ROAt [] w0 pb1 0 ax1) (pb2 : Nat) (ax2 : (List (Int × (List Int) × Int × Int × Int))) (g2 : ROAt [] w0 pb2 0 ax2) (pb3 : Nat) (ax3 : (List Int)) (g3 : ROAt [] w0 pb3 0 ax3) (pb4 : Nat) (ax4 : (List Int)) (g4 : ROAt [] w0 pb4 0 ax4) (pb5 : Nat) (g5 : ROAt [] w0 pb5 0 (RawF.mk : RawF 95 [(ptr pb4 0)])) (pb6 : Nat) (ax5 : (List Bool)) (g6 : ROAt [] w0 pb6 0 ax5) (rr : ((Int × Int) × Bool)) (hF : M.greedyWhere_c1_M_privateOrder_c1 ax1 ax2 ax3 ax4 ax5 = some rr) :
 Calls Tryz.prog 122 [(ptr pb1 0), (ptr pb2 0), (ptr pb3 0), (ptr pb5 0), (ptr pb6 0)].toArray w0 fun e w' => ∃ v, e = .returned v ∧ Res2 w0 rr.1 rr.2 v w' := by
 refine calls_of_W Tryz.func122 rfl rfl ?_
 have hC0 := Ctx.start w0
 unfold M.greedyWhere_c1_M_privateOrder_c1 at hF
 refine W_seq_reg ?_
 refine WL_allocK hC0 zero75 rfl rfl (fun b1 w1 hC1 hB1 hN1 => ?_)
 refine WL_assign rfl rfl ?_
 refine WL_nil (W_seq (W_seq_reg ?_))
 refine WL_load ty35 g1 hC1.keep rfl rfl (fun v1 h1 => ?_)
 refine WL_len Tryz.underlying35 h1 rfl rfl ?_
 refine WL_move rfl rfl ?_
 refine WL_nil ?_
 obtain ⟨r1, hr1, hF⟩ := bind_some hF
 refine W_norm (fun l w => ∃ x4 : Int, ∃ x5 : Int, .inl (x4, x5) = r1 ∧ l = [(5, (ptr b1 0))] ∧ Ctx [] w0 w [Item.box b1 [(.int .i64 x4), (.int .i64 x5)]]) ?_ ?_
 ·refine W_block ?_
  refine W.sub (l' := [(1, (ptr pb2 0)), (2, (ptr pb3 0)), (3, (ptr pb5 0)), (4, (ptr pb6 0)), (5, (ptr b1 0)), (10, v1), (11, (.int .i64 (List.length ax1 : Int))), (12, (.int .i64 0))]) ?_ ⟨rfl, rfl, rfl, rfl, rfl, rfl, rfl, rfl, trivial⟩
  refine W_loop (fun k l w => ∃ x1 : Int, ∃ x2 : Int, ∃ x3 : Int, l = [(1, (ptr pb2 0)), (2, (ptr pb3 0)), (3, (ptr pb5 0)), (4, (ptr pb6 0)), (5, (ptr b1 0)), (10, v1), (11, (.int .i64 (List.length ax1 : Int))), (12, (.int .i64 x3))] ∧ Ctx [] w0 w [Item.box b1 [(.int .i64 x1), (.int .i64 x2)]] ∧ M.greedyWhere_c1_M_privateOrder_c1_l1 ax1 ax2 ax3 ax4 ax5 k x1 x2 x3 = some r1) FUEL ⟨0, 0, 0, rfl, hC1, hr1⟩ ?_
  clear hr1
  rintro k1 _ w2 ⟨x1, x2, x3, rfl, hC2, hL1⟩
  cases k1 with
  | zero => rw [M.greedyWhere_c1_M_privateOrder_c1_l1] at hL1; cases hL1
  | succ k1 =>
   rw [M.greedyWhere_c1_M_privateOrder_c1_l1] at hL1
   refine W_seq_reg ?_
   refine WL_lss rfl rfl rfl ?_
   refine WL_nil (W_seq ?_)
   refine W_cond rfl (fun hc1 => ?_) (fun hc1 => ?_)
   ·replace hL1 := ite_t hL1 hc1
    refine W_skip (nrm_normal (W_seq (W_block (W_seq_reg ?_))))
    refine WL_move rfl rfl ?_
    obtain ⟨x6, hx1, hL1⟩ := bind_some hL1
    refine WL_index Tryz.underlying35 ty84 h1 hx1 rfl rfl rfl (fun b2 o1 h2 => ?_)
    refine WL_load ty84 h2 hC2.keep rfl rfl (fun v2 h3 => ?_)
    obtain ⟨v3, rfl, h4⟩ := ro_st84 h3
    refine WL_allocK hC2 zero84 rfl rfl (fun b3 w3 hC3 hB3 hN2 => ?_)
    refine WL_assign rfl rfl ?_
    refine WL_store_box_aggK (cs' := [(.int .i64 x6.1), v3]) (new := [(.int .i64 x6.1), v3]) hC3 0 rfl rfl (by intro v hv; simp only [List.mem_cons, List.not_mem_nil, or_false] at hv; rcases hv with rfl | rfl; exact rfl; exact (ro_one h4)) rfl Tryz.sizeOf84 rfl rfl (fun w4 hC4 hKp1 => ?_)
    try dsimp only [List.set] at hC4
    have hk1 := Keep.over (Keep.of hB3) hN2 hKp1
    refine WL_nil (W_seq_reg ?_)
    refine WL_load ty33 g2 hC4.keep rfl rfl (fun v4 h5 => ?_)
    refine WL_makeFunc rfl rfl ?_
    obtain ⟨x7, hr2, hL1⟩ := bind_some hL1
    refine WL_call Tryz.call123 rfl rfl (c_Slices_IndexFunc_Limpl_Method_impl_Method_M_greedyWhere_c1_c1_M_privateOrder_c1 ax2 v4 (h5.now hC4.keep) b3 (x6.1, x6.2) (hC4.boxAt 0 rfl (repw_pair repw_int (repw_slice (h4.now hC4.keep)))) pb3 ax3 (g3.now hC4.keep) pb4 ax4 (g4.now hC4.keep) pb5 (g5.now hC4.keep) x7 hr2) ?_
    intro _ w5 hv1
    obtain ⟨rfl, hB4⟩ := res_int hv1
    have hC5 := hC4.grow hB4
    refine WL_assign rfl rfl ?_
    refine WL_nil ?_
    obtain ⟨r2, hr3, hL1⟩ := bind_some hL1
    refine W_cut (fun l w => ∃ x8 : Bool, x8 = r2 ∧ l = [(1, (ptr pb2 0)), (2, (ptr pb3 0)), (3, (ptr pb5 0)), (4, (ptr pb6 0)), (5, (ptr b1 0)), (7, (.int .i64 x3)), (9, (.int .i64 x7)), (10, v1), (11, (.int .i64 (List.length ax1 : Int))), (12, (.int .i64 x3)), (28, (.bool x8))] ∧ Below w5.heap.size w5 w ∧ Ctx [] w0 w [Item.box b1 [(.int .i64 x1), (.int .i64 x2)]]) ?_ ?_
    ·refine W_reg ?_
     refine WL_load ty107 g6 hC5.keep rfl rfl (fun v5 h6 => ?_)
     refine WL_move rfl rfl ?_
     obtain ⟨x9, hx2, hr3⟩ := bind_some hr3
     refine WL_index Tryz.underlying107 ty4 h6 hx2 rfl rfl rfl (fun b4 o2 h7 => ?_)
     refine WL_load ty4 h7 hC5.keep rfl rfl (fun v6 h8 => ?_)
     obtain rfl := ro_bool h8
     refine WL_not rfl rfl ?_
     refine WL_move rfl rfl ?_
     refine WL_fork (fun hc2 => ?_) (fun hc2 => ?_)
     ·replace hr3 := ite_t hr3 hc2
      refine WL_guard rfl rfl ?_
      refine WL_move rfl rfl ?_
      refine WL_guard rfl rfl ?_
      refine WL_geq rfl rfl rfl ?_
      refine WL_pick_t rfl rfl rfl ?_
      refine WL_nil ?_
      have hq1 := Option.some.inj hr3
      subst hq1
      have hC7 := hC5.f1
      have hC8 := hC7.h1
      refine nrm_sub (l' := [(1, (ptr pb2 0)), (2, (ptr pb3 0)), (3, (ptr pb5 0)), (4, (ptr pb6 0)), (5, (ptr b1 0)), (7, (.int .i64 x3)), (9, (.int .i64 x7)), (10, v1), (11, (.int .i64 (List.length ax1 : Int))), (12, (.int .i64 x3)), (28, (.bool (decide (0 ≤ x7))))]) ⟨rfl, rfl, rfl, rfl, rfl, rfl, rfl, rfl, rfl, rfl, rfl, trivial⟩ ?_
      exact ⟨(decide (0 ≤ x7)), rfl, rfl, (Below.refl _ _), hC8⟩
     replace hr3 := ite_f hr3 hc2
     refine WL_guard_skip rfl rfl (by simp) rfl ?_
     refine WL_guard_skip rfl rfl (by simp) rfl ?_
     refine WL_pick_f rfl rfl rfl ?_
     refine WL_nil ?_
     have hq2 := Option.some.inj hr3
     subst hq2
     have hC9 := hC5.f1
     have hC10 := hC9.h1
     refine nrm_sub (l' := [(1, (ptr pb2 0)), (2, (ptr pb3 0)), (3, (ptr pb5 0)), (4, (ptr pb6 0)), (5, (ptr b1 0)), (7, (.int .i64 x3)), (9, (.int .i64 x7)), (10, v1), (11, (.int .i64 (List.length ax1 : Int))), (12, (.int .i64 x3)), (28, (.bool false))]) ⟨rfl, rfl, rfl, rfl, rfl, rfl, rfl, rfl, rfl, rfl, rfl, trivial⟩ ?_
     exact ⟨false, rfl, rfl, (Below.refl _ _), hC10⟩
    rintro _ w6 ⟨x8, rfl, rfl, hB5, hC6⟩
    try dsimp only at hL1
    refine W_cond rfl (fun hc3 => ?_) (fun hc3 => ?_)
    ·replace hL1 := ite_t hL1 hc3
     refine W_seq_reg ?_
     refine WL_move rfl rfl ?_
     refine WL_move rfl rfl ?_
     refine WL_build (vs := [(0, (.int .i64 x3)), (1, (.int .i64 x7))]) rfl rfl rfl (built75_0_1 rfl rfl) ?_
     refine WL_store_box_aggK (cs' := [(.int .i64 x3), (.int .i64 x7)]) (new := [(.int .i64 x3), (.int .i64 x7)]) hC6 0 rfl rfl (by intro v hv; simp only [List.mem_cons, List.not_mem_nil, or_false] at hv; rcases hv with rfl | rfl; exact rfl; exact rfl) rfl Tryz.sizeOf75 rfl rfl (fun w7 hC11 hKp2 => ?_)
     try dsimp only [List.set] at hC11
     refine WL_assign rfl rfl ?_
     refine WL_nil (W_ret (blk_ret (nrm_ret (nrm_ret (blk_ret (nrm_ret (nrm_ret ?_)))))))
     have hq3 := Option.some.inj hL1
     subst hq3
     dsimp only at hF
     have hq4 := Option.some.inj hF
     subst hq4
     refine fn_retG2 rfl (rv_cell_agg (cs' := [(.int .i64 x3), (.int .i64 x7)]) hC11 (i := 0) rfl rfl rfl Tryz.isAgg75 Tryz.sizeOf75 rfl) (rv_tmp rfl) ?_
     have hC12 := hC11.triv (bool_val (true))
     have hC13 := own_st75 x3 x7 hC12
     exact ⟨_, rfl, res2_of hC13⟩
    replace hL1 := ite_f hL1 hc3
    refine W_skip (blk_normal (nrm_normal (W_reg ?_)))
    refine WL_add rfl rfl rfl ?_
    refine WL_move rfl rfl ?_
    refine WL_nil ?_
    refine nrm_sub (l' := [(1, (ptr pb2 0)), (2, (ptr pb3 0)), (3, (ptr pb5 0)), (4, (ptr pb6 0)), (5, (ptr b1 0)), (10, v1), (11, (.int .i64 (List.length ax1 : Int))), (12, (.int .i64 (w64 (x3 + 1))))]) ⟨rfl, rfl, rfl, rfl, rfl, rfl, rfl, rfl, trivial⟩ ?_
    exact ⟨k1, Nat.lt_succ_self _, x1, x2, w64 (x3 + 1), rfl, hC6, hL1⟩
   replace hL1 := ite_f hL1 hc1
   refine W_exit (nrm_exit (nrm_exit (blk_exit ?_)))
   have hq5 := Option.some.inj hL1
   subst hq5
   refine nrm_sub (l' := [(5, (ptr b1 0))]) ⟨rfl, trivial⟩ ?_
   exact ⟨x1, x2, rfl, rfl, hC2⟩
 rintro l3 _ w9 hs3 ⟨x4, x5, rfl, rfl, hC14⟩
 try dsimp only at hF
 refine nrm_sub' hs3 ?_
 clear hs3
 refine W_seq_reg ?_
 refine WL_build (vs := []) rfl rfl rfl built75 ?_
 refine WL_store_box_aggK (cs' := [(.int .i64 0), (.int .i64 0)]) (new := [(.int .i64 0), (.int .i64 0)]) hC14 0 rfl rfl (by intro v hv; simp only [List.mem_cons, List.not_mem_nil, or_false] at hv; rcases hv with rfl | rfl; exact rfl; exact rfl) rfl Tryz.sizeOf75 rfl rfl (fun w10 hC15 hKp3 => ?_)
 try dsimp only [List.set] at hC15
 refine WL_assign rfl rfl ?_
 refine WL_nil (W_ret ?_)
 have hq6 := Option.some.inj hF
 subst hq6
 refine fn_retG2 rfl (rv_cell_agg (cs' := [(.int .i64 0), (.int .i64 0)]) hC15 (i := 0) rfl rfl rfl Tryz.isAgg75 Tryz.sizeOf75 rfl) (rv_tmp rfl) ?_
 have hC16 := hC15.triv (bool_val (false))
 have hC17 := own_st75 0 0 hC16
 exact ⟨_, rfl, res2_of hC17⟩

theorem c_M_greedyWhere_M_privateOrder_c1 {w0 : World} (a1 : (List (Int × (List Int) × Int × Int × Int))) (u1 : Value) (g1 : RO [] w0 u1 a1) (a2 : (List (Int × (List Int)))) (u2 : Value) (g2 : RO [] w0 u2 a2) (pb1 : Nat) (ax1 : (List Int)) (g3 : ROAt [] w0 pb1 0 ax1) (rr : ((List (Int × Int)) × (List Bool))) (hF : M.greedyWhere_M_privateOrder_c1 a1 a2 ax1 = some rr) :
 Calls Tryz.prog 94 [u1, u2, (.func (.func 95) #[] #[(ptr pb1 0)])].toArray w0 fun e w' => ∃ v, e = .returned v ∧ Res2 w0 rr.1 rr.2 v w' := by
 refine calls_of_W Tryz.func94 rfl rfl ?_
 have hC0 := Ctx.start w0
 unfold M.greedyWhere_M_privateOrder_c1 at hF
 refine W_seq_reg ?_
 refine WL_boxK (cs := [u1]) hC0 (ro_cells g1) rfl rfl (fun b1 w1 hC1 hB1 hN1 => ?_)
 refine WL_boxK (cs := [u2]) hC1 (ro_cells g2) rfl rfl (fun b2 w2 hC2 hB2 hN2 => ?_)
 refine WL_boxK (cs := [(.func (.func 95) #[] #[(ptr pb1 0)])]) hC2 rfl rfl rfl (fun b3 w3 hC3 hB3 hN3 => ?_)
 refine WL_assign rfl rfl ?_
 refine WL_assign rfl rfl ?_
 refine WL_nil (W_seq_reg ?_)
 refine WL_buildSlice (vs := []) hC3 Tryz.underlying39 ty75 rfl rfl rfl rfl (by simp) rfl rfl (fun b4 w4 hC4 hB4 => ?_)
 have hC5 := hC4.row0 (α := (Int × Int))
 have hC6 := hC5.front 1 rfl
 dsimp only [List.eraseIdx, List.cons_append, List.nil_append, List.append_nil] at hC6
 have hC7 : Ctx [] w0 w4 (Item.own (.slice (some ⟨b4, 0, none⟩) 0 0) (([] : List (Int × Int)) : List (Int × Int)) :: [Item.box b3 [(.func (.func 95) #[] #[(ptr pb1 0)])], Item.box b2 [u2], Item.box b1 [u1]]) := hC6.rowOwn (by simp [maxLen])
 refine WL_assign rfl rfl ?_
 refine WL_nil (W_seq_reg ?_)
 refine WL_load_box hC7 2 rfl rfl Tryz.isAgg35 rfl rfl ?_
 refine WL_len Tryz.underlying35 g2 rfl rfl ?_
 obtain ⟨x1, hx1, hF⟩ := bind_some hF
 refine WL_makeSlice hC7 Tryz.underlying107 ty4 rfl zc4 zr4 hx1 rfl rfl rfl (fun b5 w5 hC8 hB5 => ?_)
 refine WL_allocK hC8 zero107 rfl rfl (fun b6 w6 hC9 hB6 hN4 => ?_)
 refine WL_store_boxK (cs' := [(.slice (some ⟨b5, 0, none⟩) (Int.toNat (List.length a2 : Int)) (Int.toNat (List.length a2 : Int)))]) hC9 0 rfl rfl (ro_one (hC9.ro 1 rfl)) rfl Tryz.sizeOf107 rfl rfl (fun w7 hC10 hKp1 => ?_)
 try dsimp only [List.set] at hC10
 have hk1 := Keep.over ((((((Keep.of hB1).then hB2).then hB3).then hB4).then hB5).then hB6) (Nat.le_trans (((((Keep.of hB1).then hB2).then hB3).then hB4).then hB5).size hN4) hKp1
 have hk2 := Keep.over (((((Keep.of hB2).then hB3).then hB4).then hB5).then hB6) (Nat.le_trans ((((Keep.of hB2).then hB3).then hB4).then hB5).size hN4) hKp1
 have hk3 := Keep.over ((((Keep.of hB3).then hB4).then hB5).then hB6) (Nat.le_trans (((Keep.of hB3).then hB4).then hB5).size hN4) hKp1
 have hk4 := Keep.over (((Keep.of hB4).then hB5).then hB6) (Nat.le_trans ((Keep.of hB4).then hB5).size hN4) hKp1
 have hk5 := Keep.over ((Keep.of hB5).then hB6) (Nat.le_trans (Keep.of hB5).size hN4) hKp1
 have hk6 := Keep.over (Keep.of hB6) hN4 hKp1
 refine WL_nil (W_seq_reg ?_)
 refine WL_buildSlice (vs := []) hC10 Tryz.underlying22 ty3 rfl rfl rfl rfl (by simp) rfl rfl (fun b7 w9 hC11 hB7 => ?_)
 have hC12 := hC11.row0 (α := Int)
 have hC13 := hC12.front 1 rfl
 dsimp only [List.eraseIdx, List.cons_append, List.nil_append, List.append_nil] at hC13
 have hC14 : Ctx [] w0 w9 (Item.own (.slice (some ⟨b7, 0, none⟩) 0 0) (([] : List Int) : List Int) :: [Item.box b6 [(.slice (some ⟨b5, 0, none⟩) (Int.toNat (List.length a2 : Int)) (Int.toNat (List.length a2 : Int)))], Item.own (.slice (some ⟨b5, 0, none⟩) (Int.toNat (List.length a2 : Int)) (Int.toNat (List.length a2 : Int))) (x1 : (List Bool)), Item.own (.slice (some ⟨b4, 0, none⟩) 0 0) (([] : List (Int × Int)) : (List (Int × Int))), Item.box b3 [(.func (.func 95) #[] #[(ptr pb1 0)])], Item.box b2 [u2], Item.box b1 [u1]]) := hC13.rowOwn (by simp [maxLen])
 refine WL_allocK hC14 zero22 rfl rfl (fun b8 w10 hC15 hB8 hN5 => ?_)
 refine WL_store_boxK (cs' := [(.slice (some ⟨b7, 0, none⟩) 0 0)]) hC15 0 rfl rfl (ro_one (hC15.ro 1 rfl)) rfl Tryz.sizeOf22 rfl rfl (fun w11 hC16 hKp2 => ?_)
 try dsimp only [List.set] at hC16
 have hk7 := Keep.over ((hk1.then hB7).then hB8) (Nat.le_trans (hk1.then hB7).size hN5) hKp2
 have hk8 := Keep.over ((hk2.then hB7).then hB8) (Nat.le_trans (hk2.then hB7).size hN5) hKp2
 have hk9 := Keep.over ((hk3.then hB7).then hB8) (Nat.le_trans (hk3.then hB7).size hN5) hKp2
 have hk10 := Keep.over ((hk4.then hB7).then hB8) (Nat.le_trans (hk4.then hB7).size hN5) hKp2
 have hk11 := Keep.over ((hk5.then hB7).then hB8) (Nat.le_trans (hk5.then hB7).size hN5) hKp2
 have hk12 := Keep.over ((hk6.then hB7).then hB8) (Nat.le_trans (hk6.then hB7).size hN5) hKp2
 have hk13 := Keep.over ((Keep.of hB7).then hB8) (Nat.le_trans (Keep.of hB7).size hN5) hKp2
 have hk14 := Keep.over (Keep.of hB8) hN5 hKp2
 refine WL_nil (W_seq_reg ?_)
 refine WL_makeFunc rfl rfl ?_
 refine WL_assign rfl rfl ?_
 refine WL_nil (W_seq (W_seq_reg ?_))
 refine WL_move rfl rfl ?_
 obtain ⟨x2, hr1, hF⟩ := bind_some hF
 refine WL_callv (cap := [(ptr b2 0), (ptr b1 0), (ptr b8 0), (ptr b3 0), (ptr b6 0)]) Tryz.call122 rfl rfl rfl (c_M_greedyWhere_c1_M_privateOrder_c1 b2 a2 (hC16.boxAt 6 rfl (repw_slice (g2.now hC16.keep))) b1 a1 (hC16.boxAt 7 rfl (repw_slice (g1.now hC16.keep))) b8 ([] : List Int) (hC16.boxAt 0 rfl (repw_slice (hC16.ro 1 rfl))) pb1 ax1 (g3.now hC16.keep) b3 (hC16.boxAt 5 rfl repw_raw) b6 x1 (hC16.boxAt 2 rfl (repw_slice (hC16.ro 3 rfl))) x2 hr1) ?_
 rintro _ w12 ⟨hB9, v1, v2, F1, F2, rfl, hv1, hv2, hn1, hb1⟩
 obtain ⟨rfl, rfl⟩ := val_bool hv2
 have hC17 := hC16.pushL hB9 (Bs := [Item.own v1 x2.1]) (Fs := [F1]) ⟨F1, _, rfl, hv1, rfl⟩ (by simpa using hn1) (fun b h => hb1 b (by simpa using h))
 obtain ⟨rfl, hC18⟩ := st75_own hC17
 refine WL_move rfl rfl ?_
 refine WL_extract rfl rfl rfl ?_
 refine WL_extract rfl rfl rfl ?_
 refine WL_allocK hC18 zero75 rfl rfl (fun b9 w13 hC19 hB10 hN6 => ?_)
 refine WL_store_box_aggK (cs' := [(.int .i64 x2.1.1), (.int .i64 x2.1.2)]) (new := [(.int .i64 x2.1.1), (.int .i64 x2.1.2)]) hC19 0 rfl rfl (by intro v hv; simp only [List.mem_cons, List.not_mem_nil, or_false] at hv; rcases hv with rfl | rfl; exact rfl; exact rfl) rfl Tryz.sizeOf75 rfl rfl (fun w14 hC20 hKp3 => ?_)
 try dsimp only [List.set] at hC20
 have hk15 := Keep.over ((hk7.then hB9).then hB10) (Nat.le_trans (hk7.then hB9).size hN6) hKp3
 have hk16 := Keep.over ((hk8.then hB9).then hB10) (Nat.le_trans (hk8.then hB9).size hN6) hKp3
 have hk17 := Keep.over ((hk9.then hB9).then hB10) (Nat.le_trans (hk9.then hB9).size hN6) hKp3
 have hk18 := Keep.over ((hk10.then hB9).then hB10) (Nat.le_trans (hk10.then hB9).size hN6) hKp3
 have hk19 := Keep.over ((hk11.then hB9).then hB10) (Nat.le_trans (hk11.then hB9).size hN6) hKp3
 have hk20 := Keep.over ((hk12.then hB9).then hB10) (Nat.le_trans (hk12.then hB9).size hN6) hKp3
 have hk21 := Keep.over ((hk13.then hB9).then hB10) (Nat.le_trans (hk13.then hB9).size hN6) hKp3
 have hk22 := Keep.over ((hk14.then hB9).then hB10) (Nat.le_trans (hk14.then hB9).size hN6) hKp3
 have hk23 := Keep.over ((Keep.of hB9).then hB10) (Nat.le_trans (Keep.of hB9).size hN6) hKp3
 have hk24 := Keep.over (Keep.of hB10) hN6 hKp3
 refine WL_assign rfl rfl ?_
 refine WL_nil ?_
 obtain ⟨r1, hr2, hF⟩ := bind_some hF
 refine W_norm (fun l w => ∃ x9 : (List Bool), ∃ v5 : Value, ∃ x10 : (List Int), ∃ v6 : Value, ∃ x11 : (List (Int × Int)), (x9, x10, x11) = r1 ∧ l = [(8, v6), (9, (ptr b6 0))] ∧ Ctx [] w0 w [Item.box b6 [(.slice (some ⟨b5, 0, none⟩) (Int.toNat (List.length a2 : Int)) (Int.toNat (List.length a2 : Int)))], Item.own (.slice (some ⟨b5, 0, none⟩) (Int.toNat (List.length a2 : Int)) (Int.toNat (List.length a2 : Int))) (x9 : (List Bool)), Item.own v6 (x11 : (List (Int × Int)))]) ?_ ?_
 ·refine W_block ?_
  refine W.sub (l' := [(4, (ptr b2 0)), (8, (.slice (some ⟨b4, 0, none⟩) 0 0)), (9, (ptr b6 0)), (10, (ptr b8 0)), (11, (.func (.func 122) #[] #[(ptr b2 0), (ptr b1 0), (ptr b8 0), (ptr b3 0), (ptr b6 0)])), (12, (ptr b9 0)), (13, (.bool x2.2))]) ?_ ⟨rfl, rfl, rfl, rfl, rfl, rfl, rfl, trivial⟩
  refine W_loop (fun k l w => ∃ x3 : (List Bool), ∃ v3 : Value, ∃ x4 : (List Int), ∃ v4 : Value, ∃ x5 : (List (Int × Int)), ∃ b10 : Nat, ∃ x6 : Int, ∃ x7 : Int, ∃ x8 : Bool, l = [(4, (ptr b2 0)), (8, v4), (9, (ptr b6 0)), (10, (ptr b8 0)), (11, (.func (.func 122) #[] #[(ptr b2 0), (ptr b1 0), (ptr b8 0), (ptr b3 0), (ptr b6 0)])), (12, (ptr b10 0)), (13, (.bool x8))] ∧ Ctx [] w0 w [Item.box b10 [(.int .i64 x6), (.int .i64 x7)], Item.box b8 [v3], Item.own v3 (x4 : (List Int)), Item.box b6 [(.slice (some ⟨b5, 0, none⟩) (Int.toNat (List.length a2 : Int)) (Int.toNat (List.length a2 : Int)))], Item.own (.slice (some ⟨b5, 0, none⟩) (Int.toNat (List.length a2 : Int)) (Int.toNat (List.length a2 : Int))) (x3 : (List Bool)), Item.own v4 (x5 : (List (Int × Int))), Item.box b3 [(.func (.func 95) #[] #[(ptr pb1 0)])], Item.box b2 [u2], Item.box b1 [u1]] ∧ M.greedyWhere_M_privateOrder_c1_l1 a2 a1 ax1 k x3 x4 x5 x6 x7 x8 = some r1) FUEL ⟨x1, (.slice (some ⟨b7, 0, none⟩) 0 0), ([] : List Int), (.slice (some ⟨b4, 0, none⟩) 0 0), ([] : List (Int × Int)), b9, x2.1.1, x2.1.2, x2.2, rfl, hC20, hr2⟩ ?_
  clear hr2
  rintro k1 _ w15 ⟨x3, v3, x4, v4, x5, b10, x6, x7, x8, rfl, hC21, hL1⟩
  cases k1 with
  | zero => rw [M.greedyWhere_M_privateOrder_c1_l1] at hL1; cases hL1
  | succ k1 =>
   rw [M.greedyWhere_M_privateOrder_c1_l1] at hL1
   refine W_seq (W_seq_reg ?_)
   refine WL_move rfl rfl ?_
   refine WL_nil ?_
   refine W_cond rfl (fun hc1 => ?_) (fun hc1 => ?_)
   ·replace hL1 := ite_t hL1 hc1
    refine W_skip (nrm_normal (W_seq (W_block (W_seq_reg ?_))))
    refine WL_load_box hC21 3 rfl rfl Tryz.isAgg107 rfl rfl ?_
    refine WL_field Tryz.underlying75 rfl rfl (fun w => ⟨_, Tryz.sizeOf3 w⟩) rfl rfl ?_
    refine WL_load_box hC21 0 rfl rfl Tryz.isAgg3 rfl rfl ?_
    obtain ⟨x12, hx2, hL1⟩ := bind_some hL1
    refine WL_index_own hC21 4 rfl Tryz.underlying107 ty4 hx2 rfl rfl rfl (fun b11 hE1 => ?_)
    have hC23 := hC21.triv (bool_val (true))
    refine WL_store_elem hC23 4 rfl ty4 hE1 hx2 rfl rfl rfl (fun w16 hC22 => ?_)
    try dsimp only [List.set] at hC22
    refine WL_nil (W_seq ?_)
    refine W_drawn 9 rfl hmix (fun w17 hB12 => ?_)
    have hC24 := hC22.grow hB12
    refine WA_tk 2 (by kernel_rfl) rfl rfl (fl_field Tryz.underlying75 rfl rfl (fun w => ⟨_, Tryz.sizeOf3 w⟩) rfl) ?_
    refine WL_field Tryz.underlying75 rfl rfl (fun w => ⟨_, Tryz.sizeOf3 w⟩) rfl rfl ?_
    refine WL_nil ?_
    obtain ⟨x13, hx3, hL1⟩ := bind_some hL1
    refine WA.sub (l' := [(4, (ptr b2 0)), (8, v4), (9, (ptr b6 0)), (10, (ptr b8 0)), (11, (.func (.func 122) #[] #[(ptr b2 0), (ptr b1 0), (ptr b8 0), (ptr b3 0), (ptr b6 0)])), (12, (ptr b10 0)), (13, (.bool x8)), (25, (.bool x8)), (31, (.slice (some ⟨b5, 0, none⟩) (Int.toNat (List.length a2 : Int)) (Int.toNat (List.length a2 : Int)))), (32, (ptr b10 0)), (33, (.int .i64 x6)), (34, (ptr b11 (Int.toNat x6 * Rep.sz Bool))), (37, (ptr b10 0))]) ?_ ⟨rfl, rfl, rfl, rfl, rfl, rfl, rfl, rfl, rfl, rfl, rfl, rfl, rfl, trivial⟩
    refine WA_postsE [⟨0, [], fun vs => PW.val v3, []⟩, ⟨1, [], fun vs => PW.val u2, []⟩, ⟨3, [], fun vs => PW.val (.int .i64 x6), []⟩, ⟨4, [], fun vs => PW.at [] w0 x13, []⟩, ⟨5, [], fun vs => PW.at [] w0 x13.2, []⟩, ⟨6, [], fun vs => PW.ro [] w0 x13.2, []⟩] [[], [], [], [1, 3], [4], [5]] 2 rfl (by kernel_rfl) (by kernel_rfl) rfl ?_ ?_
    ·refine StepsE_cons rfl ?_ ?_
     ·intro w18 hB13
      refine DepsE_nil ?_
      refine ⟨_, rfl, ?_⟩
      refine WL_load_box (hC24.grow hB13) 1 rfl rfl Tryz.isAgg22 rfl rfl ?_
      refine WL_nil ?_
      exact FinE_val (Below.refl _ _) rfl rfl ⟨rfl, rfl⟩
     refine StepsE_cons rfl ?_ ?_
     ·intro w18 hB13
      refine DepsE_nil ?_
      refine ⟨_, rfl, ?_⟩
      refine WL_load_box (hC24.grow hB13) 7 rfl rfl Tryz.isAgg35 rfl rfl ?_
      refine WL_nil ?_
      exact FinE_val (Below.refl _ _) rfl rfl ⟨rfl, rfl⟩
     refine StepsE_cons rfl ?_ ?_
     ·intro w18 hB13
      refine DepsE_nil ?_
      refine ⟨_, rfl, ?_⟩
      refine WL_load_box (hC24.grow hB13) 0 rfl rfl Tryz.isAgg3 rfl rfl ?_
      refine WL_nil ?_
      exact FinE_val (Below.refl _ _) rfl rfl ⟨rfl, rfl⟩
     refine StepsE_cons rfl ?_ ?_
     ·intro w18 hB13
      refine DepsE_cons rfl rfl rfl ?_
      rintro _ _ ⟨rfl, rfl⟩ _
      refine DepsE_cons rfl rfl rfl ?_
      rintro _ _ ⟨rfl, rfl⟩ _
      refine DepsE_nil ?_
      refine ⟨_, rfl, ?_⟩
      refine WL_index Tryz.underlying35 ty84 g2 hx3 rfl rfl rfl (fun b12 o1 h1 => ?_)
      refine WL_nil ?_
      exact FinE_val (Below.refl _ _) rfl rfl ⟨rfl, _, _, rfl, h1⟩
     refine StepsE_cons rfl ?_ ?_
     ·intro w18 hB13
      refine DepsE_cons rfl rfl rfl ?_
      rintro _ _ ⟨rfl, b12, o1, rfl, h1⟩ _
      refine DepsE_nil ?_
      refine ⟨_, rfl, ?_⟩
      refine WL_field Tryz.underlying84 rfl rfl (fun w => ⟨_, Tryz.sizeOf22 w⟩) rfl rfl ?_
      refine WL_nil ?_
      exact FinE_val (Below.refl _ _) rfl rfl ⟨rfl, _, _, rfl, h1.snd⟩
     refine StepsE_cons rfl ?_ ?_
     ·intro w18 hB13
      refine DepsE_cons rfl rfl rfl ?_
      rintro _ _ ⟨rfl, b13, o2, rfl, h2⟩ _
      refine DepsE_nil ?_
      refine ⟨_, rfl, ?_⟩
      refine WL_load ty22 h2 (hC24.keep.then hB13) rfl rfl (fun v7 h3 => ?_)
      refine WL_nil ?_
      exact FinE_val (Below.refl _ _) rfl rfl ⟨rfl, h3⟩
     exact StepsE_nil
    intro w19 hB14
    refine AllE_cons rfl rfl rfl ?_
    rintro _ _ ⟨rfl, rfl⟩
    refine AllE_cons rfl rfl rfl ?_
    rintro _ _ ⟨rfl, rfl⟩
    refine AllE_cons rfl rfl rfl ?_
    rintro _ _ ⟨rfl, rfl⟩
    refine AllE_cons rfl rfl rfl ?_
    rintro _ _ ⟨rfl, b12, o1, rfl, h1⟩
    refine AllE_cons rfl rfl rfl ?_
    rintro _ _ ⟨rfl, b13, o2, rfl, h2⟩
    refine AllE_cons rfl rfl rfl ?_
    rintro v7 _ ⟨rfl, h3⟩
    refine AllE_nil ?_
    intro hn2 hb2
    have hC25 := hC24.grow hB14
    obtain ⟨x14, hx4, hL1⟩ := bind_some hL1
    refine WA_one 7 (by kernel_rfl) rfl ?_
    refine WL_append_flat (α := Int) hC25 2 rfl h3 hC25.keep Tryz.underlying22 ty3 rfl hx4 rfl rfl rfl (fun v8 w20 hC26 => ?_)
    try dsimp only [List.set] at hC26
    refine WL_nil ?_
    refine WA_one 8 (by kernel_rfl) rfl ?_
    refine WL_store_boxK (cs' := [v8]) hC26 1 rfl rfl (ro_one (hC26.ro 2 rfl)) rfl Tryz.sizeOf22 rfl rfl (fun w21 hC27 hKp5 => ?_)
    try dsimp only [List.set] at hC27
    refine WL_nil ?_
    refine WA_done (by kernel_rfl) ?_
    refine nrm_normal (W_reg ?_)
    refine WL_move rfl rfl ?_
    refine WL_load_box_agg [(.int .i64 x6), (.int .i64 x7)] hC27 0 rfl rfl rfl Tryz.isAgg75 Tryz.sizeOf75 rfl rfl ?_
    refine WL_buildSlice (vs := [(.agg #[(.int .i64 x6), (.int .i64 x7)])]) hC27 Tryz.underlying39 ty75 rfl rfl rfl rfl (by intro v hv; simp only [List.mem_cons, List.not_mem_nil, or_false] at hv; rcases hv with rfl <;> rfl) rfl rfl (fun b14 w22 hC28 hB15 => ?_)
    have hC29 := hC28.row0 (α := (Int × Int))
    have hC30 := own_st75 x6 x7 hC29
    have hC31 := hC30.row1
    have hC32 := hC31.front 1 rfl
    dsimp only [List.eraseIdx, List.cons_append, List.nil_append, List.append_nil] at hC32
    have hC33 : Ctx [] w0 w22 (Item.own (.slice (some ⟨b14, 0, none⟩) 1 1) ([(x6, x7)] : List (Int × Int)) :: [Item.box b10 [(.int .i64 x6), (.int .i64 x7)], Item.box b8 [v8], Item.own v8 (x14 : (List Int)), Item.box b6 [(.slice (some ⟨b5, 0, none⟩) (Int.toNat (List.length a2 : Int)) (Int.toNat (List.length a2 : Int)))], Item.own (.slice (some ⟨b5, 0, none⟩) (Int.toNat (List.length a2 : Int)) (Int.toNat (List.length a2 : Int))) ((List.set x3 (Int.toNat x6) true) : (List Bool)), Item.own v4 (x5 : (List (Int × Int))), Item.box b3 [(.func (.func 95) #[] #[(ptr pb1 0)])], Item.box b2 [u2], Item.box b1 [u1]]) := hC32.rowOwn (by simp [maxLen])
    obtain ⟨x15, hx5, hL1⟩ := bind_some hL1
    refine WL_append_flat (α := (Int × Int)) hC33 6 rfl (hC33.ro 0 rfl) (Keep.refl _ _) Tryz.underlying39 ty75 rfl hx5 rfl rfl rfl (fun v9 w23 hC34 => ?_)
    try dsimp only [List.set] at hC34
    refine WL_assign rfl rfl ?_
    refine WL_nil (blk_normal (nrm_normal (W_seq (W_seq_reg ?_))))
    refine WL_load_box_agg [(.int .i64 x6), (.int .i64 x7)] hC34 1 rfl rfl rfl Tryz.isAgg75 Tryz.sizeOf75 rfl rfl ?_
    refine WL_nil (W_reg ?_)
    refine WL_allocK hC34 zero75 rfl rfl (fun b15 w24 hC35 hB16 hN7 => ?_)
    refine WL_store_box_aggK (cs' := [(.int .i64 x6), (.int .i64 x7)]) (new := [(.int .i64 x6), (.int .i64 x7)]) hC35 0 rfl rfl (by intro v hv; simp only [List.mem_cons, List.not_mem_nil, or_false] at hv; rcases hv with rfl | rfl; exact rfl; exact rfl) rfl Tryz.sizeOf75 rfl rfl (fun w25 hC36 hKp6 => ?_)
    try dsimp only [List.set] at hC36
    have hk25 := Keep.over (Keep.of hB16) hN7 hKp6
    refine WL_nil (nrm_normal (W_reg ?_))
    refine WL_move rfl rfl ?_
    obtain ⟨x16, hr3, hL1⟩ := bind_some hL1
    refine WL_callv (cap := [(ptr b2 0), (ptr b1 0), (ptr b8 0), (ptr b3 0), (ptr b6 0)]) Tryz.call122 rfl rfl rfl (c_M_greedyWhere_c1_M_privateOrder_c1 b2 a2 (hC36.boxAt 9 rfl (repw_slice (g2.now hC36.keep))) b1 a1 (hC36.boxAt 10 rfl (repw_slice (g1.now hC36.keep))) b8 x14 (hC36.boxAt 3 rfl (repw_slice (hC36.ro 4 rfl))) pb1 ax1 (g3.now hC36.keep) b3 (hC36.boxAt 8 rfl repw_raw) b6 (List.set x3 (Int.toNat x6) true) (hC36.boxAt 5 rfl (repw_slice (hC36.ro 6 rfl))) x16 hr3) ?_
    rintro _ w26 ⟨hB17, v10, v11, F3, F4, rfl, hv3, hv4, hn3, hb3⟩
    obtain ⟨rfl, rfl⟩ := val_bool hv4
    have hC37 := hC36.pushL hB17 (Bs := [Item.own v10 x16.1]) (Fs := [F3]) ⟨F3, _, rfl, hv3, rfl⟩ (by simpa using hn3) (fun b h => hb3 b (by simpa using h))
    obtain ⟨rfl, hC38⟩ := st75_own hC37
    refine WL_move rfl rfl ?_
    refine WL_extract rfl rfl rfl ?_
    refine WL_extract rfl rfl rfl ?_
    refine WL_store_box_aggK (cs' := [(.int .i64 x16.1.1), (.int .i64 x16.1.2)]) (new := [(.int .i64 x16.1.1), (.int .i64 x16.1.2)]) hC38 0 rfl rfl (by intro v hv; simp only [List.mem_cons, List.not_mem_nil, or_false] at hv; rcases hv with rfl | rfl; exact rfl; exact rfl) rfl Tryz.sizeOf75 rfl rfl (fun w27 hC39 hKp7 => ?_)
    try dsimp only [List.set] at hC39
    have hk26 := Keep.over (hk25.then hB17) hN7 hKp7
    refine WL_assign rfl rfl ?_
    refine WL_nil ?_
    have hC40 := hC39.f10
    have hC41 := hC40.f10
    have hC42 := hC41.f10
    have hC43 := hC42.f10
    have hC44 := hC43.f10
    have hC45 := hC44.f10
    have hC46 := hC45.f10
    have hC47 := hC46.f10
    have hC48 := hC47.f8
    have hC49 := hC48.h9
    refine nrm_sub (l' := [(4, (ptr b2 0)), (8, v9), (9, (ptr b6 0)), (10, (ptr b8 0)), (11, (.func (.func 122) #[] #[(ptr b2 0), (ptr b1 0), (ptr b8 0), (ptr b3 0), (ptr b6 0)])), (12, (ptr b15 0)), (13, (.bool x16.2))]) ⟨rfl, rfl, rfl, rfl, rfl, rfl, rfl, trivial⟩ ?_
    exact ⟨k1, Nat.lt_succ_self _, (List.set x3 (Int.toNat x6) true), v8, x14, v9, x15, b15, x16.1.1, x16.1.2, x16.2, rfl, hC49, hL1⟩
   replace hL1 := ite_f hL1 hc1
   refine W_exit (nrm_exit (nrm_exit (blk_exit ?_)))
   have hq1 := Option.some.inj hL1
   subst hq1
   have hC50 := hC21.f5
   have hC51 := hC50.f5
   have hC52 := hC51.f5
   have hC53 := hC52.h3
   refine nrm_sub (l' := [(8, v4), (9, (ptr b6 0))]) ⟨rfl, rfl, trivial⟩ ?_
   exact ⟨x3, v3, x4, v4, x5, rfl, rfl, hC53⟩
 rintro l2 _ w28 hs2 ⟨x9, v5, x10, v6, x11, rfl, rfl, hC54⟩
 try dsimp only at hF
 refine nrm_sub' hs2 ?_
 clear hs2
 refine W_seq ?_
 refine W_drawn 4 rfl hmix (fun w29 hB19 => ?_)
 have hC55 := hC54.grow hB19
 refine WA_tk 0 (by kernel_rfl) rfl rfl (fl_move rfl) ?_
 refine WL_move rfl rfl ?_
 refine WL_nil ?_
 refine WA_tk 2 (by kernel_rfl) rfl rfl (fl_assign rfl) ?_
 refine WL_assign rfl rfl ?_
 refine WL_nil ?_
 refine WA_one 1 (by kernel_rfl) rfl ?_
 refine WL_load_box hC55 0 rfl rfl Tryz.isAgg107 rfl rfl ?_
 refine WL_nil ?_
 refine WA_tk 3 (by kernel_rfl) rfl rfl (fl_assign rfl) ?_
 refine WL_assign rfl rfl ?_
 refine WL_nil ?_
 refine WA_done (by kernel_rfl) ?_
 refine nrm_normal (W_ret ?_)
 have hq2 := Option.some.inj hF
 subst hq2
 refine fn_ret2 rfl rfl rfl ?_
 have hC56 := hC55.f1
 have hC57 := hC56.f2
 exact ⟨_, rfl, res2_of hC57⟩

theorem c_M_privateOrder {w0 : World} (a1 : (List (Int × (List Int) × Int × Int × Int))) (u1 : Value) (g1 : RO [] w0 u1 a1) (a2 : ((List Int) × (List (Int × (List Int))))) (u2 : Value) (g2 : RO [] w0 u2 a2.1) (u3 : Value) (g3 : RO [] w0 u3 a2.2) (a3 : (List Int)) (u4 : Value) (g4 : RO [] w0 u4 a3) (rr : ((List (Int × Int)) × Bool)) (hF : M.privateOrder a1 a2 a3 = some rr) :
 Calls Tryz.prog 59 [u1, (.agg #[u2, u3]), u4].toArray w0 fun e w' => ∃ v, e = .returned v ∧ Res2 w0 rr.1 rr.2 v w' := by
 refine calls_of_W Tryz.func59 rfl rfl ?_
 have hC0 := Ctx.start w0
 unfold M.privateOrder at hF
 refine W_seq_reg ?_
 refine WL_boxK (cs := [u2, u3]) hC0 rfl rfl rfl (fun b1 w1 hC1 hB1 hN1 => ?_)
 refine WL_boxK (cs := [u4]) hC1 (ro_cells g4) rfl rfl (fun b2 w2 hC2 hB2 hN2 => ?_)
 refine WL_assign rfl rfl ?_
 refine WL_assign rfl rfl ?_
 refine WL_nil (W_seq_reg ?_)
 refine WL_move rfl rfl ?_
 refine WL_field Tryz.underlying37 rfl rfl (fun w => ⟨_, Tryz.sizeOf35 w⟩) rfl rfl ?_
 refine WL_load_box hC2 1 rfl rfl Tryz.isAgg35 rfl rfl ?_
 refine WL_makeFunc rfl rfl ?_
 obtain ⟨x1, hr1, hF⟩ := bind_some hF
 refine WL_call Tryz.call94 rfl rfl (c_M_greedyWhere_M_privateOrder_c1 a1 u1 (g1.now hC2.keep) a2.2 u3 (g3.now hC2.keep) b2 a3 (hC2.boxAt 0 rfl (repw_slice (g4.now hC2.keep))) x1 hr1) ?_
 rintro _ w3 ⟨hB3, v1, v2, F1, F2, rfl, hv1, hv2, hn1, hb1⟩
 have hC3 := hC2.pushL hB3 (Bs := [Item.own v1 x1.1, Item.own v2 x1.2]) (Fs := [F1, F2]) ⟨F1, _, rfl, hv1, F2, _, rfl, hv2, rfl⟩ (by simpa using hn1) (fun b h => hb1 b (by simpa using h))
 refine WL_move rfl rfl ?_
 refine WL_extract rfl rfl rfl ?_
 refine WL_extract rfl rfl rfl ?_
 refine WL_assign rfl rfl ?_
 refine WL_assign rfl rfl ?_
 refine WL_nil (W_seq ?_)
 refine W_drawn 9 rfl hmix (fun w4 hB4 => ?_)
 have hC4 := hC3.grow hB4
 refine WA_tk 0 (by kernel_rfl) rfl rfl (fl_move rfl) ?_
 refine WL_move rfl rfl ?_
 refine WL_nil ?_
 refine WA_tk 1 (by kernel_rfl) rfl rfl (fl_move rfl) ?_
 refine WL_move rfl rfl ?_
 refine WL_nil ?_
 refine WA_tk 2 (by kernel_rfl) rfl rfl (fl_len Tryz.underlying39 (hC4.ro 0 rfl) rfl) ?_
 refine WL_len Tryz.underlying39 (hC4.ro 0 rfl) rfl rfl ?_
 refine WL_nil ?_
 refine WA_tk 3 (by kernel_rfl) rfl rfl (fl_field Tryz.underlying37 rfl rfl (fun w => ⟨_, Tryz.sizeOf35 w⟩) rfl) ?_
 refine WL_field Tryz.underlying37 rfl rfl (fun w => ⟨_, Tryz.sizeOf35 w⟩) rfl rfl ?_
 refine WL_nil ?_
 refine WA_tk 7 (by kernel_rfl) rfl rfl (fl_assign rfl) ?_
 refine WL_assign rfl rfl ?_
 refine WL_nil ?_
 refine WA_one 4 (by kernel_rfl) rfl ?_
 refine WL_load_box hC4 3 rfl rfl Tryz.isAgg35 rfl rfl ?_
 refine WL_nil ?_
 refine WA_tk 5 (by kernel_rfl) rfl rfl (fl_len Tryz.underlying35 g3 rfl) ?_
 refine WL_len Tryz.underlying35 g3 rfl rfl ?_
 refine WL_nil ?_
 refine WA_tk 6 (by kernel_rfl) rfl rfl (fl_eql rfl rfl) ?_
 refine WL_eql rfl rfl rfl ?_
 refine WL_nil ?_
 refine WA_tk 8 (by kernel_rfl) rfl rfl (fl_assign rfl) ?_
 refine WL_assign rfl rfl ?_
 refine WL_nil ?_
 refine WA_done (by kernel_rfl) ?_
 refine nrm_normal (W_ret ?_)
 have hq1 := Option.some.inj hF
 subst hq1
 refine fn_ret2 rfl rfl rfl ?_
 have hC5 := hC4.triv (bool_val ((decide ((List.length x1.1 : Int) = (List.length a2.2 : Int)))))
 have hC6 := hC5.f1
 exact ⟨_, rfl, res2_of hC6⟩

theorem c_Slices_Clone_Lint_int {w0 : World} (a1 : (List Int)) (u1 : Value) (g1 : RO [] w0 u1 a1) (rr : (List Int)) (hF : Slices.Clone_Lint_int a1 = some rr) :
 Calls Tryz.prog 69 [u1].toArray w0 fun e w' => ∃ v, e = .returned v ∧ Res w0 rr v w' := by
 refine calls_of_W Tryz.func69 rfl rfl ?_
 have hC0 := Ctx.start w0
 unfold Slices.Clone_Lint_int at hF
 refine W_seq_reg ?_
 refine WL_assign rfl rfl ?_
 refine WL_nil (W_seq (W_seq_reg ?_))
 refine WL_move rfl rfl ?_
 refine WL_isnil Tryz.underlying22 g1 rfl rfl (fun bn1 hb1 => ?_)
 refine WL_nil ?_
 rcases btf bn1 with hc1 | hc1
 ·have ha := hb1 hc1
  subst hc1
  subst ha
  replace hF : (some ([]) : Option (List Int)) = some rr := by simpa [app] using hF
  refine W_cond_t rfl ?_
  refine W_seq_reg ?_
  refine WL_assign rfl rfl ?_
  refine WL_nil (W_ret (nrm_ret ?_))
  have hq1 := Option.some.inj hF
  subst hq1
  refine fn_ret1 rfl rfl ?_
  exact ⟨_, rfl, nil_res hC0⟩
 subst hc1
 refine W_cond_f rfl ?_
 refine W_skip (nrm_normal (W_seq_reg ?_))
 refine WL_buildSlice (vs := []) hC0 Tryz.underlying22 ty3 rfl rfl rfl rfl (by simp) rfl rfl (fun b1 w1 hC1 hB1 => ?_)
 have hC2 := hC1.row0 (α := Int)
 have hC3 := hC2.front 1 rfl
 dsimp only [List.eraseIdx, List.cons_append, List.nil_append, List.append_nil] at hC3
 have hC4 : Ctx [] w0 w1 (Item.own (.slice (some ⟨b1, 0, none⟩) 0 0) (([] : List Int) : List Int) :: []) := hC3.rowOwn (by simp [maxLen])
 refine WL_move rfl rfl ?_
 obtain ⟨x1, hx1, hF⟩ := bind_some hF
 refine WL_append_flat (α := Int) hC4 0 rfl g1 hC4.keep Tryz.underlying22 ty3 rfl hx1 rfl rfl rfl (fun v1 w2 hC5 => ?_)
 try dsimp only [List.set] at hC5
 refine WL_assign rfl rfl ?_
 refine WL_nil (W_ret ?_)
 have hq2 := Option.some.inj hF
 subst hq2
 refine fn_ret1 rfl rfl ?_
 exact ⟨_, rfl, own_res hC5 0 rfl⟩

theorem c_M_LeastDisclosure_c2_c1_c1 {w0 : World} (a1 : Int) (pb1 : Nat) (ax1 : (List Int)) (g1 : ROAt [] w0 pb1 0 ax1) (pb2 : Nat) (ax2 : Int) (g2 : ROAt [] w0 pb2 0 ax2) (rr : Bool) (hF : M.LeastDisclosure_c2_c1_c1 a1 ax1 ax2 = some rr) :
 Calls Tryz.prog 72 [(.int .i64 a1), (ptr pb1 0), (ptr pb2 0)].toArray w0 fun e w' => ∃ v, e = .returned v ∧ Res w0 rr v w' := by
 refine calls_of_W Tryz.func72 rfl rfl ?_
 have hC0 := Ctx.start w0
 unfold M.LeastDisclosure_c2_c1_c1 at hF
 refine W_seq_reg ?_
 refine WL_assign rfl rfl ?_
 refine WL_nil (W_seq ?_)
 refine W_drawn 7 rfl hmix (fun w1 hB1 => ?_)
 have hC1 := hC0.grow hB1
 refine WA_tk 1 (by kernel_rfl) rfl rfl (fl_move rfl) ?_
 refine WL_move rfl rfl ?_
 refine WL_nil ?_
 obtain ⟨x1, hx1, hF⟩ := bind_some hF
 refine WA.sub (l' := [(0, (.int .i64 a1)), (1, (ptr pb1 0)), (2, (ptr pb2 0)), (4, (.bool false)), (6, (.int .i64 a1))]) ?_ ⟨rfl, rfl, rfl, rfl, rfl, trivial⟩
 refine WA_postsE [⟨0, [], fun vs => PW.ro [] w0 ax1, []⟩, ⟨2, [], fun vs => PW.at [] w0 x1, []⟩, ⟨3, [], fun vs => PW.val (.int .i64 x1), []⟩, ⟨4, [], fun vs => PW.val (.int .i64 ax2), []⟩] [[], [0], [2], []] 2 rfl (by kernel_rfl) (by kernel_rfl) rfl ?_ ?_
 ·refine StepsE_cons rfl ?_ ?_
  ·intro w2 hB2
   refine DepsE_nil ?_
   refine ⟨_, rfl, ?_⟩
   refine WL_load ty22 g1 (hC1.keep.then hB2) rfl rfl (fun v1 h1 => ?_)
   refine WL_nil ?_
   exact FinE_val (Below.refl _ _) rfl rfl ⟨rfl, h1⟩
  refine StepsE_cons rfl ?_ ?_
  ·intro w2 hB2
   refine DepsE_cons rfl rfl rfl ?_
   rintro v1 _ ⟨rfl, h1⟩ _
   refine DepsE_nil ?_
   refine ⟨_, rfl, ?_⟩
   refine WL_index Tryz.underlying22 ty3 h1 hx1 rfl rfl rfl (fun b1 o1 h2 => ?_)
   refine WL_nil ?_
   exact FinE_val (Below.refl _ _) rfl rfl ⟨rfl, _, _, rfl, h2⟩
  refine StepsE_cons rfl ?_ ?_
  ·intro w2 hB2
   refine DepsE_cons rfl rfl rfl ?_
   rintro _ _ ⟨rfl, b1, o1, rfl, h2⟩ _
   refine DepsE_nil ?_
   refine ⟨_, rfl, ?_⟩
   refine WL_load ty3 h2 (hC1.keep.then hB2) rfl rfl (fun v2 h3 => ?_)
   obtain rfl := ro_int h3
   refine WL_nil ?_
   exact FinE_val (Below.refl _ _) rfl rfl ⟨rfl, rfl⟩
  refine StepsE_cons rfl ?_ ?_
  ·intro w2 hB2
   refine DepsE_nil ?_
   refine ⟨_, rfl, ?_⟩
   refine WL_load ty3 g2 (hC1.keep.then hB2) rfl rfl (fun v3 h4 => ?_)
   obtain rfl := ro_int h4
   refine WL_nil ?_
   exact FinE_val (Below.refl _ _) rfl rfl ⟨rfl, rfl⟩
  exact StepsE_nil
 intro w3 hB3
 refine AllE_cons rfl rfl rfl ?_
 rintro v1 _ ⟨rfl, h1⟩
 refine AllE_cons rfl rfl rfl ?_
 rintro _ _ ⟨rfl, b1, o1, rfl, h2⟩
 refine AllE_cons rfl rfl rfl ?_
 rintro _ _ ⟨rfl, rfl⟩
 refine AllE_cons rfl rfl rfl ?_
 rintro _ _ ⟨rfl, rfl⟩
 refine AllE_nil ?_
 intro hn1 hb1
 have hC2 := hC1.grow hB3
 refine WA_tk 5 (by kernel_rfl) rfl rfl (fl_eql rfl rfl) ?_
 refine WL_eql rfl rfl rfl ?_
 refine WL_nil ?_
 refine WA_tk 6 (by kernel_rfl) rfl rfl (fl_assign rfl) ?_
 refine WL_assign rfl rfl ?_
 refine WL_nil ?_
 refine WA_done (by kernel_rfl) ?_
 refine nrm_normal (W_ret ?_)
 have hq1 := Option.some.inj hF
 subst hq1
 refine fn_ret1 rfl rfl ?_
 exact ⟨_, rfl, bool_res hC2 _⟩

theorem c_Slices_IndexFunc_Lint_int_M_LeastDisclosure_c2_c1_c1 {w0 : World} (a1 : (List Int)) (u1 : Value) (g1 : RO [] w0 u1 a1) (pb1 : Nat) (ax1 : (List Int)) (g2 : ROAt [] w0 pb1 0 ax1) (pb2 : Nat) (ax2 : Int) (g3 : ROAt [] w0 pb2 0 ax2) (rr : Int) (hF : Slices.IndexFunc_Lint_int_M_LeastDisclosure_c2_c1_c1 a1 ax1 ax2 = some rr) :
 Calls Tryz.prog 99 [u1, (.func (.func 72) #[] #[(ptr pb1 0), (ptr pb2 0)])].toArray w0 fun e w' => ∃ v, e = .returned v ∧ Res w0 rr v w' := by
 refine calls_of_W Tryz.func99 rfl rfl ?_
 have hC0 := Ctx.start w0
 unfold Slices.IndexFunc_Lint_int_M_LeastDisclosure_c2_c1_c1 at hF
 refine W_seq_reg ?_
 refine WL_assign rfl rfl ?_
 refine WL_nil (W_seq (W_seq_reg ?_))
 refine WL_move rfl rfl ?_
 refine WL_len Tryz.underlying22 g1 rfl rfl ?_
 refine WL_move rfl rfl ?_
 refine WL_nil ?_
 obtain ⟨r1, hr1, hF⟩ := bind_some hF
 refine W_norm (fun l w => .inl () = r1 ∧ l = [] ∧ Below w0.heap.size w0 w ∧ Ctx [] w0 w []) ?_ ?_
 ·refine W_block ?_
  refine W.sub (l' := [(0, u1), (1, (.func (.func 72) #[] #[(ptr pb1 0), (ptr pb2 0)])), (7, (.int .i64 (List.length a1 : Int))), (8, (.int .i64 0))]) ?_ ⟨rfl, rfl, rfl, rfl, trivial⟩
  refine W_loop (fun k l w => ∃ x1 : Int, l = [(0, u1), (1, (.func (.func 72) #[] #[(ptr pb1 0), (ptr pb2 0)])), (7, (.int .i64 (List.length a1 : Int))), (8, (.int .i64 x1))] ∧ Below w0.heap.size w0 w ∧ Ctx [] w0 w [] ∧ Slices.IndexFunc_Lint_int_M_LeastDisclosure_c2_c1_c1_l1 a1 ax1 ax2 k x1 = some r1) FUEL ⟨0, rfl, (Below.refl _ _), hC0, hr1⟩ ?_
  clear hr1
  rintro k1 _ w1 ⟨x1, rfl, hB1, hC1, hL1⟩
  cases k1 with
  | zero => rw [Slices.IndexFunc_Lint_int_M_LeastDisclosure_c2_c1_c1_l1] at hL1; cases hL1
  | succ k1 =>
   rw [Slices.IndexFunc_Lint_int_M_LeastDisclosure_c2_c1_c1_l1] at hL1
   refine W_seq_reg ?_
   refine WL_lss rfl rfl rfl ?_
   refine WL_nil (W_seq ?_)
   refine W_cond rfl (fun hc1 => ?_) (fun hc1 => ?_)
   ·replace hL1 := ite_t hL1 hc1
    refine W_skip (nrm_normal (W_seq (W_block (W_seq_reg ?_))))
    refine WL_move rfl rfl ?_
    refine WL_assign rfl rfl ?_
    refine WL_nil (W_seq_reg ?_)
    refine WL_move rfl rfl ?_
    refine WL_move rfl rfl ?_
    refine WL_move rfl rfl ?_
    obtain ⟨x2, hx1, hL1⟩ := bind_some hL1
    refine WL_index Tryz.underlying22 ty3 g1 hx1 rfl rfl rfl (fun b1 o1 h1 => ?_)
    refine WL_load ty3 h1 hC1.keep rfl rfl (fun v1 h2 => ?_)
    obtain rfl := ro_int h2
    obtain ⟨x3, hr2, hL1⟩ := bind_some hL1
    refine WL_callv (cap := [(ptr pb1 0), (ptr pb2 0)]) Tryz.call72 rfl rfl rfl (c_M_LeastDisclosure_c2_c1_c1 x2 pb1 ax1 (g2.now hC1.keep) pb2 ax2 (g3.now hC1.keep) x3 hr2) ?_
    intro _ w2 hv1
    obtain ⟨rfl, hB2⟩ := res_bool hv1
    have hC2 := hC1.grow hB2
    refine WL_nil ?_
    refine W_cond rfl (fun hc2 => ?_) (fun hc2 => ?_)
    ·replace hL1 := ite_t hL1 hc2
     refine W_seq_reg ?_
     refine WL_move rfl rfl ?_
     refine WL_assign rfl rfl ?_
     refine WL_nil (W_ret (blk_ret (nrm_ret (nrm_ret (blk_ret (nrm_ret (nrm_ret ?_)))))))
     have hq1 := Option.some.inj hL1
     subst hq1
     dsimp only at hF
     have hq2 := Option.some.inj hF
     subst hq2
     refine fn_ret1 rfl rfl ?_
     exact ⟨_, rfl, int_res hC2 _⟩
    replace hL1 := ite_f hL1 hc2
    refine W_skip (blk_normal (nrm_normal (W_reg ?_)))
    refine WL_add rfl rfl rfl ?_
    refine WL_move rfl rfl ?_
    refine WL_nil ?_
    refine nrm_sub (l' := [(0, u1), (1, (.func (.func 72) #[] #[(ptr pb1 0), (ptr pb2 0)])), (7, (.int .i64 (List.length a1 : Int))), (8, (.int .i64 (w64 (x1 + 1))))]) ⟨rfl, rfl, rfl, rfl, trivial⟩ ?_
    exact ⟨k1, Nat.lt_succ_self _, w64 (x1 + 1), rfl, ((Keep.of hB1).then hB2).below, hC2, hL1⟩
   replace hL1 := ite_f hL1 hc1
   refine W_exit (nrm_exit (nrm_exit (blk_exit ?_)))
   have hq3 := Option.some.inj hL1
   subst hq3
   refine nrm_sub (l' := []) trivial ?_
   exact ⟨rfl, rfl, (Keep.of hB1).below, hC1⟩
 rintro l2 _ w3 hs2 ⟨rfl, rfl, hB3, hC3⟩
 try dsimp only at hF
 refine nrm_sub' hs2 ?_
 clear hs2
 refine W_seq_reg ?_
 refine WL_assign rfl rfl ?_
 refine WL_nil (W_ret ?_)
 have hq4 := Option.some.inj hF
 subst hq4
 refine fn_ret1 rfl rfl ?_
 exact ⟨_, rfl, int_res hC3 _⟩

theorem c_Slices_ContainsFunc_Lint_int_M_LeastDisclosure_c2_c1_c1 {w0 : World} (a1 : (List Int)) (u1 : Value) (g1 : RO [] w0 u1 a1) (pb1 : Nat) (ax1 : (List Int)) (g2 : ROAt [] w0 pb1 0 ax1) (pb2 : Nat) (ax2 : Int) (g3 : ROAt [] w0 pb2 0 ax2) (rr : Bool) (hF : Slices.ContainsFunc_Lint_int_M_LeastDisclosure_c2_c1_c1 a1 ax1 ax2 = some rr) :
 Calls Tryz.prog 71 [u1, (.func (.func 72) #[] #[(ptr pb1 0), (ptr pb2 0)])].toArray w0 fun e w' => ∃ v, e = .returned v ∧ Res w0 rr v w' := by
 refine calls_of_W Tryz.func71 rfl rfl ?_
 have hC0 := Ctx.start w0
 unfold Slices.ContainsFunc_Lint_int_M_LeastDisclosure_c2_c1_c1 at hF
 refine W_seq_reg ?_
 refine WL_assign rfl rfl ?_
 refine WL_nil (W_seq_reg ?_)
 refine WL_move rfl rfl ?_
 refine WL_move rfl rfl ?_
 obtain ⟨x1, hr1, hF⟩ := bind_some hF
 refine WL_call Tryz.call99 rfl rfl (c_Slices_IndexFunc_Lint_int_M_LeastDisclosure_c2_c1_c1 a1 u1 (g1.now hC0.keep) pb1 ax1 (g2.now hC0.keep) pb2 ax2 (g3.now hC0.keep) x1 hr1) ?_
 intro _ w1 hv1
 obtain ⟨rfl, hB1⟩ := res_int hv1
 have hC1 := hC0.grow hB1
 refine WL_geq rfl rfl rfl ?_
 refine WL_assign rfl rfl ?_
 refine WL_nil (W_ret ?_)
 have hq1 := Option.some.inj hF
 subst hq1
 refine fn_ret1 rfl rfl ?_
 exact ⟨_, rfl, bool_res hC1 _⟩

theorem c_M_LeastDisclosure_c2_c1 {w0 : World} (a1 : Int) (pb1 : Nat) (ax1 : (List Int)) (g1 : ROAt [] w0 pb1 0 ax1) (pb2 : Nat) (ax2 : (List Int)) (g2 : ROAt [] w0 pb2 0 ax2) (rr : Bool) (hF : M.LeastDisclosure_c2_c1 a1 ax1 ax2 = some rr) :
 Calls Tryz.prog 70 [(.int .i64 a1), (ptr pb1 0), (ptr pb2 0)].toArray w0 fun e w' => ∃ v, e = .returned v ∧ Res w0 rr v w' := by
 refine calls_of_W Tryz.func70 rfl rfl ?_
 have hC0 := Ctx.start w0
 unfold M.LeastDisclosure_c2_c1 at hF
 refine W_seq_reg ?_
 refine WL_boxK (cs := [(.int .i64 a1)]) hC0 rfl rfl rfl (fun b1 w1 hC1 hB1 hN1 => ?_)
 refine WL_assign rfl rfl ?_
 refine WL_nil (W_seq_reg ?_)
 refine WL_load ty22 g1 hC1.keep rfl rfl (fun v1 h1 => ?_)
 refine WL_makeFunc rfl rfl ?_
 obtain ⟨x1, hr1, hF⟩ := bind_some hF
 refine WL_call Tryz.call71 rfl rfl (c_Slices_ContainsFunc_Lint_int_M_LeastDisclosure_c2_c1_c1 ax1 v1 (h1.now hC1.keep) pb2 ax2 (g2.now hC1.keep) b1 a1 (hC1.boxAt 0 rfl repw_int) x1 hr1) ?_
 intro _ w2 hv1
 obtain ⟨rfl, hB2⟩ := res_bool hv1
 have hC2 := hC1.grow hB2
 refine WL_assign rfl rfl ?_
 refine WL_nil (W_ret ?_)
 have hq1 := Option.some.inj hF
 subst hq1
 refine fn_ret1 rfl rfl ?_
 exact ⟨_, rfl, bool_res hC2 _⟩

theorem c_Slices_IndexFunc_Lint_int_M_LeastDisclosure_c2_c1 {w0 : World} (a1 : (List Int)) (u1 : Value) (g1 : RO [] w0 u1 a1) (pb1 : Nat) (ax1 : (List Int)) (g2 : ROAt [] w0 pb1 0 ax1) (pb2 : Nat) (ax2 : (List Int)) (g3 : ROAt [] w0 pb2 0 ax2) (rr : Int) (hF : Slices.IndexFunc_Lint_int_M_LeastDisclosure_c2_c1 a1 ax1 ax2 = some rr) :
 Calls Tryz.prog 99 [u1, (.func (.func 70) #[] #[(ptr pb1 0), (ptr pb2 0)])].toArray w0 fun e w' => ∃ v, e = .returned v ∧ Res w0 rr v w' := by
 refine calls_of_W Tryz.func99 rfl rfl ?_
 have hC0 := Ctx.start w0
 unfold Slices.IndexFunc_Lint_int_M_LeastDisclosure_c2_c1 at hF
 refine W_seq_reg ?_
 refine WL_assign rfl rfl ?_
 refine WL_nil (W_seq (W_seq_reg ?_))
 refine WL_move rfl rfl ?_
 refine WL_len Tryz.underlying22 g1 rfl rfl ?_
 refine WL_move rfl rfl ?_
 refine WL_nil ?_
 obtain ⟨r1, hr1, hF⟩ := bind_some hF
 refine W_norm (fun l w => .inl () = r1 ∧ l = [] ∧ Below w0.heap.size w0 w ∧ Ctx [] w0 w []) ?_ ?_
 ·refine W_block ?_
  refine W.sub (l' := [(0, u1), (1, (.func (.func 70) #[] #[(ptr pb1 0), (ptr pb2 0)])), (7, (.int .i64 (List.length a1 : Int))), (8, (.int .i64 0))]) ?_ ⟨rfl, rfl, rfl, rfl, trivial⟩
  refine W_loop (fun k l w => ∃ x1 : Int, l = [(0, u1), (1, (.func (.func 70) #[] #[(ptr pb1 0), (ptr pb2 0)])), (7, (.int .i64 (List.length a1 : Int))), (8, (.int .i64 x1))] ∧ Below w0.heap.size w0 w ∧ Ctx [] w0 w [] ∧ Slices.IndexFunc_Lint_int_M_LeastDisclosure_c2_c1_l1 a1 ax1 ax2 k x1 = some r1) FUEL ⟨0, rfl, (Below.refl _ _), hC0, hr1⟩ ?_
  clear hr1
  rintro k1 _ w1 ⟨x1, rfl, hB1, hC1, hL1⟩
  cases k1 with
  | zero => rw [Slices.IndexFunc_Lint_int_M_LeastDisclosure_c2_c1_l1] at hL1; cases hL1
  | succ k1 =>
   rw [Slices.IndexFunc_Lint_int_M_LeastDisclosure_c2_c1_l1] at hL1
   refine W_seq_reg ?_
   refine WL_lss rfl rfl rfl ?_
   refine WL_nil (W_seq ?_)
   refine W_cond rfl (fun hc1 => ?_) (fun hc1 => ?_)
   ·replace hL1 := ite_t hL1 hc1
    refine W_skip (nrm_normal (W_seq (W_block (W_seq_reg ?_))))
    refine WL_move rfl rfl ?_
    refine WL_assign rfl rfl ?_
    refine WL_nil (W_seq_reg ?_)
    refine WL_move rfl rfl ?_
    refine WL_move rfl rfl ?_
    refine WL_move rfl rfl ?_
    obtain ⟨x2, hx1, hL1⟩ := bind_some hL1
    refine WL_index Tryz.underlying22 ty3 g1 hx1 rfl rfl rfl (fun b1 o1 h1 => ?_)
    refine WL_load ty3 h1 hC1.keep rfl rfl (fun v1 h2 => ?_)
    obtain rfl := ro_int h2
    obtain ⟨x3, hr2, hL1⟩ := bind_some hL1
    refine WL_callv (cap := [(ptr pb1 0), (ptr pb2 0)]) Tryz.call70 rfl rfl rfl (c_M_LeastDisclosure_c2_c1 x2 pb1 ax1 (g2.now hC1.keep) pb2 ax2 (g3.now hC1.keep) x3 hr2) ?_
    intro _ w2 hv1
    obtain ⟨rfl, hB2⟩ := res_bool hv1
    have hC2 := hC1.grow hB2
    refine WL_nil ?_
    refine W_cond rfl (fun hc2 => ?_) (fun hc2 => ?_)
    ·replace hL1 := ite_t hL1 hc2
     refine W_seq_reg ?_
     refine WL_move rfl rfl ?_
     refine WL_assign rfl rfl ?_
     refine WL_nil (W_ret (blk_ret (nrm_ret (nrm_ret (blk_ret (nrm_ret (nrm_ret ?_)))))))
     have hq1 := Option.some.inj hL1
     subst hq1
     dsimp only at hF
     have hq2 := Option.some.inj hF
     subst hq2
     refine fn_ret1 rfl rfl ?_
     exact ⟨_, rfl, int_res hC2 _⟩
    replace hL1 := ite_f hL1 hc2
    refine W_skip (blk_normal (nrm_normal (W_reg ?_)))
    refine WL_add rfl rfl rfl ?_
    refine WL_move rfl rfl ?_
    refine WL_nil ?_
    refine nrm_sub (l' := [(0, u1), (1, (.func (.func 70) #[] #[(ptr pb1 0), (ptr pb2 0)])), (7, (.int .i64 (List.length a1 : Int))), (8, (.int .i64 (w64 (x1 + 1))))]) ⟨rfl, rfl, rfl, rfl, trivial⟩ ?_
    exact ⟨k1, Nat.lt_succ_self _, w64 (x1 + 1), rfl, ((Keep.of hB1).then hB2).below, hC2, hL1⟩
   replace hL1 := ite_f hL1 hc1
   refine W_exit (nrm_exit (nrm_exit (blk_exit ?_)))
   have hq3 := Option.some.inj hL1
   subst hq3
   refine nrm_sub (l' := []) trivial ?_
   exact ⟨rfl, rfl, (Keep.of hB1).below, hC1⟩
 rintro l2 _ w3 hs2 ⟨rfl, rfl, hB3, hC3⟩
 try dsimp only at hF
 refine nrm_sub' hs2 ?_
 clear hs2
 refine W_seq_reg ?_
 refine WL_assign rfl rfl ?_
 refine WL_nil (W_ret ?_)
 have hq4 := Option.some.inj hF
 subst hq4
 refine fn_ret1 rfl rfl ?_
 exact ⟨_, rfl, int_res hC3 _⟩

theorem c_Slices_DeleteFunc_Lint_int_M_LeastDisclosure_c2_c1 {Fs : List (List Nat)} {w0 : World} (a1 : (List Int)) (u1 : Value) (pb1 : Nat) (ax1 : (List Int)) (g1 : ROAt Fs.flatten w0 pb1 0 ax1) (pb2 : Nat) (ax2 : (List Int)) (g2 : ROAt Fs.flatten w0 pb2 0 ax2) (hH : Hold [Item.own u1 (a1 : (List Int))] w0 Fs) (hn : Fs.flatten.Nodup) (rr : (List Int)) (hF : Slices.DeleteFunc_Lint_int_M_LeastDisclosure_c2_c1 a1 ax1 ax2 = some rr) :
 Calls Tryz.prog 64 [u1, (.func (.func 70) #[] #[(ptr pb1 0), (ptr pb2 0)])].toArray w0 fun e w' => ∃ v, e = .returned v ∧ ∃ q0 : Value, v = q0 ∧ Ctx Fs.flatten w0 w' [Item.own q0 (rr : (List Int))] := by
 refine calls_of_W Tryz.func64 rfl rfl ?_
 have hC0 := Ctx.startIn hH hn
 unfold Slices.DeleteFunc_Lint_int_M_LeastDisclosure_c2_c1 at hF
 obtain ⟨x, hx, hF⟩ := bind_some hF
 refine W_seq_reg ?_
 refine WL_assign rfl rfl ?_
 refine WL_nil (W_seq_reg ?_)
 refine WL_move rfl rfl ?_
 refine WL_move rfl rfl ?_
 refine WL_call Tryz.call99 rfl rfl (c_Slices_IndexFunc_Lint_int_M_LeastDisclosure_c2_c1 a1 u1 (hC0.ro 0 rfl) pb1 ax1 (g1.now (Keep.refl _ _)) pb2 ax2 (g2.now (Keep.refl _ _)) x hx) ?_
 intro _ w1 hv1
 obtain ⟨rfl, hB1⟩ := res_int hv1
 have hC1 := hC0.grow hB1
 refine WL_assign rfl rfl ?_
 refine WL_nil (W_seq (W_seq_reg ?_))
 refine WL_move rfl rfl ?_
 refine WL_eql rfl rfl rfl ?_
 by_cases hx1 : x = -1
 ·rw [if_pos hx1] at hF
  obtain rfl := Option.some.inj hF
  rw [decide_eq_true hx1]
  refine WL_nil ?_
  refine W_cond_t rfl ?_
  refine W_seq_reg ?_
  refine WL_move rfl rfl ?_
  refine WL_assign rfl rfl ?_
  refine WL_nil (W_ret (nrm_ret ?_))
  refine fn_ret1 rfl rfl ?_
  exact ⟨_, rfl, _, rfl, hC1⟩
 rw [if_neg hx1] at hF
 have hr : 0 ≤ x ∧ x < (a1.length : Int) := Classical.byContradiction fun h => by rw [if_neg h] at hF; cases hF
 rw [if_pos hr] at hF
 obtain ⟨m, rfl⟩ : ∃ m : Nat, x = m := ⟨x.toNat, by omega⟩
 have hm : m < a1.length := by omega
 have hlim := (hC0.ro 0 rfl).lt
 simp only [maxLen] at hlim
 rw [Int.toNat_natCast] at hF
 rw [decide_eq_false hx1]
 refine WL_nil ?_
 refine W_cond_f rfl ?_
 refine W_skip (nrm_normal (W_seq (W_seq_reg ?_)))
 refine WL_move rfl rfl ?_
 refine WL_add rfl rfl rfl ?_
 rw [show w64 ((m : Int) + 1) = ((m + 1 : Nat) : Int) by rw [w64_id (by omega) (by omega)]; omega]
 refine WL_assign rfl rfl ?_
 refine WL_nil ?_
 obtain ⟨b, c, rfl, hc1, hc2, hD0⟩ := hC1.del_open hm
 have hml : (a1.take m).length = m := by rw [List.length_take]; omega
 refine W_norm (fun l w => ∃ kept : List Int, ∃ g : Nat, l = [(0, .slice (some ⟨b, 0, none⟩) a1.length c), (5, .int .i64 (kept.length : Int))] ∧ 0 < g ∧ kept.length + g = a1.length ∧ kept = rr ∧ Ctx Fs.flatten w0 w [Item.del b c kept g ([] : List Int)]) ?_ ?_
 ·refine W_block ?_
  refine W.sub (l' := [(0, .slice (some ⟨b, 0, none⟩) a1.length c), (1, (.func (.func 70) #[] #[(ptr pb1 0), (ptr pb2 0)])), (5, .int .i64 (m : Int)), (6, .int .i64 ((m + 1 : Nat) : Int))]) ?_ ⟨rfl, rfl, rfl, rfl, trivial⟩
  refine W_loop (fun k l w => ∃ kept : List Int, ∃ g : Nat, ∃ rest : List Int, l = [(0, .slice (some ⟨b, 0, none⟩) a1.length c), (1, (.func (.func 70) #[] #[(ptr pb1 0), (ptr pb2 0)])), (5, .int .i64 (kept.length : Int)), (6, .int .i64 ((kept.length + g : Nat) : Int))] ∧ 0 < g ∧ kept.length + g + rest.length = a1.length ∧ dfl (fun e => M.LeastDisclosure_c2_c1 e ax1 ax2) kept rest = some rr ∧ k = rest.length ∧ Ctx Fs.flatten w0 w [Item.del b c kept g rest]) (a1.drop (m + 1)).length ⟨a1.take m, 1, a1.drop (m + 1), by rw [hml], by omega, by rw [hml, List.length_drop]; omega, hF, rfl, hD0⟩ ?_
  clear hF hD0
  rintro k1 _ w2 ⟨kept, g, rest, rfl, hg, hlen, hL, hk, hD⟩
  refine W_seq (W_seq_reg ?_)
  refine WL_move rfl rfl ?_
  refine WL_move rfl rfl ?_
  refine WL_len_raw Tryz.underlying22 rfl rfl ?_
  refine WL_lss rfl rfl rfl ?_
  cases rest with
  | nil =>
   have hq := Option.some.inj hL
   simp only [List.length_nil, Nat.add_zero] at hlen
   rw [decide_eq_false (show ¬ ((kept.length + g : Nat) : Int) < (a1.length : Int) by omega)]
   refine WL_nil ?_
   refine W_cond_f rfl ?_
   refine W_exit (nrm_exit (nrm_exit (blk_exit ?_)))
   refine nrm_sub (l' := [(0, .slice (some ⟨b, 0, none⟩) a1.length c), (5, .int .i64 (kept.length : Int))]) ⟨rfl, rfl, trivial⟩ ?_
   exact ⟨kept, g, rfl, hg, hlen, hq, hD⟩
  | cons x rest =>
   simp only [List.length_cons] at hlen hk
   rw [decide_eq_true (show ((kept.length + g : Nat) : Int) < (a1.length : Int) by omega)]
   refine WL_nil ?_
   refine W_cond_t rfl ?_
   refine W_skip (nrm_normal (W_seq (W_block (W_seq_reg ?_))))
   refine WL_move rfl rfl ?_
   refine WL_move rfl rfl ?_
   refine WL_index_raw Tryz.underlying22 ty3 (show kept.length + g < a1.length by omega) rfl rfl rfl ?_
   obtain ⟨cs, hcs, hD1⟩ := hD.del_head
   obtain ⟨hro, row, T, hh, hrow⟩ := hD1.delh_row
   refine WL_load_raw ty3 hh (by rw [Nat.zero_add]; exact hrow) hcs rfl rfl ?_
   obtain rfl := cells_of_int hcs (ro_int hro)
   rw [show mkv (Rep.agg Int) [(.int .i64 x)] = (.int .i64 x) from rfl]
   refine WL_assign rfl rfl ?_
   refine WL_nil (W_seq_reg ?_)
   refine WL_move rfl rfl ?_
   refine WL_move rfl rfl ?_
   obtain ⟨q, hq, hL⟩ := bind_some (show (M.LeastDisclosure_c2_c1 x ax1 ax2).bind (fun b => dfl (fun e => M.LeastDisclosure_c2_c1 e ax1 ax2) (if b then kept else kept ++ [x]) rest) = some rr from hL)
   refine WL_callv (cap := [(ptr pb1 0), (ptr pb2 0)]) Tryz.call70 rfl rfl rfl (c_M_LeastDisclosure_c2_c1 x pb1 ax1 (g1.now hD1.keep) pb2 ax2 (g2.now hD1.keep) q hq) ?_
   intro _ w5 hv2
   obtain ⟨rfl, hB5⟩ := res_bool hv2
   have hD4 := hD1.grow hB5
   refine WL_not rfl rfl ?_
   refine WL_nil ?_
   refine W_cond rfl (fun hq1 => ?_) (fun hq1 => ?_)
   ·have hqf : q = false := by simpa using hq1
    rw [hqf] at hL
    rw [if_neg (by simp)] at hL
    refine W_seq_reg ?_
    refine WL_move rfl rfl ?_
    refine WL_move rfl rfl ?_
    refine WL_move rfl rfl ?_
    refine WL_index_raw Tryz.underlying22 ty3 (show kept.length < a1.length by omega) rfl rfl rfl ?_
    refine WL_store_del hD4 hg ty3 rfl rfl rfl (fun w6 hD5 => ?_)
    refine WL_nil (W_reg ?_)
    refine WL_move rfl rfl ?_
    refine WL_add rfl rfl rfl ?_
    rw [show w64 ((kept.length : Int) + 1) = ((kept ++ [x]).length : Int) by rw [w64_id (by omega) (by omega), List.length_append]; rfl]
    refine WL_assign rfl rfl ?_
    refine WL_nil (blk_normal (nrm_normal (W_reg ?_)))
    refine WL_move rfl rfl ?_
    refine WL_add rfl rfl rfl ?_
    rw [show w64 (((kept.length + g : Nat) : Int) + 1) = (((kept ++ [x]).length + g : Nat) : Int) by rw [w64_id (by omega) (by omega), List.length_append]; simp only [List.length_cons, List.length_nil]; omega]
    refine WL_assign rfl rfl ?_
    refine WL_nil ?_
    refine nrm_sub (l' := [(0, .slice (some ⟨b, 0, none⟩) a1.length c), (1, (.func (.func 70) #[] #[(ptr pb1 0), (ptr pb2 0)])), (5, .int .i64 ((kept ++ [x]).length : Int)), (6, .int .i64 (((kept ++ [x]).length + g : Nat) : Int))]) ⟨rfl, rfl, rfl, rfl, trivial⟩ ?_
    exact ⟨rest.length, by omega, kept ++ [x], g, rest, rfl, hg, by rw [List.length_append]; simp only [List.length_cons, List.length_nil]; omega, hL, rfl, hD5⟩
   have hqt : q = true := by simpa using hq1
   rw [hqt] at hL
   rw [if_pos rfl] at hL
   refine W_skip (blk_normal (nrm_normal (W_reg ?_)))
   refine WL_move rfl rfl ?_
   refine WL_add rfl rfl rfl ?_
   rw [show w64 (((kept.length + g : Nat) : Int) + 1) = ((kept.length + (g + 1) : Nat) : Int) by rw [w64_id (by omega) (by omega)]; omega]
   refine WL_assign rfl rfl ?_
   refine WL_nil ?_
   refine nrm_sub (l' := [(0, .slice (some ⟨b, 0, none⟩) a1.length c), (1, (.func (.func 70) #[] #[(ptr pb1 0), (ptr pb2 0)])), (5, .int .i64 (kept.length : Int)), (6, .int .i64 ((kept.length + (g + 1) : Nat) : Int))]) ⟨rfl, rfl, rfl, rfl, trivial⟩ ?_
   have hD5 := hD4.del_skip
   exact ⟨rest.length, by omega, kept, g + 1, rest, rfl, by omega, by omega, hL, rfl, hD5⟩
 rintro l2 _ w8 hs2 ⟨kept, g, rfl, hg, hlen, rfl, hD⟩
 refine nrm_sub' hs2 ?_
 clear hs2
 refine W_seq_reg ?_
 refine WL_move rfl rfl ?_
 refine WL_move rfl rfl ?_
 refine WL_sl_l Tryz.underlying22 ty3 (show kept.length < c by omega) (show kept.length ≤ a1.length by omega) hc1 rfl rfl rfl ?_
 refine WL_clear_del hD Tryz.underlying22 ty3 zc3 (by intro v hv; simp only [List.mem_cons, List.not_mem_nil, or_false] at hv; rcases hv with rfl <;> rfl) hlen.symm rfl hg (fun w9 hD9 => ?_)
 refine WL_nil (W_seq_reg ?_)
 refine WL_move rfl rfl ?_
 refine WL_move rfl rfl ?_
 refine WL_sl_h Tryz.underlying22 ty3 (hi := kept.length) (by omega) (by omega) rfl rfl rfl ?_
 refine WL_assign rfl rfl ?_
 refine WL_nil (W_ret ?_)
 refine fn_ret1 rfl rfl ?_
 exact ⟨_, rfl, _, rfl, hD9⟩

end Go.Gx.Px
