/- The contracts of the Go functions against the pure functions, printed by program. Conditions: each says them. -/
import Derived.Test.YtdkfiadoiapnbaaGreatC2
set_option linter.unusedVariables false
set_option linter.unusedSimpArgs false
set_option maxRecDepth 100000
set_option maxHeartbeats 4000000
namespace Go.Gx.Px
open Go.Proofs Go.RowKit

theorem c_M_hasHead {w0 : World} (a1 : ((List Int) × (List (Int × (List Int))))) (u1 : Value) (g1 : RO [] w0 u1 a1.1) (u2 : Value) (g2 : RO [] w0 u2 a1.2) (rr : Bool) (hF : M.hasHead a1 = some rr) :
 Calls Tryz.prog 121 [(.agg #[u1, u2])].toArray w0 fun e w' => ∃ v, e = .returned v ∧ Res w0 rr v w' := by
 refine calls_of_W Tryz.func121 rfl rfl ?_
 have hC0 := Ctx.start w0
 unfold M.hasHead at hF
 refine W_seq_reg ?_
 refine WL_boxK (cs := [u1, u2]) hC0 rfl rfl rfl (fun b1 w1 hC1 hB1 hN1 => ?_)
 refine WL_assign rfl rfl ?_
 refine WL_nil (W_seq_reg ?_)
 refine WL_load_box_agg [u1, u2] hC1 0 rfl rfl rfl Tryz.isAgg37 Tryz.sizeOf37 rfl rfl ?_
 obtain ⟨x1, hr1, hF⟩ := bind_some hF
 refine WL_call Tryz.call150 rfl rfl (c_M_VarsOf (a1.1, a1.2) u1 (g1.now hC1.keep) u2 (g2.now hC1.keep) x1 hr1) ?_
 rintro v1 w2 ⟨hB2, F1, hv1, hn1, hb1⟩
 have hC2 := hC1.push hB2 (A := Item.own v1 x1) hv1 hn1 hb1
 refine WL_allocK hC2 zero22 rfl rfl (fun b2 w3 hC3 hB3 hN2 => ?_)
 refine WL_store_boxK (cs' := [v1]) hC3 0 rfl rfl (ro_one (hC3.ro 1 rfl)) rfl Tryz.sizeOf22 rfl rfl (fun w4 hC4 hKp1 => ?_)
 try dsimp only [List.set] at hC4
 have hk1 := Keep.over (((Keep.of hB1).then hB2).then hB3) (Nat.le_trans ((Keep.of hB1).then hB2).size hN2) hKp1
 have hk2 := Keep.over ((Keep.of hB2).then hB3) (Nat.le_trans (Keep.of hB2).size hN2) hKp1
 have hk3 := Keep.over (Keep.of hB3) hN2 hKp1
 refine WL_nil ?_
 obtain ⟨r1, hr2, hF⟩ := bind_some hF
 refine W_cut (fun l w => ∃ x2 : Bool, x2 = r1 ∧ l = [(2, (.bool x2))] ∧ Below w4.heap.size w4 w ∧ Ctx [] w0 w []) ?_ ?_
 ·refine W_reg ?_
  refine WL_field Tryz.underlying37 rfl rfl (fun w => ⟨_, Tryz.sizeOf22 w⟩) rfl rfl ?_
  refine WL_load_box hC4 2 rfl rfl Tryz.isAgg22 rfl rfl ?_
  refine WL_len Tryz.underlying22 g1 rfl rfl ?_
  refine WL_leq rfl rfl rfl ?_
  refine WL_move rfl rfl ?_
  refine WL_fork (fun hc1 => ?_) (fun hc1 => ?_)
  ·replace hr2 := ite_t hr2 hc1
   refine WL_guard rfl rfl ?_
   refine WL_field Tryz.underlying37 rfl rfl (fun w => ⟨_, Tryz.sizeOf22 w⟩) rfl rfl ?_
   refine WL_guard rfl rfl ?_
   refine WL_load_box hC4 2 rfl rfl Tryz.isAgg22 rfl rfl ?_
   refine WL_guard rfl rfl ?_
   refine WL_makeFunc rfl rfl ?_
   obtain ⟨x3, hr3, hr2⟩ := bind_some hr2
   refine WL_guard rfl rfl ?_
   refine WL_call Tryz.call71 rfl rfl (c_Slices_ContainsFunc_Lint_int_M_hasHead_c1 a1.1 u1 (g1.now hC4.keep) b2 x1 (hC4.boxAt 0 rfl (repw_slice (hC4.ro 1 rfl))) x3 hr3) ?_
   intro _ w6 hv2
   obtain ⟨rfl, hB5⟩ := res_bool hv2
   have hC6 := hC4.grow hB5
   refine WL_guard rfl rfl ?_
   refine WL_not rfl rfl ?_
   refine WL_pick_t rfl rfl rfl ?_
   refine WL_assign rfl rfl ?_
   refine WL_nil ?_
   have hq1 := Option.some.inj hr2
   subst hq1
   have hC7 := hC6.h0
   refine nrm_sub (l' := [(2, (.bool (!x3)))]) ⟨rfl, trivial⟩ ?_
   exact ⟨(!x3), rfl, rfl, (Keep.of hB5).below, hC7⟩
  replace hr2 := ite_f hr2 hc1
  refine WL_guard_skip rfl rfl (by simp) rfl ?_
  refine WL_guard_skip rfl rfl (by simp) rfl ?_
  refine WL_guard_skip rfl rfl (by simp) rfl ?_
  refine WL_guard_skip rfl rfl (by simp) rfl ?_
  refine WL_guard_skip rfl rfl (by simp) rfl ?_
  refine WL_pick_f rfl rfl rfl ?_
  refine WL_assign rfl rfl ?_
  refine WL_nil ?_
  have hq2 := Option.some.inj hr2
  subst hq2
  have hC8 := hC4.h0
  refine nrm_sub (l' := [(2, (.bool false))]) ⟨rfl, trivial⟩ ?_
  exact ⟨false, rfl, rfl, (Below.refl _ _), hC8⟩
 rintro _ w5 ⟨x2, rfl, rfl, hB4, hC5⟩
 try dsimp only at hF
 refine W_ret ?_
 have hq3 := Option.some.inj hF
 subst hq3
 refine fn_ret1 rfl rfl ?_
 exact ⟨_, rfl, bool_res hC5 _⟩

theorem c_Slices_IndexFunc_Limpl_Atom_impl_Atom_M_IsQuery_c1 {w0 : World} (a1 : (List (Int × (List Int)))) (u1 : Value) (g1 : RO [] w0 u1 a1) (pb1 : Nat) (ax1 : (List Int)) (g2 : ROAt [] w0 pb1 0 ax1) (rr : Int) (hF : Slices.IndexFunc_Limpl_Atom_impl_Atom_M_IsQuery_c1 a1 ax1 = some rr) :
 Calls Tryz.prog 148 [u1, (.func (.func 119) #[] #[(ptr pb1 0)])].toArray w0 fun e w' => ∃ v, e = .returned v ∧ Res w0 rr v w' := by
 refine calls_of_W Tryz.func148 rfl rfl ?_
 have hC0 := Ctx.start w0
 unfold Slices.IndexFunc_Limpl_Atom_impl_Atom_M_IsQuery_c1 at hF
 refine W_seq_reg ?_
 refine WL_assign rfl rfl ?_
 refine WL_nil (W_seq (W_seq_reg ?_))
 refine WL_move rfl rfl ?_
 refine WL_len Tryz.underlying35 g1 rfl rfl ?_
 refine WL_move rfl rfl ?_
 refine WL_nil ?_
 obtain ⟨r1, hr1, hF⟩ := bind_some hF
 refine W_norm (fun l w => .inl () = r1 ∧ l = [] ∧ Below w0.heap.size w0 w ∧ Ctx [] w0 w []) ?_ ?_
 ·refine W_block ?_
  refine W.sub (l' := [(0, u1), (1, (.func (.func 119) #[] #[(ptr pb1 0)])), (7, (.int .i64 (List.length a1 : Int))), (8, (.int .i64 0))]) ?_ ⟨rfl, rfl, rfl, rfl, trivial⟩
  refine W_loop (fun k l w => ∃ x1 : Int, l = [(0, u1), (1, (.func (.func 119) #[] #[(ptr pb1 0)])), (7, (.int .i64 (List.length a1 : Int))), (8, (.int .i64 x1))] ∧ Below w0.heap.size w0 w ∧ Ctx [] w0 w [] ∧ Slices.IndexFunc_Limpl_Atom_impl_Atom_M_IsQuery_c1_l1 a1 ax1 k x1 = some r1) FUEL ⟨0, rfl, (Below.refl _ _), hC0, hr1⟩ ?_
  clear hr1
  rintro k1 _ w1 ⟨x1, rfl, hB1, hC1, hL1⟩
  cases k1 with
  | zero => rw [Slices.IndexFunc_Limpl_Atom_impl_Atom_M_IsQuery_c1_l1] at hL1; cases hL1
  | succ k1 =>
   rw [Slices.IndexFunc_Limpl_Atom_impl_Atom_M_IsQuery_c1_l1] at hL1
   refine W_seq_reg ?_
   refine WL_lss rfl rfl rfl ?_
   refine WL_nil (W_seq ?_)
   refine W_cond rfl (fun hc1 => ?_) (fun hc1 => ?_)
   ·replace hL1 := ite_t hL1 hc1
    refine W_skip (nrm_normal (W_seq (W_block (W_seq_reg ?_))))
    refine WL_move rfl rfl ?_
    refine WL_assign rfl rfl ?_
    refine WL_nil (W_seq_reg ?_)
    refine WL_move rfl rfl ?_
    refine WL_move rfl rfl ?_
    refine WL_move rfl rfl ?_
    obtain ⟨x2, hx1, hL1⟩ := bind_some hL1
    refine WL_index Tryz.underlying35 ty84 g1 hx1 rfl rfl rfl (fun b1 o1 h1 => ?_)
    refine WL_load ty84 h1 hC1.keep rfl rfl (fun v1 h2 => ?_)
    obtain ⟨v2, rfl, h3⟩ := ro_st84 h2
    obtain ⟨x3, hr2, hL1⟩ := bind_some hL1
    refine WL_callv (cap := [(ptr pb1 0)]) Tryz.call119 rfl rfl rfl (c_M_IsQuery_c1 x2 v2 (h3.now hC1.keep) pb1 ax1 (g2.now hC1.keep) x3 hr2) ?_
    intro _ w2 hv1
    obtain ⟨rfl, hB2⟩ := res_bool hv1
    have hC2 := hC1.grow hB2
    refine WL_nil ?_
    refine W_cond rfl (fun hc2 => ?_) (fun hc2 => ?_)
    ·replace hL1 := ite_t hL1 hc2
     refine W_seq_reg ?_
     refine WL_move rfl rfl ?_
     refine WL_assign rfl rfl ?_
     refine WL_nil (W_ret (blk_ret (nrm_ret (nrm_ret (blk_ret (nrm_ret (nrm_ret ?_)))))))
     have hq1 := Option.some.inj hL1
     subst hq1
     dsimp only at hF
     have hq2 := Option.some.inj hF
     subst hq2
     refine fn_ret1 rfl rfl ?_
     exact ⟨_, rfl, int_res hC2 _⟩
    replace hL1 := ite_f hL1 hc2
    refine W_skip (blk_normal (nrm_normal (W_reg ?_)))
    refine WL_add rfl rfl rfl ?_
    refine WL_move rfl rfl ?_
    refine WL_nil ?_
    refine nrm_sub (l' := [(0, u1), (1, (.func (.func 119) #[] #[(ptr pb1 0)])), (7, (.int .i64 (List.length a1 : Int))), (8, (.int .i64 (w64 (x1 + 1))))]) ⟨rfl, rfl, rfl, rfl, trivial⟩ ?_
    exact ⟨k1, Nat.lt_succ_self _, w64 (x1 + 1), rfl, ((Keep.of hB1).then hB2).below, hC2, hL1⟩
   replace hL1 := ite_f hL1 hc1
   refine W_exit (nrm_exit (nrm_exit (blk_exit ?_)))
   have hq3 := Option.some.inj hL1
   subst hq3
   refine nrm_sub (l' := []) trivial ?_
   exact ⟨rfl, rfl, (Keep.of hB1).below, hC1⟩
 rintro l2 _ w3 hs2 ⟨rfl, rfl, hB3, hC3⟩
 try dsimp only at hF
 refine nrm_sub' hs2 ?_
 clear hs2
 refine W_seq_reg ?_
 refine WL_assign rfl rfl ?_
 refine WL_nil (W_ret ?_)
 have hq4 := Option.some.inj hF
 subst hq4
 refine fn_ret1 rfl rfl ?_
 exact ⟨_, rfl, int_res hC3 _⟩

theorem c_Slices_ContainsFunc_Limpl_Atom_impl_Atom_M_IsQuery_c1 {w0 : World} (a1 : (List (Int × (List Int)))) (u1 : Value) (g1 : RO [] w0 u1 a1) (pb1 : Nat) (ax1 : (List Int)) (g2 : ROAt [] w0 pb1 0 ax1) (rr : Bool) (hF : Slices.ContainsFunc_Limpl_Atom_impl_Atom_M_IsQuery_c1 a1 ax1 = some rr) :
 Calls Tryz.prog 118 [u1, (.func (.func 119) #[] #[(ptr pb1 0)])].toArray w0 fun e w' => ∃ v, e = .returned v ∧ Res w0 rr v w' := by
 refine calls_of_W Tryz.func118 rfl rfl ?_
 have hC0 := Ctx.start w0
 unfold Slices.ContainsFunc_Limpl_Atom_impl_Atom_M_IsQuery_c1 at hF
 refine W_seq_reg ?_
 refine WL_assign rfl rfl ?_
 refine WL_nil (W_seq_reg ?_)
 refine WL_move rfl rfl ?_
 refine WL_move rfl rfl ?_
 obtain ⟨x1, hr1, hF⟩ := bind_some hF
 refine WL_call Tryz.call148 rfl rfl (c_Slices_IndexFunc_Limpl_Atom_impl_Atom_M_IsQuery_c1 a1 u1 (g1.now hC0.keep) pb1 ax1 (g2.now hC0.keep) x1 hr1) ?_
 intro _ w1 hv1
 obtain ⟨rfl, hB1⟩ := res_int hv1
 have hC1 := hC0.grow hB1
 refine WL_geq rfl rfl rfl ?_
 refine WL_assign rfl rfl ?_
 refine WL_nil (W_ret ?_)
 have hq1 := Option.some.inj hF
 subst hq1
 refine fn_ret1 rfl rfl ?_
 exact ⟨_, rfl, bool_res hC1 _⟩

theorem c_M_IsQuery {w0 : World} (a1 : (List Int)) (u1 : Value) (g1 : RO [] w0 u1 a1) (a2 : ((List Int) × (List (Int × (List Int))))) (u2 : Value) (g2 : RO [] w0 u2 a2.1) (u3 : Value) (g3 : RO [] w0 u3 a2.2) (rr : Bool) (hF : M.IsQuery a1 a2 = some rr) :
 Calls Tryz.prog 93 [u1, (.agg #[u2, u3])].toArray w0 fun e w' => ∃ v, e = .returned v ∧ Res w0 rr v w' := by
 refine calls_of_W Tryz.func93 rfl rfl ?_
 have hC0 := Ctx.start w0
 unfold M.IsQuery at hF
 refine W_seq_reg ?_
 refine WL_boxK (cs := [u1]) hC0 (ro_cells g1) rfl rfl (fun b1 w1 hC1 hB1 hN1 => ?_)
 refine WL_boxK (cs := [u2, u3]) hC1 rfl rfl rfl (fun b2 w2 hC2 hB2 hN2 => ?_)
 refine WL_assign rfl rfl ?_
 refine WL_nil ?_
 obtain ⟨r1, hr1, hF⟩ := bind_some hF
 refine W_cut (fun l w => ∃ x1 : Bool, x1 = r1 ∧ l = [(4, (.bool x1))] ∧ Below w2.heap.size w2 w ∧ Ctx [] w0 w []) ?_ ?_
 ·refine W_reg ?_
  refine WL_load_box hC2 1 rfl rfl Tryz.isAgg22 rfl rfl ?_
  obtain ⟨x2, hr2, hr1⟩ := bind_some hr1
  refine WL_call Tryz.call114 rfl rfl (c_M_IsSchema a1 u1 (g1.now hC2.keep) x2 hr2) ?_
  intro _ w4 hv1
  obtain ⟨rfl, hB4⟩ := res_bool hv1
  have hC4 := hC2.grow hB4
  refine WL_move rfl rfl ?_
  refine WL_fork (fun hc1 => ?_) (fun hc1 => ?_)
  ·replace hr1 := ite_t hr1 hc1
   refine WL_guard rfl rfl ?_
   refine WL_field Tryz.underlying37 rfl rfl (fun w => ⟨_, Tryz.sizeOf35 w⟩) rfl rfl ?_
   refine WL_guard rfl rfl ?_
   refine WL_load_box hC4 0 rfl rfl Tryz.isAgg35 rfl rfl ?_
   refine WL_guard rfl rfl ?_
   refine WL_len Tryz.underlying35 g3 rfl rfl ?_
   obtain ⟨x3, hr3, hr1⟩ := bind_some hr1
   refine WL_guard rfl rfl ?_
   refine WL_call Tryz.call78 rfl rfl (c_M_within (List.length a2.2 : Int) 1 4 x3 hr3) ?_
   intro _ w5 hv2
   obtain ⟨rfl, hB5⟩ := res_bool hv2
   have hC5 := hC4.grow hB5
   refine WL_pick_t rfl rfl rfl ?_
   refine WL_move rfl rfl ?_
   refine WL_fork (fun hc2 => ?_) (fun hc2 => ?_)
   ·replace hr1 := ite_t hr1 hc2
    refine WL_guard rfl rfl ?_
    refine WL_field Tryz.underlying37 rfl rfl (fun w => ⟨_, Tryz.sizeOf35 w⟩) rfl rfl ?_
    refine WL_guard rfl rfl ?_
    refine WL_load_box hC5 0 rfl rfl Tryz.isAgg35 rfl rfl ?_
    refine WL_guard rfl rfl ?_
    refine WL_makeFunc rfl rfl ?_
    obtain ⟨x4, hr4, hr1⟩ := bind_some hr1
    refine WL_guard rfl rfl ?_
    refine WL_call Tryz.call118 rfl rfl (c_Slices_ContainsFunc_Limpl_Atom_impl_Atom_M_IsQuery_c1 a2.2 u3 (g3.now hC5.keep) b1 a1 (hC5.boxAt 1 rfl (repw_slice (g1.now hC5.keep))) x4 hr4) ?_
    intro _ w6 hv3
    obtain ⟨rfl, hB6⟩ := res_bool hv3
    have hC6 := hC5.grow hB6
    refine WL_guard rfl rfl ?_
    refine WL_not rfl rfl ?_
    refine WL_pick_t rfl rfl rfl ?_
    refine WL_move rfl rfl ?_
    refine WL_fork (fun hc3 => ?_) (fun hc3 => ?_)
    ·replace hr1 := ite_t hr1 hc3
     refine WL_guard rfl rfl ?_
     refine WL_load_box_agg [u2, u3] hC6 0 rfl rfl rfl Tryz.isAgg37 Tryz.sizeOf37 rfl rfl ?_
     obtain ⟨x5, hr5, hr1⟩ := bind_some hr1
     refine WL_guard rfl rfl ?_
     refine WL_call Tryz.call121 rfl rfl (c_M_hasHead (a2.1, a2.2) u2 (g2.now hC6.keep) u3 (g3.now hC6.keep) x5 hr5) ?_
     intro _ w7 hv4
     obtain ⟨rfl, hB7⟩ := res_bool hv4
     have hC7 := hC6.grow hB7
     refine WL_pick_t rfl rfl rfl ?_
     refine WL_assign rfl rfl ?_
     refine WL_nil ?_
     have hq1 := Option.some.inj hr1
     subst hq1
     have hC8 := hC7.h0
     refine nrm_sub (l' := [(4, (.bool x5))]) ⟨rfl, trivial⟩ ?_
     exact ⟨x5, rfl, rfl, ((((Keep.of hB4).then hB5).then hB6).then hB7).below, hC8⟩
    replace hr1 := ite_f hr1 hc3
    refine WL_guard_skip rfl rfl (by simp) rfl ?_
    refine WL_guard_skip rfl rfl (by simp) rfl ?_
    refine WL_pick_f rfl rfl rfl ?_
    refine WL_assign rfl rfl ?_
    refine WL_nil ?_
    have hq2 := Option.some.inj hr1
    subst hq2
    have hC9 := hC6.h0
    refine nrm_sub (l' := [(4, (.bool false))]) ⟨rfl, trivial⟩ ?_
    exact ⟨false, rfl, rfl, (((Keep.of hB4).then hB5).then hB6).below, hC9⟩
   replace hr1 := ite_f hr1 hc2
   refine WL_guard_skip rfl rfl (by simp) rfl ?_
   refine WL_guard_skip rfl rfl (by simp) rfl ?_
   refine WL_guard_skip rfl rfl (by simp) rfl ?_
   refine WL_guard_skip rfl rfl (by simp) rfl ?_
   refine WL_guard_skip rfl rfl (by simp) rfl ?_
   refine WL_pick_f rfl rfl rfl ?_
   refine WL_move rfl rfl ?_
   refine WL_guard_skip rfl rfl (by simp) rfl ?_
   refine WL_guard_skip rfl rfl (by simp) rfl ?_
   refine WL_pick_f rfl rfl rfl ?_
   refine WL_assign rfl rfl ?_
   refine WL_nil ?_
   have hq3 := Option.some.inj hr1
   subst hq3
   have hC10 := hC5.h0
   refine nrm_sub (l' := [(4, (.bool false))]) ⟨rfl, trivial⟩ ?_
   exact ⟨false, rfl, rfl, ((Keep.of hB4).then hB5).below, hC10⟩
  replace hr1 := ite_f hr1 hc1
  refine WL_guard_skip rfl rfl (by simp) rfl ?_
  refine WL_guard_skip rfl rfl (by simp) rfl ?_
  refine WL_guard_skip rfl rfl (by simp) rfl ?_
  refine WL_guard_skip rfl rfl (by simp) rfl ?_
  refine WL_pick_f rfl rfl rfl ?_
  refine WL_move rfl rfl ?_
  refine WL_guard_skip rfl rfl (by simp) rfl ?_
  refine WL_guard_skip rfl rfl (by simp) rfl ?_
  refine WL_guard_skip rfl rfl (by simp) rfl ?_
  refine WL_guard_skip rfl rfl (by simp) rfl ?_
  refine WL_guard_skip rfl rfl (by simp) rfl ?_
  refine WL_pick_f rfl rfl rfl ?_
  refine WL_move rfl rfl ?_
  refine WL_guard_skip rfl rfl (by simp) rfl ?_
  refine WL_guard_skip rfl rfl (by simp) rfl ?_
  refine WL_pick_f rfl rfl rfl ?_
  refine WL_assign rfl rfl ?_
  refine WL_nil ?_
  have hq4 := Option.some.inj hr1
  subst hq4
  have hC11 := hC4.h0
  refine nrm_sub (l' := [(4, (.bool false))]) ⟨rfl, trivial⟩ ?_
  exact ⟨false, rfl, rfl, (Keep.of hB4).below, hC11⟩
 rintro _ w3 ⟨x1, rfl, rfl, hB3, hC3⟩
 try dsimp only at hF
 refine W_ret ?_
 have hq5 := Option.some.inj hF
 subst hq5
 refine fn_ret1 rfl rfl ?_
 exact ⟨_, rfl, bool_res hC3 _⟩

theorem c_M_areAsked {w0 : World} (a1 : (List Int)) (u1 : Value) (g1 : RO [] w0 u1 a1) (a2 : (List (Int × (List Int) × Int × Int × Int))) (u2 : Value) (g2 : RO [] w0 u2 a2) (a3 : ((List Int) × (List (Int × (List Int))))) (u3 : Value) (g3 : RO [] w0 u3 a3.1) (u4 : Value) (g4 : RO [] w0 u4 a3.2) (rr : Bool) (hF : M.areAsked a1 a2 a3 = some rr) :
 Calls Tryz.prog 58 [u1, u2, (.agg #[u3, u4])].toArray w0 fun e w' => ∃ v, e = .returned v ∧ Res w0 rr v w' := by
 refine calls_of_W Tryz.func58 rfl rfl ?_
 have hC0 := Ctx.start w0
 unfold M.areAsked at hF
 refine W_seq_reg ?_
 refine WL_boxK (cs := [u3, u4]) hC0 rfl rfl rfl (fun b1 w1 hC1 hB1 hN1 => ?_)
 refine WL_assign rfl rfl ?_
 refine WL_nil ?_
 obtain ⟨r1, hr1, hF⟩ := bind_some hF
 refine W_cut (fun l w => ∃ x1 : Bool, x1 = r1 ∧ l = [(6, (.bool x1))] ∧ Below w1.heap.size w1 w ∧ Ctx [] w0 w []) ?_ ?_
 ·refine W_reg ?_
  refine WL_move rfl rfl ?_
  refine WL_move rfl rfl ?_
  obtain ⟨x2, hr2, hr1⟩ := bind_some hr1
  refine WL_call Tryz.call92 rfl rfl (c_M_AreMethods a1 u1 (g1.now hC1.keep) a2 u2 (g2.now hC1.keep) x2 hr2) ?_
  intro _ w3 hv1
  obtain ⟨rfl, hB3⟩ := res_bool hv1
  have hC3 := hC1.grow hB3
  refine WL_move rfl rfl ?_
  refine WL_fork (fun hc1 => ?_) (fun hc1 => ?_)
  ·replace hr1 := ite_t hr1 hc1
   refine WL_guard rfl rfl ?_
   refine WL_move rfl rfl ?_
   refine WL_guard rfl rfl ?_
   refine WL_load_box_agg [u3, u4] hC3 0 rfl rfl rfl Tryz.isAgg37 Tryz.sizeOf37 rfl rfl ?_
   obtain ⟨x3, hr3, hr1⟩ := bind_some hr1
   refine WL_guard rfl rfl ?_
   refine WL_call Tryz.call93 rfl rfl (c_M_IsQuery a1 u1 (g1.now hC3.keep) (a3.1, a3.2) u3 (g3.now hC3.keep) u4 (g4.now hC3.keep) x3 hr3) ?_
   intro _ w4 hv2
   obtain ⟨rfl, hB4⟩ := res_bool hv2
   have hC4 := hC3.grow hB4
   refine WL_pick_t rfl rfl rfl ?_
   refine WL_assign rfl rfl ?_
   refine WL_nil ?_
   have hq1 := Option.some.inj hr1
   subst hq1
   have hC5 := hC4.h0
   refine nrm_sub (l' := [(6, (.bool x3))]) ⟨rfl, trivial⟩ ?_
   exact ⟨x3, rfl, rfl, ((Keep.of hB3).then hB4).below, hC5⟩
  replace hr1 := ite_f hr1 hc1
  refine WL_guard_skip rfl rfl (by simp) rfl ?_
  refine WL_guard_skip rfl rfl (by simp) rfl ?_
  refine WL_guard_skip rfl rfl (by simp) rfl ?_
  refine WL_pick_f rfl rfl rfl ?_
  refine WL_assign rfl rfl ?_
  refine WL_nil ?_
  have hq2 := Option.some.inj hr1
  subst hq2
  have hC6 := hC3.h0
  refine nrm_sub (l' := [(6, (.bool false))]) ⟨rfl, trivial⟩ ?_
  exact ⟨false, rfl, rfl, (Keep.of hB3).below, hC6⟩
 rintro _ w2 ⟨x1, rfl, rfl, hB2, hC2⟩
 try dsimp only at hF
 refine W_ret ?_
 have hq3 := Option.some.inj hF
 subst hq3
 refine fn_ret1 rfl rfl ?_
 exact ⟨_, rfl, bool_res hC2 _⟩

theorem c_M_CanCall_c1 {w0 : World} (a1 : Int) (pb1 : Nat) (ax1 : (Int × (List Int))) (g1 : ROAt [] w0 pb1 0 ax1) (pb2 : Nat) (ax2 : (List Int)) (g2 : ROAt [] w0 pb2 0 ax2) (rr : Bool) (hF : M.CanCall_c1 a1 ax1 ax2 = some rr) :
 Calls Tryz.prog 108 [(.int .i64 a1), (ptr pb1 0), (ptr pb2 0)].toArray w0 fun e w' => ∃ v, e = .returned v ∧ Res w0 rr v w' := by
 refine calls_of_W Tryz.func108 rfl rfl ?_
 have hC0 := Ctx.start w0
 unfold M.CanCall_c1 at hF
 refine W_seq_reg ?_
 refine WL_assign rfl rfl ?_
 refine WL_nil ?_
 obtain ⟨r1, hr1, hF⟩ := bind_some hF
 refine W_cut (fun l w => ∃ x1 : Bool, x1 = r1 ∧ l = [(4, (.bool x1))] ∧ Below w0.heap.size w0 w ∧ Ctx [] w0 w []) ?_ ?_
 ·refine W_drawn 26 rfl hmix (fun w2 hB2 => ?_)
  have hC2 := hC0.grow hB2
  refine WA_tk 0 (by kernel_rfl) rfl rfl (fl_move rfl) ?_
  refine WL_move rfl rfl ?_
  refine WL_nil ?_
  refine WA_tk 1 (by kernel_rfl) rfl rfl (fl_field Tryz.underlying84 rfl rfl (fun w => ⟨_, Tryz.sizeOf22 w⟩) rfl) ?_
  refine WL_field Tryz.underlying84 rfl rfl (fun w => ⟨_, Tryz.sizeOf22 w⟩) rfl rfl ?_
  refine WL_nil ?_
  refine WA_one 2 (by kernel_rfl) rfl ?_
  refine WL_load ty22 g1.snd hC2.keep rfl rfl (fun v1 h1 => ?_)
  refine WL_nil ?_
  refine WA_tk 3 (by kernel_rfl) rfl rfl (fl_len Tryz.underlying22 h1 rfl) ?_
  refine WL_len Tryz.underlying22 h1 rfl rfl ?_
  refine WL_nil ?_
  refine WA_tk 4 (by kernel_rfl) rfl rfl (fl_sub rfl rfl) ?_
  refine WL_sub rfl rfl rfl ?_
  refine WL_nil ?_
  obtain ⟨x2, hr2, hr1⟩ := bind_some hr1
  refine WA_one 5 (by kernel_rfl) rfl ?_
  refine WL_call Tryz.call78 rfl rfl (c_M_within a1 0 (w64 ((List.length ax1.2 : Int) - 1)) x2 hr2) ?_
  intro _ w3 hv1
  obtain ⟨rfl, hB3⟩ := res_bool hv1
  have hC3 := hC2.grow hB3
  refine WL_nil ?_
  refine WA_tk 6 (by kernel_rfl) rfl rfl (fl_not rfl) ?_
  refine WL_not rfl rfl ?_
  refine WL_nil ?_
  refine WA_tk 7 (by kernel_rfl) rfl rfl (fl_move rfl) ?_
  refine WL_move rfl rfl ?_
  refine WL_nil ?_
  refine WA_fork (fun hc1 => ?_) (fun hc1 => ?_)
  ·replace hr1 := ite_t hr1 hc1
   refine WA_sk 8 (by kernel_rfl) rfl rfl rfl rfl (by simp) rfl rfl ?_
   refine WA_sk 9 (by kernel_rfl) rfl rfl rfl rfl (by simp) rfl rfl ?_
   refine WA_sk 10 (by kernel_rfl) rfl rfl rfl rfl (by simp) rfl rfl ?_
   refine WA_sk 11 (by kernel_rfl) rfl rfl rfl rfl (by simp) rfl rfl ?_
   refine WA_sk 12 (by kernel_rfl) rfl rfl rfl rfl (by simp) rfl rfl ?_
   refine WA_sk 13 (by kernel_rfl) rfl rfl rfl rfl (by simp) rfl rfl ?_
   refine WA_sk 14 (by kernel_rfl) rfl rfl rfl rfl (by simp) rfl rfl ?_
   refine WA_sk 15 (by kernel_rfl) rfl rfl rfl rfl (by simp [undef]) rfl rfl ?_
   refine WA_sk 16 (by kernel_rfl) rfl rfl rfl rfl (by simp [undef]) rfl rfl ?_
   refine WA_sk 17 (by kernel_rfl) rfl rfl rfl rfl (by simp [undef]) rfl rfl ?_
   refine WA_sk 18 (by kernel_rfl) rfl rfl rfl rfl (by simp [undef]) rfl rfl ?_
   refine WA_sk 19 (by kernel_rfl) rfl rfl rfl rfl (by simp [undef]) rfl rfl ?_
   refine WA_sk 20 (by kernel_rfl) rfl rfl rfl rfl (by simp [undef]) rfl rfl ?_
   refine WA_sk 21 (by kernel_rfl) rfl rfl rfl rfl (by simp [undef]) rfl rfl ?_
   refine WA_sk 22 (by kernel_rfl) rfl rfl rfl rfl (by simp [undef]) rfl rfl ?_
   refine WA_sk 23 (by kernel_rfl) rfl rfl rfl rfl (by simp) rfl rfl ?_
   refine WA_tk 24 (by kernel_rfl) rfl rfl (fl_pick_t rfl rfl) ?_
   refine WL_pick_t rfl rfl rfl ?_
   refine WL_nil ?_
   refine WA_tk 25 (by kernel_rfl) rfl rfl (fl_assign rfl) ?_
   refine WL_assign rfl rfl ?_
   refine WL_nil ?_
   refine WA_done (by kernel_rfl) ?_
   have hq1 := Option.some.inj hr1
   subst hq1
   refine nrm_sub (l' := [(4, (.bool true))]) ⟨rfl, trivial⟩ ?_
   exact ⟨true, rfl, rfl, ((Keep.of hB2).then hB3).below, hC3⟩
  replace hr1 := ite_f hr1 hc1
  refine WA_takeG 8 rfl (by kernel_rfl) (by kernel_rfl) (by kernel_rfl) rfl rfl rfl (fl_field Tryz.underlying84 rfl rfl (fun w => ⟨_, Tryz.sizeOf22 w⟩) rfl) ?_
  refine WL_guard rfl rfl ?_
  refine WL_field Tryz.underlying84 rfl rfl (fun w => ⟨_, Tryz.sizeOf22 w⟩) rfl rfl ?_
  refine WL_nil ?_
  refine WA_takeG 10 rfl (by kernel_rfl) (by kernel_rfl) (by kernel_rfl) rfl rfl rfl (fl_move rfl) ?_
  refine WL_guard rfl rfl ?_
  refine WL_move rfl rfl ?_
  refine WL_nil ?_
  refine WA_one 9 (by kernel_rfl) rfl ?_
  refine WL_guard rfl rfl ?_
  refine WL_load ty22 g1.snd hC3.keep rfl rfl (fun v2 h2 => ?_)
  refine WL_nil ?_
  obtain ⟨x3, hx1, hr1⟩ := bind_some hr1
  refine WA_takeG 11 rfl (by kernel_rfl) (by kernel_rfl) (by kernel_rfl) rfl rfl rfl (fl_index Tryz.underlying22 ty3 h2 hx1 rfl rfl) ?_
  refine WL_guard rfl rfl ?_
  refine WL_index Tryz.underlying22 ty3 h2 hx1 rfl rfl rfl (fun b1 o1 h3 => ?_)
  refine WL_nil ?_
  refine WA_one 12 (by kernel_rfl) rfl ?_
  refine WL_guard rfl rfl ?_
  refine WL_load ty3 h3 hC3.keep rfl rfl (fun v3 h4 => ?_)
  obtain rfl := ro_int h4
  refine WL_nil ?_
  obtain ⟨x4, hr3, hr1⟩ := bind_some hr1
  refine WA_one 13 (by kernel_rfl) rfl ?_
  refine WL_guard rfl rfl ?_
  refine WL_call Tryz.call109 rfl rfl (c_M_IsVar x3 x4 hr3) ?_
  intro _ w4 hv2
  obtain ⟨rfl, hB4⟩ := res_bool hv2
  have hC4 := hC3.grow hB4
  refine WL_nil ?_
  refine WA_takeG 14 rfl (by kernel_rfl) (by kernel_rfl) (by kernel_rfl) rfl rfl rfl (fl_move rfl) ?_
  refine WL_guard rfl rfl ?_
  refine WL_move rfl rfl ?_
  refine WL_nil ?_
  refine WA_fork (fun hc2 => ?_) (fun hc2 => ?_)
  ·replace hr1 := ite_t hr1 hc2
   refine WA_takeG 16 rfl (by kernel_rfl) (by kernel_rfl) (by kernel_rfl) rfl rfl rfl (fl_field Tryz.underlying84 rfl rfl (fun w => ⟨_, Tryz.sizeOf22 w⟩) rfl) ?_
   refine WL_guard rfl rfl ?_
   refine WL_field Tryz.underlying84 rfl rfl (fun w => ⟨_, Tryz.sizeOf22 w⟩) rfl rfl ?_
   refine WL_nil ?_
   refine WA_takeG 18 rfl (by kernel_rfl) (by kernel_rfl) (by kernel_rfl) rfl rfl rfl (fl_move rfl) ?_
   refine WL_guard rfl rfl ?_
   refine WL_move rfl rfl ?_
   refine WL_nil ?_
   obtain ⟨x5, hx2, hr1⟩ := bind_some hr1
   refine WA.sub (l' := [(0, (.int .i64 a1)), (1, (ptr pb1 0)), (2, (ptr pb2 0)), (4, (.bool false)), (5, (.int .i64 a1)), (6, (ptr pb1 (0 + 1))), (7, v1), (8, (.int .i64 (List.length ax1.2 : Int))), (9, (.int .i64 (w64 ((List.length ax1.2 : Int) - 1)))), (10, (.bool x2)), (11, (.bool (!x2))), (12, (.bool false)), (13, (ptr pb1 (0 + 1))), (14, v2), (15, (.int .i64 a1)), (16, (ptr b1 o1)), (17, (.int .i64 x3)), (18, (.bool x4)), (19, (.bool true)), (21, (ptr pb1 (0 + 1))), (23, (.int .i64 a1))]) ?_ ⟨rfl, rfl, rfl, rfl, rfl, rfl, rfl, rfl, rfl, rfl, rfl, rfl, rfl, rfl, rfl, rfl, rfl, rfl, rfl, rfl, rfl, trivial⟩
   refine WA_postsE [⟨15, [], fun vs => PW.ro [] w0 ax2, []⟩, ⟨17, [], fun vs => PW.ro [] w0 ax1.2, []⟩, ⟨19, [], fun vs => PW.at [] w0 x5, []⟩, ⟨20, [], fun vs => PW.val (.int .i64 x5), []⟩] [[], [], [17], [19]] 5 rfl (by kernel_rfl) (by kernel_rfl) rfl ?_ ?_
   ·refine StepsE_cons rfl ?_ ?_
    ·intro w5 hB5
     refine DepsE_nil ?_
     refine ⟨_, rfl, ?_⟩
     refine WL_guard rfl rfl ?_
     refine WL_load ty22 g2 (hC4.keep.then hB5) rfl rfl (fun v4 h5 => ?_)
     refine WL_nil ?_
     exact FinE_val (Below.refl _ _) rfl rfl ⟨rfl, h5⟩
    refine StepsE_cons rfl ?_ ?_
    ·intro w5 hB5
     refine DepsE_nil ?_
     refine ⟨_, rfl, ?_⟩
     refine WL_guard rfl rfl ?_
     refine WL_load ty22 g1.snd (hC4.keep.then hB5) rfl rfl (fun v5 h6 => ?_)
     refine WL_nil ?_
     exact FinE_val (Below.refl _ _) rfl rfl ⟨rfl, h6⟩
    refine StepsE_cons rfl ?_ ?_
    ·intro w5 hB5
     refine DepsE_cons rfl rfl rfl ?_
     rintro v5 _ ⟨rfl, h6⟩ _
     refine DepsE_nil ?_
     refine ⟨_, rfl, ?_⟩
     refine WL_guard rfl rfl ?_
     refine WL_index Tryz.underlying22 ty3 h6 hx2 rfl rfl rfl (fun b2 o2 h7 => ?_)
     refine WL_nil ?_
     exact FinE_val (Below.refl _ _) rfl rfl ⟨rfl, _, _, rfl, h7⟩
    refine StepsE_cons rfl ?_ ?_
    ·intro w5 hB5
     refine DepsE_cons rfl rfl rfl ?_
     rintro _ _ ⟨rfl, b2, o2, rfl, h7⟩ _
     refine DepsE_nil ?_
     refine ⟨_, rfl, ?_⟩
     refine WL_guard rfl rfl ?_
     refine WL_load ty3 h7 (hC4.keep.then hB5) rfl rfl (fun v6 h8 => ?_)
     obtain rfl := ro_int h8
     refine WL_nil ?_
     exact FinE_val (Below.refl _ _) rfl rfl ⟨rfl, rfl⟩
    exact StepsE_nil
   intro w6 hB6
   refine AllE_cons rfl rfl rfl ?_
   rintro v4 _ ⟨rfl, h5⟩
   refine AllE_cons rfl rfl rfl ?_
   rintro v5 _ ⟨rfl, h6⟩
   refine AllE_cons rfl rfl rfl ?_
   rintro _ _ ⟨rfl, b2, o2, rfl, h7⟩
   refine AllE_cons rfl rfl rfl ?_
   rintro _ _ ⟨rfl, rfl⟩
   refine AllE_nil ?_
   intro hn1 hb1
   have hC5 := hC4.grow hB6
   obtain ⟨x6, hr4, hr1⟩ := bind_some hr1
   refine WA_one 21 (by kernel_rfl) rfl ?_
   refine WL_guard rfl rfl ?_
   refine WL_call Tryz.call66 rfl rfl (c_Slices_Contains_Lint_int ax2 v4 (h5.now hC5.keep) x5 x6 hr4) ?_
   intro _ w7 hv3
   obtain ⟨rfl, hB7⟩ := res_bool hv3
   have hC6 := hC5.grow hB7
   refine WL_nil ?_
   refine WA_takeG 22 rfl (by kernel_rfl) (by kernel_rfl) (by kernel_rfl) rfl rfl rfl (fl_not rfl) ?_
   refine WL_guard rfl rfl ?_
   refine WL_not rfl rfl ?_
   refine WL_nil ?_
   refine WA_takeG 23 rfl (by kernel_rfl) (by kernel_rfl) (by kernel_rfl) rfl rfl rfl (fl_pick_t rfl rfl) ?_
   refine WL_guard rfl rfl ?_
   refine WL_pick_t rfl rfl rfl ?_
   refine WL_nil ?_
   refine WA_tk 24 (by kernel_rfl) rfl rfl (fl_pick_f rfl rfl) ?_
   refine WL_pick_f rfl rfl rfl ?_
   refine WL_nil ?_
   refine WA_tk 25 (by kernel_rfl) rfl rfl (fl_assign rfl) ?_
   refine WL_assign rfl rfl ?_
   refine WL_nil ?_
   refine WA_done (by kernel_rfl) ?_
   have hq2 := Option.some.inj hr1
   subst hq2
   refine nrm_sub (l' := [(4, (.bool (!x6)))]) ⟨rfl, trivial⟩ ?_
   exact ⟨(!x6), rfl, rfl, (((((Keep.of hB2).then hB3).then hB4).then hB6).then hB7).below, hC6⟩
  replace hr1 := ite_f hr1 hc2
  refine WA_sk 15 (by kernel_rfl) rfl rfl rfl rfl (by simp) rfl rfl ?_
  refine WA_sk 16 (by kernel_rfl) rfl rfl rfl rfl (by simp) rfl rfl ?_
  refine WA_sk 17 (by kernel_rfl) rfl rfl rfl rfl (by simp) rfl rfl ?_
  refine WA_sk 18 (by kernel_rfl) rfl rfl rfl rfl (by simp) rfl rfl ?_
  refine WA_sk 19 (by kernel_rfl) rfl rfl rfl rfl (by simp) rfl rfl ?_
  refine WA_sk 20 (by kernel_rfl) rfl rfl rfl rfl (by simp) rfl rfl ?_
  refine WA_sk 21 (by kernel_rfl) rfl rfl rfl rfl (by simp) rfl rfl ?_
  refine WA_sk 22 (by kernel_rfl) rfl rfl rfl rfl (by simp) rfl rfl ?_
  refine WA_takeG 23 rfl (by kernel_rfl) (by kernel_rfl) (by kernel_rfl) rfl rfl rfl (fl_pick_f rfl rfl) ?_
  refine WL_guard rfl rfl ?_
  refine WL_pick_f rfl rfl rfl ?_
  refine WL_nil ?_
  refine WA_tk 24 (by kernel_rfl) rfl rfl (fl_pick_f rfl rfl) ?_
  refine WL_pick_f rfl rfl rfl ?_
  refine WL_nil ?_
  refine WA_tk 25 (by kernel_rfl) rfl rfl (fl_assign rfl) ?_
  refine WL_assign rfl rfl ?_
  refine WL_nil ?_
  refine WA_done (by kernel_rfl) ?_
  have hq3 := Option.some.inj hr1
  subst hq3
  refine nrm_sub (l' := [(4, (.bool false))]) ⟨rfl, trivial⟩ ?_
  exact ⟨false, rfl, rfl, (((Keep.of hB2).then hB3).then hB4).below, hC4⟩
 rintro _ w1 ⟨x1, rfl, rfl, hB1, hC1⟩
 try dsimp only at hF
 refine W_ret ?_
 have hq4 := Option.some.inj hF
 subst hq4
 refine fn_ret1 rfl rfl ?_
 exact ⟨_, rfl, bool_res hC1 _⟩

theorem c_Slices_IndexFunc_Lint_int_M_CanCall_c1 {w0 : World} (a1 : (List Int)) (u1 : Value) (g1 : RO [] w0 u1 a1) (pb1 : Nat) (ax1 : (Int × (List Int))) (g2 : ROAt [] w0 pb1 0 ax1) (pb2 : Nat) (ax2 : (List Int)) (g3 : ROAt [] w0 pb2 0 ax2) (rr : Int) (hF : Slices.IndexFunc_Lint_int_M_CanCall_c1 a1 ax1 ax2 = some rr) :
 Calls Tryz.prog 99 [u1, (.func (.func 108) #[] #[(ptr pb1 0), (ptr pb2 0)])].toArray w0 fun e w' => ∃ v, e = .returned v ∧ Res w0 rr v w' := by
 refine calls_of_W Tryz.func99 rfl rfl ?_
 have hC0 := Ctx.start w0
 unfold Slices.IndexFunc_Lint_int_M_CanCall_c1 at hF
 refine W_seq_reg ?_
 refine WL_assign rfl rfl ?_
 refine WL_nil (W_seq (W_seq_reg ?_))
 refine WL_move rfl rfl ?_
 refine WL_len Tryz.underlying22 g1 rfl rfl ?_
 refine WL_move rfl rfl ?_
 refine WL_nil ?_
 obtain ⟨r1, hr1, hF⟩ := bind_some hF
 refine W_norm (fun l w => .inl () = r1 ∧ l = [] ∧ Below w0.heap.size w0 w ∧ Ctx [] w0 w []) ?_ ?_
 ·refine W_block ?_
  refine W.sub (l' := [(0, u1), (1, (.func (.func 108) #[] #[(ptr pb1 0), (ptr pb2 0)])), (7, (.int .i64 (List.length a1 : Int))), (8, (.int .i64 0))]) ?_ ⟨rfl, rfl, rfl, rfl, trivial⟩
  refine W_loop (fun k l w => ∃ x1 : Int, l = [(0, u1), (1, (.func (.func 108) #[] #[(ptr pb1 0), (ptr pb2 0)])), (7, (.int .i64 (List.length a1 : Int))), (8, (.int .i64 x1))] ∧ Below w0.heap.size w0 w ∧ Ctx [] w0 w [] ∧ Slices.IndexFunc_Lint_int_M_CanCall_c1_l1 a1 ax1 ax2 k x1 = some r1) FUEL ⟨0, rfl, (Below.refl _ _), hC0, hr1⟩ ?_
  clear hr1
  rintro k1 _ w1 ⟨x1, rfl, hB1, hC1, hL1⟩
  cases k1 with
  | zero => rw [Slices.IndexFunc_Lint_int_M_CanCall_c1_l1] at hL1; cases hL1
  | succ k1 =>
   rw [Slices.IndexFunc_Lint_int_M_CanCall_c1_l1] at hL1
   refine W_seq_reg ?_
   refine WL_lss rfl rfl rfl ?_
   refine WL_nil (W_seq ?_)
   refine W_cond rfl (fun hc1 => ?_) (fun hc1 => ?_)
   ·replace hL1 := ite_t hL1 hc1
    refine W_skip (nrm_normal (W_seq (W_block (W_seq_reg ?_))))
    refine WL_move rfl rfl ?_
    refine WL_assign rfl rfl ?_
    refine WL_nil (W_seq_reg ?_)
    refine WL_move rfl rfl ?_
    refine WL_move rfl rfl ?_
    refine WL_move rfl rfl ?_
    obtain ⟨x2, hx1, hL1⟩ := bind_some hL1
    refine WL_index Tryz.underlying22 ty3 g1 hx1 rfl rfl rfl (fun b1 o1 h1 => ?_)
    refine WL_load ty3 h1 hC1.keep rfl rfl (fun v1 h2 => ?_)
    obtain rfl := ro_int h2
    obtain ⟨x3, hr2, hL1⟩ := bind_some hL1
    refine WL_callv (cap := [(ptr pb1 0), (ptr pb2 0)]) Tryz.call108 rfl rfl rfl (c_M_CanCall_c1 x2 pb1 ax1 (g2.now hC1.keep) pb2 ax2 (g3.now hC1.keep) x3 hr2) ?_
    intro _ w2 hv1
    obtain ⟨rfl, hB2⟩ := res_bool hv1
    have hC2 := hC1.grow hB2
    refine WL_nil ?_
    refine W_cond rfl (fun hc2 => ?_) (fun hc2 => ?_)
    ·replace hL1 := ite_t hL1 hc2
     refine W_seq_reg ?_
     refine WL_move rfl rfl ?_
     refine WL_assign rfl rfl ?_
     refine WL_nil (W_ret (blk_ret (nrm_ret (nrm_ret (blk_ret (nrm_ret (nrm_ret ?_)))))))
     have hq1 := Option.some.inj hL1
     subst hq1
     dsimp only at hF
     have hq2 := Option.some.inj hF
     subst hq2
     refine fn_ret1 rfl rfl ?_
     exact ⟨_, rfl, int_res hC2 _⟩
    replace hL1 := ite_f hL1 hc2
    refine W_skip (blk_normal (nrm_normal (W_reg ?_)))
    refine WL_add rfl rfl rfl ?_
    refine WL_move rfl rfl ?_
    refine WL_nil ?_
    refine nrm_sub (l' := [(0, u1), (1, (.func (.func 108) #[] #[(ptr pb1 0), (ptr pb2 0)])), (7, (.int .i64 (List.length a1 : Int))), (8, (.int .i64 (w64 (x1 + 1))))]) ⟨rfl, rfl, rfl, rfl, trivial⟩ ?_
    exact ⟨k1, Nat.lt_succ_self _, w64 (x1 + 1), rfl, ((Keep.of hB1).then hB2).below, hC2, hL1⟩
   replace hL1 := ite_f hL1 hc1
   refine W_exit (nrm_exit (nrm_exit (blk_exit ?_)))
   have hq3 := Option.some.inj hL1
   subst hq3
   refine nrm_sub (l' := []) trivial ?_
   exact ⟨rfl, rfl, (Keep.of hB1).below, hC1⟩
 rintro l2 _ w3 hs2 ⟨rfl, rfl, hB3, hC3⟩
 try dsimp only at hF
 refine nrm_sub' hs2 ?_
 clear hs2
 refine W_seq_reg ?_
 refine WL_assign rfl rfl ?_
 refine WL_nil (W_ret ?_)
 have hq4 := Option.some.inj hF
 subst hq4
 refine fn_ret1 rfl rfl ?_
 exact ⟨_, rfl, int_res hC3 _⟩

theorem c_Slices_ContainsFunc_Lint_int_M_CanCall_c1 {w0 : World} (a1 : (List Int)) (u1 : Value) (g1 : RO [] w0 u1 a1) (pb1 : Nat) (ax1 : (Int × (List Int))) (g2 : ROAt [] w0 pb1 0 ax1) (pb2 : Nat) (ax2 : (List Int)) (g3 : ROAt [] w0 pb2 0 ax2) (rr : Bool) (hF : Slices.ContainsFunc_Lint_int_M_CanCall_c1 a1 ax1 ax2 = some rr) :
 Calls Tryz.prog 71 [u1, (.func (.func 108) #[] #[(ptr pb1 0), (ptr pb2 0)])].toArray w0 fun e w' => ∃ v, e = .returned v ∧ Res w0 rr v w' := by
 refine calls_of_W Tryz.func71 rfl rfl ?_
 have hC0 := Ctx.start w0
 unfold Slices.ContainsFunc_Lint_int_M_CanCall_c1 at hF
 refine W_seq_reg ?_
 refine WL_assign rfl rfl ?_
 refine WL_nil (W_seq_reg ?_)
 refine WL_move rfl rfl ?_
 refine WL_move rfl rfl ?_
 obtain ⟨x1, hr1, hF⟩ := bind_some hF
 refine WL_call Tryz.call99 rfl rfl (c_Slices_IndexFunc_Lint_int_M_CanCall_c1 a1 u1 (g1.now hC0.keep) pb1 ax1 (g2.now hC0.keep) pb2 ax2 (g3.now hC0.keep) x1 hr1) ?_
 intro _ w1 hv1
 obtain ⟨rfl, hB1⟩ := res_int hv1
 have hC1 := hC0.grow hB1
 refine WL_geq rfl rfl rfl ?_
 refine WL_assign rfl rfl ?_
 refine WL_nil (W_ret ?_)
 have hq1 := Option.some.inj hF
 subst hq1
 refine fn_ret1 rfl rfl ?_
 exact ⟨_, rfl, bool_res hC1 _⟩

theorem c_M_CanCall {w0 : World} (a1 : (Int × (List Int) × Int × Int × Int)) (u1 : Value) (g1 : RO [] w0 u1 a1.2.1) (a2 : (Int × (List Int))) (u2 : Value) (g2 : RO [] w0 u2 a2.2) (a3 : (List Int)) (u3 : Value) (g3 : RO [] w0 u3 a3) (rr : Bool) (hF : M.CanCall a1 a2 a3 = some rr) :
 Calls Tryz.prog 86 [(.agg #[(.int .i64 a1.1), u1, (.int .i64 a1.2.2.1), (.int .i64 a1.2.2.2.1), (.int .i64 a1.2.2.2.2)]), (.agg #[(.int .i64 a2.1), u2]), u3].toArray w0 fun e w' => ∃ v, e = .returned v ∧ Res w0 rr v w' := by
 refine calls_of_W Tryz.func86 rfl rfl ?_
 have hC0 := Ctx.start w0
 unfold M.CanCall at hF
 refine W_seq_reg ?_
 refine WL_boxK (cs := [(.int .i64 a1.1), u1, (.int .i64 a1.2.2.1), (.int .i64 a1.2.2.2.1), (.int .i64 a1.2.2.2.2)]) hC0 rfl rfl rfl (fun b1 w1 hC1 hB1 hN1 => ?_)
 refine WL_boxK (cs := [(.int .i64 a2.1), u2]) hC1 rfl rfl rfl (fun b2 w2 hC2 hB2 hN2 => ?_)
 refine WL_boxK (cs := [u3]) hC2 (ro_cells g3) rfl rfl (fun b3 w3 hC3 hB3 hN3 => ?_)
 refine WL_assign rfl rfl ?_
 refine WL_nil ?_
 obtain ⟨r1, hr1, hF⟩ := bind_some hF
 refine W_cut (fun l w => ∃ x1 : Bool, x1 = r1 ∧ l = [(6, (.bool x1))] ∧ Below w3.heap.size w3 w ∧ Ctx [] w0 w []) ?_ ?_
 ·refine W_reg ?_
  refine WL_field Tryz.underlying71 rfl rfl (fun w => ⟨_, Tryz.sizeOf3 w⟩) rfl rfl ?_
  refine WL_load_box hC3 2 rfl rfl Tryz.isAgg3 rfl rfl ?_
  refine WL_field Tryz.underlying84 rfl rfl (fun w => ⟨_, Tryz.sizeOf3 w⟩) rfl rfl ?_
  refine WL_load_box hC3 1 rfl rfl Tryz.isAgg3 rfl rfl ?_
  refine WL_eql rfl rfl rfl ?_
  refine WL_move rfl rfl ?_
  refine WL_fork (fun hc1 => ?_) (fun hc1 => ?_)
  ·replace hr1 := ite_t hr1 hc1
   refine WL_guard rfl rfl ?_
   refine WL_field Tryz.underlying71 rfl rfl (fun w => ⟨_, Tryz.sizeOf22 w⟩) rfl rfl ?_
   refine WL_guard rfl rfl ?_
   refine WL_load_box hC3 2 rfl rfl Tryz.isAgg22 rfl rfl ?_
   refine WL_guard rfl rfl ?_
   refine WL_makeFunc rfl rfl ?_
   obtain ⟨x2, hr2, hr1⟩ := bind_some hr1
   refine WL_guard rfl rfl ?_
   refine WL_call Tryz.call71 rfl rfl (c_Slices_ContainsFunc_Lint_int_M_CanCall_c1 a1.2.1 u1 (g1.now hC3.keep) b2 (a2.1, a2.2) (hC3.boxAt 1 rfl (repw_pair repw_int (repw_slice (g2.now hC3.keep)))) b3 a3 (hC3.boxAt 0 rfl (repw_slice (g3.now hC3.keep))) x2 hr2) ?_
   intro _ w5 hv1
   obtain ⟨rfl, hB5⟩ := res_bool hv1
   have hC5 := hC3.grow hB5
   refine WL_guard rfl rfl ?_
   refine WL_not rfl rfl ?_
   refine WL_pick_t rfl rfl rfl ?_
   refine WL_assign rfl rfl ?_
   refine WL_nil ?_
   have hq1 := Option.some.inj hr1
   subst hq1
   have hC6 := hC5.h0
   refine nrm_sub (l' := [(6, (.bool (!x2)))]) ⟨rfl, trivial⟩ ?_
   exact ⟨(!x2), rfl, rfl, (Keep.of hB5).below, hC6⟩
  replace hr1 := ite_f hr1 hc1
  refine WL_guard_skip rfl rfl (by simp) rfl ?_
  refine WL_guard_skip rfl rfl (by simp) rfl ?_
  refine WL_guard_skip rfl rfl (by simp) rfl ?_
  refine WL_guard_skip rfl rfl (by simp) rfl ?_
  refine WL_guard_skip rfl rfl (by simp) rfl ?_
  refine WL_pick_f rfl rfl rfl ?_
  refine WL_assign rfl rfl ?_
  refine WL_nil ?_
  have hq2 := Option.some.inj hr1
  subst hq2
  have hC7 := hC3.h0
  refine nrm_sub (l' := [(6, (.bool false))]) ⟨rfl, trivial⟩ ?_
  exact ⟨false, rfl, rfl, (Below.refl _ _), hC7⟩
 rintro _ w4 ⟨x1, rfl, rfl, hB4, hC4⟩
 try dsimp only at hF
 refine W_ret ?_
 have hq3 := Option.some.inj hF
 subst hq3
 refine fn_ret1 rfl rfl ?_
 exact ⟨_, rfl, bool_res hC4 _⟩

theorem c_M_IsOrder {w0 : World} (a1 : (List Int)) (u1 : Value) (g1 : RO [] w0 u1 a1) (a2 : (List (Int × (List Int) × Int × Int × Int))) (u2 : Value) (g2 : RO [] w0 u2 a2) (a3 : ((List Int) × (List (Int × (List Int))))) (u3 : Value) (g3 : RO [] w0 u3 a3.1) (u4 : Value) (g4 : RO [] w0 u4 a3.2) (a4 : (List (Int × Int))) (u5 : Value) (g5 : RO [] w0 u5 a4) (rr : Bool) (hF : M.IsOrder a1 a2 a3 a4 = some rr) :
 Calls Tryz.prog 48 [u1, u2, (.agg #[u3, u4]), u5].toArray w0 fun e w' => ∃ v, e = .returned v ∧ Res w0 rr v w' := by
 refine calls_of_W Tryz.func48 rfl rfl ?_
 have hC0 := Ctx.start w0
 unfold M.IsOrder at hF
 refine W_seq_reg ?_
 refine WL_boxK (cs := [u3, u4]) hC0 rfl rfl rfl (fun b1 w1 hC1 hB1 hN1 => ?_)
 refine WL_assign rfl rfl ?_
 refine WL_nil (W_seq ?_)
 obtain ⟨r1, hr1, hF⟩ := bind_some hF
 refine W_cut (fun l w => ∃ x1 : Bool, x1 = r1 ∧ l = [(1, u2), (3, u5), (6, (ptr b1 0)), (25, (.bool x1))] ∧ Below w1.heap.size w1 w ∧ Ctx [] w0 w [Item.box b1 [u3, u4]]) ?_ ?_
 ·refine W_reg ?_
  refine WL_move rfl rfl ?_
  refine WL_move rfl rfl ?_
  refine WL_load_box_agg [u3, u4] hC1 0 rfl rfl rfl Tryz.isAgg37 Tryz.sizeOf37 rfl rfl ?_
  obtain ⟨x2, hr2, hr1⟩ := bind_some hr1
  refine WL_call Tryz.call58 rfl rfl (c_M_areAsked a1 u1 (g1.now hC1.keep) a2 u2 (g2.now hC1.keep) (a3.1, a3.2) u3 (g3.now hC1.keep) u4 (g4.now hC1.keep) x2 hr2) ?_
  intro _ w3 hv1
  obtain ⟨rfl, hB3⟩ := res_bool hv1
  have hC3 := hC1.grow hB3
  refine WL_not rfl rfl ?_
  refine WL_move rfl rfl ?_
  refine WL_fork (fun hc1 => ?_) (fun hc1 => ?_)
  ·replace hr1 := ite_t hr1 hc1
   refine WL_guard_skip rfl rfl (by simp) rfl ?_
   refine WL_guard_skip rfl rfl (by simp) rfl ?_
   refine WL_guard_skip rfl rfl (by simp) rfl ?_
   refine WL_guard_skip rfl rfl (by simp) rfl ?_
   refine WL_guard_skip rfl rfl (by simp) rfl ?_
   refine WL_guard_skip rfl rfl (by simp) rfl ?_
   refine WL_pick_t rfl rfl rfl ?_
   refine WL_nil ?_
   have hq1 := Option.some.inj hr1
   subst hq1
   refine nrm_sub (l' := [(1, u2), (3, u5), (6, (ptr b1 0)), (25, (.bool true))]) ⟨rfl, rfl, rfl, rfl, trivial⟩ ?_
   exact ⟨true, rfl, rfl, (Keep.of hB3).below, hC3⟩
  replace hr1 := ite_f hr1 hc1
  refine WL_guard rfl rfl ?_
  refine WL_move rfl rfl ?_
  refine WL_guard rfl rfl ?_
  refine WL_len Tryz.underlying39 g5 rfl rfl ?_
  refine WL_guard rfl rfl ?_
  refine WL_field Tryz.underlying37 rfl rfl (fun w => ⟨_, Tryz.sizeOf35 w⟩) rfl rfl ?_
  refine WL_guard rfl rfl ?_
  refine WL_load_box hC3 0 rfl rfl Tryz.isAgg35 rfl rfl ?_
  refine WL_guard rfl rfl ?_
  refine WL_len Tryz.underlying35 g4 rfl rfl ?_
  refine WL_guard rfl rfl ?_
  refine WL_neq rfl rfl rfl ?_
  refine WL_pick_f rfl rfl rfl ?_
  refine WL_nil ?_
  have hq2 := Option.some.inj hr1
  subst hq2
  refine nrm_sub (l' := [(1, u2), (3, u5), (6, (ptr b1 0)), (25, (.bool (!decide ((List.length a4 : Int) = (List.length a3.2 : Int)))))]) ⟨rfl, rfl, rfl, rfl, trivial⟩ ?_
  exact ⟨(!decide ((List.length a4 : Int) = (List.length a3.2 : Int))), rfl, rfl, (Keep.of hB3).below, hC3⟩
 rintro _ w2 ⟨x1, rfl, rfl, hB2, hC2⟩
 try dsimp only at hF
 refine W_cond rfl (fun hc2 => ?_) (fun hc2 => ?_)
 ·replace hF := ite_t hF hc2
  refine W_seq_reg ?_
  refine WL_assign rfl rfl ?_
  refine WL_nil (W_ret (nrm_ret ?_))
  have hq3 := Option.some.inj hF
  subst hq3
  refine fn_ret1 rfl rfl ?_
  exact ⟨_, rfl, bool_res hC2 _⟩
 replace hF := ite_f hF hc2
 refine W_skip (nrm_normal (W_seq_reg ?_))
 refine WL_field Tryz.underlying37 rfl rfl (fun w => ⟨_, Tryz.sizeOf35 w⟩) rfl rfl ?_
 refine WL_load_box hC2 0 rfl rfl Tryz.isAgg35 rfl rfl ?_
 refine WL_len Tryz.underlying35 g4 rfl rfl ?_
 obtain ⟨x3, hx1, hF⟩ := bind_some hF
 refine WL_makeSlice hC2 Tryz.underlying107 ty4 rfl zc4 zr4 hx1 rfl rfl rfl (fun b2 w4 hC4 hB4 => ?_)
 refine WL_assign rfl rfl ?_
 refine WL_nil (W_seq_reg ?_)
 refine WL_buildSlice (vs := []) hC4 Tryz.underlying22 ty3 rfl rfl rfl rfl (by simp) rfl rfl (fun b3 w5 hC5 hB5 => ?_)
 have hC6 := hC5.row0 (α := Int)
 have hC7 := hC6.front 1 rfl
 dsimp only [List.eraseIdx, List.cons_append, List.nil_append, List.append_nil] at hC7
 have hC8 : Ctx [] w0 w5 (Item.own (.slice (some ⟨b3, 0, none⟩) 0 0) (([] : List Int) : List Int) :: [Item.own (.slice (some ⟨b2, 0, none⟩) (Int.toNat (List.length a3.2 : Int)) (Int.toNat (List.length a3.2 : Int))) (x3 : (List Bool)), Item.box b1 [u3, u4]]) := hC7.rowOwn (by simp [maxLen])
 refine WL_assign rfl rfl ?_
 refine WL_nil (W_seq (W_seq_reg ?_))
 refine WL_move rfl rfl ?_
 refine WL_len Tryz.underlying39 g5 rfl rfl ?_
 refine WL_move rfl rfl ?_
 refine WL_nil ?_
 obtain ⟨r2, hr3, hF⟩ := bind_some hF
 refine W_norm (fun l w => .inl () = r2 ∧ l = [] ∧ Ctx [] w0 w []) ?_ ?_
 ·refine W_block ?_
  refine W.sub (l' := [(1, u2), (6, (ptr b1 0)), (9, (.slice (some ⟨b2, 0, none⟩) (Int.toNat (List.length a3.2 : Int)) (Int.toNat (List.length a3.2 : Int)))), (10, (.slice (some ⟨b3, 0, none⟩) 0 0)), (31, u5), (32, (.int .i64 (List.length a4 : Int))), (33, (.int .i64 0))]) ?_ ⟨rfl, rfl, rfl, rfl, rfl, rfl, rfl, trivial⟩
  refine W_loop (fun k l w => ∃ x4 : (List Bool), ∃ v1 : Value, ∃ x5 : (List Int), ∃ x6 : Int, l = [(1, u2), (6, (ptr b1 0)), (9, (.slice (some ⟨b2, 0, none⟩) (Int.toNat (List.length a3.2 : Int)) (Int.toNat (List.length a3.2 : Int)))), (10, v1), (31, u5), (32, (.int .i64 (List.length a4 : Int))), (33, (.int .i64 x6))] ∧ Ctx [] w0 w [Item.own v1 (x5 : (List Int)), Item.own (.slice (some ⟨b2, 0, none⟩) (Int.toNat (List.length a3.2 : Int)) (Int.toNat (List.length a3.2 : Int))) (x4 : (List Bool)), Item.box b1 [u3, u4]] ∧ M.IsOrder_l1 a4 a3 a2 k x4 x5 x6 = some r2) FUEL ⟨x3, (.slice (some ⟨b3, 0, none⟩) 0 0), ([] : List Int), 0, rfl, hC8, hr3⟩ ?_
  clear hr3
  rintro k1 _ w6 ⟨x4, v1, x5, x6, rfl, hC9, hL1⟩
  cases k1 with
  | zero => rw [M.IsOrder_l1] at hL1; cases hL1
  | succ k1 =>
   rw [M.IsOrder_l1] at hL1
   refine W_seq_reg ?_
   refine WL_lss rfl rfl rfl ?_
   refine WL_nil (W_seq ?_)
   refine W_cond rfl (fun hc3 => ?_) (fun hc3 => ?_)
   ·replace hL1 := ite_t hL1 hc3
    refine W_skip (nrm_normal (W_seq (W_block (W_seq_reg ?_))))
    obtain ⟨x7, hx2, hL1⟩ := bind_some hL1
    refine WL_index Tryz.underlying39 ty75 g5 hx2 rfl rfl rfl (fun b4 o1 h1 => ?_)
    refine WL_load ty75 h1 hC9.keep rfl rfl (fun v2 h2 => ?_)
    obtain rfl := ro_st75 h2
    refine WL_allocK hC9 zero75 rfl rfl (fun b5 w7 hC10 hB7 hN2 => ?_)
    refine WL_store_box_aggK (cs' := [(.int .i64 x7.1), (.int .i64 x7.2)]) (new := [(.int .i64 x7.1), (.int .i64 x7.2)]) hC10 0 rfl rfl (by intro v hv; simp only [List.mem_cons, List.not_mem_nil, or_false] at hv; rcases hv with rfl | rfl; exact rfl; exact rfl) rfl Tryz.sizeOf75 rfl rfl (fun w9 hC11 hKp1 => ?_)
    try dsimp only [List.set] at hC11
    have hk1 := Keep.over (Keep.of hB7) hN2 hKp1
    refine WL_nil (W_seq ?_)
    obtain ⟨r3, hr4, hL1⟩ := bind_some hL1
    refine W_cut (fun l w => ∃ x8 : Bool, x8 = r3 ∧ l = [(1, u2), (6, (ptr b1 0)), (9, (.slice (some ⟨b2, 0, none⟩) (Int.toNat (List.length a3.2 : Int)) (Int.toNat (List.length a3.2 : Int)))), (10, v1), (12, (ptr b5 0)), (31, u5), (32, (.int .i64 (List.length a4 : Int))), (33, (.int .i64 x6)), (76, (.bool x8))] ∧ Below w9.heap.size w9 w ∧ Ctx [] w0 w [Item.box b5 [(.int .i64 x7.1), (.int .i64 x7.2)], Item.own v1 (x5 : (List Int)), Item.own (.slice (some ⟨b2, 0, none⟩) (Int.toNat (List.length a3.2 : Int)) (Int.toNat (List.length a3.2 : Int))) (x4 : (List Bool)), Item.box b1 [u3, u4]]) ?_ ?_
    ·refine W_drawn 40 rfl hmix (fun w11 hB9 => ?_)
     have hC13 := hC11.grow hB9
     refine WA_tk 0 (by kernel_rfl) rfl rfl (fl_field Tryz.underlying75 rfl rfl (fun w => ⟨_, Tryz.sizeOf3 w⟩) rfl) ?_
     refine WL_field Tryz.underlying75 rfl rfl (fun w => ⟨_, Tryz.sizeOf3 w⟩) rfl rfl ?_
     refine WL_nil ?_
     refine WA_tk 2 (by kernel_rfl) rfl rfl (fl_field Tryz.underlying37 rfl rfl (fun w => ⟨_, Tryz.sizeOf35 w⟩) rfl) ?_
     refine WL_field Tryz.underlying37 rfl rfl (fun w => ⟨_, Tryz.sizeOf35 w⟩) rfl rfl ?_
     refine WL_nil ?_
     refine WA.sub (l' := [(1, u2), (6, (ptr b1 0)), (9, (.slice (some ⟨b2, 0, none⟩) (Int.toNat (List.length a3.2 : Int)) (Int.toNat (List.length a3.2 : Int)))), (10, v1), (12, (ptr b5 0)), (31, u5), (32, (.int .i64 (List.length a4 : Int))), (33, (.int .i64 x6)), (34, (.bool (decide (x6 < (List.length a4 : Int))))), (35, (ptr b4 o1)), (36, (.agg #[(.int .i64 x7.1), (.int .i64 x7.2)])), (37, (ptr b5 0)), (39, (ptr b1 1))]) ?_ ⟨rfl, rfl, rfl, rfl, rfl, rfl, rfl, rfl, rfl, rfl, rfl, rfl, rfl, trivial⟩
     refine WA_postsE [⟨1, [], fun vs => PW.val (.int .i64 x7.1), []⟩, ⟨3, [], fun vs => PW.val u4, []⟩, ⟨4, [], fun vs => PW.val (.int .i64 (List.length a3.2 : Int)), []⟩, ⟨5, [], fun vs => PW.val (.int .i64 (w64 ((List.length a3.2 : Int) - 1))), []⟩] [[], [], [3], [4]] 34 rfl (by kernel_rfl) (by kernel_rfl) rfl ?_ ?_
     ·refine StepsE_cons rfl ?_ ?_
      ·intro w12 hB10
       refine DepsE_nil ?_
       refine ⟨_, rfl, ?_⟩
       refine WL_load_box (hC13.grow hB10) 0 rfl rfl Tryz.isAgg3 rfl rfl ?_
       refine WL_nil ?_
       exact FinE_val (Below.refl _ _) rfl rfl ⟨rfl, rfl⟩
      refine StepsE_cons rfl ?_ ?_
      ·intro w12 hB10
       refine DepsE_nil ?_
       refine ⟨_, rfl, ?_⟩
       refine WL_load_box (hC13.grow hB10) 3 rfl rfl Tryz.isAgg35 rfl rfl ?_
       refine WL_nil ?_
       exact FinE_val (Below.refl _ _) rfl rfl ⟨rfl, rfl⟩
      refine StepsE_cons rfl ?_ ?_
      ·intro w12 hB10
       refine DepsE_cons rfl rfl rfl ?_
       rintro _ _ ⟨rfl, rfl⟩ _
       refine DepsE_nil ?_
       refine ⟨_, rfl, ?_⟩
       refine WL_len Tryz.underlying35 g4 rfl rfl ?_
       refine WL_nil ?_
       exact FinE_val (Below.refl _ _) rfl rfl ⟨rfl, rfl⟩
      refine StepsE_cons rfl ?_ ?_
      ·intro w12 hB10
       refine DepsE_cons rfl rfl rfl ?_
       rintro _ _ ⟨rfl, rfl⟩ _
       refine DepsE_nil ?_
       refine ⟨_, rfl, ?_⟩
       refine WL_sub rfl rfl rfl ?_
       refine WL_nil ?_
       exact FinE_val (Below.refl _ _) rfl rfl ⟨rfl, rfl⟩
      exact StepsE_nil
     intro w13 hB11
     refine AllE_cons rfl rfl rfl ?_
     rintro _ _ ⟨rfl, rfl⟩
     refine AllE_cons rfl rfl rfl ?_
     rintro _ _ ⟨rfl, rfl⟩
     refine AllE_cons rfl rfl rfl ?_
     rintro _ _ ⟨rfl, rfl⟩
     refine AllE_cons rfl rfl rfl ?_
     rintro _ _ ⟨rfl, rfl⟩
     refine AllE_nil ?_
     intro hn1 hb1
     have hC14 := hC13.grow hB11
     obtain ⟨x9, hr5, hr4⟩ := bind_some hr4
     refine WA_one 6 (by kernel_rfl) rfl ?_
     refine WL_call Tryz.call78 rfl rfl (c_M_within x7.1 0 (w64 ((List.length a3.2 : Int) - 1)) x9 hr5) ?_
     intro _ w14 hv2
     obtain ⟨rfl, hB12⟩ := res_bool hv2
     have hC15 := hC14.grow hB12
     refine WL_nil ?_
     refine WA_tk 7 (by kernel_rfl) rfl rfl (fl_not rfl) ?_
     refine WL_not rfl rfl ?_
     refine WL_nil ?_
     refine WA_tk 8 (by kernel_rfl) rfl rfl (fl_move rfl) ?_
     refine WL_move rfl rfl ?_
     refine WL_nil ?_
     refine WA_fork (fun hc4 => ?_) (fun hc4 => ?_)
     ·replace hr4 := ite_t hr4 hc4
      refine WA_sk 9 (by kernel_rfl) rfl rfl rfl rfl (by simp) rfl rfl ?_
      refine WA_sk 10 (by kernel_rfl) rfl rfl rfl rfl (by simp) rfl rfl ?_
      refine WA_sk 11 (by kernel_rfl) rfl rfl rfl rfl (by simp) rfl rfl ?_
      refine WA_sk 12 (by kernel_rfl) rfl rfl rfl rfl (by simp) rfl rfl ?_
      refine WA_sk 13 (by kernel_rfl) rfl rfl rfl rfl (by simp) rfl rfl ?_
      refine WA_tk 14 (by kernel_rfl) rfl rfl (fl_pick_t rfl rfl) ?_
      refine WL_pick_t rfl rfl rfl ?_
      refine WL_nil ?_
      refine WA_tk 15 (by kernel_rfl) rfl rfl (fl_move rfl) ?_
      refine WL_move rfl rfl ?_
      refine WL_nil ?_
      refine WA_sk 16 (by kernel_rfl) rfl rfl rfl rfl (by simp) rfl rfl ?_
      refine WA_sk 17 (by kernel_rfl) rfl rfl rfl rfl (by simp) rfl rfl ?_
      refine WA_sk 18 (by kernel_rfl) rfl rfl rfl rfl (by simp) rfl rfl ?_
      refine WA_sk 19 (by kernel_rfl) rfl rfl rfl rfl (by simp) rfl rfl ?_
      refine WA_sk 20 (by kernel_rfl) rfl rfl rfl rfl (by simp) rfl rfl ?_
      refine WA_sk 21 (by kernel_rfl) rfl rfl rfl rfl (by simp) rfl rfl ?_
      refine WA_sk 22 (by kernel_rfl) rfl rfl rfl rfl (by simp) rfl rfl ?_
      refine WA_tk 23 (by kernel_rfl) rfl rfl (fl_pick_t rfl rfl) ?_
      refine WL_pick_t rfl rfl rfl ?_
      refine WL_nil ?_
      refine WA_tk 24 (by kernel_rfl) rfl rfl (fl_move rfl) ?_
      refine WL_move rfl rfl ?_
      refine WL_nil ?_
      refine WA_sk 25 (by kernel_rfl) rfl rfl rfl rfl (by simp) rfl rfl ?_
      refine WA_sk 26 (by kernel_rfl) rfl rfl rfl rfl (by simp) rfl rfl ?_
      refine WA_sk 27 (by kernel_rfl) rfl rfl rfl rfl (by simp) rfl rfl ?_
      refine WA_sk 28 (by kernel_rfl) rfl rfl rfl rfl (by simp) rfl rfl ?_
      refine WA_sk 29 (by kernel_rfl) rfl rfl rfl rfl (by simp) rfl rfl ?_
      refine WA_sk 30 (by kernel_rfl) rfl rfl rfl rfl (by simp) rfl rfl ?_
      refine WA_sk 31 (by kernel_rfl) rfl rfl rfl rfl (by simp) rfl rfl ?_
      refine WA_sk 32 (by kernel_rfl) rfl rfl rfl rfl (by simp) rfl rfl ?_
      refine WA_sk 33 (by kernel_rfl) rfl rfl rfl rfl (by simp) rfl rfl ?_
      refine WA_sk 34 (by kernel_rfl) rfl rfl rfl rfl (by simp) rfl rfl ?_
      refine WA_sk 35 (by kernel_rfl) rfl rfl rfl rfl (by simp) rfl rfl ?_
      refine WA_sk 36 (by kernel_rfl) rfl rfl rfl rfl (by simp) rfl rfl ?_
      refine WA_sk 37 (by kernel_rfl) rfl rfl rfl rfl (by simp) rfl rfl ?_
      refine WA_sk 38 (by kernel_rfl) rfl rfl rfl rfl (by simp) rfl rfl ?_
      refine WA_tk 39 (by kernel_rfl) rfl rfl (fl_pick_t rfl rfl) ?_
      refine WL_pick_t rfl rfl rfl ?_
      refine WL_nil ?_
      refine WA_done (by kernel_rfl) ?_
      have hq4 := Option.some.inj hr4
      subst hq4
      refine nrm_sub (l' := [(1, u2), (6, (ptr b1 0)), (9, (.slice (some ⟨b2, 0, none⟩) (Int.toNat (List.length a3.2 : Int)) (Int.toNat (List.length a3.2 : Int)))), (10, v1), (12, (ptr b5 0)), (31, u5), (32, (.int .i64 (List.length a4 : Int))), (33, (.int .i64 x6)), (76, (.bool true))]) ⟨rfl, rfl, rfl, rfl, rfl, rfl, rfl, rfl, rfl, trivial⟩ ?_
      exact ⟨true, rfl, rfl, (((Keep.of hB9).then hB11).then hB12).below, hC15⟩
     replace hr4 := ite_f hr4 hc4
     refine WA_takeG 9 rfl (by kernel_rfl) (by kernel_rfl) (by kernel_rfl) rfl rfl rfl (fl_move rfl) ?_
     refine WL_guard rfl rfl ?_
     refine WL_move rfl rfl ?_
     refine WL_nil ?_
     refine WA_takeG 10 rfl (by kernel_rfl) (by kernel_rfl) (by kernel_rfl) rfl rfl rfl (fl_field Tryz.underlying75 rfl rfl (fun w => ⟨_, Tryz.sizeOf3 w⟩) rfl) ?_
     refine WL_guard rfl rfl ?_
     refine WL_field Tryz.underlying75 rfl rfl (fun w => ⟨_, Tryz.sizeOf3 w⟩) rfl rfl ?_
     refine WL_nil ?_
     refine WA_one 11 (by kernel_rfl) rfl ?_
     refine WL_guard rfl rfl ?_
     refine WL_load_box hC15 0 rfl rfl Tryz.isAgg3 rfl rfl ?_
     refine WL_nil ?_
     obtain ⟨x10, hx3, hr4⟩ := bind_some hr4
     refine WA_takeG 12 rfl (by kernel_rfl) (by kernel_rfl) (by kernel_rfl) rfl rfl rfl (fl_index Tryz.underlying107 ty4 (hC15.ro 2 rfl) hx3 rfl rfl) ?_
     refine WL_guard rfl rfl ?_
     refine WL_index Tryz.underlying107 ty4 (hC15.ro 2 rfl) hx3 rfl rfl rfl (fun b6 o2 h3 => ?_)
     refine WL_nil ?_
     refine WA_one 13 (by kernel_rfl) rfl ?_
     refine WL_guard rfl rfl ?_
     refine WL_load ty4 h3 (Keep.refl _ _) rfl rfl (fun v3 h4 => ?_)
     obtain rfl := ro_bool h4
     refine WL_nil ?_
     refine WA_tk 14 (by kernel_rfl) rfl rfl (fl_pick_f rfl rfl) ?_
     refine WL_pick_f rfl rfl rfl ?_
     refine WL_nil ?_
     refine WA_tk 15 (by kernel_rfl) rfl rfl (fl_move rfl) ?_
     refine WL_move rfl rfl ?_
     refine WL_nil ?_
     refine WA_fork (fun hc5 => ?_) (fun hc5 => ?_)
     ·replace hr4 := ite_t hr4 hc5
      refine WA_sk 16 (by kernel_rfl) rfl rfl rfl rfl (by simp) rfl rfl ?_
      refine WA_sk 17 (by kernel_rfl) rfl rfl rfl rfl (by simp) rfl rfl ?_
      refine WA_sk 18 (by kernel_rfl) rfl rfl rfl rfl (by simp) rfl rfl ?_
      refine WA_sk 19 (by kernel_rfl) rfl rfl rfl rfl (by simp) rfl rfl ?_
      refine WA_sk 20 (by kernel_rfl) rfl rfl rfl rfl (by simp) rfl rfl ?_
      refine WA_sk 21 (by kernel_rfl) rfl rfl rfl rfl (by simp) rfl rfl ?_
      refine WA_sk 22 (by kernel_rfl) rfl rfl rfl rfl (by simp) rfl rfl ?_
      refine WA_tk 23 (by kernel_rfl) rfl rfl (fl_pick_t rfl rfl) ?_
      refine WL_pick_t rfl rfl rfl ?_
      refine WL_nil ?_
      refine WA_tk 24 (by kernel_rfl) rfl rfl (fl_move rfl) ?_
      refine WL_move rfl rfl ?_
      refine WL_nil ?_
      refine WA_sk 25 (by kernel_rfl) rfl rfl rfl rfl (by simp) rfl rfl ?_
      refine WA_sk 26 (by kernel_rfl) rfl rfl rfl rfl (by simp) rfl rfl ?_
      refine WA_sk 27 (by kernel_rfl) rfl rfl rfl rfl (by simp) rfl rfl ?_
      refine WA_sk 28 (by kernel_rfl) rfl rfl rfl rfl (by simp) rfl rfl ?_
      refine WA_sk 29 (by kernel_rfl) rfl rfl rfl rfl (by simp) rfl rfl ?_
      refine WA_sk 30 (by kernel_rfl) rfl rfl rfl rfl (by simp) rfl rfl ?_
      refine WA_sk 31 (by kernel_rfl) rfl rfl rfl rfl (by simp) rfl rfl ?_
      refine WA_sk 32 (by kernel_rfl) rfl rfl rfl rfl (by simp) rfl rfl ?_
      refine WA_sk 33 (by kernel_rfl) rfl rfl rfl rfl (by simp) rfl rfl ?_
      refine WA_sk 34 (by kernel_rfl) rfl rfl rfl rfl (by simp) rfl rfl ?_
      refine WA_sk 35 (by kernel_rfl) rfl rfl rfl rfl (by simp) rfl rfl ?_
      refine WA_sk 36 (by kernel_rfl) rfl rfl rfl rfl (by simp) rfl rfl ?_
      refine WA_sk 37 (by kernel_rfl) rfl rfl rfl rfl (by simp) rfl rfl ?_
      refine WA_sk 38 (by kernel_rfl) rfl rfl rfl rfl (by simp) rfl rfl ?_
      refine WA_tk 39 (by kernel_rfl) rfl rfl (fl_pick_t rfl rfl) ?_
      refine WL_pick_t rfl rfl rfl ?_
      refine WL_nil ?_
      refine WA_done (by kernel_rfl) ?_
      have hq5 := Option.some.inj hr4
      subst hq5
      refine nrm_sub (l' := [(1, u2), (6, (ptr b1 0)), (9, (.slice (some ⟨b2, 0, none⟩) (Int.toNat (List.length a3.2 : Int)) (Int.toNat (List.length a3.2 : Int)))), (10, v1), (12, (ptr b5 0)), (31, u5), (32, (.int .i64 (List.length a4 : Int))), (33, (.int .i64 x6)), (76, (.bool true))]) ⟨rfl, rfl, rfl, rfl, rfl, rfl, rfl, rfl, rfl, trivial⟩ ?_
      exact ⟨true, rfl, rfl, (((Keep.of hB9).then hB11).then hB12).below, hC15⟩
     replace hr4 := ite_f hr4 hc5
     refine WA_takeG 16 rfl (by kernel_rfl) (by kernel_rfl) (by kernel_rfl) rfl rfl rfl (fl_field Tryz.underlying75 rfl rfl (fun w => ⟨_, Tryz.sizeOf3 w⟩) rfl) ?_
     refine WL_guard rfl rfl ?_
     refine WL_field Tryz.underlying75 rfl rfl (fun w => ⟨_, Tryz.sizeOf3 w⟩) rfl rfl ?_
     refine WL_nil ?_
     refine WA_takeG 18 rfl (by kernel_rfl) (by kernel_rfl) (by kernel_rfl) rfl rfl rfl (fl_move rfl) ?_
     refine WL_guard rfl rfl ?_
     refine WL_move rfl rfl ?_
     refine WL_nil ?_
     refine WA_takeG 19 rfl (by kernel_rfl) (by kernel_rfl) (by kernel_rfl) rfl rfl rfl (fl_len Tryz.underlying33 g2 rfl) ?_
     refine WL_guard rfl rfl ?_
     refine WL_len Tryz.underlying33 g2 rfl rfl ?_
     refine WL_nil ?_
     refine WA_takeG 20 rfl (by kernel_rfl) (by kernel_rfl) (by kernel_rfl) rfl rfl rfl (fl_sub rfl rfl) ?_
     refine WL_guard rfl rfl ?_
     refine WL_sub rfl rfl rfl ?_
     refine WL_nil ?_
     refine WA_one 17 (by kernel_rfl) rfl ?_
     refine WL_guard rfl rfl ?_
     refine WL_load_box hC15 0 rfl rfl Tryz.isAgg3 rfl rfl ?_
     refine WL_nil ?_
     obtain ⟨x11, hr6, hr4⟩ := bind_some hr4
     refine WA_one 21 (by kernel_rfl) rfl ?_
     refine WL_guard rfl rfl ?_
     refine WL_call Tryz.call78 rfl rfl (c_M_within x7.2 0 (w64 ((List.length a2 : Int) - 1)) x11 hr6) ?_
     intro _ w15 hv3
     obtain ⟨rfl, hB13⟩ := res_bool hv3
     have hC16 := hC15.grow hB13
     refine WL_nil ?_
     refine WA_takeG 22 rfl (by kernel_rfl) (by kernel_rfl) (by kernel_rfl) rfl rfl rfl (fl_not rfl) ?_
     refine WL_guard rfl rfl ?_
     refine WL_not rfl rfl ?_
     refine WL_nil ?_
     refine WA_tk 23 (by kernel_rfl) rfl rfl (fl_pick_f rfl rfl) ?_
     refine WL_pick_f rfl rfl rfl ?_
     refine WL_nil ?_
     refine WA_tk 24 (by kernel_rfl) rfl rfl (fl_move rfl) ?_
     refine WL_move rfl rfl ?_
     refine WL_nil ?_
     refine WA_fork (fun hc6 => ?_) (fun hc6 => ?_)
     ·replace hr4 := ite_t hr4 hc6
      refine WA_sk 25 (by kernel_rfl) rfl rfl rfl rfl (by simp) rfl rfl ?_
      refine WA_sk 26 (by kernel_rfl) rfl rfl rfl rfl (by simp) rfl rfl ?_
      refine WA_sk 27 (by kernel_rfl) rfl rfl rfl rfl (by simp) rfl rfl ?_
      refine WA_sk 28 (by kernel_rfl) rfl rfl rfl rfl (by simp) rfl rfl ?_
      refine WA_sk 29 (by kernel_rfl) rfl rfl rfl rfl (by simp) rfl rfl ?_
      refine WA_sk 30 (by kernel_rfl) rfl rfl rfl rfl (by simp) rfl rfl ?_
      refine WA_sk 31 (by kernel_rfl) rfl rfl rfl rfl (by simp) rfl rfl ?_
      refine WA_sk 32 (by kernel_rfl) rfl rfl rfl rfl (by simp) rfl rfl ?_
      refine WA_sk 33 (by kernel_rfl) rfl rfl rfl rfl (by simp) rfl rfl ?_
      refine WA_sk 34 (by kernel_rfl) rfl rfl rfl rfl (by simp) rfl rfl ?_
      refine WA_sk 35 (by kernel_rfl) rfl rfl rfl rfl (by simp) rfl rfl ?_
      refine WA_sk 36 (by kernel_rfl) rfl rfl rfl rfl (by simp) rfl rfl ?_
      refine WA_sk 37 (by kernel_rfl) rfl rfl rfl rfl (by simp) rfl rfl ?_
      refine WA_sk 38 (by kernel_rfl) rfl rfl rfl rfl (by simp) rfl rfl ?_
      refine WA_tk 39 (by kernel_rfl) rfl rfl (fl_pick_t rfl rfl) ?_
      refine WL_pick_t rfl rfl rfl ?_
      refine WL_nil ?_
      refine WA_done (by kernel_rfl) ?_
      have hq6 := Option.some.inj hr4
      subst hq6
      refine nrm_sub (l' := [(1, u2), (6, (ptr b1 0)), (9, (.slice (some ⟨b2, 0, none⟩) (Int.toNat (List.length a3.2 : Int)) (Int.toNat (List.length a3.2 : Int)))), (10, v1), (12, (ptr b5 0)), (31, u5), (32, (.int .i64 (List.length a4 : Int))), (33, (.int .i64 x6)), (76, (.bool true))]) ⟨rfl, rfl, rfl, rfl, rfl, rfl, rfl, rfl, rfl, trivial⟩ ?_
      exact ⟨true, rfl, rfl, ((((Keep.of hB9).then hB11).then hB12).then hB13).below, hC16⟩
     replace hr4 := ite_f hr4 hc6
     refine WA_takeG 25 rfl (by kernel_rfl) (by kernel_rfl) (by kernel_rfl) rfl rfl rfl (fl_move rfl) ?_
     refine WL_guard rfl rfl ?_
     refine WL_move rfl rfl ?_
     refine WL_nil ?_
     refine WA_takeG 26 rfl (by kernel_rfl) (by kernel_rfl) (by kernel_rfl) rfl rfl rfl (fl_field Tryz.underlying75 rfl rfl (fun w => ⟨_, Tryz.sizeOf3 w⟩) rfl) ?_
     refine WL_guard rfl rfl ?_
     refine WL_field Tryz.underlying75 rfl rfl (fun w => ⟨_, Tryz.sizeOf3 w⟩) rfl rfl ?_
     refine WL_nil ?_
     refine WA_takeG 30 rfl (by kernel_rfl) (by kernel_rfl) (by kernel_rfl) rfl rfl rfl (fl_field Tryz.underlying37 rfl rfl (fun w => ⟨_, Tryz.sizeOf35 w⟩) rfl) ?_
     refine WL_guard rfl rfl ?_
     refine WL_field Tryz.underlying37 rfl rfl (fun w => ⟨_, Tryz.sizeOf35 w⟩) rfl rfl ?_
     refine WL_nil ?_
     refine WA_takeG 32 rfl (by kernel_rfl) (by kernel_rfl) (by kernel_rfl) rfl rfl rfl (fl_field Tryz.underlying75 rfl rfl (fun w => ⟨_, Tryz.sizeOf3 w⟩) rfl) ?_
     refine WL_guard rfl rfl ?_
     refine WL_field Tryz.underlying75 rfl rfl (fun w => ⟨_, Tryz.sizeOf3 w⟩) rfl rfl ?_
     refine WL_nil ?_
     refine WA_takeG 36 rfl (by kernel_rfl) (by kernel_rfl) (by kernel_rfl) rfl rfl rfl (fl_move rfl) ?_
     refine WL_guard rfl rfl ?_
     refine WL_move rfl rfl ?_
     refine WL_nil ?_
     obtain ⟨x12, hx4, hr4⟩ := bind_some hr4
     obtain ⟨x13, hx5, hr4⟩ := bind_some hr4
     refine WA.sub (l' := [(1, u2), (6, (ptr b1 0)), (9, (.slice (some ⟨b2, 0, none⟩) (Int.toNat (List.length a3.2 : Int)) (Int.toNat (List.length a3.2 : Int)))), (10, v1), (12, (ptr b5 0)), (31, u5), (32, (.int .i64 (List.length a4 : Int))), (33, (.int .i64 x6)), (34, (.bool (decide (x6 < (List.length a4 : Int))))), (35, (ptr b4 o1)), (36, (.agg #[(.int .i64 x7.1), (.int .i64 x7.2)])), (37, (ptr b5 0)), (38, (.int .i64 x7.1)), (39, (ptr b1 1)), (40, u4), (41, (.int .i64 (List.length a3.2 : Int))), (42, (.int .i64 (w64 ((List.length a3.2 : Int) - 1)))), (43, (.bool x9)), (44, (.bool (!x9))), (45, (.bool false)), (46, (.slice (some ⟨b2, 0, none⟩) (Int.toNat (List.length a3.2 : Int)) (Int.toNat (List.length a3.2 : Int)))), (47, (ptr b5 0)), (48, (.int .i64 x7.1)), (49, (ptr b6 o2)), (50, (.bool x10)), (51, (.bool x10)), (52, (.bool false)), (53, (ptr b5 1)), (54, (.int .i64 x7.2)), (55, u2), (56, (.int .i64 (List.length a2 : Int))), (57, (.int .i64 (w64 ((List.length a2 : Int) - 1)))), (58, (.bool x11)), (59, (.bool (!x11))), (60, (.bool (!x11))), (61, (.bool false)), (62, u2), (63, (ptr b5 1)), (67, (ptr b1 1)), (69, (ptr b5 0)), (73, v1)]) ?_ ⟨rfl, rfl, rfl, rfl, rfl, rfl, rfl, rfl, rfl, rfl, rfl, rfl, rfl, rfl, rfl, rfl, rfl, rfl, rfl, rfl, rfl, rfl, rfl, rfl, rfl, rfl, rfl, rfl, rfl, rfl, rfl, rfl, rfl, rfl, rfl, rfl, rfl, rfl, rfl, rfl, rfl, trivial⟩
     refine WA_postsE [⟨27, [], fun vs => PW.val (.int .i64 x7.2), []⟩, ⟨28, [], fun vs => PW.at [] w0 x12, []⟩, ⟨29, [], fun vs => PW.ro [] w0 x12, []⟩, ⟨31, [], fun vs => PW.val u4, []⟩, ⟨33, [], fun vs => PW.val (.int .i64 x7.1), []⟩, ⟨34, [], fun vs => PW.at [] w0 x13, []⟩, ⟨35, [], fun vs => PW.ro [] w0 x13, []⟩] [[], [27], [28], [], [], [31, 33], [34]] 3 rfl (by kernel_rfl) (by kernel_rfl) rfl ?_ ?_
     ·refine StepsE_cons rfl ?_ ?_
      ·intro w16 hB14
       refine DepsE_nil ?_
       refine ⟨_, rfl, ?_⟩
       refine WL_guard rfl rfl ?_
       refine WL_load_box (hC16.grow hB14) 0 rfl rfl Tryz.isAgg3 rfl rfl ?_
       refine WL_nil ?_
       exact FinE_val (Below.refl _ _) rfl rfl ⟨rfl, rfl⟩
      refine StepsE_cons rfl ?_ ?_
      ·intro w16 hB14
       refine DepsE_cons rfl rfl rfl ?_
       rintro _ _ ⟨rfl, rfl⟩ _
       refine DepsE_nil ?_
       refine ⟨_, rfl, ?_⟩
       refine WL_guard rfl rfl ?_
       refine WL_index Tryz.underlying33 ty71 g2 hx4 rfl rfl rfl (fun b7 o3 h5 => ?_)
       refine WL_nil ?_
       exact FinE_val (Below.refl _ _) rfl rfl ⟨rfl, _, _, rfl, h5⟩
      refine StepsE_cons rfl ?_ ?_
      ·intro w16 hB14
       refine DepsE_cons rfl rfl rfl ?_
       rintro _ _ ⟨rfl, b7, o3, rfl, h5⟩ _
       refine DepsE_nil ?_
       refine ⟨_, rfl, ?_⟩
       refine WL_guard rfl rfl ?_
       refine WL_load ty71 h5 (hC16.keep.then hB14) rfl rfl (fun v6 h8 => ?_)
       refine WL_nil ?_
       exact FinE_val (Below.refl _ _) rfl rfl ⟨rfl, h8⟩
      refine StepsE_cons rfl ?_ ?_
      ·intro w16 hB14
       refine DepsE_nil ?_
       refine ⟨_, rfl, ?_⟩
       refine WL_guard rfl rfl ?_
       refine WL_load_box (hC16.grow hB14) 3 rfl rfl Tryz.isAgg35 rfl rfl ?_
       refine WL_nil ?_
       exact FinE_val (Below.refl _ _) rfl rfl ⟨rfl, rfl⟩
      refine StepsE_cons rfl ?_ ?_
      ·intro w16 hB14
       refine DepsE_nil ?_
       refine ⟨_, rfl, ?_⟩
       refine WL_guard rfl rfl ?_
       refine WL_load_box (hC16.grow hB14) 0 rfl rfl Tryz.isAgg3 rfl rfl ?_
       refine WL_nil ?_
       exact FinE_val (Below.refl _ _) rfl rfl ⟨rfl, rfl⟩
      refine StepsE_cons rfl ?_ ?_
      ·intro w16 hB14
       refine DepsE_cons rfl rfl rfl ?_
       rintro _ _ ⟨rfl, rfl⟩ _
       refine DepsE_cons rfl rfl rfl ?_
       rintro _ _ ⟨rfl, rfl⟩ _
       refine DepsE_nil ?_
       refine ⟨_, rfl, ?_⟩
       refine WL_guard rfl rfl ?_
       refine WL_index Tryz.underlying35 ty84 g4 hx5 rfl rfl rfl (fun b8 o4 h9 => ?_)
       refine WL_nil ?_
       exact FinE_val (Below.refl _ _) rfl rfl ⟨rfl, _, _, rfl, h9⟩
      refine StepsE_cons rfl ?_ ?_
      ·intro w16 hB14
       refine DepsE_cons rfl rfl rfl ?_
       rintro _ _ ⟨rfl, b8, o4, rfl, h9⟩ _
       refine DepsE_nil ?_
       refine ⟨_, rfl, ?_⟩
       refine WL_guard rfl rfl ?_
       refine WL_load ty84 h9 (hC16.keep.then hB14) rfl rfl (fun v9 h12 => ?_)
       refine WL_nil ?_
       exact FinE_val (Below.refl _ _) rfl rfl ⟨rfl, h12⟩
      exact StepsE_nil
     intro w17 hB15
     refine AllE_cons rfl rfl rfl ?_
     rintro _ _ ⟨rfl, rfl⟩
     refine AllE_cons rfl rfl rfl ?_
     rintro _ _ ⟨rfl, b7, o3, rfl, h5⟩
     refine AllE_cons rfl rfl rfl ?_
     rintro v6 _ ⟨rfl, h8⟩
     obtain ⟨v5, rfl, h7⟩ := ro_st71 h8
     refine AllE_cons rfl rfl rfl ?_
     rintro _ _ ⟨rfl, rfl⟩
     refine AllE_cons rfl rfl rfl ?_
     rintro _ _ ⟨rfl, rfl⟩
     refine AllE_cons rfl rfl rfl ?_
     rintro _ _ ⟨rfl, b8, o4, rfl, h9⟩
     refine AllE_cons rfl rfl rfl ?_
     rintro v9 _ ⟨rfl, h12⟩
     obtain ⟨v8, rfl, h11⟩ := ro_st84 h12
     refine AllE_nil ?_
     intro hn2 hb2
     have hC17 := hC16.grow hB15
     obtain ⟨x14, hr7, hr4⟩ := bind_some hr4
     refine WA_one 37 (by kernel_rfl) rfl ?_
     refine WL_guard rfl rfl ?_
     refine WL_call Tryz.call86 rfl rfl (c_M_CanCall x12 v5 (h7.now hC17.keep) x13 v8 (h11.now hC17.keep) x5 v1 ((hC17.ro 1 rfl).now (Keep.refl _ _)) x14 hr7) ?_
     intro _ w18 hv4
     obtain ⟨rfl, hB16⟩ := res_bool hv4
     have hC18 := hC17.grow hB16
     refine WL_nil ?_
     refine WA_takeG 38 rfl (by kernel_rfl) (by kernel_rfl) (by kernel_rfl) rfl rfl rfl (fl_not rfl) ?_
     refine WL_guard rfl rfl ?_
     refine WL_not rfl rfl ?_
     refine WL_nil ?_
     refine WA_tk 39 (by kernel_rfl) rfl rfl (fl_pick_f rfl rfl) ?_
     refine WL_pick_f rfl rfl rfl ?_
     refine WL_nil ?_
     refine WA_done (by kernel_rfl) ?_
     have hq7 := Option.some.inj hr4
     subst hq7
     refine nrm_sub (l' := [(1, u2), (6, (ptr b1 0)), (9, (.slice (some ⟨b2, 0, none⟩) (Int.toNat (List.length a3.2 : Int)) (Int.toNat (List.length a3.2 : Int)))), (10, v1), (12, (ptr b5 0)), (31, u5), (32, (.int .i64 (List.length a4 : Int))), (33, (.int .i64 x6)), (76, (.bool (!x14)))]) ⟨rfl, rfl, rfl, rfl, rfl, rfl, rfl, rfl, rfl, trivial⟩ ?_
     exact ⟨(!x14), rfl, rfl, ((((((Keep.of hB9).then hB11).then hB12).then hB13).then hB15).then hB16).below, hC18⟩
    rintro _ w10 ⟨x8, rfl, rfl, hB8, hC12⟩
    try dsimp only at hL1
    refine W_cond rfl (fun hc7 => ?_) (fun hc7 => ?_)
    ·replace hL1 := ite_t hL1 hc7
     refine W_seq_reg ?_
     refine WL_assign rfl rfl ?_
     refine WL_nil (W_ret (nrm_ret (blk_ret (nrm_ret (nrm_ret (blk_ret (nrm_ret (nrm_ret ?_))))))))
     have hq8 := Option.some.inj hL1
     subst hq8
     dsimp only at hF
     have hq9 := Option.some.inj hF
     subst hq9
     refine fn_ret1 rfl rfl ?_
     exact ⟨_, rfl, bool_res hC12 _⟩
    replace hL1 := ite_f hL1 hc7
    refine W_skip (nrm_normal (W_seq_reg ?_))
    refine WL_move rfl rfl ?_
    refine WL_field Tryz.underlying75 rfl rfl (fun w => ⟨_, Tryz.sizeOf3 w⟩) rfl rfl ?_
    refine WL_load_box hC12 0 rfl rfl Tryz.isAgg3 rfl rfl ?_
    obtain ⟨x15, hx6, hL1⟩ := bind_some hL1
    refine WL_index_own hC12 2 rfl Tryz.underlying107 ty4 hx6 rfl rfl rfl (fun b9 hE1 => ?_)
    have hC20 := hC12.triv (bool_val (true))
    refine WL_store_elem hC20 2 rfl ty4 hE1 hx6 rfl rfl rfl (fun w19 hC19 => ?_)
    try dsimp only [List.set] at hC19
    refine WL_nil (W_reg ?_)
    refine WL_move rfl rfl ?_
    refine WL_field Tryz.underlying37 rfl rfl (fun w => ⟨_, Tryz.sizeOf35 w⟩) rfl rfl ?_
    refine WL_load_box hC19 3 rfl rfl Tryz.isAgg35 rfl rfl ?_
    refine WL_field Tryz.underlying75 rfl rfl (fun w => ⟨_, Tryz.sizeOf3 w⟩) rfl rfl ?_
    refine WL_load_box hC19 0 rfl rfl Tryz.isAgg3 rfl rfl ?_
    obtain ⟨x16, hx7, hL1⟩ := bind_some hL1
    refine WL_index Tryz.underlying35 ty84 g4 hx7 rfl rfl rfl (fun b10 o5 h13 => ?_)
    refine WL_field Tryz.underlying84 rfl rfl (fun w => ⟨_, Tryz.sizeOf22 w⟩) rfl rfl ?_
    refine WL_load ty22 h13.snd hC19.keep rfl rfl (fun v10 h14 => ?_)
    obtain ⟨x17, hx8, hL1⟩ := bind_some hL1
    refine WL_append_flat (α := Int) hC19 1 rfl h14 hC19.keep Tryz.underlying22 ty3 rfl hx8 rfl rfl rfl (fun v11 w20 hC21 => ?_)
    try dsimp only [List.set] at hC21
    refine WL_assign rfl rfl ?_
    refine WL_nil (blk_normal (nrm_normal (W_reg ?_)))
    refine WL_add rfl rfl rfl ?_
    refine WL_move rfl rfl ?_
    refine WL_nil ?_
    have hC22 := hC21.f3
    have hC23 := hC22.f3
    have hC24 := hC23.f3
    have hC25 := hC24.h3
    refine nrm_sub (l' := [(1, u2), (6, (ptr b1 0)), (9, (.slice (some ⟨b2, 0, none⟩) (Int.toNat (List.length a3.2 : Int)) (Int.toNat (List.length a3.2 : Int)))), (10, v11), (31, u5), (32, (.int .i64 (List.length a4 : Int))), (33, (.int .i64 (w64 (x6 + 1))))]) ⟨rfl, rfl, rfl, rfl, rfl, rfl, rfl, trivial⟩ ?_
    exact ⟨k1, Nat.lt_succ_self _, (List.set x4 (Int.toNat x7.1) true), v11, x17, w64 (x6 + 1), rfl, hC25, hL1⟩
   replace hL1 := ite_f hL1 hc3
   refine W_exit (nrm_exit (nrm_exit (blk_exit ?_)))
   have hq10 := Option.some.inj hL1
   subst hq10
   have hC26 := hC9.h0
   refine nrm_sub (l' := []) trivial ?_
   exact ⟨rfl, rfl, hC26⟩
 rintro l4 _ w21 hs4 ⟨rfl, rfl, hC27⟩
 try dsimp only at hF
 refine nrm_sub' hs4 ?_
 clear hs4
 refine W_seq_reg ?_
 refine WL_assign rfl rfl ?_
 refine WL_nil (W_ret ?_)
 have hq11 := Option.some.inj hF
 subst hq11
 refine fn_ret1 rfl rfl ?_
 exact ⟨_, rfl, bool_res hC27 _⟩

theorem c_M_meets_c1 {w0 : World} (a1 : Int) (pb1 : Nat) (ax1 : (List Int)) (g1 : ROAt [] w0 pb1 0 ax1) (rr : Bool) (hF : M.meets_c1 a1 ax1 = some rr) :
 Calls Tryz.prog 87 [(.int .i64 a1), (ptr pb1 0)].toArray w0 fun e w' => ∃ v, e = .returned v ∧ Res w0 rr v w' := by
 refine calls_of_W Tryz.func87 rfl rfl ?_
 have hC0 := Ctx.start w0
 unfold M.meets_c1 at hF
 refine W_seq_reg ?_
 refine WL_assign rfl rfl ?_
 refine WL_nil (W_seq_reg ?_)
 refine WL_load ty22 g1 hC0.keep rfl rfl (fun v1 h1 => ?_)
 refine WL_move rfl rfl ?_
 obtain ⟨x1, hr1, hF⟩ := bind_some hF
 refine WL_call Tryz.call66 rfl rfl (c_Slices_Contains_Lint_int ax1 v1 (h1.now hC0.keep) a1 x1 hr1) ?_
 intro _ w1 hv1
 obtain ⟨rfl, hB1⟩ := res_bool hv1
 have hC1 := hC0.grow hB1
 refine WL_assign rfl rfl ?_
 refine WL_nil (W_ret ?_)
 have hq1 := Option.some.inj hF
 subst hq1
 refine fn_ret1 rfl rfl ?_
 exact ⟨_, rfl, bool_res hC1 _⟩

theorem c_Slices_IndexFunc_Lint_int_M_meets_c1 {w0 : World} (a1 : (List Int)) (u1 : Value) (g1 : RO [] w0 u1 a1) (pb1 : Nat) (ax1 : (List Int)) (g2 : ROAt [] w0 pb1 0 ax1) (rr : Int) (hF : Slices.IndexFunc_Lint_int_M_meets_c1 a1 ax1 = some rr) :
 Calls Tryz.prog 99 [u1, (.func (.func 87) #[] #[(ptr pb1 0)])].toArray w0 fun e w' => ∃ v, e = .returned v ∧ Res w0 rr v w' := by
 refine calls_of_W Tryz.func99 rfl rfl ?_
 have hC0 := Ctx.start w0
 unfold Slices.IndexFunc_Lint_int_M_meets_c1 at hF
 refine W_seq_reg ?_
 refine WL_assign rfl rfl ?_
 refine WL_nil (W_seq (W_seq_reg ?_))
 refine WL_move rfl rfl ?_
 refine WL_len Tryz.underlying22 g1 rfl rfl ?_
 refine WL_move rfl rfl ?_
 refine WL_nil ?_
 obtain ⟨r1, hr1, hF⟩ := bind_some hF
 refine W_norm (fun l w => .inl () = r1 ∧ l = [] ∧ Below w0.heap.size w0 w ∧ Ctx [] w0 w []) ?_ ?_
 ·refine W_block ?_
  refine W.sub (l' := [(0, u1), (1, (.func (.func 87) #[] #[(ptr pb1 0)])), (7, (.int .i64 (List.length a1 : Int))), (8, (.int .i64 0))]) ?_ ⟨rfl, rfl, rfl, rfl, trivial⟩
  refine W_loop (fun k l w => ∃ x1 : Int, l = [(0, u1), (1, (.func (.func 87) #[] #[(ptr pb1 0)])), (7, (.int .i64 (List.length a1 : Int))), (8, (.int .i64 x1))] ∧ Below w0.heap.size w0 w ∧ Ctx [] w0 w [] ∧ Slices.IndexFunc_Lint_int_M_meets_c1_l1 a1 ax1 k x1 = some r1) FUEL ⟨0, rfl, (Below.refl _ _), hC0, hr1⟩ ?_
  clear hr1
  rintro k1 _ w1 ⟨x1, rfl, hB1, hC1, hL1⟩
  cases k1 with
  | zero => rw [Slices.IndexFunc_Lint_int_M_meets_c1_l1] at hL1; cases hL1
  | succ k1 =>
   rw [Slices.IndexFunc_Lint_int_M_meets_c1_l1] at hL1
   refine W_seq_reg ?_
   refine WL_lss rfl rfl rfl ?_
   refine WL_nil (W_seq ?_)
   refine W_cond rfl (fun hc1 => ?_) (fun hc1 => ?_)
   ·replace hL1 := ite_t hL1 hc1
    refine W_skip (nrm_normal (W_seq (W_block (W_seq_reg ?_))))
    refine WL_move rfl rfl ?_
    refine WL_assign rfl rfl ?_
    refine WL_nil (W_seq_reg ?_)
    refine WL_move rfl rfl ?_
    refine WL_move rfl rfl ?_
    refine WL_move rfl rfl ?_
    obtain ⟨x2, hx1, hL1⟩ := bind_some hL1
    refine WL_index Tryz.underlying22 ty3 g1 hx1 rfl rfl rfl (fun b1 o1 h1 => ?_)
    refine WL_load ty3 h1 hC1.keep rfl rfl (fun v1 h2 => ?_)
    obtain rfl := ro_int h2
    obtain ⟨x3, hr2, hL1⟩ := bind_some hL1
    refine WL_callv (cap := [(ptr pb1 0)]) Tryz.call87 rfl rfl rfl (c_M_meets_c1 x2 pb1 ax1 (g2.now hC1.keep) x3 hr2) ?_
    intro _ w2 hv1
    obtain ⟨rfl, hB2⟩ := res_bool hv1
    have hC2 := hC1.grow hB2
    refine WL_nil ?_
    refine W_cond rfl (fun hc2 => ?_) (fun hc2 => ?_)
    ·replace hL1 := ite_t hL1 hc2
     refine W_seq_reg ?_
     refine WL_move rfl rfl ?_
     refine WL_assign rfl rfl ?_
     refine WL_nil (W_ret (blk_ret (nrm_ret (nrm_ret (blk_ret (nrm_ret (nrm_ret ?_)))))))
     have hq1 := Option.some.inj hL1
     subst hq1
     dsimp only at hF
     have hq2 := Option.some.inj hF
     subst hq2
     refine fn_ret1 rfl rfl ?_
     exact ⟨_, rfl, int_res hC2 _⟩
    replace hL1 := ite_f hL1 hc2
    refine W_skip (blk_normal (nrm_normal (W_reg ?_)))
    refine WL_add rfl rfl rfl ?_
    refine WL_move rfl rfl ?_
    refine WL_nil ?_
    refine nrm_sub (l' := [(0, u1), (1, (.func (.func 87) #[] #[(ptr pb1 0)])), (7, (.int .i64 (List.length a1 : Int))), (8, (.int .i64 (w64 (x1 + 1))))]) ⟨rfl, rfl, rfl, rfl, trivial⟩ ?_
    exact ⟨k1, Nat.lt_succ_self _, w64 (x1 + 1), rfl, ((Keep.of hB1).then hB2).below, hC2, hL1⟩
   replace hL1 := ite_f hL1 hc1
   refine W_exit (nrm_exit (nrm_exit (blk_exit ?_)))
   have hq3 := Option.some.inj hL1
   subst hq3
   refine nrm_sub (l' := []) trivial ?_
   exact ⟨rfl, rfl, (Keep.of hB1).below, hC1⟩
 rintro l2 _ w3 hs2 ⟨rfl, rfl, hB3, hC3⟩
 try dsimp only at hF
 refine nrm_sub' hs2 ?_
 clear hs2
 refine W_seq_reg ?_
 refine WL_assign rfl rfl ?_
 refine WL_nil (W_ret ?_)
 have hq4 := Option.some.inj hF
 subst hq4
 refine fn_ret1 rfl rfl ?_
 exact ⟨_, rfl, int_res hC3 _⟩

theorem c_Slices_ContainsFunc_Lint_int_M_meets_c1 {w0 : World} (a1 : (List Int)) (u1 : Value) (g1 : RO [] w0 u1 a1) (pb1 : Nat) (ax1 : (List Int)) (g2 : ROAt [] w0 pb1 0 ax1) (rr : Bool) (hF : Slices.ContainsFunc_Lint_int_M_meets_c1 a1 ax1 = some rr) :
 Calls Tryz.prog 71 [u1, (.func (.func 87) #[] #[(ptr pb1 0)])].toArray w0 fun e w' => ∃ v, e = .returned v ∧ Res w0 rr v w' := by
 refine calls_of_W Tryz.func71 rfl rfl ?_
 have hC0 := Ctx.start w0
 unfold Slices.ContainsFunc_Lint_int_M_meets_c1 at hF
 refine W_seq_reg ?_
 refine WL_assign rfl rfl ?_
 refine WL_nil (W_seq_reg ?_)
 refine WL_move rfl rfl ?_
 refine WL_move rfl rfl ?_
 obtain ⟨x1, hr1, hF⟩ := bind_some hF
 refine WL_call Tryz.call99 rfl rfl (c_Slices_IndexFunc_Lint_int_M_meets_c1 a1 u1 (g1.now hC0.keep) pb1 ax1 (g2.now hC0.keep) x1 hr1) ?_
 intro _ w1 hv1
 obtain ⟨rfl, hB1⟩ := res_int hv1
 have hC1 := hC0.grow hB1
 refine WL_geq rfl rfl rfl ?_
 refine WL_assign rfl rfl ?_
 refine WL_nil (W_ret ?_)
 have hq1 := Option.some.inj hF
 subst hq1
 refine fn_ret1 rfl rfl ?_
 exact ⟨_, rfl, bool_res hC1 _⟩

theorem c_M_meets {w0 : World} (a1 : (List Int)) (u1 : Value) (g1 : RO [] w0 u1 a1) (a2 : (List Int)) (u2 : Value) (g2 : RO [] w0 u2 a2) (rr : Bool) (hF : M.meets a1 a2 = some rr) :
 Calls Tryz.prog 49 [u1, u2].toArray w0 fun e w' => ∃ v, e = .returned v ∧ Res w0 rr v w' := by
 refine calls_of_W Tryz.func49 rfl rfl ?_
 have hC0 := Ctx.start w0
 unfold M.meets at hF
 refine W_seq_reg ?_
 refine WL_boxK (cs := [u2]) hC0 (ro_cells g2) rfl rfl (fun b1 w1 hC1 hB1 hN1 => ?_)
 refine WL_assign rfl rfl ?_
 refine WL_nil (W_seq_reg ?_)
 refine WL_move rfl rfl ?_
 refine WL_makeFunc rfl rfl ?_
 obtain ⟨x1, hr1, hF⟩ := bind_some hF
 refine WL_call Tryz.call71 rfl rfl (c_Slices_ContainsFunc_Lint_int_M_meets_c1 a1 u1 (g1.now hC1.keep) b1 a2 (hC1.boxAt 0 rfl (repw_slice (g2.now hC1.keep))) x1 hr1) ?_
 intro _ w2 hv1
 obtain ⟨rfl, hB2⟩ := res_bool hv1
 have hC2 := hC1.grow hB2
 refine WL_assign rfl rfl ?_
 refine WL_nil (W_ret ?_)
 have hq1 := Option.some.inj hF
 subst hq1
 refine fn_ret1 rfl rfl ?_
 exact ⟨_, rfl, bool_res hC2 _⟩

theorem c_M_IsPrivateOrder {w0 : World} (a1 : (List Int)) (u1 : Value) (g1 : RO [] w0 u1 a1) (a2 : (List (Int × (List Int) × Int × Int × Int))) (u2 : Value) (g2 : RO [] w0 u2 a2) (a3 : ((List Int) × (List (Int × (List Int))))) (u3 : Value) (g3 : RO [] w0 u3 a3.1) (u4 : Value) (g4 : RO [] w0 u4 a3.2) (a4 : (List (Int × Int))) (u5 : Value) (g5 : RO [] w0 u5 a4) (a5 : (List Int)) (u6 : Value) (g6 : RO [] w0 u6 a5) (rr : Bool) (hF : M.IsPrivateOrder a1 a2 a3 a4 a5 = some rr) :
 Calls Tryz.prog 15 [u1, u2, (.agg #[u3, u4]), u5, u6].toArray w0 fun e w' => ∃ v, e = .returned v ∧ Res w0 rr v w' := by
 refine calls_of_W Tryz.func15 rfl rfl ?_
 have hC0 := Ctx.start w0
 unfold M.IsPrivateOrder at hF
 refine W_seq_reg ?_
 refine WL_boxK (cs := [u3, u4]) hC0 rfl rfl rfl (fun b1 w1 hC1 hB1 hN1 => ?_)
 refine WL_assign rfl rfl ?_
 refine WL_nil ?_
 obtain ⟨r1, hr1, hF⟩ := bind_some hF
 refine W_cut (fun l w => ∃ x1 : Bool, x1 = r1 ∧ l = [(10, (.bool x1))] ∧ Below w1.heap.size w1 w ∧ Ctx [] w0 w []) ?_ ?_
 ·refine W_reg ?_
  refine WL_move rfl rfl ?_
  refine WL_move rfl rfl ?_
  refine WL_load_box_agg [u3, u4] hC1 0 rfl rfl rfl Tryz.isAgg37 Tryz.sizeOf37 rfl rfl ?_
  refine WL_move rfl rfl ?_
  obtain ⟨x2, hr2, hr1⟩ := bind_some hr1
  refine WL_call Tryz.call48 rfl rfl (c_M_IsOrder a1 u1 (g1.now hC1.keep) a2 u2 (g2.now hC1.keep) (a3.1, a3.2) u3 (g3.now hC1.keep) u4 (g4.now hC1.keep) a4 u5 (g5.now hC1.keep) x2 hr2) ?_
  intro _ w3 hv1
  obtain ⟨rfl, hB3⟩ := res_bool hv1
  have hC3 := hC1.grow hB3
  refine WL_move rfl rfl ?_
  refine WL_fork (fun hc1 => ?_) (fun hc1 => ?_)
  ·replace hr1 := ite_t hr1 hc1
   refine WL_guard rfl rfl ?_
   refine WL_move rfl rfl ?_
   refine WL_guard rfl rfl ?_
   refine WL_load_box_agg [u3, u4] hC3 0 rfl rfl rfl Tryz.isAgg37 Tryz.sizeOf37 rfl rfl ?_
   refine WL_guard rfl rfl ?_
   refine WL_move rfl rfl ?_
   obtain ⟨x3, hr3, hr1⟩ := bind_some hr1
   refine WL_guard rfl rfl ?_
   refine WL_call Tryz.call38 rfl rfl (c_M_Disclosed a2 u2 (g2.now hC3.keep) (a3.1, a3.2) u3 (g3.now hC3.keep) u4 (g4.now hC3.keep) a4 u5 (g5.now hC3.keep) x3 hr3) ?_
   rintro v1 w4 ⟨hB4, F1, hv2, hn1, hb1⟩
   have hC4 := hC3.push hB4 (A := Item.own v1 x3) hv2 hn1 hb1
   refine WL_guard rfl rfl ?_
   refine WL_move rfl rfl ?_
   obtain ⟨x4, hr4, hr1⟩ := bind_some hr1
   refine WL_guard rfl rfl ?_
   refine WL_call Tryz.call49 rfl rfl (c_M_meets x3 v1 ((hC4.ro 0 rfl).now (Keep.refl _ _)) a5 u6 (g6.now hC4.keep) x4 hr4) ?_
   intro _ w5 hv3
   obtain ⟨rfl, hB5⟩ := res_bool hv3
   have hC5 := hC4.grow hB5
   refine WL_guard rfl rfl ?_
   refine WL_not rfl rfl ?_
   refine WL_pick_t rfl rfl rfl ?_
   refine WL_assign rfl rfl ?_
   refine WL_nil ?_
   have hq1 := Option.some.inj hr1
   subst hq1
   have hC6 := hC5.h0
   refine nrm_sub (l' := [(10, (.bool (!x4)))]) ⟨rfl, trivial⟩ ?_
   exact ⟨(!x4), rfl, rfl, (((Keep.of hB3).then hB4).then hB5).below, hC6⟩
  replace hr1 := ite_f hr1 hc1
  refine WL_guard_skip rfl rfl (by simp) rfl ?_
  refine WL_guard_skip rfl rfl (by simp) rfl ?_
  refine WL_guard_skip rfl rfl (by simp) rfl ?_
  refine WL_guard_skip rfl rfl (by simp) rfl ?_
  refine WL_guard_skip rfl rfl (by simp) rfl ?_
  refine WL_guard_skip rfl rfl (by simp) rfl ?_
  refine WL_guard_skip rfl rfl (by simp) rfl ?_
  refine WL_pick_f rfl rfl rfl ?_
  refine WL_assign rfl rfl ?_
  refine WL_nil ?_
  have hq2 := Option.some.inj hr1
  subst hq2
  have hC7 := hC3.h0
  refine nrm_sub (l' := [(10, (.bool false))]) ⟨rfl, trivial⟩ ?_
  exact ⟨false, rfl, rfl, (Keep.of hB3).below, hC7⟩
 rintro _ w2 ⟨x1, rfl, rfl, hB2, hC2⟩
 try dsimp only at hF
 refine W_ret ?_
 have hq3 := Option.some.inj hF
 subst hq3
 refine fn_ret1 rfl rfl ?_
 exact ⟨_, rfl, bool_res hC2 _⟩

theorem c_Q_eqIntS {w0 : World} (a1 : (List Int)) (u1 : Value) (g1 : RO [] w0 u1 a1) (a2 : (List Int)) (u2 : Value) (g2 : RO [] w0 u2 a2) (rr : Bool) (hF : Q.eqIntS a1 a2 = some rr) :
 Calls Tryz.prog 16 [u1, u2].toArray w0 fun e w' => ∃ v, e = .returned v ∧ Res w0 rr v w' := by
 refine calls_of_W Tryz.func16 rfl rfl ?_
 have hC0 := Ctx.start w0
 unfold Q.eqIntS at hF
 refine W_seq_reg ?_
 refine WL_assign rfl rfl ?_
 refine WL_nil (W_seq (W_seq_reg ?_))
 refine WL_move rfl rfl ?_
 refine WL_len Tryz.underlying22 g1 rfl rfl ?_
 refine WL_move rfl rfl ?_
 refine WL_len Tryz.underlying22 g2 rfl rfl ?_
 refine WL_neq rfl rfl rfl ?_
 refine WL_nil ?_
 refine W_cond rfl (fun hc1 => ?_) (fun hc1 => ?_)
 ·replace hF := ite_t hF hc1
  refine W_seq_reg ?_
  refine WL_assign rfl rfl ?_
  refine WL_nil (W_ret (nrm_ret ?_))
  have hq1 := Option.some.inj hF
  subst hq1
  refine fn_ret1 rfl rfl ?_
  exact ⟨_, rfl, bool_res hC0 _⟩
 replace hF := ite_f hF hc1
 refine W_skip (nrm_normal (W_seq (W_seq_reg ?_)))
 refine WL_assign rfl rfl ?_
 refine WL_nil ?_
 obtain ⟨r1, hr1, hF⟩ := bind_some hF
 refine W_norm (fun l w => .inl () = r1 ∧ l = [] ∧ Below w0.heap.size w0 w ∧ Ctx [] w0 w []) ?_ ?_
 ·refine W_block ?_
  refine W.sub (l' := [(0, u1), (1, u2), (5, (.int .i64 0))]) ?_ ⟨rfl, rfl, rfl, trivial⟩
  refine W_loop (fun k l w => ∃ x1 : Int, l = [(0, u1), (1, u2), (5, (.int .i64 x1))] ∧ Below w0.heap.size w0 w ∧ Ctx [] w0 w [] ∧ Q.eqIntS_l1 a1 a2 k x1 = some r1) FUEL ⟨0, rfl, (Below.refl _ _), hC0, hr1⟩ ?_
  clear hr1
  rintro k1 _ w1 ⟨x1, rfl, hB1, hC1, hL1⟩
  cases k1 with
  | zero => rw [Q.eqIntS_l1] at hL1; cases hL1
  | succ k1 =>
   rw [Q.eqIntS_l1] at hL1
   refine W_seq (W_seq_reg ?_)
   refine WL_move rfl rfl ?_
   refine WL_move rfl rfl ?_
   refine WL_len Tryz.underlying22 g1 rfl rfl ?_
   refine WL_lss rfl rfl rfl ?_
   refine WL_nil ?_
   refine W_cond rfl (fun hc2 => ?_) (fun hc2 => ?_)
   ·replace hL1 := ite_t hL1 hc2
    refine W_skip (nrm_normal (W_seq (W_block (W_seq ?_))))
    refine W_drawn 9 rfl hmix (fun w2 hB2 => ?_)
    have hC2 := hC1.grow hB2
    refine WA_tk 0 (by kernel_rfl) rfl rfl (fl_move rfl) ?_
    refine WL_move rfl rfl ?_
    refine WL_nil ?_
    refine WA_tk 1 (by kernel_rfl) rfl rfl (fl_move rfl) ?_
    refine WL_move rfl rfl ?_
    refine WL_nil ?_
    obtain ⟨x2, hx1, hL1⟩ := bind_some hL1
    refine WA_tk 2 (by kernel_rfl) rfl rfl (fl_index Tryz.underlying22 ty3 g1 hx1 rfl rfl) ?_
    refine WL_index Tryz.underlying22 ty3 g1 hx1 rfl rfl rfl (fun b1 o1 h1 => ?_)
    refine WL_nil ?_
    refine WA_tk 4 (by kernel_rfl) rfl rfl (fl_move rfl) ?_
    refine WL_move rfl rfl ?_
    refine WL_nil ?_
    refine WA_tk 5 (by kernel_rfl) rfl rfl (fl_move rfl) ?_
    refine WL_move rfl rfl ?_
    refine WL_nil ?_
    obtain ⟨x3, hx2, hL1⟩ := bind_some hL1
    refine WA_tk 6 (by kernel_rfl) rfl rfl (fl_index Tryz.underlying22 ty3 g2 hx2 rfl rfl) ?_
    refine WL_index Tryz.underlying22 ty3 g2 hx2 rfl rfl rfl (fun b2 o2 h2 => ?_)
    refine WL_nil ?_
    refine WA.sub (l' := [(0, u1), (1, u2), (5, (.int .i64 x1)), (11, (.int .i64 x1)), (12, u1), (13, (.int .i64 (List.length a1 : Int))), (14, (.bool (decide (x1 < (List.length a1 : Int))))), (17, u1), (18, (.int .i64 x1)), (19, (ptr b1 o1)), (21, u2), (22, (.int .i64 x1)), (23, (ptr b2 o2))]) ?_ ⟨rfl, rfl, rfl, rfl, rfl, rfl, rfl, rfl, rfl, rfl, rfl, rfl, rfl, trivial⟩
    refine WA_postsE [⟨3, [], fun vs => PW.val (.int .i64 x2), []⟩, ⟨7, [], fun vs => PW.val (.int .i64 x3), []⟩] [[], []] 1 rfl (by kernel_rfl) (by kernel_rfl) rfl ?_ ?_
    ·refine StepsE_cons rfl ?_ ?_
     ·intro w3 hB3
      refine DepsE_nil ?_
      refine ⟨_, rfl, ?_⟩
      refine WL_load ty3 h1 (hC2.keep.then hB3) rfl rfl (fun v1 h3 => ?_)
      obtain rfl := ro_int h3
      refine WL_nil ?_
      exact FinE_val (Below.refl _ _) rfl rfl ⟨rfl, rfl⟩
     refine StepsE_cons rfl ?_ ?_
     ·intro w3 hB3
      refine DepsE_nil ?_
      refine ⟨_, rfl, ?_⟩
      refine WL_load ty3 h2 (hC2.keep.then hB3) rfl rfl (fun v2 h4 => ?_)
      obtain rfl := ro_int h4
      refine WL_nil ?_
      exact FinE_val (Below.refl _ _) rfl rfl ⟨rfl, rfl⟩
     exact StepsE_nil
    intro w4 hB4
    refine AllE_cons rfl rfl rfl ?_
    rintro _ _ ⟨rfl, rfl⟩
    refine AllE_cons rfl rfl rfl ?_
    rintro _ _ ⟨rfl, rfl⟩
    refine AllE_nil ?_
    intro hn1 hb1
    have hC3 := hC2.grow hB4
    refine WA_tk 8 (by kernel_rfl) rfl rfl (fl_neq rfl rfl) ?_
    refine WL_neq rfl rfl rfl ?_
    refine WL_nil ?_
    refine WA_done (by kernel_rfl) ?_
    refine nrm_normal ?_
    refine W_cond rfl (fun hc3 => ?_) (fun hc3 => ?_)
    ·replace hL1 := ite_t hL1 hc3
     refine W_seq_reg ?_
     refine WL_assign rfl rfl ?_
     refine WL_nil (W_ret (blk_ret (nrm_ret (nrm_ret (blk_ret (nrm_ret (nrm_ret ?_)))))))
     have hq2 := Option.some.inj hL1
     subst hq2
     dsimp only at hF
     have hq3 := Option.some.inj hF
     subst hq3
     refine fn_ret1 rfl rfl ?_
     exact ⟨_, rfl, bool_res hC3 _⟩
    replace hL1 := ite_f hL1 hc3
    refine W_skip (blk_normal (nrm_normal (W_reg ?_)))
    refine WL_move rfl rfl ?_
    refine WL_add rfl rfl rfl ?_
    refine WL_assign rfl rfl ?_
    refine WL_nil ?_
    refine nrm_sub (l' := [(0, u1), (1, u2), (5, (.int .i64 (w64 (x1 + 1))))]) ⟨rfl, rfl, rfl, trivial⟩ ?_
    exact ⟨k1, Nat.lt_succ_self _, w64 (x1 + 1), rfl, (((Keep.of hB1).then hB2).then hB4).below, hC3, hL1⟩
   replace hL1 := ite_f hL1 hc2
   refine W_exit (nrm_exit (nrm_exit (blk_exit ?_)))
   have hq4 := Option.some.inj hL1
   subst hq4
   refine nrm_sub (l' := []) trivial ?_
   exact ⟨rfl, rfl, (Keep.of hB1).below, hC1⟩
 rintro l2 _ w5 hs2 ⟨rfl, rfl, hB5, hC4⟩
 try dsimp only at hF
 refine nrm_sub' hs2 ?_
 clear hs2
 refine W_seq_reg ?_
 refine WL_assign rfl rfl ?_
 refine WL_nil (W_ret ?_)
 have hq5 := Option.some.inj hF
 subst hq5
 refine fn_ret1 rfl rfl ?_
 exact ⟨_, rfl, bool_res hC4 _⟩

theorem c_Q_eqMethod {w0 : World} (a1 : (Int × (List Int) × Int × Int × Int)) (u1 : Value) (g1 : RO [] w0 u1 a1.2.1) (a2 : (Int × (List Int) × Int × Int × Int)) (u2 : Value) (g2 : RO [] w0 u2 a2.2.1) (rr : Bool) (hF : Q.eqMethod a1 a2 = some rr) :
 Calls Tryz.prog 50 [(.agg #[(.int .i64 a1.1), u1, (.int .i64 a1.2.2.1), (.int .i64 a1.2.2.2.1), (.int .i64 a1.2.2.2.2)]), (.agg #[(.int .i64 a2.1), u2, (.int .i64 a2.2.2.1), (.int .i64 a2.2.2.2.1), (.int .i64 a2.2.2.2.2)])].toArray w0 fun e w' => ∃ v, e = .returned v ∧ Res w0 rr v w' := by
 refine calls_of_W Tryz.func50 rfl rfl ?_
 have hC0 := Ctx.start w0
 unfold Q.eqMethod at hF
 refine W_seq_reg ?_
 refine WL_boxK (cs := [(.int .i64 a1.1), u1, (.int .i64 a1.2.2.1), (.int .i64 a1.2.2.2.1), (.int .i64 a1.2.2.2.2)]) hC0 rfl rfl rfl (fun b1 w1 hC1 hB1 hN1 => ?_)
 refine WL_boxK (cs := [(.int .i64 a2.1), u2, (.int .i64 a2.2.2.1), (.int .i64 a2.2.2.2.1), (.int .i64 a2.2.2.2.2)]) hC1 rfl rfl rfl (fun b2 w2 hC2 hB2 hN2 => ?_)
 refine WL_assign rfl rfl ?_
 refine WL_nil (W_seq (W_seq_reg ?_))
 refine WL_field Tryz.underlying71 rfl rfl (fun w => ⟨_, Tryz.sizeOf3 w⟩) rfl rfl ?_
 refine WL_load_box hC2 1 rfl rfl Tryz.isAgg3 rfl rfl ?_
 refine WL_field Tryz.underlying71 rfl rfl (fun w => ⟨_, Tryz.sizeOf3 w⟩) rfl rfl ?_
 refine WL_load_box hC2 0 rfl rfl Tryz.isAgg3 rfl rfl ?_
 refine WL_neq rfl rfl rfl ?_
 refine WL_nil ?_
 refine W_cond rfl (fun hc1 => ?_) (fun hc1 => ?_)
 ·replace hF := ite_t hF hc1
  refine W_seq_reg ?_
  refine WL_assign rfl rfl ?_
  refine WL_nil (W_ret (nrm_ret ?_))
  have hq1 := Option.some.inj hF
  subst hq1
  refine fn_ret1 rfl rfl ?_
  exact ⟨_, rfl, bool_res hC2 _⟩
 replace hF := ite_f hF hc1
 refine W_skip (nrm_normal (W_seq (W_seq_reg ?_)))
 refine WL_field Tryz.underlying71 rfl rfl (fun w => ⟨_, Tryz.sizeOf22 w⟩) rfl rfl ?_
 refine WL_load_box hC2 1 rfl rfl Tryz.isAgg22 rfl rfl ?_
 refine WL_field Tryz.underlying71 rfl rfl (fun w => ⟨_, Tryz.sizeOf22 w⟩) rfl rfl ?_
 refine WL_load_box hC2 0 rfl rfl Tryz.isAgg22 rfl rfl ?_
 obtain ⟨x1, hr1, hF⟩ := bind_some hF
 refine WL_call Tryz.call16 rfl rfl (c_Q_eqIntS a1.2.1 u1 (g1.now hC2.keep) a2.2.1 u2 (g2.now hC2.keep) x1 hr1) ?_
 intro _ w3 hv1
 obtain ⟨rfl, hB3⟩ := res_bool hv1
 have hC3 := hC2.grow hB3
 refine WL_not rfl rfl ?_
 refine WL_nil ?_
 refine W_cond rfl (fun hc2 => ?_) (fun hc2 => ?_)
 ·replace hF := ite_t hF hc2
  refine W_seq_reg ?_
  refine WL_assign rfl rfl ?_
  refine WL_nil (W_ret (nrm_ret ?_))
  have hq2 := Option.some.inj hF
  subst hq2
  refine fn_ret1 rfl rfl ?_
  exact ⟨_, rfl, bool_res hC3 _⟩
 replace hF := ite_f hF hc2
 refine W_skip (nrm_normal (W_seq (W_seq_reg ?_)))
 refine WL_field Tryz.underlying71 rfl rfl (fun w => ⟨_, Tryz.sizeOf3 w⟩) rfl rfl ?_
 refine WL_load_box hC3 1 rfl rfl Tryz.isAgg3 rfl rfl ?_
 refine WL_field Tryz.underlying71 rfl rfl (fun w => ⟨_, Tryz.sizeOf3 w⟩) rfl rfl ?_
 refine WL_load_box hC3 0 rfl rfl Tryz.isAgg3 rfl rfl ?_
 refine WL_neq rfl rfl rfl ?_
 refine WL_nil ?_
 refine W_cond rfl (fun hc3 => ?_) (fun hc3 => ?_)
 ·replace hF := ite_t hF hc3
  refine W_seq_reg ?_
  refine WL_assign rfl rfl ?_
  refine WL_nil (W_ret (nrm_ret ?_))
  have hq3 := Option.some.inj hF
  subst hq3
  refine fn_ret1 rfl rfl ?_
  exact ⟨_, rfl, bool_res hC3 _⟩
 replace hF := ite_f hF hc3
 refine W_skip (nrm_normal (W_seq (W_seq_reg ?_)))
 refine WL_field Tryz.underlying71 rfl rfl (fun w => ⟨_, Tryz.sizeOf3 w⟩) rfl rfl ?_
 refine WL_load_box hC3 1 rfl rfl Tryz.isAgg3 rfl rfl ?_
 refine WL_field Tryz.underlying71 rfl rfl (fun w => ⟨_, Tryz.sizeOf3 w⟩) rfl rfl ?_
 refine WL_load_box hC3 0 rfl rfl Tryz.isAgg3 rfl rfl ?_
 refine WL_neq rfl rfl rfl ?_
 refine WL_nil ?_
 refine W_cond rfl (fun hc4 => ?_) (fun hc4 => ?_)
 ·replace hF := ite_t hF hc4
  refine W_seq_reg ?_
  refine WL_assign rfl rfl ?_
  refine WL_nil (W_ret (nrm_ret ?_))
  have hq4 := Option.some.inj hF
  subst hq4
  refine fn_ret1 rfl rfl ?_
  exact ⟨_, rfl, bool_res hC3 _⟩
 replace hF := ite_f hF hc4
 refine W_skip (nrm_normal (W_seq (W_seq_reg ?_)))
 refine WL_field Tryz.underlying71 rfl rfl (fun w => ⟨_, Tryz.sizeOf3 w⟩) rfl rfl ?_
 refine WL_load_box hC3 1 rfl rfl Tryz.isAgg3 rfl rfl ?_
 refine WL_field Tryz.underlying71 rfl rfl (fun w => ⟨_, Tryz.sizeOf3 w⟩) rfl rfl ?_
 refine WL_load_box hC3 0 rfl rfl Tryz.isAgg3 rfl rfl ?_
 refine WL_neq rfl rfl rfl ?_
 refine WL_nil ?_
 refine W_cond rfl (fun hc5 => ?_) (fun hc5 => ?_)
 ·replace hF := ite_t hF hc5
  refine W_seq_reg ?_
  refine WL_assign rfl rfl ?_
  refine WL_nil (W_ret (nrm_ret ?_))
  have hq5 := Option.some.inj hF
  subst hq5
  refine fn_ret1 rfl rfl ?_
  exact ⟨_, rfl, bool_res hC3 _⟩
 replace hF := ite_f hF hc5
 refine W_skip (nrm_normal (W_seq_reg ?_))
 refine WL_assign rfl rfl ?_
 refine WL_nil (W_ret ?_)
 have hq6 := Option.some.inj hF
 subst hq6
 refine fn_ret1 rfl rfl ?_
 exact ⟨_, rfl, bool_res hC3 _⟩

theorem c_Q_eqMethodS {w0 : World} (a1 : (List (Int × (List Int) × Int × Int × Int))) (u1 : Value) (g1 : RO [] w0 u1 a1) (a2 : (List (Int × (List Int) × Int × Int × Int))) (u2 : Value) (g2 : RO [] w0 u2 a2) (rr : Bool) (hF : Q.eqMethodS a1 a2 = some rr) :
 Calls Tryz.prog 17 [u1, u2].toArray w0 fun e w' => ∃ v, e = .returned v ∧ Res w0 rr v w' := by
 refine calls_of_W Tryz.func17 rfl rfl ?_
 have hC0 := Ctx.start w0
 unfold Q.eqMethodS at hF
 refine W_seq_reg ?_
 refine WL_assign rfl rfl ?_
 refine WL_nil (W_seq (W_seq_reg ?_))
 refine WL_move rfl rfl ?_
 refine WL_len Tryz.underlying33 g1 rfl rfl ?_
 refine WL_move rfl rfl ?_
 refine WL_len Tryz.underlying33 g2 rfl rfl ?_
 refine WL_neq rfl rfl rfl ?_
 refine WL_nil ?_
 refine W_cond rfl (fun hc1 => ?_) (fun hc1 => ?_)
 ·replace hF := ite_t hF hc1
  refine W_seq_reg ?_
  refine WL_assign rfl rfl ?_
  refine WL_nil (W_ret (nrm_ret ?_))
  have hq1 := Option.some.inj hF
  subst hq1
  refine fn_ret1 rfl rfl ?_
  exact ⟨_, rfl, bool_res hC0 _⟩
 replace hF := ite_f hF hc1
 refine W_skip (nrm_normal (W_seq (W_seq_reg ?_)))
 refine WL_assign rfl rfl ?_
 refine WL_nil ?_
 obtain ⟨r1, hr1, hF⟩ := bind_some hF
 refine W_norm (fun l w => .inl () = r1 ∧ l = [] ∧ Below w0.heap.size w0 w ∧ Ctx [] w0 w []) ?_ ?_
 ·refine W_block ?_
  refine W.sub (l' := [(0, u1), (1, u2), (5, (.int .i64 0))]) ?_ ⟨rfl, rfl, rfl, trivial⟩
  refine W_loop (fun k l w => ∃ x1 : Int, l = [(0, u1), (1, u2), (5, (.int .i64 x1))] ∧ Below w0.heap.size w0 w ∧ Ctx [] w0 w [] ∧ Q.eqMethodS_l1 a1 a2 k x1 = some r1) FUEL ⟨0, rfl, (Below.refl _ _), hC0, hr1⟩ ?_
  clear hr1
  rintro k1 _ w1 ⟨x1, rfl, hB1, hC1, hL1⟩
  cases k1 with
  | zero => rw [Q.eqMethodS_l1] at hL1; cases hL1
  | succ k1 =>
   rw [Q.eqMethodS_l1] at hL1
   refine W_seq (W_seq_reg ?_)
   refine WL_move rfl rfl ?_
   refine WL_move rfl rfl ?_
   refine WL_len Tryz.underlying33 g1 rfl rfl ?_
   refine WL_lss rfl rfl rfl ?_
   refine WL_nil ?_
   refine W_cond rfl (fun hc2 => ?_) (fun hc2 => ?_)
   ·replace hL1 := ite_t hL1 hc2
    refine W_skip (nrm_normal (W_seq (W_block (W_seq ?_))))
    refine W_drawn 10 rfl hmix (fun w2 hB2 => ?_)
    have hC2 := hC1.grow hB2
    refine WA_tk 0 (by kernel_rfl) rfl rfl (fl_move rfl) ?_
    refine WL_move rfl rfl ?_
    refine WL_nil ?_
    refine WA_tk 1 (by kernel_rfl) rfl rfl (fl_move rfl) ?_
    refine WL_move rfl rfl ?_
    refine WL_nil ?_
    obtain ⟨x2, hx1, hL1⟩ := bind_some hL1
    refine WA_tk 2 (by kernel_rfl) rfl rfl (fl_index Tryz.underlying33 ty71 g1 hx1 rfl rfl) ?_
    refine WL_index Tryz.underlying33 ty71 g1 hx1 rfl rfl rfl (fun b1 o1 h1 => ?_)
    refine WL_nil ?_
    refine WA_tk 4 (by kernel_rfl) rfl rfl (fl_move rfl) ?_
    refine WL_move rfl rfl ?_
    refine WL_nil ?_
    refine WA_tk 5 (by kernel_rfl) rfl rfl (fl_move rfl) ?_
    refine WL_move rfl rfl ?_
    refine WL_nil ?_
    obtain ⟨x3, hx2, hL1⟩ := bind_some hL1
    refine WA_tk 6 (by kernel_rfl) rfl rfl (fl_index Tryz.underlying33 ty71 g2 hx2 rfl rfl) ?_
    refine WL_index Tryz.underlying33 ty71 g2 hx2 rfl rfl rfl (fun b2 o2 h2 => ?_)
    refine WL_nil ?_
    refine WA.sub (l' := [(0, u1), (1, u2), (5, (.int .i64 x1)), (11, (.int .i64 x1)), (12, u1), (13, (.int .i64 (List.length a1 : Int))), (14, (.bool (decide (x1 < (List.length a1 : Int))))), (17, u1), (18, (.int .i64 x1)), (19, (ptr b1 o1)), (21, u2), (22, (.int .i64 x1)), (23, (ptr b2 o2))]) ?_ ⟨rfl, rfl, rfl, rfl, rfl, rfl, rfl, rfl, rfl, rfl, rfl, rfl, rfl, trivial⟩
    refine WA_postsE [⟨3, [], fun vs => PW.ro [] w0 x2, []⟩, ⟨7, [], fun vs => PW.ro [] w0 x3, []⟩] [[], []] 2 rfl (by kernel_rfl) (by kernel_rfl) rfl ?_ ?_
    ·refine StepsE_cons rfl ?_ ?_
     ·intro w3 hB3
      refine DepsE_nil ?_
      refine ⟨_, rfl, ?_⟩
      refine WL_load ty71 h1 (hC2.keep.then hB3) rfl rfl (fun v3 h5 => ?_)
      refine WL_nil ?_
      exact FinE_val (Below.refl _ _) rfl rfl ⟨rfl, h5⟩
     refine StepsE_cons rfl ?_ ?_
     ·intro w3 hB3
      refine DepsE_nil ?_
      refine ⟨_, rfl, ?_⟩
      refine WL_load ty71 h2 (hC2.keep.then hB3) rfl rfl (fun v6 h8 => ?_)
      refine WL_nil ?_
      exact FinE_val (Below.refl _ _) rfl rfl ⟨rfl, h8⟩
     exact StepsE_nil
    intro w4 hB4
    refine AllE_cons rfl rfl rfl ?_
    rintro v3 _ ⟨rfl, h5⟩
    obtain ⟨v2, rfl, h4⟩ := ro_st71 h5
    refine AllE_cons rfl rfl rfl ?_
    rintro v6 _ ⟨rfl, h8⟩
    obtain ⟨v5, rfl, h7⟩ := ro_st71 h8
    refine AllE_nil ?_
    intro hn1 hb1
    have hC3 := hC2.grow hB4
    obtain ⟨x4, hr2, hL1⟩ := bind_some hL1
    refine WA_one 8 (by kernel_rfl) rfl ?_
    refine WL_call Tryz.call50 rfl rfl (c_Q_eqMethod x2 v2 (h4.now hC3.keep) x3 v5 (h7.now hC3.keep) x4 hr2) ?_
    intro _ w5 hv1
    obtain ⟨rfl, hB5⟩ := res_bool hv1
    have hC4 := hC3.grow hB5
    refine WL_nil ?_
    refine WA_tk 9 (by kernel_rfl) rfl rfl (fl_not rfl) ?_
    refine WL_not rfl rfl ?_
    refine WL_nil ?_
    refine WA_done (by kernel_rfl) ?_
    refine nrm_normal ?_
    refine W_cond rfl (fun hc3 => ?_) (fun hc3 => ?_)
    ·replace hL1 := ite_t hL1 hc3
     refine W_seq_reg ?_
     refine WL_assign rfl rfl ?_
     refine WL_nil (W_ret (blk_ret (nrm_ret (nrm_ret (blk_ret (nrm_ret (nrm_ret ?_)))))))
     have hq2 := Option.some.inj hL1
     subst hq2
     dsimp only at hF
     have hq3 := Option.some.inj hF
     subst hq3
     refine fn_ret1 rfl rfl ?_
     exact ⟨_, rfl, bool_res hC4 _⟩
    replace hL1 := ite_f hL1 hc3
    refine W_skip (blk_normal (nrm_normal (W_reg ?_)))
    refine WL_move rfl rfl ?_
    refine WL_add rfl rfl rfl ?_
    refine WL_assign rfl rfl ?_
    refine WL_nil ?_
    refine nrm_sub (l' := [(0, u1), (1, u2), (5, (.int .i64 (w64 (x1 + 1))))]) ⟨rfl, rfl, rfl, trivial⟩ ?_
    exact ⟨k1, Nat.lt_succ_self _, w64 (x1 + 1), rfl, ((((Keep.of hB1).then hB2).then hB4).then hB5).below, hC4, hL1⟩
   replace hL1 := ite_f hL1 hc2
   refine W_exit (nrm_exit (nrm_exit (blk_exit ?_)))
   have hq4 := Option.some.inj hL1
   subst hq4
   refine nrm_sub (l' := []) trivial ?_
   exact ⟨rfl, rfl, (Keep.of hB1).below, hC1⟩
 rintro l2 _ w6 hs2 ⟨rfl, rfl, hB6, hC5⟩
 try dsimp only at hF
 refine nrm_sub' hs2 ?_
 clear hs2
 refine W_seq_reg ?_
 refine WL_assign rfl rfl ?_
 refine WL_nil (W_ret ?_)
 have hq5 := Option.some.inj hF
 subst hq5
 refine fn_ret1 rfl rfl ?_
 exact ⟨_, rfl, bool_res hC5 _⟩

theorem c_Q_eqAtom {w0 : World} (a1 : (Int × (List Int))) (u1 : Value) (g1 : RO [] w0 u1 a1.2) (a2 : (Int × (List Int))) (u2 : Value) (g2 : RO [] w0 u2 a2.2) (rr : Bool) (hF : Q.eqAtom a1 a2 = some rr) :
 Calls Tryz.prog 88 [(.agg #[(.int .i64 a1.1), u1]), (.agg #[(.int .i64 a2.1), u2])].toArray w0 fun e w' => ∃ v, e = .returned v ∧ Res w0 rr v w' := by
 refine calls_of_W Tryz.func88 rfl rfl ?_
 have hC0 := Ctx.start w0
 unfold Q.eqAtom at hF
 refine W_seq_reg ?_
 refine WL_boxK (cs := [(.int .i64 a1.1), u1]) hC0 rfl rfl rfl (fun b1 w1 hC1 hB1 hN1 => ?_)
 refine WL_boxK (cs := [(.int .i64 a2.1), u2]) hC1 rfl rfl rfl (fun b2 w2 hC2 hB2 hN2 => ?_)
 refine WL_assign rfl rfl ?_
 refine WL_nil (W_seq (W_seq_reg ?_))
 refine WL_field Tryz.underlying84 rfl rfl (fun w => ⟨_, Tryz.sizeOf3 w⟩) rfl rfl ?_
 refine WL_load_box hC2 1 rfl rfl Tryz.isAgg3 rfl rfl ?_
 refine WL_field Tryz.underlying84 rfl rfl (fun w => ⟨_, Tryz.sizeOf3 w⟩) rfl rfl ?_
 refine WL_load_box hC2 0 rfl rfl Tryz.isAgg3 rfl rfl ?_
 refine WL_neq rfl rfl rfl ?_
 refine WL_nil ?_
 refine W_cond rfl (fun hc1 => ?_) (fun hc1 => ?_)
 ·replace hF := ite_t hF hc1
  refine W_seq_reg ?_
  refine WL_assign rfl rfl ?_
  refine WL_nil (W_ret (nrm_ret ?_))
  have hq1 := Option.some.inj hF
  subst hq1
  refine fn_ret1 rfl rfl ?_
  exact ⟨_, rfl, bool_res hC2 _⟩
 replace hF := ite_f hF hc1
 refine W_skip (nrm_normal (W_seq (W_seq_reg ?_)))
 refine WL_field Tryz.underlying84 rfl rfl (fun w => ⟨_, Tryz.sizeOf22 w⟩) rfl rfl ?_
 refine WL_load_box hC2 1 rfl rfl Tryz.isAgg22 rfl rfl ?_
 refine WL_field Tryz.underlying84 rfl rfl (fun w => ⟨_, Tryz.sizeOf22 w⟩) rfl rfl ?_
 refine WL_load_box hC2 0 rfl rfl Tryz.isAgg22 rfl rfl ?_
 obtain ⟨x1, hr1, hF⟩ := bind_some hF
 refine WL_call Tryz.call16 rfl rfl (c_Q_eqIntS a1.2 u1 (g1.now hC2.keep) a2.2 u2 (g2.now hC2.keep) x1 hr1) ?_
 intro _ w3 hv1
 obtain ⟨rfl, hB3⟩ := res_bool hv1
 have hC3 := hC2.grow hB3
 refine WL_not rfl rfl ?_
 refine WL_nil ?_
 refine W_cond rfl (fun hc2 => ?_) (fun hc2 => ?_)
 ·replace hF := ite_t hF hc2
  refine W_seq_reg ?_
  refine WL_assign rfl rfl ?_
  refine WL_nil (W_ret (nrm_ret ?_))
  have hq2 := Option.some.inj hF
  subst hq2
  refine fn_ret1 rfl rfl ?_
  exact ⟨_, rfl, bool_res hC3 _⟩
 replace hF := ite_f hF hc2
 refine W_skip (nrm_normal (W_seq_reg ?_))
 refine WL_assign rfl rfl ?_
 refine WL_nil (W_ret ?_)
 have hq3 := Option.some.inj hF
 subst hq3
 refine fn_ret1 rfl rfl ?_
 exact ⟨_, rfl, bool_res hC3 _⟩

theorem c_Q_eqAtomS {w0 : World} (a1 : (List (Int × (List Int)))) (u1 : Value) (g1 : RO [] w0 u1 a1) (a2 : (List (Int × (List Int)))) (u2 : Value) (g2 : RO [] w0 u2 a2) (rr : Bool) (hF : Q.eqAtomS a1 a2 = some rr) :
 Calls Tryz.prog 51 [u1, u2].toArray w0 fun e w' => ∃ v, e = .returned v ∧ Res w0 rr v w' := by
 refine calls_of_W Tryz.func51 rfl rfl ?_
 have hC0 := Ctx.start w0
 unfold Q.eqAtomS at hF
 refine W_seq_reg ?_
 refine WL_assign rfl rfl ?_
 refine WL_nil (W_seq (W_seq_reg ?_))
 refine WL_move rfl rfl ?_
 refine WL_len Tryz.underlying35 g1 rfl rfl ?_
 refine WL_move rfl rfl ?_
 refine WL_len Tryz.underlying35 g2 rfl rfl ?_
 refine WL_neq rfl rfl rfl ?_
 refine WL_nil ?_
 refine W_cond rfl (fun hc1 => ?_) (fun hc1 => ?_)
 ·replace hF := ite_t hF hc1
  refine W_seq_reg ?_
  refine WL_assign rfl rfl ?_
  refine WL_nil (W_ret (nrm_ret ?_))
  have hq1 := Option.some.inj hF
  subst hq1
  refine fn_ret1 rfl rfl ?_
  exact ⟨_, rfl, bool_res hC0 _⟩
 replace hF := ite_f hF hc1
 refine W_skip (nrm_normal (W_seq (W_seq_reg ?_)))
 refine WL_assign rfl rfl ?_
 refine WL_nil ?_
 obtain ⟨r1, hr1, hF⟩ := bind_some hF
 refine W_norm (fun l w => .inl () = r1 ∧ l = [] ∧ Below w0.heap.size w0 w ∧ Ctx [] w0 w []) ?_ ?_
 ·refine W_block ?_
  refine W.sub (l' := [(0, u1), (1, u2), (5, (.int .i64 0))]) ?_ ⟨rfl, rfl, rfl, trivial⟩
  refine W_loop (fun k l w => ∃ x1 : Int, l = [(0, u1), (1, u2), (5, (.int .i64 x1))] ∧ Below w0.heap.size w0 w ∧ Ctx [] w0 w [] ∧ Q.eqAtomS_l1 a1 a2 k x1 = some r1) FUEL ⟨0, rfl, (Below.refl _ _), hC0, hr1⟩ ?_
  clear hr1
  rintro k1 _ w1 ⟨x1, rfl, hB1, hC1, hL1⟩
  cases k1 with
  | zero => rw [Q.eqAtomS_l1] at hL1; cases hL1
  | succ k1 =>
   rw [Q.eqAtomS_l1] at hL1
   refine W_seq (W_seq_reg ?_)
   refine WL_move rfl rfl ?_
   refine WL_move rfl rfl ?_
   refine WL_len Tryz.underlying35 g1 rfl rfl ?_
   refine WL_lss rfl rfl rfl ?_
   refine WL_nil ?_
   refine W_cond rfl (fun hc2 => ?_) (fun hc2 => ?_)
   ·replace hL1 := ite_t hL1 hc2
    refine W_skip (nrm_normal (W_seq (W_block (W_seq ?_))))
    refine W_drawn 10 rfl hmix (fun w2 hB2 => ?_)
    have hC2 := hC1.grow hB2
    refine WA_tk 0 (by kernel_rfl) rfl rfl (fl_move rfl) ?_
    refine WL_move rfl rfl ?_
    refine WL_nil ?_
    refine WA_tk 1 (by kernel_rfl) rfl rfl (fl_move rfl) ?_
    refine WL_move rfl rfl ?_
    refine WL_nil ?_
    obtain ⟨x2, hx1, hL1⟩ := bind_some hL1
    refine WA_tk 2 (by kernel_rfl) rfl rfl (fl_index Tryz.underlying35 ty84 g1 hx1 rfl rfl) ?_
    refine WL_index Tryz.underlying35 ty84 g1 hx1 rfl rfl rfl (fun b1 o1 h1 => ?_)
    refine WL_nil ?_
    refine WA_tk 4 (by kernel_rfl) rfl rfl (fl_move rfl) ?_
    refine WL_move rfl rfl ?_
    refine WL_nil ?_
    refine WA_tk 5 (by kernel_rfl) rfl rfl (fl_move rfl) ?_
    refine WL_move rfl rfl ?_
    refine WL_nil ?_
    obtain ⟨x3, hx2, hL1⟩ := bind_some hL1
    refine WA_tk 6 (by kernel_rfl) rfl rfl (fl_index Tryz.underlying35 ty84 g2 hx2 rfl rfl) ?_
    refine WL_index Tryz.underlying35 ty84 g2 hx2 rfl rfl rfl (fun b2 o2 h2 => ?_)
    refine WL_nil ?_
    refine WA.sub (l' := [(0, u1), (1, u2), (5, (.int .i64 x1)), (11, (.int .i64 x1)), (12, u1), (13, (.int .i64 (List.length a1 : Int))), (14, (.bool (decide (x1 < (List.length a1 : Int))))), (17, u1), (18, (.int .i64 x1)), (19, (ptr b1 o1)), (21, u2), (22, (.int .i64 x1)), (23, (ptr b2 o2))]) ?_ ⟨rfl, rfl, rfl, rfl, rfl, rfl, rfl, rfl, rfl, rfl, rfl, rfl, rfl, trivial⟩
    refine WA_postsE [⟨3, [], fun vs => PW.ro [] w0 x2, []⟩, ⟨7, [], fun vs => PW.ro [] w0 x3, []⟩] [[], []] 2 rfl (by kernel_rfl) (by kernel_rfl) rfl ?_ ?_
    ·refine StepsE_cons rfl ?_ ?_
     ·intro w3 hB3
      refine DepsE_nil ?_
      refine ⟨_, rfl, ?_⟩
      refine WL_load ty84 h1 (hC2.keep.then hB3) rfl rfl (fun v3 h5 => ?_)
      refine WL_nil ?_
      exact FinE_val (Below.refl _ _) rfl rfl ⟨rfl, h5⟩
     refine StepsE_cons rfl ?_ ?_
     ·intro w3 hB3
      refine DepsE_nil ?_
      refine ⟨_, rfl, ?_⟩
      refine WL_load ty84 h2 (hC2.keep.then hB3) rfl rfl (fun v6 h8 => ?_)
      refine WL_nil ?_
      exact FinE_val (Below.refl _ _) rfl rfl ⟨rfl, h8⟩
     exact StepsE_nil
    intro w4 hB4
    refine AllE_cons rfl rfl rfl ?_
    rintro v3 _ ⟨rfl, h5⟩
    obtain ⟨v2, rfl, h4⟩ := ro_st84 h5
    refine AllE_cons rfl rfl rfl ?_
    rintro v6 _ ⟨rfl, h8⟩
    obtain ⟨v5, rfl, h7⟩ := ro_st84 h8
    refine AllE_nil ?_
    intro hn1 hb1
    have hC3 := hC2.grow hB4
    obtain ⟨x4, hr2, hL1⟩ := bind_some hL1
    refine WA_one 8 (by kernel_rfl) rfl ?_
    refine WL_call Tryz.call88 rfl rfl (c_Q_eqAtom x2 v2 (h4.now hC3.keep) x3 v5 (h7.now hC3.keep) x4 hr2) ?_
    intro _ w5 hv1
    obtain ⟨rfl, hB5⟩ := res_bool hv1
    have hC4 := hC3.grow hB5
    refine WL_nil ?_
    refine WA_tk 9 (by kernel_rfl) rfl rfl (fl_not rfl) ?_
    refine WL_not rfl rfl ?_
    refine WL_nil ?_
    refine WA_done (by kernel_rfl) ?_
    refine nrm_normal ?_
    refine W_cond rfl (fun hc3 => ?_) (fun hc3 => ?_)
    ·replace hL1 := ite_t hL1 hc3
     refine W_seq_reg ?_
     refine WL_assign rfl rfl ?_
     refine WL_nil (W_ret (blk_ret (nrm_ret (nrm_ret (blk_ret (nrm_ret (nrm_ret ?_)))))))
     have hq2 := Option.some.inj hL1
     subst hq2
     dsimp only at hF
     have hq3 := Option.some.inj hF
     subst hq3
     refine fn_ret1 rfl rfl ?_
     exact ⟨_, rfl, bool_res hC4 _⟩
    replace hL1 := ite_f hL1 hc3
    refine W_skip (blk_normal (nrm_normal (W_reg ?_)))
    refine WL_move rfl rfl ?_
    refine WL_add rfl rfl rfl ?_
    refine WL_assign rfl rfl ?_
    refine WL_nil ?_
    refine nrm_sub (l' := [(0, u1), (1, u2), (5, (.int .i64 (w64 (x1 + 1))))]) ⟨rfl, rfl, rfl, trivial⟩ ?_
    exact ⟨k1, Nat.lt_succ_self _, w64 (x1 + 1), rfl, ((((Keep.of hB1).then hB2).then hB4).then hB5).below, hC4, hL1⟩
   replace hL1 := ite_f hL1 hc2
   refine W_exit (nrm_exit (nrm_exit (blk_exit ?_)))
   have hq4 := Option.some.inj hL1
   subst hq4
   refine nrm_sub (l' := []) trivial ?_
   exact ⟨rfl, rfl, (Keep.of hB1).below, hC1⟩
 rintro l2 _ w6 hs2 ⟨rfl, rfl, hB6, hC5⟩
 try dsimp only at hF
 refine nrm_sub' hs2 ?_
 clear hs2
 refine W_seq_reg ?_
 refine WL_assign rfl rfl ?_
 refine WL_nil (W_ret ?_)
 have hq5 := Option.some.inj hF
 subst hq5
 refine fn_ret1 rfl rfl ?_
 exact ⟨_, rfl, bool_res hC5 _⟩

theorem c_Q_eqQuery {w0 : World} (a1 : ((List Int) × (List (Int × (List Int))))) (u1 : Value) (g1 : RO [] w0 u1 a1.1) (u2 : Value) (g2 : RO [] w0 u2 a1.2) (a2 : ((List Int) × (List (Int × (List Int))))) (u3 : Value) (g3 : RO [] w0 u3 a2.1) (u4 : Value) (g4 : RO [] w0 u4 a2.2) (rr : Bool) (hF : Q.eqQuery a1 a2 = some rr) :
 Calls Tryz.prog 18 [(.agg #[u1, u2]), (.agg #[u3, u4])].toArray w0 fun e w' => ∃ v, e = .returned v ∧ Res w0 rr v w' := by
 refine calls_of_W Tryz.func18 rfl rfl ?_
 have hC0 := Ctx.start w0
 unfold Q.eqQuery at hF
 refine W_seq_reg ?_
 refine WL_boxK (cs := [u1, u2]) hC0 rfl rfl rfl (fun b1 w1 hC1 hB1 hN1 => ?_)
 refine WL_boxK (cs := [u3, u4]) hC1 rfl rfl rfl (fun b2 w2 hC2 hB2 hN2 => ?_)
 refine WL_assign rfl rfl ?_
 refine WL_nil (W_seq (W_seq_reg ?_))
 refine WL_field Tryz.underlying37 rfl rfl (fun w => ⟨_, Tryz.sizeOf22 w⟩) rfl rfl ?_
 refine WL_load_box hC2 1 rfl rfl Tryz.isAgg22 rfl rfl ?_
 refine WL_field Tryz.underlying37 rfl rfl (fun w => ⟨_, Tryz.sizeOf22 w⟩) rfl rfl ?_
 refine WL_load_box hC2 0 rfl rfl Tryz.isAgg22 rfl rfl ?_
 obtain ⟨x1, hr1, hF⟩ := bind_some hF
 refine WL_call Tryz.call16 rfl rfl (c_Q_eqIntS a1.1 u1 (g1.now hC2.keep) a2.1 u3 (g3.now hC2.keep) x1 hr1) ?_
 intro _ w3 hv1
 obtain ⟨rfl, hB3⟩ := res_bool hv1
 have hC3 := hC2.grow hB3
 refine WL_not rfl rfl ?_
 refine WL_nil ?_
 refine W_cond rfl (fun hc1 => ?_) (fun hc1 => ?_)
 ·replace hF := ite_t hF hc1
  refine W_seq_reg ?_
  refine WL_assign rfl rfl ?_
  refine WL_nil (W_ret (nrm_ret ?_))
  have hq1 := Option.some.inj hF
  subst hq1
  refine fn_ret1 rfl rfl ?_
  exact ⟨_, rfl, bool_res hC3 _⟩
 replace hF := ite_f hF hc1
 refine W_skip (nrm_normal (W_seq (W_seq_reg ?_)))
 refine WL_field Tryz.underlying37 rfl rfl (fun w => ⟨_, Tryz.sizeOf35 w⟩) rfl rfl ?_
 refine WL_load_box hC3 1 rfl rfl Tryz.isAgg35 rfl rfl ?_
 refine WL_field Tryz.underlying37 rfl rfl (fun w => ⟨_, Tryz.sizeOf35 w⟩) rfl rfl ?_
 refine WL_load_box hC3 0 rfl rfl Tryz.isAgg35 rfl rfl ?_
 obtain ⟨x2, hr2, hF⟩ := bind_some hF
 refine WL_call Tryz.call51 rfl rfl (c_Q_eqAtomS a1.2 u2 (g2.now hC3.keep) a2.2 u4 (g4.now hC3.keep) x2 hr2) ?_
 intro _ w4 hv2
 obtain ⟨rfl, hB4⟩ := res_bool hv2
 have hC4 := hC3.grow hB4
 refine WL_not rfl rfl ?_
 refine WL_nil ?_
 refine W_cond rfl (fun hc2 => ?_) (fun hc2 => ?_)
 ·replace hF := ite_t hF hc2
  refine W_seq_reg ?_
  refine WL_assign rfl rfl ?_
  refine WL_nil (W_ret (nrm_ret ?_))
  have hq2 := Option.some.inj hF
  subst hq2
  refine fn_ret1 rfl rfl ?_
  exact ⟨_, rfl, bool_res hC4 _⟩
 replace hF := ite_f hF hc2
 refine W_skip (nrm_normal (W_seq_reg ?_))
 refine WL_assign rfl rfl ?_
 refine WL_nil (W_ret ?_)
 have hq3 := Option.some.inj hF
 subst hq3
 refine fn_ret1 rfl rfl ?_
 exact ⟨_, rfl, bool_res hC4 _⟩

theorem c_Q_eqStep {w0 : World} (a1 : (Int × Int)) (a2 : (Int × Int)) (rr : Bool) (hF : Q.eqStep a1 a2 = some rr) :
 Calls Tryz.prog 52 [(.agg #[(.int .i64 a1.1), (.int .i64 a1.2)]), (.agg #[(.int .i64 a2.1), (.int .i64 a2.2)])].toArray w0 fun e w' => ∃ v, e = .returned v ∧ Res w0 rr v w' := by
 refine calls_of_W Tryz.func52 rfl rfl ?_
 have hC0 := Ctx.start w0
 unfold Q.eqStep at hF
 refine W_seq_reg ?_
 refine WL_boxK (cs := [(.int .i64 a1.1), (.int .i64 a1.2)]) hC0 rfl rfl rfl (fun b1 w1 hC1 hB1 hN1 => ?_)
 refine WL_boxK (cs := [(.int .i64 a2.1), (.int .i64 a2.2)]) hC1 rfl rfl rfl (fun b2 w2 hC2 hB2 hN2 => ?_)
 refine WL_assign rfl rfl ?_
 refine WL_nil (W_seq (W_seq_reg ?_))
 refine WL_field Tryz.underlying75 rfl rfl (fun w => ⟨_, Tryz.sizeOf3 w⟩) rfl rfl ?_
 refine WL_load_box hC2 1 rfl rfl Tryz.isAgg3 rfl rfl ?_
 refine WL_field Tryz.underlying75 rfl rfl (fun w => ⟨_, Tryz.sizeOf3 w⟩) rfl rfl ?_
 refine WL_load_box hC2 0 rfl rfl Tryz.isAgg3 rfl rfl ?_
 refine WL_neq rfl rfl rfl ?_
 refine WL_nil ?_
 refine W_cond rfl (fun hc1 => ?_) (fun hc1 => ?_)
 ·replace hF := ite_t hF hc1
  refine W_seq_reg ?_
  refine WL_assign rfl rfl ?_
  refine WL_nil (W_ret (nrm_ret ?_))
  have hq1 := Option.some.inj hF
  subst hq1
  refine fn_ret1 rfl rfl ?_
  exact ⟨_, rfl, bool_res hC2 _⟩
 replace hF := ite_f hF hc1
 refine W_skip (nrm_normal (W_seq (W_seq_reg ?_)))
 refine WL_field Tryz.underlying75 rfl rfl (fun w => ⟨_, Tryz.sizeOf3 w⟩) rfl rfl ?_
 refine WL_load_box hC2 1 rfl rfl Tryz.isAgg3 rfl rfl ?_
 refine WL_field Tryz.underlying75 rfl rfl (fun w => ⟨_, Tryz.sizeOf3 w⟩) rfl rfl ?_
 refine WL_load_box hC2 0 rfl rfl Tryz.isAgg3 rfl rfl ?_
 refine WL_neq rfl rfl rfl ?_
 refine WL_nil ?_
 refine W_cond rfl (fun hc2 => ?_) (fun hc2 => ?_)
 ·replace hF := ite_t hF hc2
  refine W_seq_reg ?_
  refine WL_assign rfl rfl ?_
  refine WL_nil (W_ret (nrm_ret ?_))
  have hq2 := Option.some.inj hF
  subst hq2
  refine fn_ret1 rfl rfl ?_
  exact ⟨_, rfl, bool_res hC2 _⟩
 replace hF := ite_f hF hc2
 refine W_skip (nrm_normal (W_seq_reg ?_))
 refine WL_assign rfl rfl ?_
 refine WL_nil (W_ret ?_)
 have hq3 := Option.some.inj hF
 subst hq3
 refine fn_ret1 rfl rfl ?_
 exact ⟨_, rfl, bool_res hC2 _⟩

theorem c_Q_eqStepS {w0 : World} (a1 : (List (Int × Int))) (u1 : Value) (g1 : RO [] w0 u1 a1) (a2 : (List (Int × Int))) (u2 : Value) (g2 : RO [] w0 u2 a2) (rr : Bool) (hF : Q.eqStepS a1 a2 = some rr) :
 Calls Tryz.prog 19 [u1, u2].toArray w0 fun e w' => ∃ v, e = .returned v ∧ Res w0 rr v w' := by
 refine calls_of_W Tryz.func19 rfl rfl ?_
 have hC0 := Ctx.start w0
 unfold Q.eqStepS at hF
 refine W_seq_reg ?_
 refine WL_assign rfl rfl ?_
 refine WL_nil (W_seq (W_seq_reg ?_))
 refine WL_move rfl rfl ?_
 refine WL_len Tryz.underlying39 g1 rfl rfl ?_
 refine WL_move rfl rfl ?_
 refine WL_len Tryz.underlying39 g2 rfl rfl ?_
 refine WL_neq rfl rfl rfl ?_
 refine WL_nil ?_
 refine W_cond rfl (fun hc1 => ?_) (fun hc1 => ?_)
 ·replace hF := ite_t hF hc1
  refine W_seq_reg ?_
  refine WL_assign rfl rfl ?_
  refine WL_nil (W_ret (nrm_ret ?_))
  have hq1 := Option.some.inj hF
  subst hq1
  refine fn_ret1 rfl rfl ?_
  exact ⟨_, rfl, bool_res hC0 _⟩
 replace hF := ite_f hF hc1
 refine W_skip (nrm_normal (W_seq (W_seq_reg ?_)))
 refine WL_assign rfl rfl ?_
 refine WL_nil ?_
 obtain ⟨r1, hr1, hF⟩ := bind_some hF
 refine W_norm (fun l w => .inl () = r1 ∧ l = [] ∧ Below w0.heap.size w0 w ∧ Ctx [] w0 w []) ?_ ?_
 ·refine W_block ?_
  refine W.sub (l' := [(0, u1), (1, u2), (5, (.int .i64 0))]) ?_ ⟨rfl, rfl, rfl, trivial⟩
  refine W_loop (fun k l w => ∃ x1 : Int, l = [(0, u1), (1, u2), (5, (.int .i64 x1))] ∧ Below w0.heap.size w0 w ∧ Ctx [] w0 w [] ∧ Q.eqStepS_l1 a1 a2 k x1 = some r1) FUEL ⟨0, rfl, (Below.refl _ _), hC0, hr1⟩ ?_
  clear hr1
  rintro k1 _ w1 ⟨x1, rfl, hB1, hC1, hL1⟩
  cases k1 with
  | zero => rw [Q.eqStepS_l1] at hL1; cases hL1
  | succ k1 =>
   rw [Q.eqStepS_l1] at hL1
   refine W_seq (W_seq_reg ?_)
   refine WL_move rfl rfl ?_
   refine WL_move rfl rfl ?_
   refine WL_len Tryz.underlying39 g1 rfl rfl ?_
   refine WL_lss rfl rfl rfl ?_
   refine WL_nil ?_
   refine W_cond rfl (fun hc2 => ?_) (fun hc2 => ?_)
   ·replace hL1 := ite_t hL1 hc2
    refine W_skip (nrm_normal (W_seq (W_block (W_seq ?_))))
    refine W_drawn 10 rfl hmix (fun w2 hB2 => ?_)
    have hC2 := hC1.grow hB2
    refine WA_tk 0 (by kernel_rfl) rfl rfl (fl_move rfl) ?_
    refine WL_move rfl rfl ?_
    refine WL_nil ?_
    refine WA_tk 1 (by kernel_rfl) rfl rfl (fl_move rfl) ?_
    refine WL_move rfl rfl ?_
    refine WL_nil ?_
    obtain ⟨x2, hx1, hL1⟩ := bind_some hL1
    refine WA_tk 2 (by kernel_rfl) rfl rfl (fl_index Tryz.underlying39 ty75 g1 hx1 rfl rfl) ?_
    refine WL_index Tryz.underlying39 ty75 g1 hx1 rfl rfl rfl (fun b1 o1 h1 => ?_)
    refine WL_nil ?_
    refine WA_tk 4 (by kernel_rfl) rfl rfl (fl_move rfl) ?_
    refine WL_move rfl rfl ?_
    refine WL_nil ?_
    refine WA_tk 5 (by kernel_rfl) rfl rfl (fl_move rfl) ?_
    refine WL_move rfl rfl ?_
    refine WL_nil ?_
    obtain ⟨x3, hx2, hL1⟩ := bind_some hL1
    refine WA_tk 6 (by kernel_rfl) rfl rfl (fl_index Tryz.underlying39 ty75 g2 hx2 rfl rfl) ?_
    refine WL_index Tryz.underlying39 ty75 g2 hx2 rfl rfl rfl (fun b2 o2 h2 => ?_)
    refine WL_nil ?_
    refine WA.sub (l' := [(0, u1), (1, u2), (5, (.int .i64 x1)), (11, (.int .i64 x1)), (12, u1), (13, (.int .i64 (List.length a1 : Int))), (14, (.bool (decide (x1 < (List.length a1 : Int))))), (17, u1), (18, (.int .i64 x1)), (19, (ptr b1 o1)), (21, u2), (22, (.int .i64 x1)), (23, (ptr b2 o2))]) ?_ ⟨rfl, rfl, rfl, rfl, rfl, rfl, rfl, rfl, rfl, rfl, rfl, rfl, rfl, trivial⟩
    refine WA_postsE [⟨3, [], fun vs => PW.val (.agg #[(.int .i64 x2.1), (.int .i64 x2.2)]), []⟩, ⟨7, [], fun vs => PW.val (.agg #[(.int .i64 x3.1), (.int .i64 x3.2)]), []⟩] [[], []] 2 rfl (by kernel_rfl) (by kernel_rfl) rfl ?_ ?_
    ·refine StepsE_cons rfl ?_ ?_
     ·intro w3 hB3
      refine DepsE_nil ?_
      refine ⟨_, rfl, ?_⟩
      refine WL_load ty75 h1 (hC2.keep.then hB3) rfl rfl (fun v1 h3 => ?_)
      obtain rfl := ro_st75 h3
      refine WL_nil ?_
      exact FinE_val (Below.refl _ _) rfl rfl ⟨rfl, rfl⟩
     refine StepsE_cons rfl ?_ ?_
     ·intro w3 hB3
      refine DepsE_nil ?_
      refine ⟨_, rfl, ?_⟩
      refine WL_load ty75 h2 (hC2.keep.then hB3) rfl rfl (fun v2 h4 => ?_)
      obtain rfl := ro_st75 h4
      refine WL_nil ?_
      exact FinE_val (Below.refl _ _) rfl rfl ⟨rfl, rfl⟩
     exact StepsE_nil
    intro w4 hB4
    refine AllE_cons rfl rfl rfl ?_
    rintro _ _ ⟨rfl, rfl⟩
    refine AllE_cons rfl rfl rfl ?_
    rintro _ _ ⟨rfl, rfl⟩
    refine AllE_nil ?_
    intro hn1 hb1
    have hC3 := hC2.grow hB4
    obtain ⟨x4, hr2, hL1⟩ := bind_some hL1
    refine WA_one 8 (by kernel_rfl) rfl ?_
    refine WL_call Tryz.call52 rfl rfl (c_Q_eqStep x2 x3 x4 hr2) ?_
    intro _ w5 hv1
    obtain ⟨rfl, hB5⟩ := res_bool hv1
    have hC4 := hC3.grow hB5
    refine WL_nil ?_
    refine WA_tk 9 (by kernel_rfl) rfl rfl (fl_not rfl) ?_
    refine WL_not rfl rfl ?_
    refine WL_nil ?_
    refine WA_done (by kernel_rfl) ?_
    refine nrm_normal ?_
    refine W_cond rfl (fun hc3 => ?_) (fun hc3 => ?_)
    ·replace hL1 := ite_t hL1 hc3
     refine W_seq_reg ?_
     refine WL_assign rfl rfl ?_
     refine WL_nil (W_ret (blk_ret (nrm_ret (nrm_ret (blk_ret (nrm_ret (nrm_ret ?_)))))))
     have hq2 := Option.some.inj hL1
     subst hq2
     dsimp only at hF
     have hq3 := Option.some.inj hF
     subst hq3
     refine fn_ret1 rfl rfl ?_
     exact ⟨_, rfl, bool_res hC4 _⟩
    replace hL1 := ite_f hL1 hc3
    refine W_skip (blk_normal (nrm_normal (W_reg ?_)))
    refine WL_move rfl rfl ?_
    refine WL_add rfl rfl rfl ?_
    refine WL_assign rfl rfl ?_
    refine WL_nil ?_
    refine nrm_sub (l' := [(0, u1), (1, u2), (5, (.int .i64 (w64 (x1 + 1))))]) ⟨rfl, rfl, rfl, trivial⟩ ?_
    exact ⟨k1, Nat.lt_succ_self _, w64 (x1 + 1), rfl, ((((Keep.of hB1).then hB2).then hB4).then hB5).below, hC4, hL1⟩
   replace hL1 := ite_f hL1 hc2
   refine W_exit (nrm_exit (nrm_exit (blk_exit ?_)))
   have hq4 := Option.some.inj hL1
   subst hq4
   refine nrm_sub (l' := []) trivial ?_
   exact ⟨rfl, rfl, (Keep.of hB1).below, hC1⟩
 rintro l2 _ w6 hs2 ⟨rfl, rfl, hB6, hC5⟩
 try dsimp only at hF
 refine nrm_sub' hs2 ?_
 clear hs2
 refine W_seq_reg ?_
 refine WL_assign rfl rfl ?_
 refine WL_nil (W_ret ?_)
 have hq5 := Option.some.inj hF
 subst hq5
 refine fn_ret1 rfl rfl ?_
 exact ⟨_, rfl, bool_res hC5 _⟩

theorem c_Q_FnExactIsPrivateOrder {w0 : World} (a1 : (List Int)) (u1 : Value) (g1 : RO [] w0 u1 a1) (a2 : (List (Int × (List Int) × Int × Int × Int))) (u2 : Value) (g2 : RO [] w0 u2 a2) (a3 : ((List Int) × (List (Int × (List Int))))) (u3 : Value) (g3 : RO [] w0 u3 a3.1) (u4 : Value) (g4 : RO [] w0 u4 a3.2) (a4 : (List (Int × Int))) (u5 : Value) (g5 : RO [] w0 u5 a4) (a5 : (List Int)) (u6 : Value) (g6 : RO [] w0 u6 a5) (rr : Bool) (hF : Q.FnExactIsPrivateOrder a1 a2 a3 a4 a5 = some rr) :
 Calls Tryz.prog 3 [u1, u2, (.agg #[u3, u4]), u5, u6].toArray w0 fun e w' => ∃ v, e = .returned v ∧ Res w0 rr v w' := by
 refine calls_of_W Tryz.func3 rfl rfl ?_
 have hC0 := Ctx.start w0
 unfold Q.FnExactIsPrivateOrder at hF
 refine W_seq_reg ?_
 refine WL_boxK (cs := [u3, u4]) hC0 rfl rfl rfl (fun b1 w1 hC1 hB1 hN1 => ?_)
 refine WL_assign rfl rfl ?_
 refine WL_nil (W_seq (W_seq_reg ?_))
 refine WL_move rfl rfl ?_
 refine WL_len Tryz.underlying22 g1 rfl rfl ?_
 refine WL_gtr rfl rfl rfl ?_
 refine WL_nil ?_
 refine W_cond rfl (fun hc1 => ?_) (fun hc1 => ?_)
 ·replace hF := ite_t hF hc1
  refine W_seq_reg ?_
  refine WL_assign rfl rfl ?_
  refine WL_nil (W_ret (nrm_ret ?_))
  have hq1 := Option.some.inj hF
  subst hq1
  refine fn_ret1 rfl rfl ?_
  exact ⟨_, rfl, bool_res hC1 _⟩
 replace hF := ite_f hF hc1
 refine W_skip (nrm_normal (W_seq (W_seq_reg ?_)))
 refine WL_move rfl rfl ?_
 refine WL_len Tryz.underlying22 g6 rfl rfl ?_
 refine WL_gtr rfl rfl rfl ?_
 refine WL_nil ?_
 refine W_cond rfl (fun hc2 => ?_) (fun hc2 => ?_)
 ·replace hF := ite_t hF hc2
  refine W_seq_reg ?_
  refine WL_assign rfl rfl ?_
  refine WL_nil (W_ret (nrm_ret ?_))
  have hq2 := Option.some.inj hF
  subst hq2
  refine fn_ret1 rfl rfl ?_
  exact ⟨_, rfl, bool_res hC1 _⟩
 replace hF := ite_f hF hc2
 refine W_skip (nrm_normal (W_seq_reg ?_))
 refine WL_assign rfl rfl ?_
 refine WL_nil (W_seq_reg ?_)
 refine WL_move rfl rfl ?_
 refine WL_move rfl rfl ?_
 obtain ⟨x1, hr1, hF⟩ := bind_some hF
 refine WL_call Tryz.call7 rfl rfl (c_Q_szMethodS a2 u2 (g2.now hC1.keep) 1048576 x1 hr1) ?_
 intro _ w2 hv1
 obtain ⟨rfl, hB2⟩ := res_int hv1
 have hC2 := hC1.grow hB2
 refine WL_assign rfl rfl ?_
 refine WL_nil (W_seq (W_seq_reg ?_))
 refine WL_move rfl rfl ?_
 refine WL_lss rfl rfl rfl ?_
 refine WL_nil ?_
 refine W_cond rfl (fun hc3 => ?_) (fun hc3 => ?_)
 ·replace hF := ite_t hF hc3
  refine W_seq_reg ?_
  refine WL_assign rfl rfl ?_
  refine WL_nil (W_ret (nrm_ret ?_))
  have hq3 := Option.some.inj hF
  subst hq3
  refine fn_ret1 rfl rfl ?_
  exact ⟨_, rfl, bool_res hC2 _⟩
 replace hF := ite_f hF hc3
 refine W_skip (nrm_normal (W_seq_reg ?_))
 refine WL_load_box_agg [u3, u4] hC2 0 rfl rfl rfl Tryz.isAgg26 Tryz.sizeOf26 rfl rfl ?_
 refine WL_move rfl rfl ?_
 obtain ⟨x2, hr2, hF⟩ := bind_some hF
 refine WL_call Tryz.call8 rfl rfl (c_Q_szQuery (a3.1, a3.2) u3 (g3.now hC2.keep) u4 (g4.now hC2.keep) x1 x2 hr2) ?_
 intro _ w3 hv2
 obtain ⟨rfl, hB3⟩ := res_int hv2
 have hC3 := hC2.grow hB3
 refine WL_assign rfl rfl ?_
 refine WL_nil (W_seq (W_seq_reg ?_))
 refine WL_move rfl rfl ?_
 refine WL_lss rfl rfl rfl ?_
 refine WL_nil ?_
 refine W_cond rfl (fun hc4 => ?_) (fun hc4 => ?_)
 ·replace hF := ite_t hF hc4
  refine W_seq_reg ?_
  refine WL_assign rfl rfl ?_
  refine WL_nil (W_ret (nrm_ret ?_))
  have hq4 := Option.some.inj hF
  subst hq4
  refine fn_ret1 rfl rfl ?_
  exact ⟨_, rfl, bool_res hC3 _⟩
 replace hF := ite_f hF hc4
 refine W_skip (nrm_normal (W_seq_reg ?_))
 refine WL_move rfl rfl ?_
 refine WL_move rfl rfl ?_
 obtain ⟨x3, hr3, hF⟩ := bind_some hF
 refine WL_call Tryz.call9 rfl rfl (c_Q_szStepS a4 u5 (g5.now hC3.keep) x2 x3 hr3) ?_
 intro _ w4 hv3
 obtain ⟨rfl, hB4⟩ := res_int hv3
 have hC4 := hC3.grow hB4
 refine WL_assign rfl rfl ?_
 refine WL_nil (W_seq (W_seq_reg ?_))
 refine WL_move rfl rfl ?_
 refine WL_lss rfl rfl rfl ?_
 refine WL_nil ?_
 refine W_cond rfl (fun hc5 => ?_) (fun hc5 => ?_)
 ·replace hF := ite_t hF hc5
  refine W_seq_reg ?_
  refine WL_assign rfl rfl ?_
  refine WL_nil (W_ret (nrm_ret ?_))
  have hq5 := Option.some.inj hF
  subst hq5
  refine fn_ret1 rfl rfl ?_
  exact ⟨_, rfl, bool_res hC4 _⟩
 replace hF := ite_f hF hc5
 refine W_skip (nrm_normal (W_seq ?_))
 refine W_drawn 12 rfl hmix (fun w5 hB5 => ?_)
 have hC5 := hC4.grow hB5
 refine WA_tk 0 (by kernel_rfl) rfl rfl (fl_move rfl) ?_
 refine WL_move rfl rfl ?_
 refine WL_nil ?_
 refine WA_tk 2 (by kernel_rfl) rfl rfl (fl_move rfl) ?_
 refine WL_move rfl rfl ?_
 refine WL_nil ?_
 refine WA_tk 6 (by kernel_rfl) rfl rfl (fl_move rfl) ?_
 refine WL_move rfl rfl ?_
 refine WL_nil ?_
 refine WA_tk 8 (by kernel_rfl) rfl rfl (fl_move rfl) ?_
 refine WL_move rfl rfl ?_
 refine WL_nil ?_
 obtain ⟨x4, hr4, hF⟩ := bind_some hF
 obtain ⟨x5, hr5, hF⟩ := bind_some hF
 refine WA.sub (l' := [(0, u1), (1, u2), (2, (.agg #[u3, u4])), (3, u5), (4, u6), (7, (ptr b1 0)), (10, (.bool false)), (11, (.int .i64 x3)), (19, u1), (20, (.int .i64 (List.length a1 : Int))), (21, (.bool (decide (1048576 < (List.length a1 : Int))))), (22, u6), (23, (.int .i64 (List.length a5 : Int))), (24, (.bool (decide (1048576 < (List.length a5 : Int))))), (25, u2), (26, (.int .i64 1048576)), (27, (.int .i64 x1)), (28, (.int .i64 x1)), (29, (.bool (decide (x1 < 0)))), (30, (.agg #[u3, u4])), (31, (.int .i64 x1)), (32, (.int .i64 x2)), (33, (.int .i64 x2)), (34, (.bool (decide (x2 < 0)))), (35, u5), (36, (.int .i64 x2)), (37, (.int .i64 x3)), (38, (.int .i64 x3)), (39, (.bool (decide (x3 < 0)))), (40, u1), (42, u2), (46, u5), (48, u6)]) ?_ ⟨rfl, rfl, rfl, rfl, rfl, rfl, rfl, rfl, rfl, rfl, rfl, rfl, rfl, rfl, rfl, rfl, rfl, rfl, rfl, rfl, rfl, rfl, rfl, rfl, rfl, rfl, rfl, rfl, rfl, rfl, rfl, rfl, rfl, trivial⟩
 refine WA_postsE [⟨1, [], fun vs => PW.own x4, []⟩, ⟨3, [], fun vs => PW.own x5, []⟩, ⟨4, [], fun vs => PW.val (.agg #[u3, u4]), []⟩] [[], [], []] 5 rfl (by kernel_rfl) (by kernel_rfl) rfl ?_ ?_
 ·refine StepsE_cons rfl ?_ ?_
  ·intro w9 hB8
   refine DepsE_nil ?_
   refine ⟨_, rfl, ?_⟩
   refine WL_call Tryz.call11 rfl rfl (c_Q_toIntS a1 u1 (g1.now (hC5.keep.then hB8)) x4 hr4) ?_
   rintro v1 w6 ⟨hB6, F1, hv4, hn1, hb1⟩
   refine WL_nil ?_
   exact FinE_own hB6 rfl rfl hv4 hn1 hb1 (Val.inh hv4)
  refine StepsE_cons rfl ?_ ?_
  ·intro w9 hB8
   refine DepsE_nil ?_
   refine ⟨_, rfl, ?_⟩
   refine WL_call Tryz.call12 rfl rfl (c_Q_toMethodS a2 u2 (g2.now (hC5.keep.then hB8)) x5 hr5) ?_
   rintro v2 w7 ⟨hB7, F2, hv5, hn2, hb2⟩
   refine WL_nil ?_
   exact FinE_own hB7 rfl rfl hv5 hn2 hb2 (Val.inh hv5)
  refine StepsE_cons rfl ?_ ?_
  ·intro w9 hB8
   refine DepsE_nil ?_
   refine ⟨_, rfl, ?_⟩
   refine WL_load_box_agg [u3, u4] (hC5.grow hB8) 0 rfl rfl rfl Tryz.isAgg26 Tryz.sizeOf26 rfl rfl ?_
   refine WL_nil ?_
   exact FinE_val (Below.refl _ _) rfl rfl ⟨rfl, rfl⟩
  exact StepsE_nil
 intro w10 hB9
 refine AllE_cons rfl rfl rfl ?_
 intro v1 F1 hv4
 refine AllE_cons rfl rfl rfl ?_
 intro v2 F2 hv5
 refine AllE_cons rfl rfl rfl ?_
 rintro _ _ ⟨rfl, rfl⟩
 refine AllE_nil ?_
 intro hn3 hb3
 have hC6 := hC5.pushL hB9 (Bs := [Item.own v2 (x5 : (List (Int × (List Int) × Int × Int × Int))), Item.own v1 (x4 : (List Int))]) (Fs := [F2, F1]) ⟨F2, _, rfl, hv5, F1, _, rfl, hv4, rfl⟩ (by simpa using hn3) (fun b h => (hb3 b (by simpa using h)).1)
 obtain ⟨x6, hr6, hF⟩ := bind_some hF
 refine WA_one 5 (by kernel_rfl) rfl ?_
 refine WL_call Tryz.call13 rfl rfl (c_Q_toQuery (a3.1, a3.2) u3 (g3.now hC6.keep) u4 (g4.now hC6.keep) x6 hr6) ?_
 rintro v3 w11 ⟨hB10, F3, hv6, hn4, hb4⟩
 have hC7 := hC6.push hB10 (A := Item.own v3 x6) hv6 hn4 hb4
 obtain ⟨v4, v5, rfl, hC8⟩ := st37_own hC7
 refine WL_nil ?_
 obtain ⟨x7, hr7, hF⟩ := bind_some hF
 refine WA_one 7 (by kernel_rfl) rfl ?_
 refine WL_call Tryz.call14 rfl rfl (c_Q_toStepS a4 u5 (g5.now hC8.keep) x7 hr7) ?_
 rintro v6 w12 ⟨hB11, F4, hv7, hn5, hb5⟩
 have hC9 := hC8.push hB11 (A := Item.own v6 x7) hv7 hn5 hb5
 refine WL_nil ?_
 obtain ⟨x8, hr8, hF⟩ := bind_some hF
 refine WA_one 9 (by kernel_rfl) rfl ?_
 refine WL_call Tryz.call11 rfl rfl (c_Q_toIntS a5 u6 (g6.now hC9.keep) x8 hr8) ?_
 rintro v7 w13 ⟨hB12, F5, hv8, hn6, hb6⟩
 have hC10 := hC9.push hB12 (A := Item.own v7 x8) hv8 hn6 hb6
 refine WL_nil ?_
 obtain ⟨x9, hr9, hF⟩ := bind_some hF
 refine WA_one 10 (by kernel_rfl) rfl ?_
 refine WL_call Tryz.call10 rfl rfl (c_S_IsPrivateOrder x4 v1 ((hC10.ro 5 rfl).now (Keep.refl _ _)) x5 v2 ((hC10.ro 4 rfl).now (Keep.refl _ _)) x6 v4 ((hC10.ro 2 rfl).now (Keep.refl _ _)) v5 ((hC10.ro 3 rfl).now (Keep.refl _ _)) x7 v6 ((hC10.ro 1 rfl).now (Keep.refl _ _)) x8 v7 ((hC10.ro 0 rfl).now (Keep.refl _ _)) x9 hr9) ?_
 intro _ w14 hv9
 obtain ⟨rfl, hB13⟩ := res_bool hv9
 have hC11 := hC10.grow hB13
 refine WL_nil ?_
 refine WA_tk 11 (by kernel_rfl) rfl rfl (fl_assign rfl) ?_
 refine WL_assign rfl rfl ?_
 refine WL_nil ?_
 refine WA_done (by kernel_rfl) ?_
 refine nrm_normal (W_seq_reg ?_)
 refine WL_move rfl rfl ?_
 obtain ⟨x10, hr10, hF⟩ := bind_some hF
 refine WL_call Tryz.call11 rfl rfl (c_Q_toIntS a1 u1 (g1.now hC11.keep) x10 hr10) ?_
 rintro v8 w15 ⟨hB14, F6, hv10, hn7, hb7⟩
 have hC12 := hC11.push hB14 (A := Item.own v8 x10) hv10 hn7 hb7
 refine WL_assign rfl rfl ?_
 refine WL_nil (W_seq_reg ?_)
 refine WL_move rfl rfl ?_
 obtain ⟨x11, hr11, hF⟩ := bind_some hF
 refine WL_call Tryz.call12 rfl rfl (c_Q_toMethodS a2 u2 (g2.now hC12.keep) x11 hr11) ?_
 rintro v9 w16 ⟨hB15, F7, hv11, hn8, hb8⟩
 have hC13 := hC12.push hB15 (A := Item.own v9 x11) hv11 hn8 hb8
 refine WL_assign rfl rfl ?_
 refine WL_nil (W_seq_reg ?_)
 refine WL_load_box_agg [u3, u4] hC13 8 rfl rfl rfl Tryz.isAgg26 Tryz.sizeOf26 rfl rfl ?_
 obtain ⟨x12, hr12, hF⟩ := bind_some hF
 refine WL_call Tryz.call13 rfl rfl (c_Q_toQuery (a3.1, a3.2) u3 (g3.now hC13.keep) u4 (g4.now hC13.keep) x12 hr12) ?_
 rintro v10 w17 ⟨hB16, F8, hv12, hn9, hb9⟩
 have hC14 := hC13.push hB16 (A := Item.own v10 x12) hv12 hn9 hb9
 obtain ⟨v11, v12, rfl, hC15⟩ := st37_own hC14
 refine WL_allocK hC15 zero37 rfl rfl (fun b2 w18 hC16 hB17 hN2 => ?_)
 refine WL_store_box_aggK (cs' := [v11, v12]) (new := [v11, v12]) hC16 0 rfl rfl (by intro v hv; simp only [List.mem_cons, List.not_mem_nil, or_false] at hv; rcases hv with rfl | rfl; exact (ro_one (hC16.ro 1 rfl)); exact (ro_one (hC16.ro 2 rfl))) rfl Tryz.sizeOf37 rfl rfl (fun w19 hC17 hKp1 => ?_)
 try dsimp only [List.set] at hC17
 have hk1 := Keep.over ((((((((((((((Keep.of hB1).then hB2).then hB3).then hB4).then hB5).then hB9).then hB10).then hB11).then hB12).then hB13).then hB14).then hB15).then hB16).then hB17) (Nat.le_trans (((((((((((((Keep.of hB1).then hB2).then hB3).then hB4).then hB5).then hB9).then hB10).then hB11).then hB12).then hB13).then hB14).then hB15).then hB16).size hN2) hKp1
 have hk2 := Keep.over (((((((((((((Keep.of hB2).then hB3).then hB4).then hB5).then hB9).then hB10).then hB11).then hB12).then hB13).then hB14).then hB15).then hB16).then hB17) (Nat.le_trans ((((((((((((Keep.of hB2).then hB3).then hB4).then hB5).then hB9).then hB10).then hB11).then hB12).then hB13).then hB14).then hB15).then hB16).size hN2) hKp1
 have hk3 := Keep.over ((((((((((((Keep.of hB3).then hB4).then hB5).then hB9).then hB10).then hB11).then hB12).then hB13).then hB14).then hB15).then hB16).then hB17) (Nat.le_trans (((((((((((Keep.of hB3).then hB4).then hB5).then hB9).then hB10).then hB11).then hB12).then hB13).then hB14).then hB15).then hB16).size hN2) hKp1
 have hk4 := Keep.over (((((((((((Keep.of hB4).then hB5).then hB9).then hB10).then hB11).then hB12).then hB13).then hB14).then hB15).then hB16).then hB17) (Nat.le_trans ((((((((((Keep.of hB4).then hB5).then hB9).then hB10).then hB11).then hB12).then hB13).then hB14).then hB15).then hB16).size hN2) hKp1
 have hk5 := Keep.over ((((((((((Keep.of hB5).then hB9).then hB10).then hB11).then hB12).then hB13).then hB14).then hB15).then hB16).then hB17) (Nat.le_trans (((((((((Keep.of hB5).then hB9).then hB10).then hB11).then hB12).then hB13).then hB14).then hB15).then hB16).size hN2) hKp1
 have hk6 := Keep.over (((((((((Keep.of hB9).then hB10).then hB11).then hB12).then hB13).then hB14).then hB15).then hB16).then hB17) (Nat.le_trans ((((((((Keep.of hB9).then hB10).then hB11).then hB12).then hB13).then hB14).then hB15).then hB16).size hN2) hKp1
 have hk7 := Keep.over ((((((((Keep.of hB10).then hB11).then hB12).then hB13).then hB14).then hB15).then hB16).then hB17) (Nat.le_trans (((((((Keep.of hB10).then hB11).then hB12).then hB13).then hB14).then hB15).then hB16).size hN2) hKp1
 have hk8 := Keep.over (((((((Keep.of hB11).then hB12).then hB13).then hB14).then hB15).then hB16).then hB17) (Nat.le_trans ((((((Keep.of hB11).then hB12).then hB13).then hB14).then hB15).then hB16).size hN2) hKp1
 have hk9 := Keep.over ((((((Keep.of hB12).then hB13).then hB14).then hB15).then hB16).then hB17) (Nat.le_trans (((((Keep.of hB12).then hB13).then hB14).then hB15).then hB16).size hN2) hKp1
 have hk10 := Keep.over (((((Keep.of hB13).then hB14).then hB15).then hB16).then hB17) (Nat.le_trans ((((Keep.of hB13).then hB14).then hB15).then hB16).size hN2) hKp1
 have hk11 := Keep.over ((((Keep.of hB14).then hB15).then hB16).then hB17) (Nat.le_trans (((Keep.of hB14).then hB15).then hB16).size hN2) hKp1
 have hk12 := Keep.over (((Keep.of hB15).then hB16).then hB17) (Nat.le_trans ((Keep.of hB15).then hB16).size hN2) hKp1
 have hk13 := Keep.over ((Keep.of hB16).then hB17) (Nat.le_trans (Keep.of hB16).size hN2) hKp1
 have hk14 := Keep.over (Keep.of hB17) hN2 hKp1
 refine WL_nil (W_seq_reg ?_)
 refine WL_move rfl rfl ?_
 obtain ⟨x13, hr13, hF⟩ := bind_some hF
 refine WL_call Tryz.call14 rfl rfl (c_Q_toStepS a4 u5 (g5.now hC17.keep) x13 hr13) ?_
 rintro v13 w20 ⟨hB18, F9, hv13, hn10, hb10⟩
 have hC18 := hC17.push hB18 (A := Item.own v13 x13) hv13 hn10 hb10
 refine WL_assign rfl rfl ?_
 refine WL_nil (W_seq_reg ?_)
 refine WL_move rfl rfl ?_
 obtain ⟨x14, hr14, hF⟩ := bind_some hF
 refine WL_call Tryz.call11 rfl rfl (c_Q_toIntS a5 u6 (g6.now hC18.keep) x14 hr14) ?_
 rintro v14 w21 ⟨hB19, F10, hv14, hn11, hb11⟩
 have hC19 := hC18.push hB19 (A := Item.own v14 x14) hv14 hn11 hb11
 refine WL_assign rfl rfl ?_
 refine WL_nil (W_seq_reg ?_)
 refine WL_move rfl rfl ?_
 refine WL_move rfl rfl ?_
 refine WL_load_box_agg [v11, v12] hC19 2 rfl rfl rfl Tryz.isAgg37 Tryz.sizeOf37 rfl rfl ?_
 refine WL_move rfl rfl ?_
 refine WL_move rfl rfl ?_
 obtain ⟨x15, hr15, hF⟩ := bind_some hF
 refine WL_call Tryz.call15 rfl rfl (c_M_IsPrivateOrder x10 v8 ((hC19.ro 6 rfl).now (Keep.refl _ _)) x11 v9 ((hC19.ro 5 rfl).now (Keep.refl _ _)) (x12.1, x12.2) v11 ((hC19.ro 3 rfl).now (Keep.refl _ _)) v12 ((hC19.ro 4 rfl).now (Keep.refl _ _)) x13 v13 ((hC19.ro 1 rfl).now (Keep.refl _ _)) x14 v14 ((hC19.ro 0 rfl).now (Keep.refl _ _)) x15 hr15) ?_
 intro _ w22 hv15
 obtain ⟨rfl, hB20⟩ := res_bool hv15
 have hC20 := hC19.grow hB20
 refine WL_assign rfl rfl ?_
 refine WL_nil (W_seq (W_seq_reg ?_))
 refine WL_move rfl rfl ?_
 refine WL_move rfl rfl ?_
 refine WL_bool_neq Tryz.underlying4 rfl rfl rfl ?_
 refine WL_nil ?_
 refine W_cond rfl (fun hc6 => ?_) (fun hc6 => ?_)
 ·replace hF := ite_t hF hc6
  refine W_seq_reg ?_
  refine WL_assign rfl rfl ?_
  refine WL_nil (W_ret (nrm_ret ?_))
  have hq6 := Option.some.inj hF
  subst hq6
  refine fn_ret1 rfl rfl ?_
  exact ⟨_, rfl, bool_res hC20 _⟩
 replace hF := ite_f hF hc6
 refine W_skip (nrm_normal (W_seq (W_seq_reg ?_)))
 refine WL_move rfl rfl ?_
 refine WL_move rfl rfl ?_
 obtain ⟨x16, hr16, hF⟩ := bind_some hF
 refine WL_call Tryz.call11 rfl rfl (c_Q_toIntS a1 u1 (g1.now hC20.keep) x16 hr16) ?_
 rintro v15 w23 ⟨hB21, F11, hv16, hn12, hb12⟩
 have hC21 := hC20.push hB21 (A := Item.own v15 x16) hv16 hn12 hb12
 obtain ⟨x17, hr17, hF⟩ := bind_some hF
 refine WL_call Tryz.call16 rfl rfl (c_Q_eqIntS x10 v8 ((hC21.ro 7 rfl).now (Keep.refl _ _)) x16 v15 ((hC21.ro 0 rfl).now (Keep.refl _ _)) x17 hr17) ?_
 intro _ w24 hv17
 obtain ⟨rfl, hB22⟩ := res_bool hv17
 have hC22 := hC21.grow hB22
 refine WL_not rfl rfl ?_
 refine WL_nil ?_
 refine W_cond rfl (fun hc7 => ?_) (fun hc7 => ?_)
 ·replace hF := ite_t hF hc7
  refine W_seq_reg ?_
  refine WL_assign rfl rfl ?_
  refine WL_nil (W_ret (nrm_ret ?_))
  have hq7 := Option.some.inj hF
  subst hq7
  refine fn_ret1 rfl rfl ?_
  exact ⟨_, rfl, bool_res hC22 _⟩
 replace hF := ite_f hF hc7
 refine W_skip (nrm_normal (W_seq (W_seq_reg ?_)))
 refine WL_move rfl rfl ?_
 refine WL_move rfl rfl ?_
 obtain ⟨x18, hr18, hF⟩ := bind_some hF
 refine WL_call Tryz.call12 rfl rfl (c_Q_toMethodS a2 u2 (g2.now hC22.keep) x18 hr18) ?_
 rintro v16 w25 ⟨hB23, F12, hv18, hn13, hb13⟩
 have hC23 := hC22.push hB23 (A := Item.own v16 x18) hv18 hn13 hb13
 obtain ⟨x19, hr19, hF⟩ := bind_some hF
 refine WL_call Tryz.call17 rfl rfl (c_Q_eqMethodS x11 v9 ((hC23.ro 7 rfl).now (Keep.refl _ _)) x18 v16 ((hC23.ro 0 rfl).now (Keep.refl _ _)) x19 hr19) ?_
 intro _ w26 hv19
 obtain ⟨rfl, hB24⟩ := res_bool hv19
 have hC24 := hC23.grow hB24
 refine WL_not rfl rfl ?_
 refine WL_nil ?_
 refine W_cond rfl (fun hc8 => ?_) (fun hc8 => ?_)
 ·replace hF := ite_t hF hc8
  refine W_seq_reg ?_
  refine WL_assign rfl rfl ?_
  refine WL_nil (W_ret (nrm_ret ?_))
  have hq8 := Option.some.inj hF
  subst hq8
  refine fn_ret1 rfl rfl ?_
  exact ⟨_, rfl, bool_res hC24 _⟩
 replace hF := ite_f hF hc8
 refine W_skip (nrm_normal (W_seq (W_seq ?_)))
 refine W_drawn 5 rfl hmix (fun w27 hB25 => ?_)
 have hC25 := hC24.grow hB25
 obtain ⟨x20, hr20, hF⟩ := bind_some hF
 refine WA.sub (l' := [(0, u1), (1, u2), (2, (.agg #[u3, u4])), (3, u5), (4, u6), (7, (ptr b1 0)), (10, (.bool false)), (11, (.int .i64 x3)), (12, (.bool x9)), (13, v8), (14, v9), (15, (ptr b2 0)), (16, v13), (17, v14), (18, (.bool x15)), (19, u1), (20, (.int .i64 (List.length a1 : Int))), (21, (.bool (decide (1048576 < (List.length a1 : Int))))), (22, u6), (23, (.int .i64 (List.length a5 : Int))), (24, (.bool (decide (1048576 < (List.length a5 : Int))))), (25, u2), (26, (.int .i64 1048576)), (27, (.int .i64 x1)), (28, (.int .i64 x1)), (29, (.bool (decide (x1 < 0)))), (30, (.agg #[u3, u4])), (31, (.int .i64 x1)), (32, (.int .i64 x2)), (33, (.int .i64 x2)), (34, (.bool (decide (x2 < 0)))), (35, u5), (36, (.int .i64 x2)), (37, (.int .i64 x3)), (38, (.int .i64 x3)), (39, (.bool (decide (x3 < 0)))), (40, u1), (41, v1), (42, u2), (43, v2), (44, (.agg #[u3, u4])), (45, (.agg #[v4, v5])), (46, u5), (47, v6), (48, u6), (49, v7), (50, (.bool x9)), (51, u1), (52, v8), (53, u2), (54, v9), (55, (.agg #[u3, u4])), (56, (.agg #[v11, v12])), (57, u5), (58, v13), (59, u6), (60, v14), (61, v8), (62, v9), (63, (.agg #[v11, v12])), (64, v13), (65, v14), (66, (.bool x15)), (67, (.bool x15)), (68, (.bool x9)), (69, (.bool (!decide (x15 = x9)))), (70, v8), (71, u1), (72, v15), (73, (.bool x17)), (74, (.bool (!x17))), (75, v9), (76, u2), (77, v16), (78, (.bool x19)), (79, (.bool (!x19)))]) ?_ ⟨rfl, rfl, rfl, rfl, rfl, rfl, rfl, rfl, rfl, rfl, rfl, rfl, rfl, rfl, rfl, rfl, rfl, rfl, rfl, rfl, rfl, rfl, rfl, rfl, rfl, rfl, rfl, rfl, rfl, rfl, rfl, rfl, rfl, rfl, rfl, rfl, rfl, rfl, rfl, rfl, rfl, rfl, rfl, rfl, rfl, rfl, rfl, rfl, rfl, rfl, rfl, rfl, rfl, rfl, rfl, rfl, rfl, rfl, rfl, rfl, rfl, rfl, rfl, rfl, rfl, rfl, rfl, rfl, rfl, rfl, rfl, rfl, rfl, rfl, rfl, rfl, trivial⟩
 refine WA_postsE [⟨0, [], fun vs => PW.val (.agg #[v11, v12]), []⟩, ⟨1, [], fun vs => PW.val (.agg #[u3, u4]), []⟩, ⟨2, [], fun vs => PW.own x20, []⟩] [[], [], [1]] 2 rfl (by kernel_rfl) (by kernel_rfl) rfl ?_ ?_
 ·refine StepsE_cons rfl ?_ ?_
  ·intro w29 hB27
   refine DepsE_nil ?_
   refine ⟨_, rfl, ?_⟩
   refine WL_load_box_agg [v11, v12] (hC25.grow hB27) 4 rfl rfl rfl Tryz.isAgg37 Tryz.sizeOf37 rfl rfl ?_
   refine WL_nil ?_
   exact FinE_val (Below.refl _ _) rfl rfl ⟨rfl, rfl⟩
  refine StepsE_cons rfl ?_ ?_
  ·intro w29 hB27
   refine DepsE_nil ?_
   refine ⟨_, rfl, ?_⟩
   refine WL_load_box_agg [u3, u4] (hC25.grow hB27) 15 rfl rfl rfl Tryz.isAgg26 Tryz.sizeOf26 rfl rfl ?_
   refine WL_nil ?_
   exact FinE_val (Below.refl _ _) rfl rfl ⟨rfl, rfl⟩
  refine StepsE_cons rfl ?_ ?_
  ·intro w29 hB27
   refine DepsE_cons rfl rfl rfl ?_
   rintro _ _ ⟨rfl, rfl⟩ _
   refine DepsE_nil ?_
   refine ⟨_, rfl, ?_⟩
   refine WL_call Tryz.call13 rfl rfl (c_Q_toQuery (a3.1, a3.2) u3 (g3.now (hC25.keep.then hB27)) u4 (g4.now (hC25.keep.then hB27)) x20 hr20) ?_
   rintro v17 w28 ⟨hB26, F13, hv20, hn14, hb14⟩
   refine WL_nil ?_
   exact FinE_own hB26 rfl rfl hv20 hn14 hb14 (Val.inh hv20)
  exact StepsE_nil
 intro w30 hB28
 refine AllE_cons rfl rfl rfl ?_
 rintro _ _ ⟨rfl, rfl⟩
 refine AllE_cons rfl rfl rfl ?_
 rintro _ _ ⟨rfl, rfl⟩
 refine AllE_cons rfl rfl rfl ?_
 intro v17 F13 hv20
 refine AllE_nil ?_
 intro hn15 hb15
 have hC26 := hC25.pushL hB28 (Bs := [Item.own v17 (x20 : ((List Int) × (List (Int × (List Int)))))]) (Fs := [F13]) ⟨F13, _, rfl, hv20, rfl⟩ (by simpa using hn15) (fun b h => (hb15 b (by simpa using h)).1)
 obtain ⟨v20, v21, rfl, hC27⟩ := st37_own hC26
 obtain ⟨x21, hr21, hF⟩ := bind_some hF
 refine WA_one 3 (by kernel_rfl) rfl ?_
 refine WL_call Tryz.call18 rfl rfl (c_Q_eqQuery (x12.1, x12.2) v11 ((hC27.ro 7 rfl).now (Keep.refl _ _)) v12 ((hC27.ro 8 rfl).now (Keep.refl _ _)) x20 v20 ((hC27.ro 0 rfl).now (Keep.refl _ _)) v21 ((hC27.ro 1 rfl).now (Keep.refl _ _)) x21 hr21) ?_
 intro _ w31 hv21
 obtain ⟨rfl, hB29⟩ := res_bool hv21
 have hC28 := hC27.grow hB29
 refine WL_nil ?_
 refine WA_tk 4 (by kernel_rfl) rfl rfl (fl_not rfl) ?_
 refine WL_not rfl rfl ?_
 refine WL_nil ?_
 refine WA_done (by kernel_rfl) ?_
 refine nrm_normal ?_
 refine W_cond rfl (fun hc9 => ?_) (fun hc9 => ?_)
 ·replace hF := ite_t hF hc9
  refine W_seq_reg ?_
  refine WL_assign rfl rfl ?_
  refine WL_nil (W_ret (nrm_ret ?_))
  have hq9 := Option.some.inj hF
  subst hq9
  refine fn_ret1 rfl rfl ?_
  exact ⟨_, rfl, bool_res hC28 _⟩
 replace hF := ite_f hF hc9
 refine W_skip (nrm_normal (W_seq (W_seq_reg ?_)))
 refine WL_move rfl rfl ?_
 refine WL_move rfl rfl ?_
 obtain ⟨x22, hr22, hF⟩ := bind_some hF
 refine WL_call Tryz.call14 rfl rfl (c_Q_toStepS a4 u5 (g5.now hC28.keep) x22 hr22) ?_
 rintro v22 w32 ⟨hB30, F14, hv22, hn16, hb16⟩
 have hC29 := hC28.push hB30 (A := Item.own v22 x22) hv22 hn16 hb16
 obtain ⟨x23, hr23, hF⟩ := bind_some hF
 refine WL_call Tryz.call19 rfl rfl (c_Q_eqStepS x13 v13 ((hC29.ro 6 rfl).now (Keep.refl _ _)) x22 v22 ((hC29.ro 0 rfl).now (Keep.refl _ _)) x23 hr23) ?_
 intro _ w33 hv23
 obtain ⟨rfl, hB31⟩ := res_bool hv23
 have hC30 := hC29.grow hB31
 refine WL_not rfl rfl ?_
 refine WL_nil ?_
 refine W_cond rfl (fun hc10 => ?_) (fun hc10 => ?_)
 ·replace hF := ite_t hF hc10
  refine W_seq_reg ?_
  refine WL_assign rfl rfl ?_
  refine WL_nil (W_ret (nrm_ret ?_))
  have hq10 := Option.some.inj hF
  subst hq10
  refine fn_ret1 rfl rfl ?_
  exact ⟨_, rfl, bool_res hC30 _⟩
 replace hF := ite_f hF hc10
 refine W_skip (nrm_normal (W_seq (W_seq_reg ?_)))
 refine WL_move rfl rfl ?_
 refine WL_move rfl rfl ?_
 obtain ⟨x24, hr24, hF⟩ := bind_some hF
 refine WL_call Tryz.call11 rfl rfl (c_Q_toIntS a5 u6 (g6.now hC30.keep) x24 hr24) ?_
 rintro v23 w34 ⟨hB32, F15, hv24, hn17, hb17⟩
 have hC31 := hC30.push hB32 (A := Item.own v23 x24) hv24 hn17 hb17
 obtain ⟨x25, hr25, hF⟩ := bind_some hF
 refine WL_call Tryz.call16 rfl rfl (c_Q_eqIntS x14 v14 ((hC31.ro 6 rfl).now (Keep.refl _ _)) x24 v23 ((hC31.ro 0 rfl).now (Keep.refl _ _)) x25 hr25) ?_
 intro _ w35 hv25
 obtain ⟨rfl, hB33⟩ := res_bool hv25
 have hC32 := hC31.grow hB33
 refine WL_not rfl rfl ?_
 refine WL_nil ?_
 refine W_cond rfl (fun hc11 => ?_) (fun hc11 => ?_)
 ·replace hF := ite_t hF hc11
  refine W_seq_reg ?_
  refine WL_assign rfl rfl ?_
  refine WL_nil (W_ret (nrm_ret ?_))
  have hq11 := Option.some.inj hF
  subst hq11
  refine fn_ret1 rfl rfl ?_
  exact ⟨_, rfl, bool_res hC32 _⟩
 replace hF := ite_f hF hc11
 refine W_skip (nrm_normal (W_seq_reg ?_))
 refine WL_assign rfl rfl ?_
 refine WL_nil (W_ret ?_)
 have hq12 := Option.some.inj hF
 subst hq12
 refine fn_ret1 rfl rfl ?_
 exact ⟨_, rfl, bool_res hC32 _⟩

end Go.Gx.Px
