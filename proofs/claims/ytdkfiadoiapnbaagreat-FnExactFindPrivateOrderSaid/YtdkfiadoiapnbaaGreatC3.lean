/- The contracts of the Go functions against the pure functions, printed by program. Conditions: each says them. -/
import Derived.Test.YtdkfiadoiapnbaaGreatC2
set_option linter.unusedVariables false
set_option linter.unusedSimpArgs false
set_option maxRecDepth 100000
set_option maxHeartbeats 4000000
namespace Go.Gx.Px
open Go.Proofs Go.RowKit

theorem c_Slices_IndexFunc_Lint_int_M_meets_c1 {w0 : World} (a1 : (List Int)) (u1 : Value) (g1 : RO [] w0 u1 a1) (pb1 : Nat) (ax1 : (List Int)) (g2 : ROAt [] w0 pb1 0 ax1) (rr : Int) (hF : Slices.IndexFunc_Lint_int_M_meets_c1 a1 ax1 = some rr) :
 Calls Tryz.prog 99 [u1, (.func (.func 87) #[] #[(ptr pb1 0)])].toArray w0 fun e w' => ∃ v, e = .returned v ∧ Res w0 rr v w' := by
 refine calls_of_W Tryz.func99 rfl rfl ?_
 have hC0 := Ctx.start w0
 unfold Slices.IndexFunc_Lint_int_M_meets_c1 at hF
 refine W_seq_reg ?_
 refine WL_assign rfl rfl ?_
 refine WL_nil (W_seq (W_seq_reg ?_))
 refine WL_move rfl rfl ?_
 refine WL_len Tryz.underlying22 g1 rfl rfl ?_
 refine WL_move rfl rfl ?_
 refine WL_nil ?_
 obtain ⟨r1, hr1, hF⟩ := bind_some hF
 refine W_norm (fun l w => .inl () = r1 ∧ l = [] ∧ Below w0.heap.size w0 w ∧ Ctx [] w0 w []) ?_ ?_
 ·refine W_block ?_
  refine W.sub (l' := [(0, u1), (1, (.func (.func 87) #[] #[(ptr pb1 0)])), (7, (.int .i64 (List.length a1 : Int))), (8, (.int .i64 0))]) ?_ ⟨rfl, rfl, rfl, rfl, trivial⟩
  refine W_loop (fun k l w => ∃ x1 : Int, l = [(0, u1), (1, (.func (.func 87) #[] #[(ptr pb1 0)])), (7, (.int .i64 (List.length a1 : Int))), (8, (.int .i64 x1))] ∧ Below w0.heap.size w0 w ∧ Ctx [] w0 w [] ∧ Slices.IndexFunc_Lint_int_M_meets_c1_l1 a1 ax1 k x1 = some r1) FUEL ⟨0, rfl, (Below.refl _ _), hC0, hr1⟩ ?_
  clear hr1
  rintro k1 _ w1 ⟨x1, rfl, hB1, hC1, hL1⟩
  cases k1 with
  | zero => rw [Slices.IndexFunc_Lint_int_M_meets_c1_l1] at hL1; cases hL1
  | succ k1 =>
   rw [Slices.IndexFunc_Lint_int_M_meets_c1_l1] at hL1
   refine W_seq_reg ?_
   refine WL_lss rfl rfl rfl ?_
   refine WL_nil (W_seq ?_)
   refine W_cond rfl (fun hc1 => ?_) (fun hc1 => ?_)
   ·replace hL1 := ite_t hL1 hc1
    refine W_skip (nrm_normal (W_seq (W_block (W_seq_reg ?_))))
    refine WL_move rfl rfl ?_
    refine WL_assign rfl rfl ?_
    refine WL_nil (W_seq_reg ?_)
    refine WL_move rfl rfl ?_
    refine WL_move rfl rfl ?_
    refine WL_move rfl rfl ?_
    obtain ⟨x2, hx1, hL1⟩ := bind_some hL1
    refine WL_index Tryz.underlying22 ty3 g1 hx1 rfl rfl rfl (fun b1 o1 h1 => ?_)
    refine WL_load ty3 h1 hC1.keep rfl rfl (fun v1 h2 => ?_)
    obtain rfl := ro_int h2
    obtain ⟨x3, hr2, hL1⟩ := bind_some hL1
    refine WL_callv (cap := [(ptr pb1 0)]) Tryz.call87 rfl rfl rfl (c_M_meets_c1 x2 pb1 ax1 (g2.now hC1.keep) x3 hr2) ?_
    intro _ w2 hv1
    obtain ⟨rfl, hB2⟩ := res_bool hv1
    have hC2 := hC1.grow hB2
    refine WL_nil ?_
    refine W_cond rfl (fun hc2 => ?_) (fun hc2 => ?_)
    ·replace hL1 := ite_t hL1 hc2
     refine W_seq_reg ?_
     refine WL_move rfl rfl ?_
     refine WL_assign rfl rfl ?_
     refine WL_nil (W_ret (blk_ret (nrm_ret (nrm_ret (blk_ret (nrm_ret (nrm_ret ?_)))))))
     have hq1 := Option.some.inj hL1
     subst hq1
     dsimp only at hF
     have hq2 := Option.some.inj hF
     subst hq2
     refine fn_ret1 rfl rfl ?_
     exact ⟨_, rfl, int_res hC2 _⟩
    replace hL1 := ite_f hL1 hc2
    refine W_skip (blk_normal (nrm_normal (W_reg ?_)))
    refine WL_add rfl rfl rfl ?_
    refine WL_move rfl rfl ?_
    refine WL_nil ?_
    refine nrm_sub (l' := [(0, u1), (1, (.func (.func 87) #[] #[(ptr pb1 0)])), (7, (.int .i64 (List.length a1 : Int))), (8, (.int .i64 (w64 (x1 + 1))))]) ⟨rfl, rfl, rfl, rfl, trivial⟩ ?_
    exact ⟨k1, Nat.lt_succ_self _, w64 (x1 + 1), rfl, ((Keep.of hB1).then hB2).below, hC2, hL1⟩
   replace hL1 := ite_f hL1 hc1
   refine W_exit (nrm_exit (nrm_exit (blk_exit ?_)))
   have hq3 := Option.some.inj hL1
   subst hq3
   refine nrm_sub (l' := []) trivial ?_
   exact ⟨rfl, rfl, (Keep.of hB1).below, hC1⟩
 rintro l2 _ w3 hs2 ⟨rfl, rfl, hB3, hC3⟩
 try dsimp only at hF
 refine nrm_sub' hs2 ?_
 clear hs2
 refine W_seq_reg ?_
 refine WL_assign rfl rfl ?_
 refine WL_nil (W_ret ?_)
 have hq4 := Option.some.inj hF
 subst hq4
 refine fn_ret1 rfl rfl ?_
 exact ⟨_, rfl, int_res hC3 _⟩

theorem c_Slices_ContainsFunc_Lint_int_M_meets_c1 {w0 : World} (a1 : (List Int)) (u1 : Value) (g1 : RO [] w0 u1 a1) (pb1 : Nat) (ax1 : (List Int)) (g2 : ROAt [] w0 pb1 0 ax1) (rr : Bool) (hF : Slices.ContainsFunc_Lint_int_M_meets_c1 a1 ax1 = some rr) :
 Calls Tryz.prog 71 [u1, (.func (.func 87) #[] #[(ptr pb1 0)])].toArray w0 fun e w' => ∃ v, e = .returned v ∧ Res w0 rr v w' := by
 refine calls_of_W Tryz.func71 rfl rfl ?_
 have hC0 := Ctx.start w0
 unfold Slices.ContainsFunc_Lint_int_M_meets_c1 at hF
 refine W_seq_reg ?_
 refine WL_assign rfl rfl ?_
 refine WL_nil (W_seq_reg ?_)
 refine WL_move rfl rfl ?_
 refine WL_move rfl rfl ?_
 obtain ⟨x1, hr1, hF⟩ := bind_some hF
 refine WL_call Tryz.call99 rfl rfl (c_Slices_IndexFunc_Lint_int_M_meets_c1 a1 u1 (g1.now hC0.keep) pb1 ax1 (g2.now hC0.keep) x1 hr1) ?_
 intro _ w1 hv1
 obtain ⟨rfl, hB1⟩ := res_int hv1
 have hC1 := hC0.grow hB1
 refine WL_geq rfl rfl rfl ?_
 refine WL_assign rfl rfl ?_
 refine WL_nil (W_ret ?_)
 have hq1 := Option.some.inj hF
 subst hq1
 refine fn_ret1 rfl rfl ?_
 exact ⟨_, rfl, bool_res hC1 _⟩

theorem c_M_meets {w0 : World} (a1 : (List Int)) (u1 : Value) (g1 : RO [] w0 u1 a1) (a2 : (List Int)) (u2 : Value) (g2 : RO [] w0 u2 a2) (rr : Bool) (hF : M.meets a1 a2 = some rr) :
 Calls Tryz.prog 49 [u1, u2].toArray w0 fun e w' => ∃ v, e = .returned v ∧ Res w0 rr v w' := by
 refine calls_of_W Tryz.func49 rfl rfl ?_
 have hC0 := Ctx.start w0
 unfold M.meets at hF
 refine W_seq_reg ?_
 refine WL_boxK (cs := [u2]) hC0 (ro_cells g2) rfl rfl (fun b1 w1 hC1 hB1 hN1 => ?_)
 refine WL_assign rfl rfl ?_
 refine WL_nil (W_seq_reg ?_)
 refine WL_move rfl rfl ?_
 refine WL_makeFunc rfl rfl ?_
 obtain ⟨x1, hr1, hF⟩ := bind_some hF
 refine WL_call Tryz.call71 rfl rfl (c_Slices_ContainsFunc_Lint_int_M_meets_c1 a1 u1 (g1.now hC1.keep) b1 a2 (hC1.boxAt 0 rfl (repw_slice (g2.now hC1.keep))) x1 hr1) ?_
 intro _ w2 hv1
 obtain ⟨rfl, hB2⟩ := res_bool hv1
 have hC2 := hC1.grow hB2
 refine WL_assign rfl rfl ?_
 refine WL_nil (W_ret ?_)
 have hq1 := Option.some.inj hF
 subst hq1
 refine fn_ret1 rfl rfl ?_
 exact ⟨_, rfl, bool_res hC2 _⟩

theorem c_M_passed {w0 : World} (a1 : (Int × (List Int) × Int × Int × Int)) (u1 : Value) (g1 : RO [] w0 u1 a1.2.1) (a2 : (Int × (List Int))) (u2 : Value) (g2 : RO [] w0 u2 a2.2) (rr : (List Int)) (hF : M.passed a1 a2 = some rr) :
 Calls Tryz.prog 79 [(.agg #[(.int .i64 a1.1), u1, (.int .i64 a1.2.2.1), (.int .i64 a1.2.2.2.1), (.int .i64 a1.2.2.2.2)]), (.agg #[(.int .i64 a2.1), u2])].toArray w0 fun e w' => ∃ v, e = .returned v ∧ Res w0 rr v w' := by
 refine calls_of_W Tryz.func79 rfl rfl ?_
 have hC0 := Ctx.start w0
 unfold M.passed at hF
 refine W_seq_reg ?_
 refine WL_boxK (cs := [(.int .i64 a1.1), u1, (.int .i64 a1.2.2.1), (.int .i64 a1.2.2.2.1), (.int .i64 a1.2.2.2.2)]) hC0 rfl rfl rfl (fun b1 w1 hC1 hB1 hN1 => ?_)
 refine WL_boxK (cs := [(.int .i64 a2.1), u2]) hC1 rfl rfl rfl (fun b2 w2 hC2 hB2 hN2 => ?_)
 refine WL_assign rfl rfl ?_
 refine WL_nil (W_seq_reg ?_)
 refine WL_buildSlice (vs := []) hC2 Tryz.underlying22 ty3 rfl rfl rfl rfl (by simp) rfl rfl (fun b3 w3 hC3 hB3 => ?_)
 have hC4 := hC3.row0 (α := Int)
 have hC5 := hC4.front 1 rfl
 dsimp only [List.eraseIdx, List.cons_append, List.nil_append, List.append_nil] at hC5
 have hC6 : Ctx [] w0 w3 (Item.own (.slice (some ⟨b3, 0, none⟩) 0 0) (([] : List Int) : List Int) :: [Item.box b2 [(.int .i64 a2.1), u2], Item.box b1 [(.int .i64 a1.1), u1, (.int .i64 a1.2.2.1), (.int .i64 a1.2.2.2.1), (.int .i64 a1.2.2.2.2)]]) := hC5.rowOwn (by simp [maxLen])
 refine WL_assign rfl rfl ?_
 refine WL_nil (W_seq (W_seq_reg ?_))
 refine WL_field Tryz.underlying71 rfl rfl (fun w => ⟨_, Tryz.sizeOf22 w⟩) rfl rfl ?_
 refine WL_load_box hC6 2 rfl rfl Tryz.isAgg22 rfl rfl ?_
 refine WL_len Tryz.underlying22 g1 rfl rfl ?_
 refine WL_move rfl rfl ?_
 refine WL_nil ?_
 obtain ⟨r1, hr1, hF⟩ := bind_some hF
 refine W_norm (fun l w => ∃ v2 : Value, ∃ x3 : (List Int), x3 = r1 ∧ l = [(5, v2)] ∧ Ctx [] w0 w [Item.own v2 (x3 : (List Int))]) ?_ ?_
 ·refine W_block ?_
  have hC23 := hC6.f1
  have hC24 := hC23.f1
  have hC25 := hC24.h2
  refine W.sub (l' := [(3, (ptr b2 0)), (5, (.slice (some ⟨b3, 0, none⟩) 0 0)), (10, u1), (11, (.int .i64 (List.length a1.2.1 : Int))), (12, (.int .i64 0))]) ?_ ⟨rfl, rfl, rfl, rfl, rfl, trivial⟩
  refine W_loop (fun k l w => ∃ v1 : Value, ∃ x1 : (List Int), ∃ x2 : Int, l = [(3, (ptr b2 0)), (5, v1), (10, u1), (11, (.int .i64 (List.length a1.2.1 : Int))), (12, (.int .i64 x2))] ∧ Ctx [] w0 w [Item.own v1 (x1 : (List Int)), Item.box b2 [(.int .i64 a2.1), u2]] ∧ M.passed_l1 a1 a2 k x1 x2 = some r1) FUEL ⟨(.slice (some ⟨b3, 0, none⟩) 0 0), ([] : List Int), 0, rfl, hC25, hr1⟩ ?_
  clear hr1
  rintro k1 _ w4 ⟨v1, x1, x2, rfl, hC7, hL1⟩
  cases k1 with
  | zero => rw [M.passed_l1] at hL1; cases hL1
  | succ k1 =>
   rw [M.passed_l1] at hL1
   refine W_seq_reg ?_
   refine WL_lss rfl rfl rfl ?_
   refine WL_nil (W_seq ?_)
   refine W_cond rfl (fun hc1 => ?_) (fun hc1 => ?_)
   ·replace hL1 := ite_t hL1 hc1
    refine W_skip (nrm_normal (W_seq (W_block (W_seq_reg ?_))))
    obtain ⟨x4, hx1, hL1⟩ := bind_some hL1
    refine WL_index Tryz.underlying22 ty3 g1 hx1 rfl rfl rfl (fun b4 o1 h1 => ?_)
    refine WL_load ty3 h1 hC7.keep rfl rfl (fun v3 h2 => ?_)
    obtain rfl := ro_int h2
    refine WL_assign rfl rfl ?_
    refine WL_nil ?_
    obtain ⟨r2, hr2, hL1⟩ := bind_some hL1
    refine W_cut (fun l w => ∃ x5 : Bool, x5 = r2 ∧ l = [(3, (ptr b2 0)), (5, v1), (7, (.int .i64 x4)), (10, u1), (11, (.int .i64 (List.length a1.2.1 : Int))), (12, (.int .i64 x2)), (29, (.bool x5))] ∧ Below w4.heap.size w4 w ∧ Ctx [] w0 w [Item.own v1 (x1 : (List Int)), Item.box b2 [(.int .i64 a2.1), u2]]) ?_ ?_
    ·refine W_reg ?_
     refine WL_move rfl rfl ?_
     refine WL_field Tryz.underlying84 rfl rfl (fun w => ⟨_, Tryz.sizeOf22 w⟩) rfl rfl ?_
     refine WL_load_box hC7 1 rfl rfl Tryz.isAgg22 rfl rfl ?_
     refine WL_len Tryz.underlying22 g2 rfl rfl ?_
     refine WL_sub rfl rfl rfl ?_
     obtain ⟨x6, hr3, hr2⟩ := bind_some hr2
     refine WL_call Tryz.call78 rfl rfl (c_M_within x4 0 (w64 ((List.length a2.2 : Int) - 1)) x6 hr3) ?_
     intro _ w6 hv1
     obtain ⟨rfl, hB6⟩ := res_bool hv1
     have hC9 := hC7.grow hB6
     refine WL_move rfl rfl ?_
     refine WL_fork (fun hc2 => ?_) (fun hc2 => ?_)
     ·replace hr2 := ite_t hr2 hc2
      refine WL_guard rfl rfl ?_
      refine WL_field Tryz.underlying84 rfl rfl (fun w => ⟨_, Tryz.sizeOf22 w⟩) rfl rfl ?_
      refine WL_guard rfl rfl ?_
      refine WL_load_box hC9 1 rfl rfl Tryz.isAgg22 rfl rfl ?_
      refine WL_guard rfl rfl ?_
      refine WL_move rfl rfl ?_
      obtain ⟨x7, hx2, hr2⟩ := bind_some hr2
      refine WL_guard rfl rfl ?_
      refine WL_index Tryz.underlying22 ty3 g2 hx2 rfl rfl rfl (fun b5 o2 h3 => ?_)
      refine WL_guard rfl rfl ?_
      refine WL_load ty3 h3 hC9.keep rfl rfl (fun v4 h4 => ?_)
      obtain rfl := ro_int h4
      obtain ⟨x8, hr4, hr2⟩ := bind_some hr2
      refine WL_guard rfl rfl ?_
      refine WL_call Tryz.call98 rfl rfl (c_M_isValue x7 x8 hr4) ?_
      intro _ w7 hv2
      obtain ⟨rfl, hB7⟩ := res_bool hv2
      have hC10 := hC9.grow hB7
      refine WL_pick_t rfl rfl rfl ?_
      refine WL_nil ?_
      have hq1 := Option.some.inj hr2
      subst hq1
      refine nrm_sub (l' := [(3, (ptr b2 0)), (5, v1), (7, (.int .i64 x4)), (10, u1), (11, (.int .i64 (List.length a1.2.1 : Int))), (12, (.int .i64 x2)), (29, (.bool x8))]) ⟨rfl, rfl, rfl, rfl, rfl, rfl, rfl, trivial⟩ ?_
      exact ⟨x8, rfl, rfl, ((Keep.of hB6).then hB7).below, hC10⟩
     replace hr2 := ite_f hr2 hc2
     refine WL_guard_skip rfl rfl (by simp) rfl ?_
     refine WL_guard_skip rfl rfl (by simp) rfl ?_
     refine WL_guard_skip rfl rfl (by simp) rfl ?_
     refine WL_guard_skip rfl rfl (by simp) rfl ?_
     refine WL_guard_skip rfl rfl (by simp) rfl ?_
     refine WL_guard_skip rfl rfl (by simp) rfl ?_
     refine WL_pick_f rfl rfl rfl ?_
     refine WL_nil ?_
     have hq2 := Option.some.inj hr2
     subst hq2
     refine nrm_sub (l' := [(3, (ptr b2 0)), (5, v1), (7, (.int .i64 x4)), (10, u1), (11, (.int .i64 (List.length a1.2.1 : Int))), (12, (.int .i64 x2)), (29, (.bool false))]) ⟨rfl, rfl, rfl, rfl, rfl, rfl, rfl, trivial⟩ ?_
     exact ⟨false, rfl, rfl, (Keep.of hB6).below, hC9⟩
    rintro _ w5 ⟨x5, rfl, rfl, hB5, hC8⟩
    try dsimp only at hL1
    obtain ⟨r3, hr5, hL1⟩ := bind_some hL1
    refine W_norm (fun l w => ∃ v5 : Value, ∃ x9 : (List Int), x9 = r3 ∧ l = [(3, (ptr b2 0)), (5, v5), (10, u1), (11, (.int .i64 (List.length a1.2.1 : Int))), (12, (.int .i64 x2))] ∧ Ctx [] w0 w [Item.own v5 (x9 : (List Int)), Item.box b2 [(.int .i64 a2.1), u2]]) ?_ ?_
    ·refine W_cond rfl (fun hc3 => ?_) (fun hc3 => ?_)
     ·replace hr5 := ite_t hr5 hc3
      refine W_reg ?_
      refine WL_move rfl rfl ?_
      refine WL_field Tryz.underlying84 rfl rfl (fun w => ⟨_, Tryz.sizeOf22 w⟩) rfl rfl ?_
      refine WL_load_box hC8 1 rfl rfl Tryz.isAgg22 rfl rfl ?_
      refine WL_move rfl rfl ?_
      obtain ⟨x10, hx3, hr5⟩ := bind_some hr5
      refine WL_index Tryz.underlying22 ty3 g2 hx3 rfl rfl rfl (fun b6 o3 h5 => ?_)
      refine WL_load ty3 h5 hC8.keep rfl rfl (fun v6 h6 => ?_)
      obtain rfl := ro_int h6
      refine WL_buildSlice (vs := [(.int .i64 x10)]) hC8 Tryz.underlying22 ty3 rfl rfl rfl rfl (by intro v hv; simp only [List.mem_cons, List.not_mem_nil, or_false] at hv; rcases hv with rfl <;> rfl) rfl rfl (fun b7 w10 hC12 hB9 => ?_)
      have hC13 := hC12.row0 (α := Int)
      have hC14 := hC13.triv (int_val (x10))
      have hC15 := hC14.row1
      have hC16 := hC15.front 1 rfl
      dsimp only [List.eraseIdx, List.cons_append, List.nil_append, List.append_nil] at hC16
      have hC17 : Ctx [] w0 w10 (Item.own (.slice (some ⟨b7, 0, none⟩) 1 1) ([x10] : List Int) :: [Item.own v1 (x1 : (List Int)), Item.box b2 [(.int .i64 a2.1), u2]]) := hC16.rowOwn (by simp [maxLen])
      obtain ⟨x11, hx4, hr5⟩ := bind_some hr5
      refine WL_append_flat (α := Int) hC17 1 rfl (hC17.ro 0 rfl) (Keep.refl _ _) Tryz.underlying22 ty3 rfl hx4 rfl rfl rfl (fun v7 w11 hC18 => ?_)
      try dsimp only [List.set] at hC18
      refine WL_assign rfl rfl ?_
      refine WL_nil ?_
      have hq3 := Option.some.inj hr5
      subst hq3
      have hC19 := hC18.f2
      have hC20 := hC19.f2
      have hC21 := hC20.h2
      refine nrm_sub (l' := [(3, (ptr b2 0)), (5, v7), (10, u1), (11, (.int .i64 (List.length a1.2.1 : Int))), (12, (.int .i64 x2))]) ⟨rfl, rfl, rfl, rfl, rfl, trivial⟩ ?_
      exact ⟨v7, x11, rfl, rfl, hC21⟩
     replace hr5 := ite_f hr5 hc3
     refine W_skip ?_
     have hq4 := Option.some.inj hr5
     subst hq4
     refine nrm_sub (l' := [(3, (ptr b2 0)), (5, v1), (10, u1), (11, (.int .i64 (List.length a1.2.1 : Int))), (12, (.int .i64 x2))]) ⟨rfl, rfl, rfl, rfl, rfl, trivial⟩ ?_
     exact ⟨v1, x1, rfl, rfl, hC8⟩
    rintro l3 _ w9 hs3 ⟨v5, x9, rfl, rfl, hC11⟩
    try dsimp only at hL1
    refine blk_normal ?_
    refine nrm_sub' hs3 ?_
    clear hs3
    refine W_reg ?_
    refine WL_add rfl rfl rfl ?_
    refine WL_move rfl rfl ?_
    refine WL_nil ?_
    refine nrm_sub (l' := [(3, (ptr b2 0)), (5, v5), (10, u1), (11, (.int .i64 (List.length a1.2.1 : Int))), (12, (.int .i64 (w64 (x2 + 1))))]) ⟨rfl, rfl, rfl, rfl, rfl, trivial⟩ ?_
    exact ⟨k1, Nat.lt_succ_self _, v5, x9, w64 (x2 + 1), rfl, hC11, hL1⟩
   replace hL1 := ite_f hL1 hc1
   refine W_exit (nrm_exit (nrm_exit (blk_exit ?_)))
   have hq5 := Option.some.inj hL1
   subst hq5
   have hC22 := hC7.h1
   refine nrm_sub (l' := [(5, v1)]) ⟨rfl, trivial⟩ ?_
   exact ⟨v1, x1, rfl, rfl, hC22⟩
 rintro l4 _ w12 hs4 ⟨v2, x3, rfl, rfl, hC26⟩
 try dsimp only at hF
 refine nrm_sub' hs4 ?_
 clear hs4
 refine W_seq_reg ?_
 refine WL_move rfl rfl ?_
 refine WL_assign rfl rfl ?_
 refine WL_nil (W_ret ?_)
 have hq6 := Option.some.inj hF
 subst hq6
 refine fn_ret1 rfl rfl ?_
 exact ⟨_, rfl, own_res hC26 0 rfl⟩

theorem c_M_privateOrder_c1 {w0 : World} (a1 : (Int × (List Int) × Int × Int × Int)) (u1 : Value) (g1 : RO [] w0 u1 a1.2.1) (a2 : (Int × (List Int))) (u2 : Value) (g2 : RO [] w0 u2 a2.2) (pb1 : Nat) (ax1 : (List Int)) (g3 : ROAt [] w0 pb1 0 ax1) (rr : Bool) (hF : M.privateOrder_c1 a1 a2 ax1 = some rr) :
 Calls Tryz.prog 95 [(.agg #[(.int .i64 a1.1), u1, (.int .i64 a1.2.2.1), (.int .i64 a1.2.2.2.1), (.int .i64 a1.2.2.2.2)]), (.agg #[(.int .i64 a2.1), u2]), (ptr pb1 0)].toArray w0 fun e w' => ∃ v, e = .returned v ∧ Res w0 rr v w' := by
 refine calls_of_W Tryz.func95 rfl rfl ?_
 have hC0 := Ctx.start w0
 unfold M.privateOrder_c1 at hF
 refine W_seq_reg ?_
 refine WL_boxK (cs := [(.int .i64 a1.1), u1, (.int .i64 a1.2.2.1), (.int .i64 a1.2.2.2.1), (.int .i64 a1.2.2.2.2)]) hC0 rfl rfl rfl (fun b1 w1 hC1 hB1 hN1 => ?_)
 refine WL_boxK (cs := [(.int .i64 a2.1), u2]) hC1 rfl rfl rfl (fun b2 w2 hC2 hB2 hN2 => ?_)
 refine WL_assign rfl rfl ?_
 refine WL_nil (W_seq ?_)
 refine W_drawn 7 rfl hmix (fun w3 hB3 => ?_)
 have hC3 := hC2.grow hB3
 obtain ⟨x1, hr1, hF⟩ := bind_some hF
 refine WA.sub (l' := [(0, (.agg #[(.int .i64 a1.1), u1, (.int .i64 a1.2.2.1), (.int .i64 a1.2.2.2.1), (.int .i64 a1.2.2.2.2)])), (1, (.agg #[(.int .i64 a2.1), u2])), (2, (ptr pb1 0)), (3, (ptr b1 0)), (4, (ptr b2 0)), (5, (.bool false))]) ?_ ⟨rfl, rfl, rfl, rfl, rfl, rfl, trivial⟩
 refine WA_postsE [⟨0, [], fun vs => PW.val (.agg #[(.int .i64 a1.1), u1, (.int .i64 a1.2.2.1), (.int .i64 a1.2.2.2.1), (.int .i64 a1.2.2.2.2)]), []⟩, ⟨1, [], fun vs => PW.val (.agg #[(.int .i64 a2.1), u2]), []⟩, ⟨2, [], fun vs => PW.own x1, []⟩, ⟨3, [], fun vs => PW.ro [] w0 ax1, []⟩] [[], [], [0, 1], []] 3 rfl (by kernel_rfl) (by kernel_rfl) rfl ?_ ?_
 ·refine StepsE_cons rfl ?_ ?_
  ·intro w5 hB5
   refine DepsE_nil ?_
   refine ⟨_, rfl, ?_⟩
   refine WL_load_box_agg [(.int .i64 a1.1), u1, (.int .i64 a1.2.2.1), (.int .i64 a1.2.2.2.1), (.int .i64 a1.2.2.2.2)] (hC3.grow hB5) 1 rfl rfl rfl Tryz.isAgg71 Tryz.sizeOf71 rfl rfl ?_
   refine WL_nil ?_
   exact FinE_val (Below.refl _ _) rfl rfl ⟨rfl, rfl⟩
  refine StepsE_cons rfl ?_ ?_
  ·intro w5 hB5
   refine DepsE_nil ?_
   refine ⟨_, rfl, ?_⟩
   refine WL_load_box_agg [(.int .i64 a2.1), u2] (hC3.grow hB5) 0 rfl rfl rfl Tryz.isAgg84 Tryz.sizeOf84 rfl rfl ?_
   refine WL_nil ?_
   exact FinE_val (Below.refl _ _) rfl rfl ⟨rfl, rfl⟩
  refine StepsE_cons rfl ?_ ?_
  ·intro w5 hB5
   refine DepsE_cons rfl rfl rfl ?_
   rintro _ _ ⟨rfl, rfl⟩ _
   refine DepsE_cons rfl rfl rfl ?_
   rintro _ _ ⟨rfl, rfl⟩ _
   refine DepsE_nil ?_
   refine ⟨_, rfl, ?_⟩
   refine WL_call Tryz.call79 rfl rfl (c_M_passed (a1.1, a1.2.1, a1.2.2.1, a1.2.2.2.1, a1.2.2.2.2) u1 (g1.now (hC3.keep.then hB5)) (a2.1, a2.2) u2 (g2.now (hC3.keep.then hB5)) x1 hr1) ?_
   rintro v1 w4 ⟨hB4, F1, hv1, hn1, hb1⟩
   refine WL_nil ?_
   exact FinE_own hB4 rfl rfl hv1 hn1 hb1 (Val.inh hv1)
  refine StepsE_cons rfl ?_ ?_
  ·intro w5 hB5
   refine DepsE_nil ?_
   refine ⟨_, rfl, ?_⟩
   refine WL_load ty22 g3 (hC3.keep.then hB5) rfl rfl (fun v2 h1 => ?_)
   refine WL_nil ?_
   exact FinE_val (Below.refl _ _) rfl rfl ⟨rfl, h1⟩
  exact StepsE_nil
 intro w6 hB6
 refine AllE_cons rfl rfl rfl ?_
 rintro _ _ ⟨rfl, rfl⟩
 refine AllE_cons rfl rfl rfl ?_
 rintro _ _ ⟨rfl, rfl⟩
 refine AllE_cons rfl rfl rfl ?_
 intro v1 F1 hv1
 refine AllE_cons rfl rfl rfl ?_
 rintro v2 _ ⟨rfl, h1⟩
 refine AllE_nil ?_
 intro hn2 hb2
 have hC4 := hC3.pushL hB6 (Bs := [Item.own v1 (x1 : (List Int))]) (Fs := [F1]) ⟨F1, _, rfl, hv1, rfl⟩ (by simpa using hn2) (fun b h => (hb2 b (by simpa using h)).1)
 obtain ⟨x2, hr2, hF⟩ := bind_some hF
 refine WA_one 4 (by kernel_rfl) rfl ?_
 refine WL_call Tryz.call49 rfl rfl (c_M_meets x1 v1 ((hC4.ro 0 rfl).now (Keep.refl _ _)) ax1 v2 (h1.now hC4.keep) x2 hr2) ?_
 intro _ w7 hv2
 obtain ⟨rfl, hB7⟩ := res_bool hv2
 have hC5 := hC4.grow hB7
 refine WL_nil ?_
 refine WA_tk 5 (by kernel_rfl) rfl rfl (fl_not rfl) ?_
 refine WL_not rfl rfl ?_
 refine WL_nil ?_
 refine WA_tk 6 (by kernel_rfl) rfl rfl (fl_assign rfl) ?_
 refine WL_assign rfl rfl ?_
 refine WL_nil ?_
 refine WA_done (by kernel_rfl) ?_
 refine nrm_normal (W_ret ?_)
 have hq1 := Option.some.inj hF
 subst hq1
 refine fn_ret1 rfl rfl ?_
 exact ⟨_, rfl, bool_res hC5 _⟩

theorem c_M_greedyWhere_c1_c1_M_privateOrder_c1 {w0 : World} (a1 : (Int × (List Int) × Int × Int × Int)) (u1 : Value) (g1 : RO [] w0 u1 a1.2.1) (pb1 : Nat) (ax1 : (Int × (List Int))) (g2 : ROAt [] w0 pb1 0 ax1) (pb2 : Nat) (ax2 : (List Int)) (g3 : ROAt [] w0 pb2 0 ax2) (pb3 : Nat) (ax3 : (List Int)) (g4 : ROAt [] w0 pb3 0 ax3) (pb4 : Nat) (g5 : ROAt [] w0 pb4 0 (RawF.mk : RawF 95 [(ptr pb3 0)])) (rr : Bool) (hF : M.greedyWhere_c1_c1_M_privateOrder_c1 a1 ax1 ax2 ax3 = some rr) :
 Calls Tryz.prog 124 [(.agg #[(.int .i64 a1.1), u1, (.int .i64 a1.2.2.1), (.int .i64 a1.2.2.2.1), (.int .i64 a1.2.2.2.2)]), (ptr pb1 0), (ptr pb2 0), (ptr pb4 0)].toArray w0 fun e w' => ∃ v, e = .returned v ∧ Res w0 rr v w' := by
 refine calls_of_W Tryz.func124 rfl rfl ?_
 have hC0 := Ctx.start w0
 unfold M.greedyWhere_c1_c1_M_privateOrder_c1 at hF
 refine W_seq_reg ?_
 refine WL_boxK (cs := [(.int .i64 a1.1), u1, (.int .i64 a1.2.2.1), (.int .i64 a1.2.2.2.1), (.int .i64 a1.2.2.2.2)]) hC0 rfl rfl rfl (fun b1 w1 hC1 hB1 hN1 => ?_)
 refine WL_assign rfl rfl ?_
 refine WL_nil ?_
 obtain ⟨r1, hr1, hF⟩ := bind_some hF
 refine W_cut (fun l w => ∃ x1 : Bool, x1 = r1 ∧ l = [(5, (.bool x1))] ∧ Below w1.heap.size w1 w ∧ Ctx [] w0 w []) ?_ ?_
 ·refine W_reg ?_
  refine WL_load_box_agg [(.int .i64 a1.1), u1, (.int .i64 a1.2.2.1), (.int .i64 a1.2.2.2.1), (.int .i64 a1.2.2.2.2)] hC1 0 rfl rfl rfl Tryz.isAgg71 Tryz.sizeOf71 rfl rfl ?_
  refine WL_load ty84 g2 hC1.keep rfl rfl (fun v1 h1 => ?_)
  obtain ⟨v2, rfl, h2⟩ := ro_st84 h1
  refine WL_load ty22 g3 hC1.keep rfl rfl (fun v3 h3 => ?_)
  obtain ⟨x2, hr2, hr1⟩ := bind_some hr1
  refine WL_call Tryz.call86 rfl rfl (c_M_CanCall (a1.1, a1.2.1, a1.2.2.1, a1.2.2.2.1, a1.2.2.2.2) u1 (g1.now hC1.keep) ax1 v2 (h2.now hC1.keep) ax2 v3 (h3.now hC1.keep) x2 hr2) ?_
  intro _ w3 hv1
  obtain ⟨rfl, hB3⟩ := res_bool hv1
  have hC3 := hC1.grow hB3
  refine WL_move rfl rfl ?_
  refine WL_fork (fun hc1 => ?_) (fun hc1 => ?_)
  ·replace hr1 := ite_t hr1 hc1
   refine WL_guard rfl rfl ?_
   refine WL_load (tyr113 _ _) g5 hC3.keep rfl rfl (fun v4 h4 => ?_)
   obtain rfl := ro_raw h4
   refine WL_guard rfl rfl ?_
   refine WL_load_box_agg [(.int .i64 a1.1), u1, (.int .i64 a1.2.2.1), (.int .i64 a1.2.2.2.1), (.int .i64 a1.2.2.2.2)] hC3 0 rfl rfl rfl Tryz.isAgg71 Tryz.sizeOf71 rfl rfl ?_
   refine WL_guard rfl rfl ?_
   refine WL_load ty84 g2 hC3.keep rfl rfl (fun v5 h5 => ?_)
   obtain ⟨v6, rfl, h6⟩ := ro_st84 h5
   obtain ⟨x3, hr3, hr1⟩ := bind_some hr1
   refine WL_guard rfl rfl ?_
   refine WL_callv (cap := [(ptr pb3 0)]) Tryz.call95 rfl rfl rfl (c_M_privateOrder_c1 (a1.1, a1.2.1, a1.2.2.1, a1.2.2.2.1, a1.2.2.2.2) u1 (g1.now hC3.keep) ax1 v6 (h6.now hC3.keep) pb3 ax3 (g4.now hC3.keep) x3 hr3) ?_
   intro _ w4 hv2
   obtain ⟨rfl, hB4⟩ := res_bool hv2
   have hC4 := hC3.grow hB4
   refine WL_pick_t rfl rfl rfl ?_
   refine WL_assign rfl rfl ?_
   refine WL_nil ?_
   have hq1 := Option.some.inj hr1
   subst hq1
   have hC5 := hC4.h0
   refine nrm_sub (l' := [(5, (.bool x3))]) ⟨rfl, trivial⟩ ?_
   exact ⟨x3, rfl, rfl, ((Keep.of hB3).then hB4).below, hC5⟩
  replace hr1 := ite_f hr1 hc1
  refine WL_guard_skip rfl rfl (by simp) rfl ?_
  refine WL_guard_skip rfl rfl (by simp) rfl ?_
  refine WL_guard_skip rfl rfl (by simp) rfl ?_
  refine WL_guard_skip rfl rfl (by simp) rfl ?_
  refine WL_pick_f rfl rfl rfl ?_
  refine WL_assign rfl rfl ?_
  refine WL_nil ?_
  have hq2 := Option.some.inj hr1
  subst hq2
  have hC6 := hC3.h0
  refine nrm_sub (l' := [(5, (.bool false))]) ⟨rfl, trivial⟩ ?_
  exact ⟨false, rfl, rfl, (Keep.of hB3).below, hC6⟩
 rintro _ w2 ⟨x1, rfl, rfl, hB2, hC2⟩
 try dsimp only at hF
 refine W_ret ?_
 have hq3 := Option.some.inj hF
 subst hq3
 refine fn_ret1 rfl rfl ?_
 exact ⟨_, rfl, bool_res hC2 _⟩

theorem c_Slices_IndexFunc_Limpl_Method_impl_Method_M_greedyWhere_c1_c1_M_privateOrder_c1 {w0 : World} (a1 : (List (Int × (List Int) × Int × Int × Int))) (u1 : Value) (g1 : RO [] w0 u1 a1) (pb1 : Nat) (ax1 : (Int × (List Int))) (g2 : ROAt [] w0 pb1 0 ax1) (pb2 : Nat) (ax2 : (List Int)) (g3 : ROAt [] w0 pb2 0 ax2) (pb3 : Nat) (ax3 : (List Int)) (g4 : ROAt [] w0 pb3 0 ax3) (pb4 : Nat) (g5 : ROAt [] w0 pb4 0 (RawF.mk : RawF 95 [(ptr pb3 0)])) (rr : Int) (hF : Slices.IndexFunc_Limpl_Method_impl_Method_M_greedyWhere_c1_c1_M_privateOrder_c1 a1 ax1 ax2 ax3 = some rr) :
 Calls Tryz.prog 123 [u1, (.func (.func 124) #[] #[(ptr pb1 0), (ptr pb2 0), (ptr pb4 0)])].toArray w0 fun e w' => ∃ v, e = .returned v ∧ Res w0 rr v w' := by
 refine calls_of_W Tryz.func123 rfl rfl ?_
 have hC0 := Ctx.start w0
 unfold Slices.IndexFunc_Limpl_Method_impl_Method_M_greedyWhere_c1_c1_M_privateOrder_c1 at hF
 refine W_seq_reg ?_
 refine WL_assign rfl rfl ?_
 refine WL_nil (W_seq (W_seq_reg ?_))
 refine WL_move rfl rfl ?_
 refine WL_len Tryz.underlying33 g1 rfl rfl ?_
 refine WL_move rfl rfl ?_
 refine WL_nil ?_
 obtain ⟨r1, hr1, hF⟩ := bind_some hF
 refine W_norm (fun l w => .inl () = r1 ∧ l = [] ∧ Below w0.heap.size w0 w ∧ Ctx [] w0 w []) ?_ ?_
 ·refine W_block ?_
  refine W.sub (l' := [(0, u1), (1, (.func (.func 124) #[] #[(ptr pb1 0), (ptr pb2 0), (ptr pb4 0)])), (7, (.int .i64 (List.length a1 : Int))), (8, (.int .i64 0))]) ?_ ⟨rfl, rfl, rfl, rfl, trivial⟩
  refine W_loop (fun k l w => ∃ x1 : Int, l = [(0, u1), (1, (.func (.func 124) #[] #[(ptr pb1 0), (ptr pb2 0), (ptr pb4 0)])), (7, (.int .i64 (List.length a1 : Int))), (8, (.int .i64 x1))] ∧ Below w0.heap.size w0 w ∧ Ctx [] w0 w [] ∧ Slices.IndexFunc_Limpl_Method_impl_Method_M_greedyWhere_c1_c1_M_privateOrder_c1_l1 a1 ax1 ax2 ax3 k x1 = some r1) FUEL ⟨0, rfl, (Below.refl _ _), hC0, hr1⟩ ?_
  clear hr1
  rintro k1 _ w1 ⟨x1, rfl, hB1, hC1, hL1⟩
  cases k1 with
  | zero => rw [Slices.IndexFunc_Limpl_Method_impl_Method_M_greedyWhere_c1_c1_M_privateOrder_c1_l1] at hL1; cases hL1
  | succ k1 =>
   rw [Slices.IndexFunc_Limpl_Method_impl_Method_M_greedyWhere_c1_c1_M_privateOrder_c1_l1] at hL1
   refine W_seq_reg ?_
   refine WL_lss rfl rfl rfl ?_
   refine WL_nil (W_seq ?_)
   refine W_cond rfl (fun hc1 => ?_) (fun hc1 => ?_)
   ·replace hL1 := ite_t hL1 hc1
    refine W_skip (nrm_normal (W_seq (W_block (W_seq_reg ?_))))
    refine WL_move rfl rfl ?_
    refine WL_assign rfl rfl ?_
    refine WL_nil (W_seq_reg ?_)
    refine WL_move rfl rfl ?_
    refine WL_move rfl rfl ?_
    refine WL_move rfl rfl ?_
    obtain ⟨x2, hx1, hL1⟩ := bind_some hL1
    refine WL_index Tryz.underlying33 ty71 g1 hx1 rfl rfl rfl (fun b1 o1 h1 => ?_)
    refine WL_load ty71 h1 hC1.keep rfl rfl (fun v1 h2 => ?_)
    obtain ⟨v2, rfl, h3⟩ := ro_st71 h2
    obtain ⟨x3, hr2, hL1⟩ := bind_some hL1
    refine WL_callv (cap := [(ptr pb1 0), (ptr pb2 0), (ptr pb4 0)]) Tryz.call124 rfl rfl rfl (c_M_greedyWhere_c1_c1_M_privateOrder_c1 x2 v2 (h3.now hC1.keep) pb1 ax1 (g2.now hC1.keep) pb2 ax2 (g3.now hC1.keep) pb3 ax3 (g4.now hC1.keep) pb4 (g5.now hC1.keep) x3 hr2) ?_
    intro _ w2 hv1
    obtain ⟨rfl, hB2⟩ := res_bool hv1
    have hC2 := hC1.grow hB2
    refine WL_nil ?_
    refine W_cond rfl (fun hc2 => ?_) (fun hc2 => ?_)
    ·replace hL1 := ite_t hL1 hc2
     refine W_seq_reg ?_
     refine WL_move rfl rfl ?_
     refine WL_assign rfl rfl ?_
     refine WL_nil (W_ret (blk_ret (nrm_ret (nrm_ret (blk_ret (nrm_ret (nrm_ret ?_)))))))
     have hq1 := Option.some.inj hL1
     subst hq1
     dsimp only at hF
     have hq2 := Option.some.inj hF
     subst hq2
     refine fn_ret1 rfl rfl ?_
     exact ⟨_, rfl, int_res hC2 _⟩
    replace hL1 := ite_f hL1 hc2
    refine W_skip (blk_normal (nrm_normal (W_reg ?_)))
    refine WL_add rfl rfl rfl ?_
    refine WL_move rfl rfl ?_
    refine WL_nil ?_
    refine nrm_sub (l' := [(0, u1), (1, (.func (.func 124) #[] #[(ptr pb1 0), (ptr pb2 0), (ptr pb4 0)])), (7, (.int .i64 (List.length a1 : Int))), (8, (.int .i64 (w64 (x1 + 1))))]) ⟨rfl, rfl, rfl, rfl, trivial⟩ ?_
    exact ⟨k1, Nat.lt_succ_self _, w64 (x1 + 1), rfl, ((Keep.of hB1).then hB2).below, hC2, hL1⟩
   replace hL1 := ite_f hL1 hc1
   refine W_exit (nrm_exit (nrm_exit (blk_exit ?_)))
   have hq3 := Option.some.inj hL1
   subst hq3
   refine nrm_sub (l' := []) trivial ?_
   exact ⟨rfl, rfl, (Keep.of hB1).below, hC1⟩
 rintro l2 _ w3 hs2 ⟨rfl, rfl, hB3, hC3⟩
 try dsimp only at hF
 refine nrm_sub' hs2 ?_
 clear hs2
 refine W_seq_reg ?_
 refine WL_assign rfl rfl ?_
 refine WL_nil (W_ret ?_)
 have hq4 := Option.some.inj hF
 subst hq4
 refine fn_ret1 rfl rfl ?_
 exact ⟨_, rfl, int_res hC3 _⟩

theorem c_M_greedyWhere_c1_M_privateOrder_c1 {w0 : World} (pb1 : Nat) (ax1 : (List (Int × (List Int)))) (g1 : ROAt [] w0 pb1 0 ax1) (pb2 : Nat) (ax2 : (List (Int × (List Int) × Int × Int × Int))) (g2 : ROAt [] w0 pb2 0 ax2) (pb3 : Nat) (ax3 : (List Int)) (g3 : ROAt [] w0 pb3 0 ax3) (pb4 : Nat) (ax4 : (List Int)) (g4 : ROAt [] w0 pb4 0 ax4) (pb5 : Nat) (g5 : ROAt [] w0 pb5 0 (RawF.mk : RawF 95 [(ptr pb4 0)])) (pb6 : Nat) (ax5 : (List Bool)) (g6 : ROAt [] w0 pb6 0 ax5) (rr : ((Int × Int) × Bool)) (hF : M.greedyWhere_c1_M_privateOrder_c1 ax1 ax2 ax3 ax4 ax5 = some rr) :
 Calls Tryz.prog 122 [(ptr pb1 0), (ptr pb2 0), (ptr pb3 0), (ptr pb5 0), (ptr pb6 0)].toArray w0 fun e w' => ∃ v, e = .returned v ∧ Res2 w0 rr.1 rr.2 v w' := by
 refine calls_of_W Tryz.func122 rfl rfl ?_
 have hC0 := Ctx.start w0
 unfold M.greedyWhere_c1_M_privateOrder_c1 at hF
 refine W_seq_reg ?_
 refine WL_allocK hC0 zero75 rfl rfl (fun b1 w1 hC1 hB1 hN1 => ?_)
 refine WL_assign rfl rfl ?_
 refine WL_nil (W_seq (W_seq_reg ?_))
 refine WL_load ty35 g1 hC1.keep rfl rfl (fun v1 h1 => ?_)
 refine WL_len Tryz.underlying35 h1 rfl rfl ?_
 refine WL_move rfl rfl ?_
 refine WL_nil ?_
 obtain ⟨r1, hr1, hF⟩ := bind_some hF
 refine W_norm (fun l w => ∃ x4 : Int, ∃ x5 : Int, .inl (x4, x5) = r1 ∧ l = [(5, (ptr b1 0))] ∧ Ctx [] w0 w [Item.box b1 [(.int .i64 x4), (.int .i64 x5)]]) ?_ ?_
 ·refine W_block ?_
  refine W.sub (l' := [(1, (ptr pb2 0)), (2, (ptr pb3 0)), (3, (ptr pb5 0)), (4, (ptr pb6 0)), (5, (ptr b1 0)), (10, v1), (11, (.int .i64 (List.length ax1 : Int))), (12, (.int .i64 0))]) ?_ ⟨rfl, rfl, rfl, rfl, rfl, rfl, rfl, rfl, trivial⟩
  refine W_loop (fun k l w => ∃ x1 : Int, ∃ x2 : Int, ∃ x3 : Int, l = [(1, (ptr pb2 0)), (2, (ptr pb3 0)), (3, (ptr pb5 0)), (4, (ptr pb6 0)), (5, (ptr b1 0)), (10, v1), (11, (.int .i64 (List.length ax1 : Int))), (12, (.int .i64 x3))] ∧ Ctx [] w0 w [Item.box b1 [(.int .i64 x1), (.int .i64 x2)]] ∧ M.greedyWhere_c1_M_privateOrder_c1_l1 ax1 ax2 ax3 ax4 ax5 k x1 x2 x3 = some r1) FUEL ⟨0, 0, 0, rfl, hC1, hr1⟩ ?_
  clear hr1
  rintro k1 _ w2 ⟨x1, x2, x3, rfl, hC2, hL1⟩
  cases k1 with
  | zero => rw [M.greedyWhere_c1_M_privateOrder_c1_l1] at hL1; cases hL1
  | succ k1 =>
   rw [M.greedyWhere_c1_M_privateOrder_c1_l1] at hL1
   refine W_seq_reg ?_
   refine WL_lss rfl rfl rfl ?_
   refine WL_nil (W_seq ?_)
   refine W_cond rfl (fun hc1 => ?_) (fun hc1 => ?_)
   ·replace hL1 := ite_t hL1 hc1
    refine W_skip (nrm_normal (W_seq (W_block (W_seq_reg ?_))))
    refine WL_move rfl rfl ?_
    obtain ⟨x6, hx1, hL1⟩ := bind_some hL1
    refine WL_index Tryz.underlying35 ty84 h1 hx1 rfl rfl rfl (fun b2 o1 h2 => ?_)
    refine WL_load ty84 h2 hC2.keep rfl rfl (fun v2 h3 => ?_)
    obtain ⟨v3, rfl, h4⟩ := ro_st84 h3
    refine WL_allocK hC2 zero84 rfl rfl (fun b3 w3 hC3 hB3 hN2 => ?_)
    refine WL_assign rfl rfl ?_
    refine WL_store_box_aggK (cs' := [(.int .i64 x6.1), v3]) (new := [(.int .i64 x6.1), v3]) hC3 0 rfl rfl (by intro v hv; simp only [List.mem_cons, List.not_mem_nil, or_false] at hv; rcases hv with rfl | rfl; exact rfl; exact (ro_one h4)) rfl Tryz.sizeOf84 rfl rfl (fun w4 hC4 hKp1 => ?_)
    try dsimp only [List.set] at hC4
    have hk1 := Keep.over (Keep.of hB3) hN2 hKp1
    refine WL_nil (W_seq_reg ?_)
    refine WL_load ty33 g2 hC4.keep rfl rfl (fun v4 h5 => ?_)
    refine WL_makeFunc rfl rfl ?_
    obtain ⟨x7, hr2, hL1⟩ := bind_some hL1
    refine WL_call Tryz.call123 rfl rfl (c_Slices_IndexFunc_Limpl_Method_impl_Method_M_greedyWhere_c1_c1_M_privateOrder_c1 ax2 v4 (h5.now hC4.keep) b3 (x6.1, x6.2) (hC4.boxAt 0 rfl (repw_pair repw_int (repw_slice (h4.now hC4.keep)))) pb3 ax3 (g3.now hC4.keep) pb4 ax4 (g4.now hC4.keep) pb5 (g5.now hC4.keep) x7 hr2) ?_
    intro _ w5 hv1
    obtain ⟨rfl, hB4⟩ := res_int hv1
    have hC5 := hC4.grow hB4
    refine WL_assign rfl rfl ?_
    refine WL_nil ?_
    obtain ⟨r2, hr3, hL1⟩ := bind_some hL1
    refine W_cut (fun l w => ∃ x8 : Bool, x8 = r2 ∧ l = [(1, (ptr pb2 0)), (2, (ptr pb3 0)), (3, (ptr pb5 0)), (4, (ptr pb6 0)), (5, (ptr b1 0)), (7, (.int .i64 x3)), (9, (.int .i64 x7)), (10, v1), (11, (.int .i64 (List.length ax1 : Int))), (12, (.int .i64 x3)), (28, (.bool x8))] ∧ Below w5.heap.size w5 w ∧ Ctx [] w0 w [Item.box b1 [(.int .i64 x1), (.int .i64 x2)]]) ?_ ?_
    ·refine W_reg ?_
     refine WL_load ty107 g6 hC5.keep rfl rfl (fun v5 h6 => ?_)
     refine WL_move rfl rfl ?_
     obtain ⟨x9, hx2, hr3⟩ := bind_some hr3
     refine WL_index Tryz.underlying107 ty4 h6 hx2 rfl rfl rfl (fun b4 o2 h7 => ?_)
     refine WL_load ty4 h7 hC5.keep rfl rfl (fun v6 h8 => ?_)
     obtain rfl := ro_bool h8
     refine WL_not rfl rfl ?_
     refine WL_move rfl rfl ?_
     refine WL_fork (fun hc2 => ?_) (fun hc2 => ?_)
     ·replace hr3 := ite_t hr3 hc2
      refine WL_guard rfl rfl ?_
      refine WL_move rfl rfl ?_
      refine WL_guard rfl rfl ?_
      refine WL_geq rfl rfl rfl ?_
      refine WL_pick_t rfl rfl rfl ?_
      refine WL_nil ?_
      have hq1 := Option.some.inj hr3
      subst hq1
      have hC7 := hC5.f1
      have hC8 := hC7.h1
      refine nrm_sub (l' := [(1, (ptr pb2 0)), (2, (ptr pb3 0)), (3, (ptr pb5 0)), (4, (ptr pb6 0)), (5, (ptr b1 0)), (7, (.int .i64 x3)), (9, (.int .i64 x7)), (10, v1), (11, (.int .i64 (List.length ax1 : Int))), (12, (.int .i64 x3)), (28, (.bool (decide (0 ≤ x7))))]) ⟨rfl, rfl, rfl, rfl, rfl, rfl, rfl, rfl, rfl, rfl, rfl, trivial⟩ ?_
      exact ⟨(decide (0 ≤ x7)), rfl, rfl, (Below.refl _ _), hC8⟩
     replace hr3 := ite_f hr3 hc2
     refine WL_guard_skip rfl rfl (by simp) rfl ?_
     refine WL_guard_skip rfl rfl (by simp) rfl ?_
     refine WL_pick_f rfl rfl rfl ?_
     refine WL_nil ?_
     have hq2 := Option.some.inj hr3
     subst hq2
     have hC9 := hC5.f1
     have hC10 := hC9.h1
     refine nrm_sub (l' := [(1, (ptr pb2 0)), (2, (ptr pb3 0)), (3, (ptr pb5 0)), (4, (ptr pb6 0)), (5, (ptr b1 0)), (7, (.int .i64 x3)), (9, (.int .i64 x7)), (10, v1), (11, (.int .i64 (List.length ax1 : Int))), (12, (.int .i64 x3)), (28, (.bool false))]) ⟨rfl, rfl, rfl, rfl, rfl, rfl, rfl, rfl, rfl, rfl, rfl, trivial⟩ ?_
     exact ⟨false, rfl, rfl, (Below.refl _ _), hC10⟩
    rintro _ w6 ⟨x8, rfl, rfl, hB5, hC6⟩
    try dsimp only at hL1
    refine W_cond rfl (fun hc3 => ?_) (fun hc3 => ?_)
    ·replace hL1 := ite_t hL1 hc3
     refine W_seq_reg ?_
     refine WL_move rfl rfl ?_
     refine WL_move rfl rfl ?_
     refine WL_build (vs := [(0, (.int .i64 x3)), (1, (.int .i64 x7))]) rfl rfl rfl (built75_0_1 rfl rfl) ?_
     refine WL_store_box_aggK (cs' := [(.int .i64 x3), (.int .i64 x7)]) (new := [(.int .i64 x3), (.int .i64 x7)]) hC6 0 rfl rfl (by intro v hv; simp only [List.mem_cons, List.not_mem_nil, or_false] at hv; rcases hv with rfl | rfl; exact rfl; exact rfl) rfl Tryz.sizeOf75 rfl rfl (fun w7 hC11 hKp2 => ?_)
     try dsimp only [List.set] at hC11
     refine WL_assign rfl rfl ?_
     refine WL_nil (W_ret (blk_ret (nrm_ret (nrm_ret (blk_ret (nrm_ret (nrm_ret ?_)))))))
     have hq3 := Option.some.inj hL1
     subst hq3
     dsimp only at hF
     have hq4 := Option.some.inj hF
     subst hq4
     refine fn_retG2 rfl (rv_cell_agg (cs' := [(.int .i64 x3), (.int .i64 x7)]) hC11 (i := 0) rfl rfl rfl Tryz.isAgg75 Tryz.sizeOf75 rfl) (rv_tmp rfl) ?_
     have hC12 := hC11.triv (bool_val (true))
     have hC13 := own_st75 x3 x7 hC12
     exact ⟨_, rfl, res2_of hC13⟩
    replace hL1 := ite_f hL1 hc3
    refine W_skip (blk_normal (nrm_normal (W_reg ?_)))
    refine WL_add rfl rfl rfl ?_
    refine WL_move rfl rfl ?_
    refine WL_nil ?_
    refine nrm_sub (l' := [(1, (ptr pb2 0)), (2, (ptr pb3 0)), (3, (ptr pb5 0)), (4, (ptr pb6 0)), (5, (ptr b1 0)), (10, v1), (11, (.int .i64 (List.length ax1 : Int))), (12, (.int .i64 (w64 (x3 + 1))))]) ⟨rfl, rfl, rfl, rfl, rfl, rfl, rfl, rfl, trivial⟩ ?_
    exact ⟨k1, Nat.lt_succ_self _, x1, x2, w64 (x3 + 1), rfl, hC6, hL1⟩
   replace hL1 := ite_f hL1 hc1
   refine W_exit (nrm_exit (nrm_exit (blk_exit ?_)))
   have hq5 := Option.some.inj hL1
   subst hq5
   refine nrm_sub (l' := [(5, (ptr b1 0))]) ⟨rfl, trivial⟩ ?_
   exact ⟨x1, x2, rfl, rfl, hC2⟩
 rintro l3 _ w9 hs3 ⟨x4, x5, rfl, rfl, hC14⟩
 try dsimp only at hF
 refine nrm_sub' hs3 ?_
 clear hs3
 refine W_seq_reg ?_
 refine WL_build (vs := []) rfl rfl rfl built75 ?_
 refine WL_store_box_aggK (cs' := [(.int .i64 0), (.int .i64 0)]) (new := [(.int .i64 0), (.int .i64 0)]) hC14 0 rfl rfl (by intro v hv; simp only [List.mem_cons, List.not_mem_nil, or_false] at hv; rcases hv with rfl | rfl; exact rfl; exact rfl) rfl Tryz.sizeOf75 rfl rfl (fun w10 hC15 hKp3 => ?_)
 try dsimp only [List.set] at hC15
 refine WL_assign rfl rfl ?_
 refine WL_nil (W_ret ?_)
 have hq6 := Option.some.inj hF
 subst hq6
 refine fn_retG2 rfl (rv_cell_agg (cs' := [(.int .i64 0), (.int .i64 0)]) hC15 (i := 0) rfl rfl rfl Tryz.isAgg75 Tryz.sizeOf75 rfl) (rv_tmp rfl) ?_
 have hC16 := hC15.triv (bool_val (false))
 have hC17 := own_st75 0 0 hC16
 exact ⟨_, rfl, res2_of hC17⟩

theorem c_M_greedyWhere_M_privateOrder_c1 {w0 : World} (a1 : (List (Int × (List Int) × Int × Int × Int))) (u1 : Value) (g1 : RO [] w0 u1 a1) (a2 : (List (Int × (List Int)))) (u2 : Value) (g2 : RO [] w0 u2 a2) (pb1 : Nat) (ax1 : (List Int)) (g3 : ROAt [] w0 pb1 0 ax1) (rr : ((List (Int × Int)) × (List Bool))) (hF : M.greedyWhere_M_privateOrder_c1 a1 a2 ax1 = some rr) :
 Calls Tryz.prog 94 [u1, u2, (.func (.func 95) #[] #[(ptr pb1 0)])].toArray w0 fun e w' => ∃ v, e = .returned v ∧ Res2 w0 rr.1 rr.2 v w' := by
 refine calls_of_W Tryz.func94 rfl rfl ?_
 have hC0 := Ctx.start w0
 unfold M.greedyWhere_M_privateOrder_c1 at hF
 refine W_seq_reg ?_
 refine WL_boxK (cs := [u1]) hC0 (ro_cells g1) rfl rfl (fun b1 w1 hC1 hB1 hN1 => ?_)
 refine WL_boxK (cs := [u2]) hC1 (ro_cells g2) rfl rfl (fun b2 w2 hC2 hB2 hN2 => ?_)
 refine WL_boxK (cs := [(.func (.func 95) #[] #[(ptr pb1 0)])]) hC2 rfl rfl rfl (fun b3 w3 hC3 hB3 hN3 => ?_)
 refine WL_assign rfl rfl ?_
 refine WL_assign rfl rfl ?_
 refine WL_nil (W_seq_reg ?_)
 refine WL_buildSlice (vs := []) hC3 Tryz.underlying39 ty75 rfl rfl rfl rfl (by simp) rfl rfl (fun b4 w4 hC4 hB4 => ?_)
 have hC5 := hC4.row0 (α := (Int × Int))
 have hC6 := hC5.front 1 rfl
 dsimp only [List.eraseIdx, List.cons_append, List.nil_append, List.append_nil] at hC6
 have hC7 : Ctx [] w0 w4 (Item.own (.slice (some ⟨b4, 0, none⟩) 0 0) (([] : List (Int × Int)) : List (Int × Int)) :: [Item.box b3 [(.func (.func 95) #[] #[(ptr pb1 0)])], Item.box b2 [u2], Item.box b1 [u1]]) := hC6.rowOwn (by simp [maxLen])
 refine WL_assign rfl rfl ?_
 refine WL_nil (W_seq_reg ?_)
 refine WL_load_box hC7 2 rfl rfl Tryz.isAgg35 rfl rfl ?_
 refine WL_len Tryz.underlying35 g2 rfl rfl ?_
 obtain ⟨x1, hx1, hF⟩ := bind_some hF
 refine WL_makeSlice hC7 Tryz.underlying107 ty4 rfl zc4 zr4 hx1 rfl rfl rfl (fun b5 w5 hC8 hB5 => ?_)
 refine WL_allocK hC8 zero107 rfl rfl (fun b6 w6 hC9 hB6 hN4 => ?_)
 refine WL_store_boxK (cs' := [(.slice (some ⟨b5, 0, none⟩) (Int.toNat (List.length a2 : Int)) (Int.toNat (List.length a2 : Int)))]) hC9 0 rfl rfl (ro_one (hC9.ro 1 rfl)) rfl Tryz.sizeOf107 rfl rfl (fun w7 hC10 hKp1 => ?_)
 try dsimp only [List.set] at hC10
 have hk1 := Keep.over ((((((Keep.of hB1).then hB2).then hB3).then hB4).then hB5).then hB6) (Nat.le_trans (((((Keep.of hB1).then hB2).then hB3).then hB4).then hB5).size hN4) hKp1
 have hk2 := Keep.over (((((Keep.of hB2).then hB3).then hB4).then hB5).then hB6) (Nat.le_trans ((((Keep.of hB2).then hB3).then hB4).then hB5).size hN4) hKp1
 have hk3 := Keep.over ((((Keep.of hB3).then hB4).then hB5).then hB6) (Nat.le_trans (((Keep.of hB3).then hB4).then hB5).size hN4) hKp1
 have hk4 := Keep.over (((Keep.of hB4).then hB5).then hB6) (Nat.le_trans ((Keep.of hB4).then hB5).size hN4) hKp1
 have hk5 := Keep.over ((Keep.of hB5).then hB6) (Nat.le_trans (Keep.of hB5).size hN4) hKp1
 have hk6 := Keep.over (Keep.of hB6) hN4 hKp1
 refine WL_nil (W_seq_reg ?_)
 refine WL_buildSlice (vs := []) hC10 Tryz.underlying22 ty3 rfl rfl rfl rfl (by simp) rfl rfl (fun b7 w9 hC11 hB7 => ?_)
 have hC12 := hC11.row0 (α := Int)
 have hC13 := hC12.front 1 rfl
 dsimp only [List.eraseIdx, List.cons_append, List.nil_append, List.append_nil] at hC13
 have hC14 : Ctx [] w0 w9 (Item.own (.slice (some ⟨b7, 0, none⟩) 0 0) (([] : List Int) : List Int) :: [Item.box b6 [(.slice (some ⟨b5, 0, none⟩) (Int.toNat (List.length a2 : Int)) (Int.toNat (List.length a2 : Int)))], Item.own (.slice (some ⟨b5, 0, none⟩) (Int.toNat (List.length a2 : Int)) (Int.toNat (List.length a2 : Int))) (x1 : (List Bool)), Item.own (.slice (some ⟨b4, 0, none⟩) 0 0) (([] : List (Int × Int)) : (List (Int × Int))), Item.box b3 [(.func (.func 95) #[] #[(ptr pb1 0)])], Item.box b2 [u2], Item.box b1 [u1]]) := hC13.rowOwn (by simp [maxLen])
 refine WL_allocK hC14 zero22 rfl rfl (fun b8 w10 hC15 hB8 hN5 => ?_)
 refine WL_store_boxK (cs' := [(.slice (some ⟨b7, 0, none⟩) 0 0)]) hC15 0 rfl rfl (ro_one (hC15.ro 1 rfl)) rfl Tryz.sizeOf22 rfl rfl (fun w11 hC16 hKp2 => ?_)
 try dsimp only [List.set] at hC16
 have hk7 := Keep.over ((hk1.then hB7).then hB8) (Nat.le_trans (hk1.then hB7).size hN5) hKp2
 have hk8 := Keep.over ((hk2.then hB7).then hB8) (Nat.le_trans (hk2.then hB7).size hN5) hKp2
 have hk9 := Keep.over ((hk3.then hB7).then hB8) (Nat.le_trans (hk3.then hB7).size hN5) hKp2
 have hk10 := Keep.over ((hk4.then hB7).then hB8) (Nat.le_trans (hk4.then hB7).size hN5) hKp2
 have hk11 := Keep.over ((hk5.then hB7).then hB8) (Nat.le_trans (hk5.then hB7).size hN5) hKp2
 have hk12 := Keep.over ((hk6.then hB7).then hB8) (Nat.le_trans (hk6.then hB7).size hN5) hKp2
 have hk13 := Keep.over ((Keep.of hB7).then hB8) (Nat.le_trans (Keep.of hB7).size hN5) hKp2
 have hk14 := Keep.over (Keep.of hB8) hN5 hKp2
 refine WL_nil (W_seq_reg ?_)
 refine WL_makeFunc rfl rfl ?_
 refine WL_assign rfl rfl ?_
 refine WL_nil (W_seq (W_seq_reg ?_))
 refine WL_move rfl rfl ?_
 obtain ⟨x2, hr1, hF⟩ := bind_some hF
 refine WL_callv (cap := [(ptr b2 0), (ptr b1 0), (ptr b8 0), (ptr b3 0), (ptr b6 0)]) Tryz.call122 rfl rfl rfl (c_M_greedyWhere_c1_M_privateOrder_c1 b2 a2 (hC16.boxAt 6 rfl (repw_slice (g2.now hC16.keep))) b1 a1 (hC16.boxAt 7 rfl (repw_slice (g1.now hC16.keep))) b8 ([] : List Int) (hC16.boxAt 0 rfl (repw_slice (hC16.ro 1 rfl))) pb1 ax1 (g3.now hC16.keep) b3 (hC16.boxAt 5 rfl repw_raw) b6 x1 (hC16.boxAt 2 rfl (repw_slice (hC16.ro 3 rfl))) x2 hr1) ?_
 rintro _ w12 ⟨hB9, v1, v2, F1, F2, rfl, hv1, hv2, hn1, hb1⟩
 obtain ⟨rfl, rfl⟩ := val_bool hv2
 have hC17 := hC16.pushL hB9 (Bs := [Item.own v1 x2.1]) (Fs := [F1]) ⟨F1, _, rfl, hv1, rfl⟩ (by simpa using hn1) (fun b h => hb1 b (by simpa using h))
 obtain ⟨rfl, hC18⟩ := st75_own hC17
 refine WL_move rfl rfl ?_
 refine WL_extract rfl rfl rfl ?_
 refine WL_extract rfl rfl rfl ?_
 refine WL_allocK hC18 zero75 rfl rfl (fun b9 w13 hC19 hB10 hN6 => ?_)
 refine WL_store_box_aggK (cs' := [(.int .i64 x2.1.1), (.int .i64 x2.1.2)]) (new := [(.int .i64 x2.1.1), (.int .i64 x2.1.2)]) hC19 0 rfl rfl (by intro v hv; simp only [List.mem_cons, List.not_mem_nil, or_false] at hv; rcases hv with rfl | rfl; exact rfl; exact rfl) rfl Tryz.sizeOf75 rfl rfl (fun w14 hC20 hKp3 => ?_)
 try dsimp only [List.set] at hC20
 have hk15 := Keep.over ((hk7.then hB9).then hB10) (Nat.le_trans (hk7.then hB9).size hN6) hKp3
 have hk16 := Keep.over ((hk8.then hB9).then hB10) (Nat.le_trans (hk8.then hB9).size hN6) hKp3
 have hk17 := Keep.over ((hk9.then hB9).then hB10) (Nat.le_trans (hk9.then hB9).size hN6) hKp3
 have hk18 := Keep.over ((hk10.then hB9).then hB10) (Nat.le_trans (hk10.then hB9).size hN6) hKp3
 have hk19 := Keep.over ((hk11.then hB9).then hB10) (Nat.le_trans (hk11.then hB9).size hN6) hKp3
 have hk20 := Keep.over ((hk12.then hB9).then hB10) (Nat.le_trans (hk12.then hB9).size hN6) hKp3
 have hk21 := Keep.over ((hk13.then hB9).then hB10) (Nat.le_trans (hk13.then hB9).size hN6) hKp3
 have hk22 := Keep.over ((hk14.then hB9).then hB10) (Nat.le_trans (hk14.then hB9).size hN6) hKp3
 have hk23 := Keep.over ((Keep.of hB9).then hB10) (Nat.le_trans (Keep.of hB9).size hN6) hKp3
 have hk24 := Keep.over (Keep.of hB10) hN6 hKp3
 refine WL_assign rfl rfl ?_
 refine WL_nil ?_
 obtain ⟨r1, hr2, hF⟩ := bind_some hF
 refine W_norm (fun l w => ∃ x9 : (List Bool), ∃ v5 : Value, ∃ x10 : (List Int), ∃ v6 : Value, ∃ x11 : (List (Int × Int)), (x9, x10, x11) = r1 ∧ l = [(8, v6), (9, (ptr b6 0))] ∧ Ctx [] w0 w [Item.box b6 [(.slice (some ⟨b5, 0, none⟩) (Int.toNat (List.length a2 : Int)) (Int.toNat (List.length a2 : Int)))], Item.own (.slice (some ⟨b5, 0, none⟩) (Int.toNat (List.length a2 : Int)) (Int.toNat (List.length a2 : Int))) (x9 : (List Bool)), Item.own v6 (x11 : (List (Int × Int)))]) ?_ ?_
 ·refine W_block ?_
  refine W.sub (l' := [(4, (ptr b2 0)), (8, (.slice (some ⟨b4, 0, none⟩) 0 0)), (9, (ptr b6 0)), (10, (ptr b8 0)), (11, (.func (.func 122) #[] #[(ptr b2 0), (ptr b1 0), (ptr b8 0), (ptr b3 0), (ptr b6 0)])), (12, (ptr b9 0)), (13, (.bool x2.2))]) ?_ ⟨rfl, rfl, rfl, rfl, rfl, rfl, rfl, trivial⟩
  refine W_loop (fun k l w => ∃ x3 : (List Bool), ∃ v3 : Value, ∃ x4 : (List Int), ∃ v4 : Value, ∃ x5 : (List (Int × Int)), ∃ b10 : Nat, ∃ x6 : Int, ∃ x7 : Int, ∃ x8 : Bool, l = [(4, (ptr b2 0)), (8, v4), (9, (ptr b6 0)), (10, (ptr b8 0)), (11, (.func (.func 122) #[] #[(ptr b2 0), (ptr b1 0), (ptr b8 0), (ptr b3 0), (ptr b6 0)])), (12, (ptr b10 0)), (13, (.bool x8))] ∧ Ctx [] w0 w [Item.box b10 [(.int .i64 x6), (.int .i64 x7)], Item.box b8 [v3], Item.own v3 (x4 : (List Int)), Item.box b6 [(.slice (some ⟨b5, 0, none⟩) (Int.toNat (List.length a2 : Int)) (Int.toNat (List.length a2 : Int)))], Item.own (.slice (some ⟨b5, 0, none⟩) (Int.toNat (List.length a2 : Int)) (Int.toNat (List.length a2 : Int))) (x3 : (List Bool)), Item.own v4 (x5 : (List (Int × Int))), Item.box b3 [(.func (.func 95) #[] #[(ptr pb1 0)])], Item.box b2 [u2], Item.box b1 [u1]] ∧ M.greedyWhere_M_privateOrder_c1_l1 a2 a1 ax1 k x3 x4 x5 x6 x7 x8 = some r1) FUEL ⟨x1, (.slice (some ⟨b7, 0, none⟩) 0 0), ([] : List Int), (.slice (some ⟨b4, 0, none⟩) 0 0), ([] : List (Int × Int)), b9, x2.1.1, x2.1.2, x2.2, rfl, hC20, hr2⟩ ?_
  clear hr2
  rintro k1 _ w15 ⟨x3, v3, x4, v4, x5, b10, x6, x7, x8, rfl, hC21, hL1⟩
  cases k1 with
  | zero => rw [M.greedyWhere_M_privateOrder_c1_l1] at hL1; cases hL1
  | succ k1 =>
   rw [M.greedyWhere_M_privateOrder_c1_l1] at hL1
   refine W_seq (W_seq_reg ?_)
   refine WL_move rfl rfl ?_
   refine WL_nil ?_
   refine W_cond rfl (fun hc1 => ?_) (fun hc1 => ?_)
   ·replace hL1 := ite_t hL1 hc1
    refine W_skip (nrm_normal (W_seq (W_block (W_seq_reg ?_))))
    refine WL_load_box hC21 3 rfl rfl Tryz.isAgg107 rfl rfl ?_
    refine WL_field Tryz.underlying75 rfl rfl (fun w => ⟨_, Tryz.sizeOf3 w⟩) rfl rfl ?_
    refine WL_load_box hC21 0 rfl rfl Tryz.isAgg3 rfl rfl ?_
    obtain ⟨x12, hx2, hL1⟩ := bind_some hL1
    refine WL_index_own hC21 4 rfl Tryz.underlying107 ty4 hx2 rfl rfl rfl (fun b11 hE1 => ?_)
    have hC23 := hC21.triv (bool_val (true))
    refine WL_store_elem hC23 4 rfl ty4 hE1 hx2 rfl rfl rfl (fun w16 hC22 => ?_)
    try dsimp only [List.set] at hC22
    refine WL_nil (W_seq ?_)
    refine W_drawn 9 rfl hmix (fun w17 hB12 => ?_)
    have hC24 := hC22.grow hB12
    refine WA_tk 2 (by kernel_rfl) rfl rfl (fl_field Tryz.underlying75 rfl rfl (fun w => ⟨_, Tryz.sizeOf3 w⟩) rfl) ?_
    refine WL_field Tryz.underlying75 rfl rfl (fun w => ⟨_, Tryz.sizeOf3 w⟩) rfl rfl ?_
    refine WL_nil ?_
    obtain ⟨x13, hx3, hL1⟩ := bind_some hL1
    refine WA.sub (l' := [(4, (ptr b2 0)), (8, v4), (9, (ptr b6 0)), (10, (ptr b8 0)), (11, (.func (.func 122) #[] #[(ptr b2 0), (ptr b1 0), (ptr b8 0), (ptr b3 0), (ptr b6 0)])), (12, (ptr b10 0)), (13, (.bool x8)), (25, (.bool x8)), (31, (.slice (some ⟨b5, 0, none⟩) (Int.toNat (List.length a2 : Int)) (Int.toNat (List.length a2 : Int)))), (32, (ptr b10 0)), (33, (.int .i64 x6)), (34, (ptr b11 (Int.toNat x6 * Rep.sz Bool))), (37, (ptr b10 0))]) ?_ ⟨rfl, rfl, rfl, rfl, rfl, rfl, rfl, rfl, rfl, rfl, rfl, rfl, rfl, trivial⟩
    refine WA_postsE [⟨0, [], fun vs => PW.val v3, []⟩, ⟨1, [], fun vs => PW.val u2, []⟩, ⟨3, [], fun vs => PW.val (.int .i64 x6), []⟩, ⟨4, [], fun vs => PW.at [] w0 x13, []⟩, ⟨5, [], fun vs => PW.at [] w0 x13.2, []⟩, ⟨6, [], fun vs => PW.ro [] w0 x13.2, []⟩] [[], [], [], [1, 3], [4], [5]] 2 rfl (by kernel_rfl) (by kernel_rfl) rfl ?_ ?_
    ·refine StepsE_cons rfl ?_ ?_
     ·intro w18 hB13
      refine DepsE_nil ?_
      refine ⟨_, rfl, ?_⟩
      refine WL_load_box (hC24.grow hB13) 1 rfl rfl Tryz.isAgg22 rfl rfl ?_
      refine WL_nil ?_
      exact FinE_val (Below.refl _ _) rfl rfl ⟨rfl, rfl⟩
     refine StepsE_cons rfl ?_ ?_
     ·intro w18 hB13
      refine DepsE_nil ?_
      refine ⟨_, rfl, ?_⟩
      refine WL_load_box (hC24.grow hB13) 7 rfl rfl Tryz.isAgg35 rfl rfl ?_
      refine WL_nil ?_
      exact FinE_val (Below.refl _ _) rfl rfl ⟨rfl, rfl⟩
     refine StepsE_cons rfl ?_ ?_
     ·intro w18 hB13
      refine DepsE_nil ?_
      refine ⟨_, rfl, ?_⟩
      refine WL_load_box (hC24.grow hB13) 0 rfl rfl Tryz.isAgg3 rfl rfl ?_
      refine WL_nil ?_
      exact FinE_val (Below.refl _ _) rfl rfl ⟨rfl, rfl⟩
     refine StepsE_cons rfl ?_ ?_
     ·intro w18 hB13
      refine DepsE_cons rfl rfl rfl ?_
      rintro _ _ ⟨rfl, rfl⟩ _
      refine DepsE_cons rfl rfl rfl ?_
      rintro _ _ ⟨rfl, rfl⟩ _
      refine DepsE_nil ?_
      refine ⟨_, rfl, ?_⟩
      refine WL_index Tryz.underlying35 ty84 g2 hx3 rfl rfl rfl (fun b12 o1 h1 => ?_)
      refine WL_nil ?_
      exact FinE_val (Below.refl _ _) rfl rfl ⟨rfl, _, _, rfl, h1⟩
     refine StepsE_cons rfl ?_ ?_
     ·intro w18 hB13
      refine DepsE_cons rfl rfl rfl ?_
      rintro _ _ ⟨rfl, b12, o1, rfl, h1⟩ _
      refine DepsE_nil ?_
      refine ⟨_, rfl, ?_⟩
      refine WL_field Tryz.underlying84 rfl rfl (fun w => ⟨_, Tryz.sizeOf22 w⟩) rfl rfl ?_
      refine WL_nil ?_
      exact FinE_val (Below.refl _ _) rfl rfl ⟨rfl, _, _, rfl, h1.snd⟩
     refine StepsE_cons rfl ?_ ?_
     ·intro w18 hB13
      refine DepsE_cons rfl rfl rfl ?_
      rintro _ _ ⟨rfl, b13, o2, rfl, h2⟩ _
      refine DepsE_nil ?_
      refine ⟨_, rfl, ?_⟩
      refine WL_load ty22 h2 (hC24.keep.then hB13) rfl rfl (fun v7 h3 => ?_)
      refine WL_nil ?_
      exact FinE_val (Below.refl _ _) rfl rfl ⟨rfl, h3⟩
     exact StepsE_nil
    intro w19 hB14
    refine AllE_cons rfl rfl rfl ?_
    rintro _ _ ⟨rfl, rfl⟩
    refine AllE_cons rfl rfl rfl ?_
    rintro _ _ ⟨rfl, rfl⟩
    refine AllE_cons rfl rfl rfl ?_
    rintro _ _ ⟨rfl, rfl⟩
    refine AllE_cons rfl rfl rfl ?_
    rintro _ _ ⟨rfl, b12, o1, rfl, h1⟩
    refine AllE_cons rfl rfl rfl ?_
    rintro _ _ ⟨rfl, b13, o2, rfl, h2⟩
    refine AllE_cons rfl rfl rfl ?_
    rintro v7 _ ⟨rfl, h3⟩
    refine AllE_nil ?_
    intro hn2 hb2
    have hC25 := hC24.grow hB14
    obtain ⟨x14, hx4, hL1⟩ := bind_some hL1
    refine WA_one 7 (by kernel_rfl) rfl ?_
    refine WL_append_flat (α := Int) hC25 2 rfl h3 hC25.keep Tryz.underlying22 ty3 rfl hx4 rfl rfl rfl (fun v8 w20 hC26 => ?_)
    try dsimp only [List.set] at hC26
    refine WL_nil ?_
    refine WA_one 8 (by kernel_rfl) rfl ?_
    refine WL_store_boxK (cs' := [v8]) hC26 1 rfl rfl (ro_one (hC26.ro 2 rfl)) rfl Tryz.sizeOf22 rfl rfl (fun w21 hC27 hKp5 => ?_)
    try dsimp only [List.set] at hC27
    refine WL_nil ?_
    refine WA_done (by kernel_rfl) ?_
    refine nrm_normal (W_reg ?_)
    refine WL_move rfl rfl ?_
    refine WL_load_box_agg [(.int .i64 x6), (.int .i64 x7)] hC27 0 rfl rfl rfl Tryz.isAgg75 Tryz.sizeOf75 rfl rfl ?_
    refine WL_buildSlice (vs := [(.agg #[(.int .i64 x6), (.int .i64 x7)])]) hC27 Tryz.underlying39 ty75 rfl rfl rfl rfl (by intro v hv; simp only [List.mem_cons, List.not_mem_nil, or_false] at hv; rcases hv with rfl <;> rfl) rfl rfl (fun b14 w22 hC28 hB15 => ?_)
    have hC29 := hC28.row0 (α := (Int × Int))
    have hC30 := own_st75 x6 x7 hC29
    have hC31 := hC30.row1
    have hC32 := hC31.front 1 rfl
    dsimp only [List.eraseIdx, List.cons_append, List.nil_append, List.append_nil] at hC32
    have hC33 : Ctx [] w0 w22 (Item.own (.slice (some ⟨b14, 0, none⟩) 1 1) ([(x6, x7)] : List (Int × Int)) :: [Item.box b10 [(.int .i64 x6), (.int .i64 x7)], Item.box b8 [v8], Item.own v8 (x14 : (List Int)), Item.box b6 [(.slice (some ⟨b5, 0, none⟩) (Int.toNat (List.length a2 : Int)) (Int.toNat (List.length a2 : Int)))], Item.own (.slice (some ⟨b5, 0, none⟩) (Int.toNat (List.length a2 : Int)) (Int.toNat (List.length a2 : Int))) ((List.set x3 (Int.toNat x6) true) : (List Bool)), Item.own v4 (x5 : (List (Int × Int))), Item.box b3 [(.func (.func 95) #[] #[(ptr pb1 0)])], Item.box b2 [u2], Item.box b1 [u1]]) := hC32.rowOwn (by simp [maxLen])
    obtain ⟨x15, hx5, hL1⟩ := bind_some hL1
    refine WL_append_flat (α := (Int × Int)) hC33 6 rfl (hC33.ro 0 rfl) (Keep.refl _ _) Tryz.underlying39 ty75 rfl hx5 rfl rfl rfl (fun v9 w23 hC34 => ?_)
    try dsimp only [List.set] at hC34
    refine WL_assign rfl rfl ?_
    refine WL_nil (blk_normal (nrm_normal (W_seq (W_seq_reg ?_))))
    refine WL_load_box_agg [(.int .i64 x6), (.int .i64 x7)] hC34 1 rfl rfl rfl Tryz.isAgg75 Tryz.sizeOf75 rfl rfl ?_
    refine WL_nil (W_reg ?_)
    refine WL_allocK hC34 zero75 rfl rfl (fun b15 w24 hC35 hB16 hN7 => ?_)
    refine WL_store_box_aggK (cs' := [(.int .i64 x6), (.int .i64 x7)]) (new := [(.int .i64 x6), (.int .i64 x7)]) hC35 0 rfl rfl (by intro v hv; simp only [List.mem_cons, List.not_mem_nil, or_false] at hv; rcases hv with rfl | rfl; exact rfl; exact rfl) rfl Tryz.sizeOf75 rfl rfl (fun w25 hC36 hKp6 => ?_)
    try dsimp only [List.set] at hC36
    have hk25 := Keep.over (Keep.of hB16) hN7 hKp6
    refine WL_nil (nrm_normal (W_reg ?_))
    refine WL_move rfl rfl ?_
    obtain ⟨x16, hr3, hL1⟩ := bind_some hL1
    refine WL_callv (cap := [(ptr b2 0), (ptr b1 0), (ptr b8 0), (ptr b3 0), (ptr b6 0)]) Tryz.call122 rfl rfl rfl (c_M_greedyWhere_c1_M_privateOrder_c1 b2 a2 (hC36.boxAt 9 rfl (repw_slice (g2.now hC36.keep))) b1 a1 (hC36.boxAt 10 rfl (repw_slice (g1.now hC36.keep))) b8 x14 (hC36.boxAt 3 rfl (repw_slice (hC36.ro 4 rfl))) pb1 ax1 (g3.now hC36.keep) b3 (hC36.boxAt 8 rfl repw_raw) b6 (List.set x3 (Int.toNat x6) true) (hC36.boxAt 5 rfl (repw_slice (hC36.ro 6 rfl))) x16 hr3) ?_
    rintro _ w26 ⟨hB17, v10, v11, F3, F4, rfl, hv3, hv4, hn3, hb3⟩
    obtain ⟨rfl, rfl⟩ := val_bool hv4
    have hC37 := hC36.pushL hB17 (Bs := [Item.own v10 x16.1]) (Fs := [F3]) ⟨F3, _, rfl, hv3, rfl⟩ (by simpa using hn3) (fun b h => hb3 b (by simpa using h))
    obtain ⟨rfl, hC38⟩ := st75_own hC37
    refine WL_move rfl rfl ?_
    refine WL_extract rfl rfl rfl ?_
    refine WL_extract rfl rfl rfl ?_
    refine WL_store_box_aggK (cs' := [(.int .i64 x16.1.1), (.int .i64 x16.1.2)]) (new := [(.int .i64 x16.1.1), (.int .i64 x16.1.2)]) hC38 0 rfl rfl (by intro v hv; simp only [List.mem_cons, List.not_mem_nil, or_false] at hv; rcases hv with rfl | rfl; exact rfl; exact rfl) rfl Tryz.sizeOf75 rfl rfl (fun w27 hC39 hKp7 => ?_)
    try dsimp only [List.set] at hC39
    have hk26 := Keep.over (hk25.then hB17) hN7 hKp7
    refine WL_assign rfl rfl ?_
    refine WL_nil ?_
    have hC40 := hC39.f10
    have hC41 := hC40.f10
    have hC42 := hC41.f10
    have hC43 := hC42.f10
    have hC44 := hC43.f10
    have hC45 := hC44.f10
    have hC46 := hC45.f10
    have hC47 := hC46.f10
    have hC48 := hC47.f8
    have hC49 := hC48.h9
    refine nrm_sub (l' := [(4, (ptr b2 0)), (8, v9), (9, (ptr b6 0)), (10, (ptr b8 0)), (11, (.func (.func 122) #[] #[(ptr b2 0), (ptr b1 0), (ptr b8 0), (ptr b3 0), (ptr b6 0)])), (12, (ptr b15 0)), (13, (.bool x16.2))]) ⟨rfl, rfl, rfl, rfl, rfl, rfl, rfl, trivial⟩ ?_
    exact ⟨k1, Nat.lt_succ_self _, (List.set x3 (Int.toNat x6) true), v8, x14, v9, x15, b15, x16.1.1, x16.1.2, x16.2, rfl, hC49, hL1⟩
   replace hL1 := ite_f hL1 hc1
   refine W_exit (nrm_exit (nrm_exit (blk_exit ?_)))
   have hq1 := Option.some.inj hL1
   subst hq1
   have hC50 := hC21.f5
   have hC51 := hC50.f5
   have hC52 := hC51.f5
   have hC53 := hC52.h3
   refine nrm_sub (l' := [(8, v4), (9, (ptr b6 0))]) ⟨rfl, rfl, trivial⟩ ?_
   exact ⟨x3, v3, x4, v4, x5, rfl, rfl, hC53⟩
 rintro l2 _ w28 hs2 ⟨x9, v5, x10, v6, x11, rfl, rfl, hC54⟩
 try dsimp only at hF
 refine nrm_sub' hs2 ?_
 clear hs2
 refine W_seq ?_
 refine W_drawn 4 rfl hmix (fun w29 hB19 => ?_)
 have hC55 := hC54.grow hB19
 refine WA_tk 0 (by kernel_rfl) rfl rfl (fl_move rfl) ?_
 refine WL_move rfl rfl ?_
 refine WL_nil ?_
 refine WA_tk 2 (by kernel_rfl) rfl rfl (fl_assign rfl) ?_
 refine WL_assign rfl rfl ?_
 refine WL_nil ?_
 refine WA_one 1 (by kernel_rfl) rfl ?_
 refine WL_load_box hC55 0 rfl rfl Tryz.isAgg107 rfl rfl ?_
 refine WL_nil ?_
 refine WA_tk 3 (by kernel_rfl) rfl rfl (fl_assign rfl) ?_
 refine WL_assign rfl rfl ?_
 refine WL_nil ?_
 refine WA_done (by kernel_rfl) ?_
 refine nrm_normal (W_ret ?_)
 have hq2 := Option.some.inj hF
 subst hq2
 refine fn_ret2 rfl rfl rfl ?_
 have hC56 := hC55.f1
 have hC57 := hC56.f2
 exact ⟨_, rfl, res2_of hC57⟩

theorem c_M_privateOrder {w0 : World} (a1 : (List (Int × (List Int) × Int × Int × Int))) (u1 : Value) (g1 : RO [] w0 u1 a1) (a2 : ((List Int) × (List (Int × (List Int))))) (u2 : Value) (g2 : RO [] w0 u2 a2.1) (u3 : Value) (g3 : RO [] w0 u3 a2.2) (a3 : (List Int)) (u4 : Value) (g4 : RO [] w0 u4 a3) (rr : ((List (Int × Int)) × Bool)) (hF : M.privateOrder a1 a2 a3 = some rr) :
 Calls Tryz.prog 59 [u1, (.agg #[u2, u3]), u4].toArray w0 fun e w' => ∃ v, e = .returned v ∧ Res2 w0 rr.1 rr.2 v w' := by
 refine calls_of_W Tryz.func59 rfl rfl ?_
 have hC0 := Ctx.start w0
 unfold M.privateOrder at hF
 refine W_seq_reg ?_
 refine WL_boxK (cs := [u2, u3]) hC0 rfl rfl rfl (fun b1 w1 hC1 hB1 hN1 => ?_)
 refine WL_boxK (cs := [u4]) hC1 (ro_cells g4) rfl rfl (fun b2 w2 hC2 hB2 hN2 => ?_)
 refine WL_assign rfl rfl ?_
 refine WL_assign rfl rfl ?_
 refine WL_nil (W_seq_reg ?_)
 refine WL_move rfl rfl ?_
 refine WL_field Tryz.underlying37 rfl rfl (fun w => ⟨_, Tryz.sizeOf35 w⟩) rfl rfl ?_
 refine WL_load_box hC2 1 rfl rfl Tryz.isAgg35 rfl rfl ?_
 refine WL_makeFunc rfl rfl ?_
 obtain ⟨x1, hr1, hF⟩ := bind_some hF
 refine WL_call Tryz.call94 rfl rfl (c_M_greedyWhere_M_privateOrder_c1 a1 u1 (g1.now hC2.keep) a2.2 u3 (g3.now hC2.keep) b2 a3 (hC2.boxAt 0 rfl (repw_slice (g4.now hC2.keep))) x1 hr1) ?_
 rintro _ w3 ⟨hB3, v1, v2, F1, F2, rfl, hv1, hv2, hn1, hb1⟩
 have hC3 := hC2.pushL hB3 (Bs := [Item.own v1 x1.1, Item.own v2 x1.2]) (Fs := [F1, F2]) ⟨F1, _, rfl, hv1, F2, _, rfl, hv2, rfl⟩ (by simpa using hn1) (fun b h => hb1 b (by simpa using h))
 refine WL_move rfl rfl ?_
 refine WL_extract rfl rfl rfl ?_
 refine WL_extract rfl rfl rfl ?_
 refine WL_assign rfl rfl ?_
 refine WL_assign rfl rfl ?_
 refine WL_nil (W_seq ?_)
 refine W_drawn 9 rfl hmix (fun w4 hB4 => ?_)
 have hC4 := hC3.grow hB4
 refine WA_tk 0 (by kernel_rfl) rfl rfl (fl_move rfl) ?_
 refine WL_move rfl rfl ?_
 refine WL_nil ?_
 refine WA_tk 1 (by kernel_rfl) rfl rfl (fl_move rfl) ?_
 refine WL_move rfl rfl ?_
 refine WL_nil ?_
 refine WA_tk 2 (by kernel_rfl) rfl rfl (fl_len Tryz.underlying39 (hC4.ro 0 rfl) rfl) ?_
 refine WL_len Tryz.underlying39 (hC4.ro 0 rfl) rfl rfl ?_
 refine WL_nil ?_
 refine WA_tk 3 (by kernel_rfl) rfl rfl (fl_field Tryz.underlying37 rfl rfl (fun w => ⟨_, Tryz.sizeOf35 w⟩) rfl) ?_
 refine WL_field Tryz.underlying37 rfl rfl (fun w => ⟨_, Tryz.sizeOf35 w⟩) rfl rfl ?_
 refine WL_nil ?_
 refine WA_tk 7 (by kernel_rfl) rfl rfl (fl_assign rfl) ?_
 refine WL_assign rfl rfl ?_
 refine WL_nil ?_
 refine WA_one 4 (by kernel_rfl) rfl ?_
 refine WL_load_box hC4 3 rfl rfl Tryz.isAgg35 rfl rfl ?_
 refine WL_nil ?_
 refine WA_tk 5 (by kernel_rfl) rfl rfl (fl_len Tryz.underlying35 g3 rfl) ?_
 refine WL_len Tryz.underlying35 g3 rfl rfl ?_
 refine WL_nil ?_
 refine WA_tk 6 (by kernel_rfl) rfl rfl (fl_eql rfl rfl) ?_
 refine WL_eql rfl rfl rfl ?_
 refine WL_nil ?_
 refine WA_tk 8 (by kernel_rfl) rfl rfl (fl_assign rfl) ?_
 refine WL_assign rfl rfl ?_
 refine WL_nil ?_
 refine WA_done (by kernel_rfl) ?_
 refine nrm_normal (W_ret ?_)
 have hq1 := Option.some.inj hF
 subst hq1
 refine fn_ret2 rfl rfl rfl ?_
 have hC5 := hC4.triv (bool_val ((decide ((List.length x1.1 : Int) = (List.length a2.2 : Int)))))
 have hC6 := hC5.f1
 exact ⟨_, rfl, res2_of hC6⟩

theorem c_M_FindPrivateOrder {w0 : World} (a1 : (List Int)) (u1 : Value) (g1 : RO [] w0 u1 a1) (a2 : (List (Int × (List Int) × Int × Int × Int))) (u2 : Value) (g2 : RO [] w0 u2 a2) (a3 : ((List Int) × (List (Int × (List Int))))) (u3 : Value) (g3 : RO [] w0 u3 a3.1) (u4 : Value) (g4 : RO [] w0 u4 a3.2) (a4 : (List Int)) (u5 : Value) (g5 : RO [] w0 u5 a4) (rr : ((List (Int × Int)) × Bool)) (hF : M.FindPrivateOrder a1 a2 a3 a4 = some rr) :
 Calls Tryz.prog 21 [u1, u2, (.agg #[u3, u4]), u5].toArray w0 fun e w' => ∃ v, e = .returned v ∧ Res2 w0 rr.1 rr.2 v w' := by
 refine calls_of_W Tryz.func21 rfl rfl ?_
 have hC0 := Ctx.start w0
 unfold M.FindPrivateOrder at hF
 refine W_seq_reg ?_
 refine WL_boxK (cs := [u3, u4]) hC0 rfl rfl rfl (fun b1 w1 hC1 hB1 hN1 => ?_)
 refine WL_assign rfl rfl ?_
 refine WL_assign rfl rfl ?_
 refine WL_nil (W_seq (W_seq_reg ?_))
 refine WL_move rfl rfl ?_
 refine WL_move rfl rfl ?_
 refine WL_load_box_agg [u3, u4] hC1 0 rfl rfl rfl Tryz.isAgg37 Tryz.sizeOf37 rfl rfl ?_
 obtain ⟨x1, hr1, hF⟩ := bind_some hF
 refine WL_call Tryz.call58 rfl rfl (c_M_areAsked a1 u1 (g1.now hC1.keep) a2 u2 (g2.now hC1.keep) (a3.1, a3.2) u3 (g3.now hC1.keep) u4 (g4.now hC1.keep) x1 hr1) ?_
 intro _ w2 hv1
 obtain ⟨rfl, hB2⟩ := res_bool hv1
 have hC2 := hC1.grow hB2
 refine WL_not rfl rfl ?_
 refine WL_nil ?_
 refine W_cond rfl (fun hc1 => ?_) (fun hc1 => ?_)
 ·replace hF := ite_t hF hc1
  refine W_seq_reg ?_
  refine WL_assign rfl rfl ?_
  refine WL_assign rfl rfl ?_
  refine WL_nil (W_ret (nrm_ret ?_))
  have hq1 := Option.some.inj hF
  subst hq1
  refine fn_ret2 rfl rfl rfl ?_
  have hC3 := hC2.triv (bool_val (false))
  have hC4 := hC3.triv (nil_val (α := (Int × Int)))
  exact ⟨_, rfl, res2_of hC4⟩
 replace hF := ite_f hF hc1
 refine W_skip (nrm_normal (W_seq_reg ?_))
 refine WL_move rfl rfl ?_
 refine WL_load_box_agg [u3, u4] hC2 0 rfl rfl rfl Tryz.isAgg37 Tryz.sizeOf37 rfl rfl ?_
 refine WL_move rfl rfl ?_
 obtain ⟨x2, hr2, hF⟩ := bind_some hF
 refine WL_call Tryz.call59 rfl rfl (c_M_privateOrder a2 u2 (g2.now hC2.keep) (a3.1, a3.2) u3 (g3.now hC2.keep) u4 (g4.now hC2.keep) a4 u5 (g5.now hC2.keep) x2 hr2) ?_
 rintro _ w3 ⟨hB3, v1, v2, F1, F2, rfl, hv2, hv3, hn1, hb1⟩
 obtain ⟨rfl, rfl⟩ := val_bool hv3
 have hC5 := hC2.pushL hB3 (Bs := [Item.own v1 x2.1]) (Fs := [F1]) ⟨F1, _, rfl, hv2, rfl⟩ (by simpa using hn1) (fun b h => hb1 b (by simpa using h))
 refine WL_move rfl rfl ?_
 refine WL_extract rfl rfl rfl ?_
 refine WL_extract rfl rfl rfl ?_
 refine WL_assign rfl rfl ?_
 refine WL_assign rfl rfl ?_
 refine WL_nil (W_seq (W_seq_reg ?_))
 refine WL_move rfl rfl ?_
 refine WL_not rfl rfl ?_
 refine WL_nil ?_
 refine W_cond rfl (fun hc2 => ?_) (fun hc2 => ?_)
 ·replace hF := ite_t hF hc2
  refine W_seq_reg ?_
  refine WL_assign rfl rfl ?_
  refine WL_assign rfl rfl ?_
  refine WL_nil (W_ret (nrm_ret ?_))
  have hq2 := Option.some.inj hF
  subst hq2
  refine fn_ret2 rfl rfl rfl ?_
  have hC6 := hC5.triv (bool_val (false))
  have hC7 := hC6.triv (nil_val (α := (Int × Int)))
  exact ⟨_, rfl, res2_of hC7⟩
 replace hF := ite_f hF hc2
 refine W_skip (nrm_normal (W_seq_reg ?_))
 refine WL_move rfl rfl ?_
 refine WL_assign rfl rfl ?_
 refine WL_assign rfl rfl ?_
 refine WL_nil (W_ret ?_)
 have hq3 := Option.some.inj hF
 subst hq3
 refine fn_ret2 rfl rfl rfl ?_
 have hC8 := hC5.triv (bool_val (true))
 have hC9 := hC8.f1
 exact ⟨_, rfl, res2_of hC9⟩

theorem c_Q_markIntS {w0 : World} {Fs : List (List Nat)} (a1 : (List Int)) (u1 : Value) (a2 : Int) (hH : Hold [Item.own u1 (a1 : (List Int))] w0 Fs) (hn : Fs.flatten.Nodup) (rr : (Int × (List Int))) (hF : Q.markIntS a1 a2 = some rr) :
 Calls Tryz.prog 22 [u1, (.int .i64 a2)].toArray w0 fun e w' => ∃ v, e = .returned v ∧ v = (.int .i64 rr.1) ∧ Ctx Fs.flatten w0 w' [Item.own u1 (rr.2 : (List Int))] := by
 refine calls_of_W Tryz.func22 rfl rfl ?_
 have hC0 := Ctx.startIn hH hn
 unfold Q.markIntS at hF
 refine W_seq_reg ?_
 refine WL_assign rfl rfl ?_
 refine WL_nil (W_seq (W_seq_reg ?_))
 refine WL_assign rfl rfl ?_
 refine WL_nil ?_
 obtain ⟨r1, hr1, hF⟩ := bind_some hF
 refine W_norm (fun l w => ∃ x4 : (List Int), ∃ x5 : Int, (x4, x5) = r1 ∧ l = [(1, (.int .i64 x5))] ∧ Ctx Fs.flatten w0 w [Item.own u1 (x4 : (List Int))]) ?_ ?_
 ·refine W_block ?_
  refine W.sub (l' := [(0, u1), (1, (.int .i64 a2)), (5, (.int .i64 0))]) ?_ ⟨rfl, rfl, rfl, trivial⟩
  refine W_loop (fun k l w => ∃ x1 : (List Int), ∃ x2 : Int, ∃ x3 : Int, l = [(0, u1), (1, (.int .i64 x2)), (5, (.int .i64 x3))] ∧ Ctx Fs.flatten w0 w [Item.own u1 (x1 : (List Int))] ∧ Q.markIntS_l1 k x1 x2 x3 = some r1) FUEL ⟨a1, a2, 0, rfl, hC0, hr1⟩ ?_
  clear hr1
  rintro k1 _ w1 ⟨x1, x2, x3, rfl, hC1, hL1⟩
  cases k1 with
  | zero => rw [Q.markIntS_l1] at hL1; cases hL1
  | succ k1 =>
   rw [Q.markIntS_l1] at hL1
   refine W_seq (W_seq_reg ?_)
   refine WL_move rfl rfl ?_
   refine WL_move rfl rfl ?_
   refine WL_len Tryz.underlying22 (hC1.ro 0 rfl) rfl rfl ?_
   refine WL_lss rfl rfl rfl ?_
   refine WL_nil ?_
   refine W_cond rfl (fun hc1 => ?_) (fun hc1 => ?_)
   ·replace hL1 := ite_t hL1 hc1
    refine W_skip (nrm_normal (W_seq (W_block (W_seq_reg ?_))))
    refine WL_move rfl rfl ?_
    refine WL_move rfl rfl ?_
    refine WL_move rfl rfl ?_
    obtain ⟨x6, hx1, hL1⟩ := bind_some hL1
    refine WL_index_own hC1 0 rfl Tryz.underlying22 ty3 hx1 rfl rfl rfl (fun b1 hE1 => ?_)
    have hC3 := hC1.triv (int_val (x2))
    refine WL_store_elem hC3 0 rfl ty3 hE1 hx1 rfl rfl rfl (fun w2 hC2 => ?_)
    try dsimp only [List.set] at hC2
    refine WL_nil (W_reg ?_)
    refine WL_move rfl rfl ?_
    refine WL_add rfl rfl rfl ?_
    refine WL_assign rfl rfl ?_
    refine WL_nil (blk_normal (nrm_normal (W_reg ?_)))
    refine WL_move rfl rfl ?_
    refine WL_add rfl rfl rfl ?_
    refine WL_assign rfl rfl ?_
    refine WL_nil ?_
    refine nrm_sub (l' := [(0, u1), (1, (.int .i64 (w64 (x2 + 1)))), (5, (.int .i64 (w64 (x3 + 1))))]) ⟨rfl, rfl, rfl, trivial⟩ ?_
    exact ⟨k1, Nat.lt_succ_self _, (List.set x1 (Int.toNat x3) x2), w64 (x2 + 1), w64 (x3 + 1), rfl, hC2, hL1⟩
   replace hL1 := ite_f hL1 hc1
   refine W_exit (nrm_exit (nrm_exit (blk_exit ?_)))
   have hq1 := Option.some.inj hL1
   subst hq1
   refine nrm_sub (l' := [(1, (.int .i64 x2))]) ⟨rfl, trivial⟩ ?_
   exact ⟨x1, x2, rfl, rfl, hC1⟩
 rintro l2 _ w3 hs2 ⟨x4, x5, rfl, rfl, hC4⟩
 try dsimp only at hF
 refine nrm_sub' hs2 ?_
 clear hs2
 refine W_seq_reg ?_
 refine WL_move rfl rfl ?_
 refine WL_assign rfl rfl ?_
 refine WL_nil (W_ret ?_)
 have hq2 := Option.some.inj hF
 subst hq2
 refine fn_ret1 rfl rfl ?_
 exact ⟨_, rfl, rfl, hC4⟩

theorem c_Q_markMethodS {w0 : World} {Fs : List (List Nat)} (a1 : (List (Int × (List Int) × Int × Int × Int))) (u1 : Value) (a2 : Int) (hH : Hold [Item.own u1 (a1 : (List (Int × (List Int) × Int × Int × Int)))] w0 Fs) (hn : Fs.flatten.Nodup) (rr : (Int × (List (Int × (List Int) × Int × Int × Int)))) (hF : Q.markMethodS a1 a2 = some rr) :
 Calls Tryz.prog 23 [u1, (.int .i64 a2)].toArray w0 fun e w' => ∃ v, e = .returned v ∧ v = (.int .i64 rr.1) ∧ Ctx Fs.flatten w0 w' [Item.own u1 (rr.2 : (List (Int × (List Int) × Int × Int × Int)))] := by
 refine calls_of_W Tryz.func23 rfl rfl ?_
 have hC0 := Ctx.startIn hH hn
 unfold Q.markMethodS at hF
 refine W_seq_reg ?_
 refine WL_assign rfl rfl ?_
 refine WL_nil (W_seq (W_seq_reg ?_))
 refine WL_assign rfl rfl ?_
 refine WL_nil ?_
 obtain ⟨r1, hr1, hF⟩ := bind_some hF
 refine W_norm (fun l w => ∃ x4 : (List (Int × (List Int) × Int × Int × Int)), ∃ x5 : Int, (x4, x5) = r1 ∧ l = [(1, (.int .i64 x5))] ∧ Ctx Fs.flatten w0 w [Item.own u1 (x4 : (List (Int × (List Int) × Int × Int × Int)))]) ?_ ?_
 ·refine W_block ?_
  refine W.sub (l' := [(0, u1), (1, (.int .i64 a2)), (5, (.int .i64 0))]) ?_ ⟨rfl, rfl, rfl, trivial⟩
  refine W_loop (fun k l w => ∃ x1 : (List (Int × (List Int) × Int × Int × Int)), ∃ x2 : Int, ∃ x3 : Int, l = [(0, u1), (1, (.int .i64 x2)), (5, (.int .i64 x3))] ∧ Ctx Fs.flatten w0 w [Item.own u1 (x1 : (List (Int × (List Int) × Int × Int × Int)))] ∧ Q.markMethodS_l1 k x1 x2 x3 = some r1) FUEL ⟨a1, a2, 0, rfl, hC0, hr1⟩ ?_
  clear hr1
  rintro k1 _ w1 ⟨x1, x2, x3, rfl, hC1, hL1⟩
  cases k1 with
  | zero => rw [Q.markMethodS_l1] at hL1; cases hL1
  | succ k1 =>
   rw [Q.markMethodS_l1] at hL1
   refine W_seq (W_seq_reg ?_)
   refine WL_move rfl rfl ?_
   refine WL_move rfl rfl ?_
   refine WL_len Tryz.underlying33 (hC1.ro 0 rfl) rfl rfl ?_
   refine WL_lss rfl rfl rfl ?_
   refine WL_nil ?_
   refine W_cond rfl (fun hc1 => ?_) (fun hc1 => ?_)
   ·replace hL1 := ite_t hL1 hc1
    refine W_skip (nrm_normal (W_seq (W_block (W_seq_reg ?_))))
    refine WL_move rfl rfl ?_
    refine WL_move rfl rfl ?_
    refine WL_move rfl rfl ?_
    obtain ⟨x6, hx1, hL1⟩ := bind_some hL1
    refine WL_index_own hC1 0 rfl Tryz.underlying33 ty71 hx1 rfl rfl rfl (fun b1 hE1 => ?_)
    refine WL_field Tryz.underlying71 rfl rfl (fun w => ⟨_, Tryz.sizeOf3 w⟩) rfl rfl ?_
    obtain ⟨cs1, hC3⟩ := hC1.openElem hx1
    obtain ⟨v1, he1, hC4⟩ := st71_own (hC3.cellsOwn rfl)
    obtain rfl := cells_of_agg he1
    refine WL_store_hole (fo := 0) (cs' := [(.int .i64 x2), v1, (.int .i64 x6.2.2.1), (.int .i64 x6.2.2.2.1), (.int .i64 x6.2.2.2.2)]) hC4 1 rfl hE1 rfl rfl rfl rfl Tryz.sizeOf3 rfl rfl (fun w2 hC2 => ?_)
    try dsimp only [List.set] at hC2
    have hC5 := hC2.f1
    have hC7 := hC5.f1
    have hC6 := own_st71 x2 v1 x6.2.1 x6.2.2.1 x6.2.2.2.1 x6.2.2.2.2 hC7
    have hC8 := hC6.ownCells.closeElem
    refine WL_nil (W_seq_reg ?_)
    refine WL_move rfl rfl ?_
    refine WL_add rfl rfl rfl ?_
    refine WL_assign rfl rfl ?_
    refine WL_nil (W_seq_reg ?_)
    refine WL_move rfl rfl ?_
    refine WL_move rfl rfl ?_
    obtain ⟨x7, hx2, hL1⟩ := bind_some hL1
    refine WL_index_own hC8 0 rfl Tryz.underlying33 ty71 hx2 rfl rfl rfl (fun b2 hE2 => ?_)
    refine WL_field Tryz.underlying71 rfl rfl (fun w => ⟨_, Tryz.sizeOf22 w⟩) rfl rfl ?_
    obtain ⟨cs2, hC9⟩ := hC8.openElem hx2
    obtain ⟨v2, he2, hC10⟩ := st71_own (hC9.cellsOwn rfl)
    obtain rfl := cells_of_agg he2
    refine WL_load_hole (fo := 1) hC10 1 rfl hE2 rfl rfl Tryz.isAgg22 rfl rfl ?_
    refine WL_move rfl rfl ?_
    obtain ⟨x8, hr2, hL1⟩ := bind_some hL1
    obtain ⟨Fs1, hH1, hn1, hF1, hO1, hb1⟩ := Ctx.lend2 (As := [Item.hole u1 ((List.set x1 (Int.toNat x3) (x2, x6.2.1, x6.2.2.1, x6.2.2.2.1, x6.2.2.2.2)) : (List (Int × (List Int) × Int × Int × Int))) (Int.toNat x3) [(.int .i64 x7.1), v2, (.int .i64 x7.2.2.1), (.int .i64 x7.2.2.2.1), (.int .i64 x7.2.2.2.2)]]) [Item.own v2 (x7.2.1 : (List Int))] hC10
    refine WL_call Tryz.call22 rfl rfl (c_Q_markIntS x7.2.1 v2 (w64 (x2 + 1)) hH1 hn1 x8 hr2) ?_
    rintro _ w3 ⟨rfl, hq1⟩
    have hC12 : Ctx Fs.flatten w0 w3 [Item.own v2 (x8.2 : (List Int)), Item.hole u1 ((List.set x1 (Int.toNat x3) (x2, x6.2.1, x6.2.2.1, x6.2.2.2.1, x6.2.2.2.2)) : (List (Int × (List Int) × Int × Int × Int))) (Int.toNat x3) [(.int .i64 x7.1), v2, (.int .i64 x7.2.2.1), (.int .i64 x7.2.2.2.1), (.int .i64 x7.2.2.2.2)]] := hb1 _ _ hq1
    have hC13 := hC12.f1
    have hC15 := hC13.f1
    have hC14 := own_st71 x7.1 v2 x8.2 x7.2.2.1 x7.2.2.2.1 x7.2.2.2.2 hC15
    have hC16 := hC14.ownCells.closeElem
    refine WL_assign rfl rfl ?_
    refine WL_nil (W_seq_reg ?_)
    refine WL_move rfl rfl ?_
    refine WL_move rfl rfl ?_
    refine WL_move rfl rfl ?_
    obtain ⟨x9, hx3, hL1⟩ := bind_some hL1
    refine WL_index_own hC16 0 rfl Tryz.underlying33 ty71 hx3 rfl rfl rfl (fun b3 hE3 => ?_)
    refine WL_field Tryz.underlying71 rfl rfl (fun w => ⟨_, Tryz.sizeOf3 w⟩) rfl rfl ?_
    obtain ⟨cs3, hC18⟩ := hC16.openElem hx3
    obtain ⟨v3, he3, hC19⟩ := st71_own (hC18.cellsOwn rfl)
    obtain rfl := cells_of_agg he3
    refine WL_store_hole (fo := 2) (cs' := [(.int .i64 x9.1), v3, (.int .i64 x8.1), (.int .i64 x9.2.2.2.1), (.int .i64 x9.2.2.2.2)]) hC19 1 rfl hE3 rfl rfl rfl rfl Tryz.sizeOf3 rfl rfl (fun w4 hC17 => ?_)
    try dsimp only [List.set] at hC17
    have hC20 := hC17.f1
    have hC22 := hC20.f1
    have hC21 := own_st71 x9.1 v3 x9.2.1 x8.1 x9.2.2.2.1 x9.2.2.2.2 hC22
    have hC23 := hC21.ownCells.closeElem
    refine WL_nil (W_seq_reg ?_)
    refine WL_move rfl rfl ?_
    refine WL_add rfl rfl rfl ?_
    refine WL_assign rfl rfl ?_
    refine WL_nil (W_seq_reg ?_)
    refine WL_move rfl rfl ?_
    refine WL_move rfl rfl ?_
    refine WL_move rfl rfl ?_
    obtain ⟨x10, hx4, hL1⟩ := bind_some hL1
    refine WL_index_own hC23 0 rfl Tryz.underlying33 ty71 hx4 rfl rfl rfl (fun b4 hE4 => ?_)
    refine WL_field Tryz.underlying71 rfl rfl (fun w => ⟨_, Tryz.sizeOf3 w⟩) rfl rfl ?_
    obtain ⟨cs4, hC25⟩ := hC23.openElem hx4
    obtain ⟨v4, he4, hC26⟩ := st71_own (hC25.cellsOwn rfl)
    obtain rfl := cells_of_agg he4
    refine WL_store_hole (fo := 3) (cs' := [(.int .i64 x10.1), v4, (.int .i64 x10.2.2.1), (.int .i64 (w64 (x8.1 + 1))), (.int .i64 x10.2.2.2.2)]) hC26 1 rfl hE4 rfl rfl rfl rfl Tryz.sizeOf3 rfl rfl (fun w5 hC24 => ?_)
    try dsimp only [List.set] at hC24
    have hC27 := hC24.f1
    have hC29 := hC27.f1
    have hC28 := own_st71 x10.1 v4 x10.2.1 x10.2.2.1 (w64 (x8.1 + 1)) x10.2.2.2.2 hC29
    have hC30 := hC28.ownCells.closeElem
    refine WL_nil (W_seq_reg ?_)
    refine WL_move rfl rfl ?_
    refine WL_add rfl rfl rfl ?_
    refine WL_assign rfl rfl ?_
    refine WL_nil (W_seq_reg ?_)
    refine WL_move rfl rfl ?_
    refine WL_move rfl rfl ?_
    refine WL_move rfl rfl ?_
    obtain ⟨x11, hx5, hL1⟩ := bind_some hL1
    refine WL_index_own hC30 0 rfl Tryz.underlying33 ty71 hx5 rfl rfl rfl (fun b5 hE5 => ?_)
    refine WL_field Tryz.underlying71 rfl rfl (fun w => ⟨_, Tryz.sizeOf3 w⟩) rfl rfl ?_
    obtain ⟨cs5, hC32⟩ := hC30.openElem hx5
    obtain ⟨v5, he5, hC33⟩ := st71_own (hC32.cellsOwn rfl)
    obtain rfl := cells_of_agg he5
    refine WL_store_hole (fo := 4) (cs' := [(.int .i64 x11.1), v5, (.int .i64 x11.2.2.1), (.int .i64 x11.2.2.2.1), (.int .i64 (w64 ((w64 (x8.1 + 1)) + 1)))]) hC33 1 rfl hE5 rfl rfl rfl rfl Tryz.sizeOf3 rfl rfl (fun w6 hC31 => ?_)
    try dsimp only [List.set] at hC31
    have hC34 := hC31.f1
    have hC36 := hC34.f1
    have hC35 := own_st71 x11.1 v5 x11.2.1 x11.2.2.1 x11.2.2.2.1 (w64 ((w64 (x8.1 + 1)) + 1)) hC36
    have hC37 := hC35.ownCells.closeElem
    refine WL_nil (W_reg ?_)
    refine WL_move rfl rfl ?_
    refine WL_add rfl rfl rfl ?_
    refine WL_assign rfl rfl ?_
    refine WL_nil (blk_normal (nrm_normal (W_reg ?_)))
    refine WL_move rfl rfl ?_
    refine WL_add rfl rfl rfl ?_
    refine WL_assign rfl rfl ?_
    refine WL_nil ?_
    refine nrm_sub (l' := [(0, u1), (1, (.int .i64 (w64 ((w64 ((w64 (x8.1 + 1)) + 1)) + 1)))), (5, (.int .i64 (w64 (x3 + 1))))]) ⟨rfl, rfl, rfl, trivial⟩ ?_
    exact ⟨k1, Nat.lt_succ_self _, (List.set (List.set (List.set (List.set (List.set x1 (Int.toNat x3) (x2, x6.2.1, x6.2.2.1, x6.2.2.2.1, x6.2.2.2.2)) (Int.toNat x3) (x7.1, x8.2, x7.2.2.1, x7.2.2.2.1, x7.2.2.2.2)) (Int.toNat x3) (x9.1, x9.2.1, x8.1, x9.2.2.2.1, x9.2.2.2.2)) (Int.toNat x3) (x10.1, x10.2.1, x10.2.2.1, w64 (x8.1 + 1), x10.2.2.2.2)) (Int.toNat x3) (x11.1, x11.2.1, x11.2.2.1, x11.2.2.2.1, w64 ((w64 (x8.1 + 1)) + 1))), w64 ((w64 ((w64 (x8.1 + 1)) + 1)) + 1), w64 (x3 + 1), rfl, hC37, hL1⟩
   replace hL1 := ite_f hL1 hc1
   refine W_exit (nrm_exit (nrm_exit (blk_exit ?_)))
   have hq2 := Option.some.inj hL1
   subst hq2
   refine nrm_sub (l' := [(1, (.int .i64 x2))]) ⟨rfl, trivial⟩ ?_
   exact ⟨x1, x2, rfl, rfl, hC1⟩
 rintro l2 _ w7 hs2 ⟨x4, x5, rfl, rfl, hC38⟩
 try dsimp only at hF
 refine nrm_sub' hs2 ?_
 clear hs2
 refine W_seq_reg ?_
 refine WL_move rfl rfl ?_
 refine WL_assign rfl rfl ?_
 refine WL_nil (W_ret ?_)
 have hq3 := Option.some.inj hF
 subst hq3
 refine fn_ret1 rfl rfl ?_
 exact ⟨_, rfl, rfl, hC38⟩

theorem c_Q_markAtomS {w0 : World} {Fs : List (List Nat)} (a1 : (List (Int × (List Int)))) (u1 : Value) (a2 : Int) (hH : Hold [Item.own u1 (a1 : (List (Int × (List Int))))] w0 Fs) (hn : Fs.flatten.Nodup) (rr : (Int × (List (Int × (List Int))))) (hF : Q.markAtomS a1 a2 = some rr) :
 Calls Tryz.prog 60 [u1, (.int .i64 a2)].toArray w0 fun e w' => ∃ v, e = .returned v ∧ v = (.int .i64 rr.1) ∧ Ctx Fs.flatten w0 w' [Item.own u1 (rr.2 : (List (Int × (List Int))))] := by
 refine calls_of_W Tryz.func60 rfl rfl ?_
 have hC0 := Ctx.startIn hH hn
 unfold Q.markAtomS at hF
 refine W_seq_reg ?_
 refine WL_assign rfl rfl ?_
 refine WL_nil (W_seq (W_seq_reg ?_))
 refine WL_assign rfl rfl ?_
 refine WL_nil ?_
 obtain ⟨r1, hr1, hF⟩ := bind_some hF
 refine W_norm (fun l w => ∃ x4 : (List (Int × (List Int))), ∃ x5 : Int, (x4, x5) = r1 ∧ l = [(1, (.int .i64 x5))] ∧ Ctx Fs.flatten w0 w [Item.own u1 (x4 : (List (Int × (List Int))))]) ?_ ?_
 ·refine W_block ?_
  refine W.sub (l' := [(0, u1), (1, (.int .i64 a2)), (5, (.int .i64 0))]) ?_ ⟨rfl, rfl, rfl, trivial⟩
  refine W_loop (fun k l w => ∃ x1 : (List (Int × (List Int))), ∃ x2 : Int, ∃ x3 : Int, l = [(0, u1), (1, (.int .i64 x2)), (5, (.int .i64 x3))] ∧ Ctx Fs.flatten w0 w [Item.own u1 (x1 : (List (Int × (List Int))))] ∧ Q.markAtomS_l1 k x1 x2 x3 = some r1) FUEL ⟨a1, a2, 0, rfl, hC0, hr1⟩ ?_
  clear hr1
  rintro k1 _ w1 ⟨x1, x2, x3, rfl, hC1, hL1⟩
  cases k1 with
  | zero => rw [Q.markAtomS_l1] at hL1; cases hL1
  | succ k1 =>
   rw [Q.markAtomS_l1] at hL1
   refine W_seq (W_seq_reg ?_)
   refine WL_move rfl rfl ?_
   refine WL_move rfl rfl ?_
   refine WL_len Tryz.underlying35 (hC1.ro 0 rfl) rfl rfl ?_
   refine WL_lss rfl rfl rfl ?_
   refine WL_nil ?_
   refine W_cond rfl (fun hc1 => ?_) (fun hc1 => ?_)
   ·replace hL1 := ite_t hL1 hc1
    refine W_skip (nrm_normal (W_seq (W_block (W_seq_reg ?_))))
    refine WL_move rfl rfl ?_
    refine WL_move rfl rfl ?_
    refine WL_move rfl rfl ?_
    obtain ⟨x6, hx1, hL1⟩ := bind_some hL1
    refine WL_index_own hC1 0 rfl Tryz.underlying35 ty84 hx1 rfl rfl rfl (fun b1 hE1 => ?_)
    refine WL_field Tryz.underlying84 rfl rfl (fun w => ⟨_, Tryz.sizeOf3 w⟩) rfl rfl ?_
    obtain ⟨cs1, hC3⟩ := hC1.openElem hx1
    obtain ⟨v1, he1, hC4⟩ := st84_own (hC3.cellsOwn rfl)
    obtain rfl := cells_of_agg he1
    refine WL_store_hole (fo := 0) (cs' := [(.int .i64 x2), v1]) hC4 1 rfl hE1 rfl rfl rfl rfl Tryz.sizeOf3 rfl rfl (fun w2 hC2 => ?_)
    try dsimp only [List.set] at hC2
    have hC5 := hC2.f1
    have hC7 := hC5.f1
    have hC6 := own_st84 x2 v1 x6.2 hC7
    have hC8 := hC6.ownCells.closeElem
    refine WL_nil (W_seq_reg ?_)
    refine WL_move rfl rfl ?_
    refine WL_add rfl rfl rfl ?_
    refine WL_assign rfl rfl ?_
    refine WL_nil (W_reg ?_)
    refine WL_move rfl rfl ?_
    refine WL_move rfl rfl ?_
    obtain ⟨x7, hx2, hL1⟩ := bind_some hL1
    refine WL_index_own hC8 0 rfl Tryz.underlying35 ty84 hx2 rfl rfl rfl (fun b2 hE2 => ?_)
    refine WL_field Tryz.underlying84 rfl rfl (fun w => ⟨_, Tryz.sizeOf22 w⟩) rfl rfl ?_
    obtain ⟨cs2, hC9⟩ := hC8.openElem hx2
    obtain ⟨v2, he2, hC10⟩ := st84_own (hC9.cellsOwn rfl)
    obtain rfl := cells_of_agg he2
    refine WL_load_hole (fo := 1) hC10 1 rfl hE2 rfl rfl Tryz.isAgg22 rfl rfl ?_
    refine WL_move rfl rfl ?_
    obtain ⟨x8, hr2, hL1⟩ := bind_some hL1
    obtain ⟨Fs1, hH1, hn1, hF1, hO1, hb1⟩ := Ctx.lend2 (As := [Item.hole u1 ((List.set x1 (Int.toNat x3) (x2, x6.2)) : (List (Int × (List Int)))) (Int.toNat x3) [(.int .i64 x7.1), v2]]) [Item.own v2 (x7.2 : (List Int))] hC10
    refine WL_call Tryz.call22 rfl rfl (c_Q_markIntS x7.2 v2 (w64 (x2 + 1)) hH1 hn1 x8 hr2) ?_
    rintro _ w3 ⟨rfl, hq1⟩
    have hC12 : Ctx Fs.flatten w0 w3 [Item.own v2 (x8.2 : (List Int)), Item.hole u1 ((List.set x1 (Int.toNat x3) (x2, x6.2)) : (List (Int × (List Int)))) (Int.toNat x3) [(.int .i64 x7.1), v2]] := hb1 _ _ hq1
    have hC13 := hC12.f1
    have hC15 := hC13.f1
    have hC14 := own_st84 x7.1 v2 x8.2 hC15
    have hC16 := hC14.ownCells.closeElem
    refine WL_assign rfl rfl ?_
    refine WL_nil (blk_normal (nrm_normal (W_reg ?_)))
    refine WL_move rfl rfl ?_
    refine WL_add rfl rfl rfl ?_
    refine WL_assign rfl rfl ?_
    refine WL_nil ?_
    refine nrm_sub (l' := [(0, u1), (1, (.int .i64 x8.1)), (5, (.int .i64 (w64 (x3 + 1))))]) ⟨rfl, rfl, rfl, trivial⟩ ?_
    exact ⟨k1, Nat.lt_succ_self _, (List.set (List.set x1 (Int.toNat x3) (x2, x6.2)) (Int.toNat x3) (x7.1, x8.2)), x8.1, w64 (x3 + 1), rfl, hC16, hL1⟩
   replace hL1 := ite_f hL1 hc1
   refine W_exit (nrm_exit (nrm_exit (blk_exit ?_)))
   have hq2 := Option.some.inj hL1
   subst hq2
   refine nrm_sub (l' := [(1, (.int .i64 x2))]) ⟨rfl, trivial⟩ ?_
   exact ⟨x1, x2, rfl, rfl, hC1⟩
 rintro l2 _ w4 hs2 ⟨x4, x5, rfl, rfl, hC17⟩
 try dsimp only at hF
 refine nrm_sub' hs2 ?_
 clear hs2
 refine W_seq_reg ?_
 refine WL_move rfl rfl ?_
 refine WL_assign rfl rfl ?_
 refine WL_nil (W_ret ?_)
 have hq3 := Option.some.inj hF
 subst hq3
 refine fn_ret1 rfl rfl ?_
 exact ⟨_, rfl, rfl, hC17⟩

theorem c_Q_markQuery {w0 : World} {Fs : List (List Nat)} (a1 : ((List Int) × (List (Int × (List Int))))) (u1 : Value) (u2 : Value) (a2 : Int) (hH : Hold [Item.own u1 (a1.1 : (List Int)), Item.own u2 (a1.2 : (List (Int × (List Int))))] w0 Fs) (hn : Fs.flatten.Nodup) (rr : (Int × ((List Int) × (List (Int × (List Int)))))) (hF : Q.markQuery a1 a2 = some rr) :
 Calls Tryz.prog 24 [(.agg #[u1, u2]), (.int .i64 a2)].toArray w0 fun e w' => ∃ v, e = .returned v ∧ v = (.int .i64 rr.1) ∧ Ctx Fs.flatten w0 w' [Item.own u1 (rr.2.1 : (List Int)), Item.own u2 (rr.2.2 : (List (Int × (List Int))))] := by
 refine calls_of_W Tryz.func24 rfl rfl ?_
 have hC0 := Ctx.startIn hH hn
 unfold Q.markQuery at hF
 refine W_seq_reg ?_
 refine WL_boxK (cs := [u1, u2]) hC0 rfl rfl rfl (fun b1 w1 hC1 hB1 hN1 => ?_)
 refine WL_assign rfl rfl ?_
 refine WL_nil (W_seq_reg ?_)
 refine WL_field Tryz.underlying37 rfl rfl (fun w => ⟨_, Tryz.sizeOf22 w⟩) rfl rfl ?_
 refine WL_load_box hC1 0 rfl rfl Tryz.isAgg22 rfl rfl ?_
 refine WL_move rfl rfl ?_
 obtain ⟨x1, hr1, hF⟩ := bind_some hF
 have hC2 := hC1.f1
 obtain ⟨Fs1, hH1, hn1, hF1, hO1, hb1⟩ := Ctx.lend2 (As := [Item.box b1 [u1, u2], Item.own u2 (a1.2 : (List (Int × (List Int))))]) [Item.own u1 (a1.1 : (List Int))] hC2
 refine WL_call Tryz.call22 rfl rfl (c_Q_markIntS a1.1 u1 a2 hH1 hn1 x1 hr1) ?_
 rintro _ w2 ⟨rfl, hq1⟩
 have hC3 : Ctx Fs.flatten w0 w2 [Item.own u1 (x1.2 : (List Int)), Item.box b1 [u1, u2], Item.own u2 (a1.2 : (List (Int × (List Int))))] := hb1 _ _ hq1
 refine WL_assign rfl rfl ?_
 refine WL_nil (W_seq_reg ?_)
 refine WL_field Tryz.underlying37 rfl rfl (fun w => ⟨_, Tryz.sizeOf35 w⟩) rfl rfl ?_
 refine WL_load_box hC3 1 rfl rfl Tryz.isAgg35 rfl rfl ?_
 refine WL_move rfl rfl ?_
 obtain ⟨x2, hr2, hF⟩ := bind_some hF
 have hC4 := hC3.f2
 obtain ⟨Fs2, hH2, hn2, hF2, hO2, hb2⟩ := Ctx.lend2 (As := [Item.own u1 (x1.2 : (List Int)), Item.box b1 [u1, u2]]) [Item.own u2 (a1.2 : (List (Int × (List Int))))] hC4
 refine WL_call Tryz.call60 rfl rfl (c_Q_markAtomS a1.2 u2 x1.1 hH2 hn2 x2 hr2) ?_
 rintro _ w3 ⟨rfl, hq2⟩
 have hC5 : Ctx Fs.flatten w0 w3 [Item.own u2 (x2.2 : (List (Int × (List Int)))), Item.own u1 (x1.2 : (List Int)), Item.box b1 [u1, u2]] := hb2 _ _ hq2
 refine WL_assign rfl rfl ?_
 refine WL_nil (W_seq_reg ?_)
 refine WL_move rfl rfl ?_
 refine WL_assign rfl rfl ?_
 refine WL_nil (W_ret ?_)
 have hq3 := Option.some.inj hF
 subst hq3
 refine fn_ret1 rfl rfl ?_
 have hC6 := hC5.f1
 have hC7 := hC6.h2
 exact ⟨_, rfl, rfl, hC7⟩

theorem c_Q_markStepS {w0 : World} {Fs : List (List Nat)} (a1 : (List (Int × Int))) (u1 : Value) (a2 : Int) (hH : Hold [Item.own u1 (a1 : (List (Int × Int)))] w0 Fs) (hn : Fs.flatten.Nodup) (rr : (Int × (List (Int × Int)))) (hF : Q.markStepS a1 a2 = some rr) :
 Calls Tryz.prog 25 [u1, (.int .i64 a2)].toArray w0 fun e w' => ∃ v, e = .returned v ∧ v = (.int .i64 rr.1) ∧ Ctx Fs.flatten w0 w' [Item.own u1 (rr.2 : (List (Int × Int)))] := by
 refine calls_of_W Tryz.func25 rfl rfl ?_
 have hC0 := Ctx.startIn hH hn
 unfold Q.markStepS at hF
 refine W_seq_reg ?_
 refine WL_assign rfl rfl ?_
 refine WL_nil (W_seq (W_seq_reg ?_))
 refine WL_assign rfl rfl ?_
 refine WL_nil ?_
 obtain ⟨r1, hr1, hF⟩ := bind_some hF
 refine W_norm (fun l w => ∃ x4 : (List (Int × Int)), ∃ x5 : Int, (x4, x5) = r1 ∧ l = [(1, (.int .i64 x5))] ∧ Ctx Fs.flatten w0 w [Item.own u1 (x4 : (List (Int × Int)))]) ?_ ?_
 ·refine W_block ?_
  refine W.sub (l' := [(0, u1), (1, (.int .i64 a2)), (5, (.int .i64 0))]) ?_ ⟨rfl, rfl, rfl, trivial⟩
  refine W_loop (fun k l w => ∃ x1 : (List (Int × Int)), ∃ x2 : Int, ∃ x3 : Int, l = [(0, u1), (1, (.int .i64 x2)), (5, (.int .i64 x3))] ∧ Ctx Fs.flatten w0 w [Item.own u1 (x1 : (List (Int × Int)))] ∧ Q.markStepS_l1 k x1 x2 x3 = some r1) FUEL ⟨a1, a2, 0, rfl, hC0, hr1⟩ ?_
  clear hr1
  rintro k1 _ w1 ⟨x1, x2, x3, rfl, hC1, hL1⟩
  cases k1 with
  | zero => rw [Q.markStepS_l1] at hL1; cases hL1
  | succ k1 =>
   rw [Q.markStepS_l1] at hL1
   refine W_seq (W_seq_reg ?_)
   refine WL_move rfl rfl ?_
   refine WL_move rfl rfl ?_
   refine WL_len Tryz.underlying39 (hC1.ro 0 rfl) rfl rfl ?_
   refine WL_lss rfl rfl rfl ?_
   refine WL_nil ?_
   refine W_cond rfl (fun hc1 => ?_) (fun hc1 => ?_)
   ·replace hL1 := ite_t hL1 hc1
    refine W_skip (nrm_normal (W_seq (W_block (W_seq_reg ?_))))
    refine WL_move rfl rfl ?_
    refine WL_move rfl rfl ?_
    refine WL_move rfl rfl ?_
    obtain ⟨x6, hx1, hL1⟩ := bind_some hL1
    refine WL_index_own hC1 0 rfl Tryz.underlying39 ty75 hx1 rfl rfl rfl (fun b1 hE1 => ?_)
    refine WL_field Tryz.underlying75 rfl rfl (fun w => ⟨_, Tryz.sizeOf3 w⟩) rfl rfl ?_
    obtain ⟨cs1, hC3⟩ := hC1.openElem hx1
    obtain ⟨he1, hC4⟩ := st75_own (hC3.cellsOwn rfl)
    obtain rfl := cells_of_agg he1
    refine WL_store_hole (fo := 0) (cs' := [(.int .i64 x2), (.int .i64 x6.2)]) hC4 0 rfl hE1 rfl rfl rfl rfl Tryz.sizeOf3 rfl rfl (fun w2 hC2 => ?_)
    try dsimp only [List.set] at hC2
    have hC5 := own_st75 x2 x6.2 hC2
    have hC6 := hC5.ownCells.closeElem
    refine WL_nil (W_seq_reg ?_)
    refine WL_move rfl rfl ?_
    refine WL_add rfl rfl rfl ?_
    refine WL_assign rfl rfl ?_
    refine WL_nil (W_seq_reg ?_)
    refine WL_move rfl rfl ?_
    refine WL_move rfl rfl ?_
    refine WL_move rfl rfl ?_
    obtain ⟨x7, hx2, hL1⟩ := bind_some hL1
    refine WL_index_own hC6 0 rfl Tryz.underlying39 ty75 hx2 rfl rfl rfl (fun b2 hE2 => ?_)
    refine WL_field Tryz.underlying75 rfl rfl (fun w => ⟨_, Tryz.sizeOf3 w⟩) rfl rfl ?_
    obtain ⟨cs2, hC8⟩ := hC6.openElem hx2
    obtain ⟨he2, hC9⟩ := st75_own (hC8.cellsOwn rfl)
    obtain rfl := cells_of_agg he2
    refine WL_store_hole (fo := 1) (cs' := [(.int .i64 x7.1), (.int .i64 (w64 (x2 + 1)))]) hC9 0 rfl hE2 rfl rfl rfl rfl Tryz.sizeOf3 rfl rfl (fun w3 hC7 => ?_)
    try dsimp only [List.set] at hC7
    have hC10 := own_st75 x7.1 (w64 (x2 + 1)) hC7
    have hC11 := hC10.ownCells.closeElem
    refine WL_nil (W_reg ?_)
    refine WL_move rfl rfl ?_
    refine WL_add rfl rfl rfl ?_
    refine WL_assign rfl rfl ?_
    refine WL_nil (blk_normal (nrm_normal (W_reg ?_)))
    refine WL_move rfl rfl ?_
    refine WL_add rfl rfl rfl ?_
    refine WL_assign rfl rfl ?_
    refine WL_nil ?_
    refine nrm_sub (l' := [(0, u1), (1, (.int .i64 (w64 ((w64 (x2 + 1)) + 1)))), (5, (.int .i64 (w64 (x3 + 1))))]) ⟨rfl, rfl, rfl, trivial⟩ ?_
    exact ⟨k1, Nat.lt_succ_self _, (List.set (List.set x1 (Int.toNat x3) (x2, x6.2)) (Int.toNat x3) (x7.1, w64 (x2 + 1))), w64 ((w64 (x2 + 1)) + 1), w64 (x3 + 1), rfl, hC11, hL1⟩
   replace hL1 := ite_f hL1 hc1
   refine W_exit (nrm_exit (nrm_exit (blk_exit ?_)))
   have hq1 := Option.some.inj hL1
   subst hq1
   refine nrm_sub (l' := [(1, (.int .i64 x2))]) ⟨rfl, trivial⟩ ?_
   exact ⟨x1, x2, rfl, rfl, hC1⟩
 rintro l2 _ w4 hs2 ⟨x4, x5, rfl, rfl, hC12⟩
 try dsimp only at hF
 refine nrm_sub' hs2 ?_
 clear hs2
 refine W_seq_reg ?_
 refine WL_move rfl rfl ?_
 refine WL_assign rfl rfl ?_
 refine WL_nil (W_ret ?_)
 have hq2 := Option.some.inj hF
 subst hq2
 refine fn_ret1 rfl rfl ?_
 exact ⟨_, rfl, rfl, hC12⟩

theorem c_Q_heldStepS {w0 : World} (a1 : (List (Int × Int))) (u1 : Value) (g1 : RO [] w0 u1 a1) (a2 : Int) (rr : Int) (hF : Q.heldStepS a1 a2 = some rr) :
 Calls Tryz.prog 26 [u1, (.int .i64 a2)].toArray w0 fun e w' => ∃ v, e = .returned v ∧ Res w0 rr v w' := by
 refine calls_of_W Tryz.func26 rfl rfl ?_
 have hC0 := Ctx.start w0
 unfold Q.heldStepS at hF
 refine W_seq_reg ?_
 refine WL_assign rfl rfl ?_
 refine WL_nil (W_seq (W_seq_reg ?_))
 refine WL_assign rfl rfl ?_
 refine WL_nil ?_
 obtain ⟨r1, hr1, hF⟩ := bind_some hF
 refine W_norm (fun l w => ∃ x3 : Int, .inl x3 = r1 ∧ l = [(1, (.int .i64 x3))] ∧ Below w0.heap.size w0 w ∧ Ctx [] w0 w []) ?_ ?_
 ·refine W_block ?_
  refine W.sub (l' := [(0, u1), (1, (.int .i64 a2)), (5, (.int .i64 0))]) ?_ ⟨rfl, rfl, rfl, trivial⟩
  refine W_loop (fun k l w => ∃ x1 : Int, ∃ x2 : Int, l = [(0, u1), (1, (.int .i64 x1)), (5, (.int .i64 x2))] ∧ Below w0.heap.size w0 w ∧ Ctx [] w0 w [] ∧ Q.heldStepS_l1 a1 k x1 x2 = some r1) FUEL ⟨a2, 0, rfl, (Below.refl _ _), hC0, hr1⟩ ?_
  clear hr1
  rintro k1 _ w1 ⟨x1, x2, rfl, hB1, hC1, hL1⟩
  cases k1 with
  | zero => rw [Q.heldStepS_l1] at hL1; cases hL1
  | succ k1 =>
   rw [Q.heldStepS_l1] at hL1
   refine W_seq (W_seq_reg ?_)
   refine WL_move rfl rfl ?_
   refine WL_move rfl rfl ?_
   refine WL_len Tryz.underlying39 g1 rfl rfl ?_
   refine WL_lss rfl rfl rfl ?_
   refine WL_nil ?_
   refine W_cond rfl (fun hc1 => ?_) (fun hc1 => ?_)
   ·replace hL1 := ite_t hL1 hc1
    refine W_skip (nrm_normal (W_seq (W_block (W_seq (W_seq_reg ?_)))))
    refine WL_move rfl rfl ?_
    refine WL_move rfl rfl ?_
    obtain ⟨x4, hx1, hL1⟩ := bind_some hL1
    refine WL_index Tryz.underlying39 ty75 g1 hx1 rfl rfl rfl (fun b1 o1 h1 => ?_)
    refine WL_field Tryz.underlying75 rfl rfl (fun w => ⟨_, Tryz.sizeOf3 w⟩) rfl rfl ?_
    refine WL_load ty3 h1.fst hC1.keep rfl rfl (fun v1 h2 => ?_)
    obtain rfl := ro_int h2
    refine WL_move rfl rfl ?_
    refine WL_neq rfl rfl rfl ?_
    refine WL_nil ?_
    refine W_cond rfl (fun hc2 => ?_) (fun hc2 => ?_)
    ·replace hL1 := ite_t hL1 hc2
     refine W_seq_reg ?_
     refine WL_assign rfl rfl ?_
     refine WL_nil (W_ret (nrm_ret (blk_ret (nrm_ret (nrm_ret (blk_ret (nrm_ret (nrm_ret ?_))))))))
     have hq1 := Option.some.inj hL1
     subst hq1
     dsimp only at hF
     have hq2 := Option.some.inj hF
     subst hq2
     refine fn_ret1 rfl rfl ?_
     exact ⟨_, rfl, int_res hC1 _⟩
    replace hL1 := ite_f hL1 hc2
    refine W_skip (nrm_normal (W_seq_reg ?_))
    refine WL_move rfl rfl ?_
    refine WL_add rfl rfl rfl ?_
    refine WL_assign rfl rfl ?_
    refine WL_nil (W_seq (W_seq_reg ?_))
    refine WL_move rfl rfl ?_
    refine WL_move rfl rfl ?_
    obtain ⟨x5, hx2, hL1⟩ := bind_some hL1
    refine WL_index Tryz.underlying39 ty75 g1 hx2 rfl rfl rfl (fun b2 o2 h3 => ?_)
    refine WL_field Tryz.underlying75 rfl rfl (fun w => ⟨_, Tryz.sizeOf3 w⟩) rfl rfl ?_
    refine WL_load ty3 h3.snd hC1.keep rfl rfl (fun v2 h4 => ?_)
    obtain rfl := ro_int h4
    refine WL_move rfl rfl ?_
    refine WL_neq rfl rfl rfl ?_
    refine WL_nil ?_
    refine W_cond rfl (fun hc3 => ?_) (fun hc3 => ?_)
    ·replace hL1 := ite_t hL1 hc3
     refine W_seq_reg ?_
     refine WL_assign rfl rfl ?_
     refine WL_nil (W_ret (nrm_ret (blk_ret (nrm_ret (nrm_ret (blk_ret (nrm_ret (nrm_ret ?_))))))))
     have hq3 := Option.some.inj hL1
     subst hq3
     dsimp only at hF
     have hq4 := Option.some.inj hF
     subst hq4
     refine fn_ret1 rfl rfl ?_
     exact ⟨_, rfl, int_res hC1 _⟩
    replace hL1 := ite_f hL1 hc3
    refine W_skip (nrm_normal (W_reg ?_))
    refine WL_move rfl rfl ?_
    refine WL_add rfl rfl rfl ?_
    refine WL_assign rfl rfl ?_
    refine WL_nil (blk_normal (nrm_normal (W_reg ?_)))
    refine WL_move rfl rfl ?_
    refine WL_add rfl rfl rfl ?_
    refine WL_assign rfl rfl ?_
    refine WL_nil ?_
    refine nrm_sub (l' := [(0, u1), (1, (.int .i64 (w64 ((w64 (x1 + 1)) + 1)))), (5, (.int .i64 (w64 (x2 + 1))))]) ⟨rfl, rfl, rfl, trivial⟩ ?_
    exact ⟨k1, Nat.lt_succ_self _, w64 ((w64 (x1 + 1)) + 1), w64 (x2 + 1), rfl, (Keep.of hB1).below, hC1, hL1⟩
   replace hL1 := ite_f hL1 hc1
   refine W_exit (nrm_exit (nrm_exit (blk_exit ?_)))
   have hq5 := Option.some.inj hL1
   subst hq5
   refine nrm_sub (l' := [(1, (.int .i64 x1))]) ⟨rfl, trivial⟩ ?_
   exact ⟨x1, rfl, rfl, (Keep.of hB1).below, hC1⟩
 rintro l2 _ w2 hs2 ⟨x3, rfl, rfl, hB2, hC2⟩
 try dsimp only at hF
 refine nrm_sub' hs2 ?_
 clear hs2
 refine W_seq_reg ?_
 refine WL_move rfl rfl ?_
 refine WL_assign rfl rfl ?_
 refine WL_nil (W_ret ?_)
 have hq6 := Option.some.inj hF
 subst hq6
 refine fn_ret1 rfl rfl ?_
 exact ⟨_, rfl, int_res hC2 _⟩

theorem c_Q_FnExactFindPrivateOrder {w0 : World} (a1 : (List Int)) (u1 : Value) (g1 : RO [] w0 u1 a1) (a2 : (List (Int × (List Int) × Int × Int × Int))) (u2 : Value) (g2 : RO [] w0 u2 a2) (a3 : ((List Int) × (List (Int × (List Int))))) (u3 : Value) (g3 : RO [] w0 u3 a3.1) (u4 : Value) (g4 : RO [] w0 u4 a3.2) (a4 : (List Int)) (u5 : Value) (g5 : RO [] w0 u5 a4) (rr : Bool) (hF : Q.FnExactFindPrivateOrder a1 a2 a3 a4 = some rr) :
 Calls Tryz.prog 4 [u1, u2, (.agg #[u3, u4]), u5].toArray w0 fun e w' => ∃ v, e = .returned v ∧ Res w0 rr v w' := by
 refine calls_of_W Tryz.func4 rfl rfl ?_
 have hC0 := Ctx.start w0
 unfold Q.FnExactFindPrivateOrder at hF
 refine W_seq_reg ?_
 refine WL_boxK (cs := [u3, u4]) hC0 rfl rfl rfl (fun b1 w1 hC1 hB1 hN1 => ?_)
 refine WL_assign rfl rfl ?_
 refine WL_nil (W_seq (W_seq_reg ?_))
 refine WL_move rfl rfl ?_
 refine WL_len Tryz.underlying22 g1 rfl rfl ?_
 refine WL_gtr rfl rfl rfl ?_
 refine WL_nil ?_
 refine W_cond rfl (fun hc1 => ?_) (fun hc1 => ?_)
 ·replace hF := ite_t hF hc1
  refine W_seq_reg ?_
  refine WL_assign rfl rfl ?_
  refine WL_nil (W_ret (nrm_ret ?_))
  have hq1 := Option.some.inj hF
  subst hq1
  refine fn_ret1 rfl rfl ?_
  exact ⟨_, rfl, bool_res hC1 _⟩
 replace hF := ite_f hF hc1
 refine W_skip (nrm_normal (W_seq (W_seq_reg ?_)))
 refine WL_move rfl rfl ?_
 refine WL_len Tryz.underlying22 g5 rfl rfl ?_
 refine WL_gtr rfl rfl rfl ?_
 refine WL_nil ?_
 refine W_cond rfl (fun hc2 => ?_) (fun hc2 => ?_)
 ·replace hF := ite_t hF hc2
  refine W_seq_reg ?_
  refine WL_assign rfl rfl ?_
  refine WL_nil (W_ret (nrm_ret ?_))
  have hq2 := Option.some.inj hF
  subst hq2
  refine fn_ret1 rfl rfl ?_
  exact ⟨_, rfl, bool_res hC1 _⟩
 replace hF := ite_f hF hc2
 refine W_skip (nrm_normal (W_seq_reg ?_))
 refine WL_assign rfl rfl ?_
 refine WL_nil (W_seq_reg ?_)
 refine WL_move rfl rfl ?_
 refine WL_move rfl rfl ?_
 obtain ⟨x1, hr1, hF⟩ := bind_some hF
 refine WL_call Tryz.call7 rfl rfl (c_Q_szMethodS a2 u2 (g2.now hC1.keep) 1048576 x1 hr1) ?_
 intro _ w2 hv1
 obtain ⟨rfl, hB2⟩ := res_int hv1
 have hC2 := hC1.grow hB2
 refine WL_assign rfl rfl ?_
 refine WL_nil (W_seq (W_seq_reg ?_))
 refine WL_move rfl rfl ?_
 refine WL_lss rfl rfl rfl ?_
 refine WL_nil ?_
 refine W_cond rfl (fun hc3 => ?_) (fun hc3 => ?_)
 ·replace hF := ite_t hF hc3
  refine W_seq_reg ?_
  refine WL_assign rfl rfl ?_
  refine WL_nil (W_ret (nrm_ret ?_))
  have hq3 := Option.some.inj hF
  subst hq3
  refine fn_ret1 rfl rfl ?_
  exact ⟨_, rfl, bool_res hC2 _⟩
 replace hF := ite_f hF hc3
 refine W_skip (nrm_normal (W_seq_reg ?_))
 refine WL_load_box_agg [u3, u4] hC2 0 rfl rfl rfl Tryz.isAgg26 Tryz.sizeOf26 rfl rfl ?_
 refine WL_move rfl rfl ?_
 obtain ⟨x2, hr2, hF⟩ := bind_some hF
 refine WL_call Tryz.call8 rfl rfl (c_Q_szQuery (a3.1, a3.2) u3 (g3.now hC2.keep) u4 (g4.now hC2.keep) x1 x2 hr2) ?_
 intro _ w3 hv2
 obtain ⟨rfl, hB3⟩ := res_int hv2
 have hC3 := hC2.grow hB3
 refine WL_assign rfl rfl ?_
 refine WL_nil (W_seq (W_seq_reg ?_))
 refine WL_move rfl rfl ?_
 refine WL_lss rfl rfl rfl ?_
 refine WL_nil ?_
 refine W_cond rfl (fun hc4 => ?_) (fun hc4 => ?_)
 ·replace hF := ite_t hF hc4
  refine W_seq_reg ?_
  refine WL_assign rfl rfl ?_
  refine WL_nil (W_ret (nrm_ret ?_))
  have hq4 := Option.some.inj hF
  subst hq4
  refine fn_ret1 rfl rfl ?_
  exact ⟨_, rfl, bool_res hC3 _⟩
 replace hF := ite_f hF hc4
 refine W_skip (nrm_normal (W_seq ?_))
 refine W_drawn 14 rfl hmix (fun w4 hB4 => ?_)
 have hC4 := hC3.grow hB4
 refine WA_tk 0 (by kernel_rfl) rfl rfl (fl_move rfl) ?_
 refine WL_move rfl rfl ?_
 refine WL_nil ?_
 refine WA_tk 2 (by kernel_rfl) rfl rfl (fl_move rfl) ?_
 refine WL_move rfl rfl ?_
 refine WL_nil ?_
 refine WA_tk 6 (by kernel_rfl) rfl rfl (fl_move rfl) ?_
 refine WL_move rfl rfl ?_
 refine WL_nil ?_
 obtain ⟨x3, hr3, hF⟩ := bind_some hF
 obtain ⟨x4, hr4, hF⟩ := bind_some hF
 refine WA.sub (l' := [(0, u1), (1, u2), (2, (.agg #[u3, u4])), (3, u5), (6, (ptr b1 0)), (8, (.bool false)), (9, (.int .i64 x2)), (23, u1), (24, (.int .i64 (List.length a1 : Int))), (25, (.bool (decide (1048576 < (List.length a1 : Int))))), (26, u5), (27, (.int .i64 (List.length a4 : Int))), (28, (.bool (decide (1048576 < (List.length a4 : Int))))), (29, u2), (30, (.int .i64 1048576)), (31, (.int .i64 x1)), (32, (.int .i64 x1)), (33, (.bool (decide (x1 < 0)))), (34, (.agg #[u3, u4])), (35, (.int .i64 x1)), (36, (.int .i64 x2)), (37, (.int .i64 x2)), (38, (.bool (decide (x2 < 0)))), (40, u1), (42, u2), (46, u5)]) ?_ ⟨rfl, rfl, rfl, rfl, rfl, rfl, rfl, rfl, rfl, rfl, rfl, rfl, rfl, rfl, rfl, rfl, rfl, rfl, rfl, rfl, rfl, rfl, rfl, rfl, rfl, rfl, trivial⟩
 refine WA_postsE [⟨1, [], fun vs => PW.own x3, []⟩, ⟨3, [], fun vs => PW.own x4, []⟩, ⟨4, [], fun vs => PW.val (.agg #[u3, u4]), []⟩] [[], [], []] 8 rfl (by kernel_rfl) (by kernel_rfl) rfl ?_ ?_
 ·refine StepsE_cons rfl ?_ ?_
  ·intro w7 hB7
   refine DepsE_nil ?_
   refine ⟨_, rfl, ?_⟩
   refine WL_call Tryz.call11 rfl rfl (c_Q_toIntS a1 u1 (g1.now (hC4.keep.then hB7)) x3 hr3) ?_
   rintro v1 w5 ⟨hB5, F1, hv3, hn1, hb1⟩
   refine WL_nil ?_
   exact FinE_own hB5 rfl rfl hv3 hn1 hb1 (Val.inh hv3)
  refine StepsE_cons rfl ?_ ?_
  ·intro w7 hB7
   refine DepsE_nil ?_
   refine ⟨_, rfl, ?_⟩
   refine WL_call Tryz.call12 rfl rfl (c_Q_toMethodS a2 u2 (g2.now (hC4.keep.then hB7)) x4 hr4) ?_
   rintro v2 w6 ⟨hB6, F2, hv4, hn2, hb2⟩
   refine WL_nil ?_
   exact FinE_own hB6 rfl rfl hv4 hn2 hb2 (Val.inh hv4)
  refine StepsE_cons rfl ?_ ?_
  ·intro w7 hB7
   refine DepsE_nil ?_
   refine ⟨_, rfl, ?_⟩
   refine WL_load_box_agg [u3, u4] (hC4.grow hB7) 0 rfl rfl rfl Tryz.isAgg26 Tryz.sizeOf26 rfl rfl ?_
   refine WL_nil ?_
   exact FinE_val (Below.refl _ _) rfl rfl ⟨rfl, rfl⟩
  exact StepsE_nil
 intro w9 hB8
 refine AllE_cons rfl rfl rfl ?_
 intro v1 F1 hv3
 refine AllE_cons rfl rfl rfl ?_
 intro v2 F2 hv4
 refine AllE_cons rfl rfl rfl ?_
 rintro _ _ ⟨rfl, rfl⟩
 refine AllE_nil ?_
 intro hn3 hb3
 have hC5 := hC4.pushL hB8 (Bs := [Item.own v2 (x4 : (List (Int × (List Int) × Int × Int × Int))), Item.own v1 (x3 : (List Int))]) (Fs := [F2, F1]) ⟨F2, _, rfl, hv4, F1, _, rfl, hv3, rfl⟩ (by simpa using hn3) (fun b h => (hb3 b (by simpa using h)).1)
 obtain ⟨x5, hr5, hF⟩ := bind_some hF
 refine WA_one 5 (by kernel_rfl) rfl ?_
 refine WL_call Tryz.call13 rfl rfl (c_Q_toQuery (a3.1, a3.2) u3 (g3.now hC5.keep) u4 (g4.now hC5.keep) x5 hr5) ?_
 rintro v3 w10 ⟨hB9, F3, hv5, hn4, hb4⟩
 have hC6 := hC5.push hB9 (A := Item.own v3 x5) hv5 hn4 hb4
 obtain ⟨v4, v5, rfl, hC7⟩ := st37_own hC6
 refine WL_nil ?_
 obtain ⟨x6, hr6, hF⟩ := bind_some hF
 refine WA_one 7 (by kernel_rfl) rfl ?_
 refine WL_call Tryz.call11 rfl rfl (c_Q_toIntS a4 u5 (g5.now hC7.keep) x6 hr6) ?_
 rintro v6 w11 ⟨hB10, F4, hv6, hn5, hb5⟩
 have hC8 := hC7.push hB10 (A := Item.own v6 x6) hv6 hn5 hb5
 refine WL_nil ?_
 obtain ⟨x7, hr7, hF⟩ := bind_some hF
 refine WA_one 8 (by kernel_rfl) rfl ?_
 refine WL_call Tryz.call20 rfl rfl (c_S_FindPrivateOrder x3 v1 ((hC8.ro 4 rfl).now (Keep.refl _ _)) x4 v2 ((hC8.ro 3 rfl).now (Keep.refl _ _)) x5 v4 ((hC8.ro 1 rfl).now (Keep.refl _ _)) v5 ((hC8.ro 2 rfl).now (Keep.refl _ _)) x6 v6 ((hC8.ro 0 rfl).now (Keep.refl _ _)) x7 hr7) ?_
 rintro _ w12 ⟨hB11, v7, v8, F5, F6, rfl, hv7, hv8, hn6, hb6⟩
 obtain ⟨rfl, rfl⟩ := val_bool hv8
 have hC9 := hC8.pushL hB11 (Bs := [Item.own v7 x7.1]) (Fs := [F5]) ⟨F5, _, rfl, hv7, rfl⟩ (by simpa using hn6) (fun b h => hb6 b (by simpa using h))
 refine WL_nil ?_
 refine WA_tk 9 (by kernel_rfl) rfl rfl (fl_move rfl) ?_
 refine WL_move rfl rfl ?_
 refine WL_nil ?_
 refine WA_tk 10 (by kernel_rfl) rfl rfl (fl_extract rfl rfl) ?_
 refine WL_extract rfl rfl rfl ?_
 refine WL_nil ?_
 refine WA_tk 11 (by kernel_rfl) rfl rfl (fl_extract rfl rfl) ?_
 refine WL_extract rfl rfl rfl ?_
 refine WL_nil ?_
 refine WA_tk 12 (by kernel_rfl) rfl rfl (fl_assign rfl) ?_
 refine WL_assign rfl rfl ?_
 refine WL_nil ?_
 refine WA_tk 13 (by kernel_rfl) rfl rfl (fl_assign rfl) ?_
 refine WL_assign rfl rfl ?_
 refine WL_nil ?_
 refine WA_done (by kernel_rfl) ?_
 refine nrm_normal (W_seq_reg ?_)
 refine WL_move rfl rfl ?_
 obtain ⟨x8, hr8, hF⟩ := bind_some hF
 refine WL_call Tryz.call11 rfl rfl (c_Q_toIntS a1 u1 (g1.now hC9.keep) x8 hr8) ?_
 rintro v9 w13 ⟨hB12, F7, hv9, hn7, hb7⟩
 have hC10 := hC9.push hB12 (A := Item.own v9 x8) hv9 hn7 hb7
 refine WL_assign rfl rfl ?_
 refine WL_nil (W_seq_reg ?_)
 refine WL_move rfl rfl ?_
 obtain ⟨x9, hr9, hF⟩ := bind_some hF
 refine WL_call Tryz.call12 rfl rfl (c_Q_toMethodS a2 u2 (g2.now hC10.keep) x9 hr9) ?_
 rintro v10 w14 ⟨hB13, F8, hv10, hn8, hb8⟩
 have hC11 := hC10.push hB13 (A := Item.own v10 x9) hv10 hn8 hb8
 refine WL_assign rfl rfl ?_
 refine WL_nil (W_seq_reg ?_)
 refine WL_load_box_agg [u3, u4] hC11 8 rfl rfl rfl Tryz.isAgg26 Tryz.sizeOf26 rfl rfl ?_
 obtain ⟨x10, hr10, hF⟩ := bind_some hF
 refine WL_call Tryz.call13 rfl rfl (c_Q_toQuery (a3.1, a3.2) u3 (g3.now hC11.keep) u4 (g4.now hC11.keep) x10 hr10) ?_
 rintro v11 w15 ⟨hB14, F9, hv11, hn9, hb9⟩
 have hC12 := hC11.push hB14 (A := Item.own v11 x10) hv11 hn9 hb9
 obtain ⟨v12, v13, rfl, hC13⟩ := st37_own hC12
 refine WL_allocK hC13 zero37 rfl rfl (fun b2 w16 hC14 hB15 hN2 => ?_)
 refine WL_store_box_aggK (cs' := [v12, v13]) (new := [v12, v13]) hC14 0 rfl rfl (by intro v hv; simp only [List.mem_cons, List.not_mem_nil, or_false] at hv; rcases hv with rfl | rfl; exact (ro_one (hC14.ro 1 rfl)); exact (ro_one (hC14.ro 2 rfl))) rfl Tryz.sizeOf37 rfl rfl (fun w17 hC15 hKp1 => ?_)
 try dsimp only [List.set] at hC15
 have hk1 := Keep.over ((((((((((((Keep.of hB1).then hB2).then hB3).then hB4).then hB8).then hB9).then hB10).then hB11).then hB12).then hB13).then hB14).then hB15) (Nat.le_trans (((((((((((Keep.of hB1).then hB2).then hB3).then hB4).then hB8).then hB9).then hB10).then hB11).then hB12).then hB13).then hB14).size hN2) hKp1
 have hk2 := Keep.over (((((((((((Keep.of hB2).then hB3).then hB4).then hB8).then hB9).then hB10).then hB11).then hB12).then hB13).then hB14).then hB15) (Nat.le_trans ((((((((((Keep.of hB2).then hB3).then hB4).then hB8).then hB9).then hB10).then hB11).then hB12).then hB13).then hB14).size hN2) hKp1
 have hk3 := Keep.over ((((((((((Keep.of hB3).then hB4).then hB8).then hB9).then hB10).then hB11).then hB12).then hB13).then hB14).then hB15) (Nat.le_trans (((((((((Keep.of hB3).then hB4).then hB8).then hB9).then hB10).then hB11).then hB12).then hB13).then hB14).size hN2) hKp1
 have hk4 := Keep.over (((((((((Keep.of hB4).then hB8).then hB9).then hB10).then hB11).then hB12).then hB13).then hB14).then hB15) (Nat.le_trans ((((((((Keep.of hB4).then hB8).then hB9).then hB10).then hB11).then hB12).then hB13).then hB14).size hN2) hKp1
 have hk5 := Keep.over ((((((((Keep.of hB8).then hB9).then hB10).then hB11).then hB12).then hB13).then hB14).then hB15) (Nat.le_trans (((((((Keep.of hB8).then hB9).then hB10).then hB11).then hB12).then hB13).then hB14).size hN2) hKp1
 have hk6 := Keep.over (((((((Keep.of hB9).then hB10).then hB11).then hB12).then hB13).then hB14).then hB15) (Nat.le_trans ((((((Keep.of hB9).then hB10).then hB11).then hB12).then hB13).then hB14).size hN2) hKp1
 have hk7 := Keep.over ((((((Keep.of hB10).then hB11).then hB12).then hB13).then hB14).then hB15) (Nat.le_trans (((((Keep.of hB10).then hB11).then hB12).then hB13).then hB14).size hN2) hKp1
 have hk8 := Keep.over (((((Keep.of hB11).then hB12).then hB13).then hB14).then hB15) (Nat.le_trans ((((Keep.of hB11).then hB12).then hB13).then hB14).size hN2) hKp1
 have hk9 := Keep.over ((((Keep.of hB12).then hB13).then hB14).then hB15) (Nat.le_trans (((Keep.of hB12).then hB13).then hB14).size hN2) hKp1
 have hk10 := Keep.over (((Keep.of hB13).then hB14).then hB15) (Nat.le_trans ((Keep.of hB13).then hB14).size hN2) hKp1
 have hk11 := Keep.over ((Keep.of hB14).then hB15) (Nat.le_trans (Keep.of hB14).size hN2) hKp1
 have hk12 := Keep.over (Keep.of hB15) hN2 hKp1
 refine WL_nil (W_seq_reg ?_)
 refine WL_move rfl rfl ?_
 obtain ⟨x11, hr11, hF⟩ := bind_some hF
 refine WL_call Tryz.call11 rfl rfl (c_Q_toIntS a4 u5 (g5.now hC15.keep) x11 hr11) ?_
 rintro v14 w18 ⟨hB16, F10, hv12, hn10, hb10⟩
 have hC16 := hC15.push hB16 (A := Item.own v14 x11) hv12 hn10 hb10
 refine WL_assign rfl rfl ?_
 refine WL_nil (W_seq_reg ?_)
 refine WL_move rfl rfl ?_
 refine WL_move rfl rfl ?_
 refine WL_load_box_agg [v12, v13] hC16 1 rfl rfl rfl Tryz.isAgg37 Tryz.sizeOf37 rfl rfl ?_
 refine WL_move rfl rfl ?_
 obtain ⟨x12, hr12, hF⟩ := bind_some hF
 refine WL_call Tryz.call21 rfl rfl (c_M_FindPrivateOrder x8 v9 ((hC16.ro 5 rfl).now (Keep.refl _ _)) x9 v10 ((hC16.ro 4 rfl).now (Keep.refl _ _)) (x10.1, x10.2) v12 ((hC16.ro 2 rfl).now (Keep.refl _ _)) v13 ((hC16.ro 3 rfl).now (Keep.refl _ _)) x11 v14 ((hC16.ro 0 rfl).now (Keep.refl _ _)) x12 hr12) ?_
 rintro _ w19 ⟨hB17, v15, v16, F11, F12, rfl, hv13, hv14, hn11, hb11⟩
 obtain ⟨rfl, rfl⟩ := val_bool hv14
 have hC17 := hC16.pushL hB17 (Bs := [Item.own v15 x12.1]) (Fs := [F11]) ⟨F11, _, rfl, hv13, rfl⟩ (by simpa using hn11) (fun b h => hb11 b (by simpa using h))
 refine WL_move rfl rfl ?_
 refine WL_extract rfl rfl rfl ?_
 refine WL_extract rfl rfl rfl ?_
 refine WL_assign rfl rfl ?_
 refine WL_assign rfl rfl ?_
 refine WL_nil (W_seq ?_)
 obtain ⟨r1, hr13, hF⟩ := bind_some hF
 refine W_cut (fun l w => ∃ x13 : Bool, x13 = r1 ∧ l = [(0, u1), (1, u2), (3, u5), (6, (ptr b1 0)), (10, v7), (11, (.bool x7.2)), (12, v9), (13, v10), (14, (ptr b2 0)), (15, v14), (16, v15), (17, (.bool x12.2)), (75, (.bool x13))] ∧ Below w19.heap.size w19 w ∧ Ctx [] w0 w [Item.own v15 (x12.1 : (List (Int × Int))), Item.own v14 (x11 : (List Int)), Item.box b2 [v12, v13], Item.own v12 (x10.1 : (List Int)), Item.own v13 (x10.2 : (List (Int × (List Int)))), Item.own v10 (x9 : (List (Int × (List Int) × Int × Int × Int))), Item.own v9 (x8 : (List Int)), Item.own v7 (x7.1 : (List (Int × Int))), Item.box b1 [u3, u4]]) ?_ ?_
 ·refine W_reg ?_
  refine WL_move rfl rfl ?_
  refine WL_move rfl rfl ?_
  obtain ⟨x14, hr14, hr13⟩ := bind_some hr13
  refine WL_call Tryz.call19 rfl rfl (c_Q_eqStepS x12.1 v15 ((hC17.ro 0 rfl).now (Keep.refl _ _)) x7.1 v7 ((hC17.ro 7 rfl).now (Keep.refl _ _)) x14 hr14) ?_
  intro _ w21 hv15
  obtain ⟨rfl, hB19⟩ := res_bool hv15
  have hC19 := hC17.grow hB19
  refine WL_not rfl rfl ?_
  refine WL_move rfl rfl ?_
  refine WL_fork (fun hc5 => ?_) (fun hc5 => ?_)
  ·replace hr13 := ite_t hr13 hc5
   refine WL_guard_skip rfl rfl (by simp) rfl ?_
   refine WL_guard_skip rfl rfl (by simp) rfl ?_
   refine WL_guard_skip rfl rfl (by simp) rfl ?_
   refine WL_pick_t rfl rfl rfl ?_
   refine WL_nil ?_
   have hq5 := Option.some.inj hr13
   subst hq5
   have hC20 := hC19.f13
   have hC21 := hC20.f8
   have hC22 := hC21.f8
   have hC23 := hC22.f8
   have hC24 := hC23.f8
   have hC25 := hC24.f8
   have hC26 := hC25.f8
   have hC27 := hC26.f8
   have hC28 := hC27.f8
   have hC29 := hC28.h9
   refine nrm_sub (l' := [(0, u1), (1, u2), (3, u5), (6, (ptr b1 0)), (10, v7), (11, (.bool x7.2)), (12, v9), (13, v10), (14, (ptr b2 0)), (15, v14), (16, v15), (17, (.bool x12.2)), (75, (.bool true))]) ⟨rfl, rfl, rfl, rfl, rfl, rfl, rfl, rfl, rfl, rfl, rfl, rfl, rfl, trivial⟩ ?_
   exact ⟨true, rfl, rfl, (Keep.of hB19).below, hC29⟩
  replace hr13 := ite_f hr13 hc5
  refine WL_guard rfl rfl ?_
  refine WL_move rfl rfl ?_
  refine WL_guard rfl rfl ?_
  refine WL_move rfl rfl ?_
  refine WL_guard rfl rfl ?_
  refine WL_bool_neq Tryz.underlying4 rfl rfl rfl ?_
  refine WL_pick_f rfl rfl rfl ?_
  refine WL_nil ?_
  have hq6 := Option.some.inj hr13
  subst hq6
  have hC30 := hC19.f13
  have hC31 := hC30.f8
  have hC32 := hC31.f8
  have hC33 := hC32.f8
  have hC34 := hC33.f8
  have hC35 := hC34.f8
  have hC36 := hC35.f8
  have hC37 := hC36.f8
  have hC38 := hC37.f8
  have hC39 := hC38.h9
  refine nrm_sub (l' := [(0, u1), (1, u2), (3, u5), (6, (ptr b1 0)), (10, v7), (11, (.bool x7.2)), (12, v9), (13, v10), (14, (ptr b2 0)), (15, v14), (16, v15), (17, (.bool x12.2)), (75, (.bool (!decide (x12.2 = x7.2))))]) ⟨rfl, rfl, rfl, rfl, rfl, rfl, rfl, rfl, rfl, rfl, rfl, rfl, rfl, trivial⟩ ?_
  exact ⟨(!decide (x12.2 = x7.2)), rfl, rfl, (Keep.of hB19).below, hC39⟩
 rintro _ w20 ⟨x13, rfl, rfl, hB18, hC18⟩
 try dsimp only at hF
 refine W_cond rfl (fun hc6 => ?_) (fun hc6 => ?_)
 ·replace hF := ite_t hF hc6
  refine W_seq_reg ?_
  refine WL_assign rfl rfl ?_
  refine WL_nil (W_ret (nrm_ret ?_))
  have hq7 := Option.some.inj hF
  subst hq7
  refine fn_ret1 rfl rfl ?_
  exact ⟨_, rfl, bool_res hC18 _⟩
 replace hF := ite_f hF hc6
 refine W_skip (nrm_normal (W_seq (W_seq_reg ?_)))
 refine WL_move rfl rfl ?_
 refine WL_move rfl rfl ?_
 obtain ⟨x15, hr15, hF⟩ := bind_some hF
 refine WL_call Tryz.call11 rfl rfl (c_Q_toIntS a1 u1 (g1.now hC18.keep) x15 hr15) ?_
 rintro v17 w22 ⟨hB20, F13, hv16, hn12, hb12⟩
 have hC40 := hC18.push hB20 (A := Item.own v17 x15) hv16 hn12 hb12
 obtain ⟨x16, hr16, hF⟩ := bind_some hF
 refine WL_call Tryz.call16 rfl rfl (c_Q_eqIntS x8 v9 ((hC40.ro 7 rfl).now (Keep.refl _ _)) x15 v17 ((hC40.ro 0 rfl).now (Keep.refl _ _)) x16 hr16) ?_
 intro _ w23 hv17
 obtain ⟨rfl, hB21⟩ := res_bool hv17
 have hC41 := hC40.grow hB21
 refine WL_not rfl rfl ?_
 refine WL_nil ?_
 refine W_cond rfl (fun hc7 => ?_) (fun hc7 => ?_)
 ·replace hF := ite_t hF hc7
  refine W_seq_reg ?_
  refine WL_assign rfl rfl ?_
  refine WL_nil (W_ret (nrm_ret ?_))
  have hq8 := Option.some.inj hF
  subst hq8
  refine fn_ret1 rfl rfl ?_
  exact ⟨_, rfl, bool_res hC41 _⟩
 replace hF := ite_f hF hc7
 refine W_skip (nrm_normal (W_seq (W_seq_reg ?_)))
 refine WL_move rfl rfl ?_
 refine WL_move rfl rfl ?_
 obtain ⟨x17, hr17, hF⟩ := bind_some hF
 refine WL_call Tryz.call12 rfl rfl (c_Q_toMethodS a2 u2 (g2.now hC41.keep) x17 hr17) ?_
 rintro v18 w24 ⟨hB22, F14, hv18, hn13, hb13⟩
 have hC42 := hC41.push hB22 (A := Item.own v18 x17) hv18 hn13 hb13
 obtain ⟨x18, hr18, hF⟩ := bind_some hF
 refine WL_call Tryz.call17 rfl rfl (c_Q_eqMethodS x9 v10 ((hC42.ro 7 rfl).now (Keep.refl _ _)) x17 v18 ((hC42.ro 0 rfl).now (Keep.refl _ _)) x18 hr18) ?_
 intro _ w25 hv19
 obtain ⟨rfl, hB23⟩ := res_bool hv19
 have hC43 := hC42.grow hB23
 refine WL_not rfl rfl ?_
 refine WL_nil ?_
 refine W_cond rfl (fun hc8 => ?_) (fun hc8 => ?_)
 ·replace hF := ite_t hF hc8
  refine W_seq_reg ?_
  refine WL_assign rfl rfl ?_
  refine WL_nil (W_ret (nrm_ret ?_))
  have hq9 := Option.some.inj hF
  subst hq9
  refine fn_ret1 rfl rfl ?_
  exact ⟨_, rfl, bool_res hC43 _⟩
 replace hF := ite_f hF hc8
 refine W_skip (nrm_normal (W_seq (W_seq ?_)))
 refine W_drawn 5 rfl hmix (fun w26 hB24 => ?_)
 have hC44 := hC43.grow hB24
 obtain ⟨x19, hr19, hF⟩ := bind_some hF
 refine WA.sub (l' := [(0, u1), (1, u2), (3, u5), (6, (ptr b1 0)), (10, v7), (11, (.bool x7.2)), (12, v9), (13, v10), (14, (ptr b2 0)), (15, v14), (16, v15), (17, (.bool x12.2)), (75, (.bool x13)), (76, v9), (77, u1), (78, v17), (79, (.bool x16)), (80, (.bool (!x16))), (81, v10), (82, u2), (83, v18), (84, (.bool x18)), (85, (.bool (!x18)))]) ?_ ⟨rfl, rfl, rfl, rfl, rfl, rfl, rfl, rfl, rfl, rfl, rfl, rfl, rfl, rfl, rfl, rfl, rfl, rfl, rfl, rfl, rfl, rfl, rfl, trivial⟩
 refine WA_postsE [⟨0, [], fun vs => PW.val (.agg #[v12, v13]), []⟩, ⟨1, [], fun vs => PW.val (.agg #[u3, u4]), []⟩, ⟨2, [], fun vs => PW.own x19, []⟩] [[], [], [1]] 2 rfl (by kernel_rfl) (by kernel_rfl) rfl ?_ ?_
 ·refine StepsE_cons rfl ?_ ?_
  ·intro w28 hB26
   refine DepsE_nil ?_
   refine ⟨_, rfl, ?_⟩
   refine WL_load_box_agg [v12, v13] (hC44.grow hB26) 4 rfl rfl rfl Tryz.isAgg37 Tryz.sizeOf37 rfl rfl ?_
   refine WL_nil ?_
   exact FinE_val (Below.refl _ _) rfl rfl ⟨rfl, rfl⟩
  refine StepsE_cons rfl ?_ ?_
  ·intro w28 hB26
   refine DepsE_nil ?_
   refine ⟨_, rfl, ?_⟩
   refine WL_load_box_agg [u3, u4] (hC44.grow hB26) 10 rfl rfl rfl Tryz.isAgg26 Tryz.sizeOf26 rfl rfl ?_
   refine WL_nil ?_
   exact FinE_val (Below.refl _ _) rfl rfl ⟨rfl, rfl⟩
  refine StepsE_cons rfl ?_ ?_
  ·intro w28 hB26
   refine DepsE_cons rfl rfl rfl ?_
   rintro _ _ ⟨rfl, rfl⟩ _
   refine DepsE_nil ?_
   refine ⟨_, rfl, ?_⟩
   refine WL_call Tryz.call13 rfl rfl (c_Q_toQuery (a3.1, a3.2) u3 (g3.now (hC44.keep.then hB26)) u4 (g4.now (hC44.keep.then hB26)) x19 hr19) ?_
   rintro v19 w27 ⟨hB25, F15, hv20, hn14, hb14⟩
   refine WL_nil ?_
   exact FinE_own hB25 rfl rfl hv20 hn14 hb14 (Val.inh hv20)
  exact StepsE_nil
 intro w29 hB27
 refine AllE_cons rfl rfl rfl ?_
 rintro _ _ ⟨rfl, rfl⟩
 refine AllE_cons rfl rfl rfl ?_
 rintro _ _ ⟨rfl, rfl⟩
 refine AllE_cons rfl rfl rfl ?_
 intro v19 F15 hv20
 refine AllE_nil ?_
 intro hn15 hb15
 have hC45 := hC44.pushL hB27 (Bs := [Item.own v19 (x19 : ((List Int) × (List (Int × (List Int)))))]) (Fs := [F15]) ⟨F15, _, rfl, hv20, rfl⟩ (by simpa using hn15) (fun b h => (hb15 b (by simpa using h)).1)
 obtain ⟨v22, v23, rfl, hC46⟩ := st37_own hC45
 obtain ⟨x20, hr20, hF⟩ := bind_some hF
 refine WA_one 3 (by kernel_rfl) rfl ?_
 refine WL_call Tryz.call18 rfl rfl (c_Q_eqQuery (x10.1, x10.2) v12 ((hC46.ro 7 rfl).now (Keep.refl _ _)) v13 ((hC46.ro 8 rfl).now (Keep.refl _ _)) x19 v22 ((hC46.ro 0 rfl).now (Keep.refl _ _)) v23 ((hC46.ro 1 rfl).now (Keep.refl _ _)) x20 hr20) ?_
 intro _ w30 hv21
 obtain ⟨rfl, hB28⟩ := res_bool hv21
 have hC47 := hC46.grow hB28
 refine WL_nil ?_
 refine WA_tk 4 (by kernel_rfl) rfl rfl (fl_not rfl) ?_
 refine WL_not rfl rfl ?_
 refine WL_nil ?_
 refine WA_done (by kernel_rfl) ?_
 refine nrm_normal ?_
 refine W_cond rfl (fun hc9 => ?_) (fun hc9 => ?_)
 ·replace hF := ite_t hF hc9
  refine W_seq_reg ?_
  refine WL_assign rfl rfl ?_
  refine WL_nil (W_ret (nrm_ret ?_))
  have hq10 := Option.some.inj hF
  subst hq10
  refine fn_ret1 rfl rfl ?_
  exact ⟨_, rfl, bool_res hC47 _⟩
 replace hF := ite_f hF hc9
 refine W_skip (nrm_normal (W_seq (W_seq_reg ?_)))
 refine WL_move rfl rfl ?_
 refine WL_move rfl rfl ?_
 obtain ⟨x21, hr21, hF⟩ := bind_some hF
 refine WL_call Tryz.call11 rfl rfl (c_Q_toIntS a4 u5 (g5.now hC47.keep) x21 hr21) ?_
 rintro v24 w31 ⟨hB29, F16, hv22, hn16, hb16⟩
 have hC48 := hC47.push hB29 (A := Item.own v24 x21) hv22 hn16 hb16
 obtain ⟨x22, hr22, hF⟩ := bind_some hF
 refine WL_call Tryz.call16 rfl rfl (c_Q_eqIntS x11 v14 ((hC48.ro 6 rfl).now (Keep.refl _ _)) x21 v24 ((hC48.ro 0 rfl).now (Keep.refl _ _)) x22 hr22) ?_
 intro _ w32 hv23
 obtain ⟨rfl, hB30⟩ := res_bool hv23
 have hC49 := hC48.grow hB30
 refine WL_not rfl rfl ?_
 refine WL_nil ?_
 refine W_cond rfl (fun hc10 => ?_) (fun hc10 => ?_)
 ·replace hF := ite_t hF hc10
  refine W_seq_reg ?_
  refine WL_assign rfl rfl ?_
  refine WL_nil (W_ret (nrm_ret ?_))
  have hq11 := Option.some.inj hF
  subst hq11
  refine fn_ret1 rfl rfl ?_
  exact ⟨_, rfl, bool_res hC49 _⟩
 replace hF := ite_f hF hc10
 refine W_skip (nrm_normal (W_seq_reg ?_))
 refine WL_assign rfl rfl ?_
 refine WL_nil (W_seq_reg ?_)
 refine WL_move rfl rfl ?_
 refine WL_move rfl rfl ?_
 obtain ⟨x23, hr23, hF⟩ := bind_some hF
 have hC50 := hC49.f11
 obtain ⟨Fs1, hH1, hn17, hF1, hO1, hb17⟩ := Ctx.lend2 (As := [Item.own v24 (x21 : (List Int)), Item.own v22 (x19.1 : (List Int)), Item.own v23 (x19.2 : (List (Int × (List Int)))), Item.own v18 (x17 : (List (Int × (List Int) × Int × Int × Int))), Item.own v17 (x15 : (List Int)), Item.own v15 (x12.1 : (List (Int × Int))), Item.own v14 (x11 : (List Int)), Item.box b2 [v12, v13], Item.own v12 (x10.1 : (List Int)), Item.own v13 (x10.2 : (List (Int × (List Int)))), Item.own v10 (x9 : (List (Int × (List Int) × Int × Int × Int))), Item.own v7 (x7.1 : (List (Int × Int))), Item.box b1 [u3, u4]]) [Item.own v9 (x8 : (List Int))] hC50
 refine WL_call Tryz.call22 rfl rfl (c_Q_markIntS x8 v9 1 hH1 hn17 x23 hr23) ?_
 rintro _ w33 ⟨rfl, hq12⟩
 have hC51 : Ctx [] w0 w33 [Item.own v9 (x23.2 : (List Int)), Item.own v24 (x21 : (List Int)), Item.own v22 (x19.1 : (List Int)), Item.own v23 (x19.2 : (List (Int × (List Int)))), Item.own v18 (x17 : (List (Int × (List Int) × Int × Int × Int))), Item.own v17 (x15 : (List Int)), Item.own v15 (x12.1 : (List (Int × Int))), Item.own v14 (x11 : (List Int)), Item.box b2 [v12, v13], Item.own v12 (x10.1 : (List Int)), Item.own v13 (x10.2 : (List (Int × (List Int)))), Item.own v10 (x9 : (List (Int × (List Int) × Int × Int × Int))), Item.own v7 (x7.1 : (List (Int × Int))), Item.box b1 [u3, u4]] := hb17 _ _ hq12
 refine WL_assign rfl rfl ?_
 refine WL_nil (W_seq_reg ?_)
 refine WL_move rfl rfl ?_
 refine WL_move rfl rfl ?_
 obtain ⟨x24, hr24, hF⟩ := bind_some hF
 have hC52 := hC51.f11
 obtain ⟨Fs2, hH2, hn18, hF2, hO2, hb18⟩ := Ctx.lend2 (As := [Item.own v9 (x23.2 : (List Int)), Item.own v24 (x21 : (List Int)), Item.own v22 (x19.1 : (List Int)), Item.own v23 (x19.2 : (List (Int × (List Int)))), Item.own v18 (x17 : (List (Int × (List Int) × Int × Int × Int))), Item.own v17 (x15 : (List Int)), Item.own v15 (x12.1 : (List (Int × Int))), Item.own v14 (x11 : (List Int)), Item.box b2 [v12, v13], Item.own v12 (x10.1 : (List Int)), Item.own v13 (x10.2 : (List (Int × (List Int)))), Item.own v7 (x7.1 : (List (Int × Int))), Item.box b1 [u3, u4]]) [Item.own v10 (x9 : (List (Int × (List Int) × Int × Int × Int)))] hC52
 refine WL_call Tryz.call23 rfl rfl (c_Q_markMethodS x9 v10 x23.1 hH2 hn18 x24 hr24) ?_
 rintro _ w34 ⟨rfl, hq13⟩
 have hC53 : Ctx [] w0 w34 [Item.own v10 (x24.2 : (List (Int × (List Int) × Int × Int × Int))), Item.own v9 (x23.2 : (List Int)), Item.own v24 (x21 : (List Int)), Item.own v22 (x19.1 : (List Int)), Item.own v23 (x19.2 : (List (Int × (List Int)))), Item.own v18 (x17 : (List (Int × (List Int) × Int × Int × Int))), Item.own v17 (x15 : (List Int)), Item.own v15 (x12.1 : (List (Int × Int))), Item.own v14 (x11 : (List Int)), Item.box b2 [v12, v13], Item.own v12 (x10.1 : (List Int)), Item.own v13 (x10.2 : (List (Int × (List Int)))), Item.own v7 (x7.1 : (List (Int × Int))), Item.box b1 [u3, u4]] := hb18 _ _ hq13
 refine WL_assign rfl rfl ?_
 refine WL_nil (W_seq_reg ?_)
 refine WL_load_box_agg [v12, v13] hC53 9 rfl rfl rfl Tryz.isAgg37 Tryz.sizeOf37 rfl rfl ?_
 refine WL_move rfl rfl ?_
 obtain ⟨x25, hr25, hF⟩ := bind_some hF
 have hC54 := hC53.f11
 have hC55 := hC54.f11
 obtain ⟨Fs3, hH3, hn19, hF3, hO3, hb19⟩ := Ctx.lend2 (As := [Item.own v10 (x24.2 : (List (Int × (List Int) × Int × Int × Int))), Item.own v9 (x23.2 : (List Int)), Item.own v24 (x21 : (List Int)), Item.own v22 (x19.1 : (List Int)), Item.own v23 (x19.2 : (List (Int × (List Int)))), Item.own v18 (x17 : (List (Int × (List Int) × Int × Int × Int))), Item.own v17 (x15 : (List Int)), Item.own v15 (x12.1 : (List (Int × Int))), Item.own v14 (x11 : (List Int)), Item.box b2 [v12, v13], Item.own v7 (x7.1 : (List (Int × Int))), Item.box b1 [u3, u4]]) [Item.own v12 (x10.1 : (List Int)), Item.own v13 (x10.2 : (List (Int × (List Int))))] hC55
 refine WL_call Tryz.call24 rfl rfl (c_Q_markQuery (x10.1, x10.2) v12 v13 x24.1 hH3 hn19 x25 hr25) ?_
 rintro _ w35 ⟨rfl, hq14⟩
 have hC56 : Ctx [] w0 w35 [Item.own v12 (x25.2.1 : (List Int)), Item.own v13 (x25.2.2 : (List (Int × (List Int)))), Item.own v10 (x24.2 : (List (Int × (List Int) × Int × Int × Int))), Item.own v9 (x23.2 : (List Int)), Item.own v24 (x21 : (List Int)), Item.own v22 (x19.1 : (List Int)), Item.own v23 (x19.2 : (List (Int × (List Int)))), Item.own v18 (x17 : (List (Int × (List Int) × Int × Int × Int))), Item.own v17 (x15 : (List Int)), Item.own v15 (x12.1 : (List (Int × Int))), Item.own v14 (x11 : (List Int)), Item.box b2 [v12, v13], Item.own v7 (x7.1 : (List (Int × Int))), Item.box b1 [u3, u4]] := hb19 _ _ hq14
 refine WL_assign rfl rfl ?_
 refine WL_nil (W_seq_reg ?_)
 refine WL_move rfl rfl ?_
 refine WL_move rfl rfl ?_
 obtain ⟨x26, hr26, hF⟩ := bind_some hF
 have hC57 := hC56.f10
 obtain ⟨Fs4, hH4, hn20, hF4, hO4, hb20⟩ := Ctx.lend2 (As := [Item.own v12 (x25.2.1 : (List Int)), Item.own v13 (x25.2.2 : (List (Int × (List Int)))), Item.own v10 (x24.2 : (List (Int × (List Int) × Int × Int × Int))), Item.own v9 (x23.2 : (List Int)), Item.own v24 (x21 : (List Int)), Item.own v22 (x19.1 : (List Int)), Item.own v23 (x19.2 : (List (Int × (List Int)))), Item.own v18 (x17 : (List (Int × (List Int) × Int × Int × Int))), Item.own v17 (x15 : (List Int)), Item.own v15 (x12.1 : (List (Int × Int))), Item.box b2 [v12, v13], Item.own v7 (x7.1 : (List (Int × Int))), Item.box b1 [u3, u4]]) [Item.own v14 (x11 : (List Int))] hC57
 refine WL_call Tryz.call22 rfl rfl (c_Q_markIntS x11 v14 x25.1 hH4 hn20 x26 hr26) ?_
 rintro _ w36 ⟨rfl, hq15⟩
 have hC58 : Ctx [] w0 w36 [Item.own v14 (x26.2 : (List Int)), Item.own v12 (x25.2.1 : (List Int)), Item.own v13 (x25.2.2 : (List (Int × (List Int)))), Item.own v10 (x24.2 : (List (Int × (List Int) × Int × Int × Int))), Item.own v9 (x23.2 : (List Int)), Item.own v24 (x21 : (List Int)), Item.own v22 (x19.1 : (List Int)), Item.own v23 (x19.2 : (List (Int × (List Int)))), Item.own v18 (x17 : (List (Int × (List Int) × Int × Int × Int))), Item.own v17 (x15 : (List Int)), Item.own v15 (x12.1 : (List (Int × Int))), Item.box b2 [v12, v13], Item.own v7 (x7.1 : (List (Int × Int))), Item.box b1 [u3, u4]] := hb20 _ _ hq15
 refine WL_assign rfl rfl ?_
 refine WL_nil (W_seq ?_)
 obtain ⟨r2, hr27, hF⟩ := bind_some hF
 refine W_cut (fun l w => ∃ x27 : Bool, x27 = r2 ∧ l = [(0, u1), (1, u2), (3, u5), (6, (ptr b1 0)), (10, v7), (11, (.bool x7.2)), (16, v15), (120, (.bool x27))] ∧ Below w36.heap.size w36 w ∧ Ctx [] w0 w [Item.own v15 (x12.1 : (List (Int × Int))), Item.own v7 (x7.1 : (List (Int × Int))), Item.box b1 [u3, u4]]) ?_ ?_
 ·refine W_reg ?_
  refine WL_move rfl rfl ?_
  refine WL_lss rfl rfl rfl ?_
  refine WL_move rfl rfl ?_
  refine WL_fork (fun hc11 => ?_) (fun hc11 => ?_)
  ·replace hr27 := ite_t hr27 hc11
   refine WL_guard_skip rfl rfl (by simp) rfl ?_
   refine WL_guard_skip rfl rfl (by simp) rfl ?_
   refine WL_guard_skip rfl rfl (by simp) rfl ?_
   refine WL_guard_skip rfl rfl (by simp) rfl ?_
   refine WL_pick_t rfl rfl rfl ?_
   refine WL_move rfl rfl ?_
   refine WL_guard_skip rfl rfl (by simp) rfl ?_
   refine WL_guard_skip rfl rfl (by simp) rfl ?_
   refine WL_guard_skip rfl rfl (by simp) rfl ?_
   refine WL_pick_t rfl rfl rfl ?_
   refine WL_nil ?_
   have hq16 := Option.some.inj hr27
   subst hq16
   have hC60 := hC58.f13
   have hC61 := hC60.f13
   have hC62 := hC61.f12
   have hC63 := hC62.h3
   refine nrm_sub (l' := [(0, u1), (1, u2), (3, u5), (6, (ptr b1 0)), (10, v7), (11, (.bool x7.2)), (16, v15), (120, (.bool true))]) ⟨rfl, rfl, rfl, rfl, rfl, rfl, rfl, rfl, trivial⟩ ?_
   exact ⟨true, rfl, rfl, (Below.refl _ _), hC63⟩
  replace hr27 := ite_f hr27 hc11
  refine WL_guard rfl rfl ?_
  refine WL_move rfl rfl ?_
  refine WL_guard rfl rfl ?_
  refine WL_move rfl rfl ?_
  obtain ⟨x28, hr28, hr27⟩ := bind_some hr27
  refine WL_guard rfl rfl ?_
  refine WL_call Tryz.call19 rfl rfl (c_Q_eqStepS x12.1 v15 ((hC58.ro 10 rfl).now (Keep.refl _ _)) x7.1 v7 ((hC58.ro 12 rfl).now (Keep.refl _ _)) x28 hr28) ?_
  intro _ w38 hv24
  obtain ⟨rfl, hB32⟩ := res_bool hv24
  have hC64 := hC58.grow hB32
  refine WL_guard rfl rfl ?_
  refine WL_not rfl rfl ?_
  refine WL_pick_f rfl rfl rfl ?_
  refine WL_move rfl rfl ?_
  refine WL_fork (fun hc12 => ?_) (fun hc12 => ?_)
  ·replace hr27 := ite_t hr27 hc12
   refine WL_guard_skip rfl rfl (by simp) rfl ?_
   refine WL_guard_skip rfl rfl (by simp) rfl ?_
   refine WL_guard_skip rfl rfl (by simp) rfl ?_
   refine WL_pick_t rfl rfl rfl ?_
   refine WL_nil ?_
   have hq17 := Option.some.inj hr27
   subst hq17
   have hC65 := hC64.f13
   have hC66 := hC65.f13
   have hC67 := hC66.f12
   have hC68 := hC67.h3
   refine nrm_sub (l' := [(0, u1), (1, u2), (3, u5), (6, (ptr b1 0)), (10, v7), (11, (.bool x7.2)), (16, v15), (120, (.bool true))]) ⟨rfl, rfl, rfl, rfl, rfl, rfl, rfl, rfl, trivial⟩ ?_
   exact ⟨true, rfl, rfl, (Keep.of hB32).below, hC68⟩
  replace hr27 := ite_f hr27 hc12
  refine WL_guard rfl rfl ?_
  refine WL_move rfl rfl ?_
  refine WL_guard rfl rfl ?_
  refine WL_move rfl rfl ?_
  refine WL_guard rfl rfl ?_
  refine WL_bool_neq Tryz.underlying4 rfl rfl rfl ?_
  refine WL_pick_f rfl rfl rfl ?_
  refine WL_nil ?_
  have hq18 := Option.some.inj hr27
  subst hq18
  have hC69 := hC64.f13
  have hC70 := hC69.f13
  have hC71 := hC70.f12
  have hC72 := hC71.h3
  refine nrm_sub (l' := [(0, u1), (1, u2), (3, u5), (6, (ptr b1 0)), (10, v7), (11, (.bool x7.2)), (16, v15), (120, (.bool (!decide (x12.2 = x7.2))))]) ⟨rfl, rfl, rfl, rfl, rfl, rfl, rfl, rfl, trivial⟩ ?_
  exact ⟨(!decide (x12.2 = x7.2)), rfl, rfl, (Keep.of hB32).below, hC72⟩
 rintro _ w37 ⟨x27, rfl, rfl, hB31, hC59⟩
 try dsimp only at hF
 refine W_cond rfl (fun hc13 => ?_) (fun hc13 => ?_)
 ·replace hF := ite_t hF hc13
  refine W_seq_reg ?_
  refine WL_assign rfl rfl ?_
  refine WL_nil (W_ret (nrm_ret ?_))
  have hq19 := Option.some.inj hF
  subst hq19
  refine fn_ret1 rfl rfl ?_
  exact ⟨_, rfl, bool_res hC59 _⟩
 replace hF := ite_f hF hc13
 refine W_skip (nrm_normal (W_seq_reg ?_))
 refine WL_assign rfl rfl ?_
 refine WL_nil (W_seq_reg ?_)
 refine WL_move rfl rfl ?_
 refine WL_move rfl rfl ?_
 obtain ⟨x29, hr29, hF⟩ := bind_some hF
 obtain ⟨Fs5, hH5, hn21, hF5, hO5, hb21⟩ := Ctx.lend2 (As := [Item.own v7 (x7.1 : (List (Int × Int))), Item.box b1 [u3, u4]]) [Item.own v15 (x12.1 : (List (Int × Int)))] hC59
 refine WL_call Tryz.call25 rfl rfl (c_Q_markStepS x12.1 v15 1 hH5 hn21 x29 hr29) ?_
 rintro _ w39 ⟨rfl, hq20⟩
 have hC74 : Ctx [] w0 w39 [Item.own v15 (x29.2 : (List (Int × Int))), Item.own v7 (x7.1 : (List (Int × Int))), Item.box b1 [u3, u4]] := hb21 _ _ hq20
 refine WL_assign rfl rfl ?_
 refine WL_nil (W_seq_reg ?_)
 refine WL_assign rfl rfl ?_
 refine WL_nil (W_seq_reg ?_)
 refine WL_move rfl rfl ?_
 refine WL_move rfl rfl ?_
 obtain ⟨x30, hr30, hF⟩ := bind_some hF
 refine WL_call Tryz.call26 rfl rfl (c_Q_heldStepS x29.2 v15 ((hC74.ro 0 rfl).now (Keep.refl _ _)) 1 x30 hr30) ?_
 intro _ w40 hv25
 obtain ⟨rfl, hB33⟩ := res_int hv25
 have hC75 := hC74.grow hB33
 refine WL_assign rfl rfl ?_
 refine WL_nil (W_seq (W_seq_reg ?_))
 refine WL_move rfl rfl ?_
 refine WL_lss rfl rfl rfl ?_
 refine WL_nil ?_
 refine W_cond rfl (fun hc14 => ?_) (fun hc14 => ?_)
 ·replace hF := ite_t hF hc14
  refine W_seq_reg ?_
  refine WL_assign rfl rfl ?_
  refine WL_nil (W_ret (nrm_ret ?_))
  have hq21 := Option.some.inj hF
  subst hq21
  refine fn_ret1 rfl rfl ?_
  exact ⟨_, rfl, bool_res hC75 _⟩
 replace hF := ite_f hF hc14
 refine W_skip (nrm_normal (W_seq (W_seq_reg ?_)))
 refine WL_move rfl rfl ?_
 refine WL_move rfl rfl ?_
 refine WL_neq rfl rfl rfl ?_
 refine WL_nil ?_
 refine W_cond rfl (fun hc15 => ?_) (fun hc15 => ?_)
 ·replace hF := ite_t hF hc15
  refine W_seq_reg ?_
  refine WL_assign rfl rfl ?_
  refine WL_nil (W_ret (nrm_ret ?_))
  have hq22 := Option.some.inj hF
  subst hq22
  refine fn_ret1 rfl rfl ?_
  exact ⟨_, rfl, bool_res hC75 _⟩
 replace hF := ite_f hF hc15
 refine W_skip (nrm_normal (W_seq ?_))
 refine W_drawn 14 rfl hmix (fun w41 hB34 => ?_)
 have hC76 := hC75.grow hB34
 refine WA_tk 0 (by kernel_rfl) rfl rfl (fl_move rfl) ?_
 refine WL_move rfl rfl ?_
 refine WL_nil ?_
 refine WA_tk 2 (by kernel_rfl) rfl rfl (fl_move rfl) ?_
 refine WL_move rfl rfl ?_
 refine WL_nil ?_
 refine WA_tk 6 (by kernel_rfl) rfl rfl (fl_move rfl) ?_
 refine WL_move rfl rfl ?_
 refine WL_nil ?_
 obtain ⟨x31, hr31, hF⟩ := bind_some hF
 obtain ⟨x32, hr32, hF⟩ := bind_some hF
 refine WA.sub (l' := [(0, u1), (1, u2), (3, u5), (6, (ptr b1 0)), (10, v7), (11, (.bool x7.2)), (16, v15), (19, (.int .i64 x29.1)), (20, (.int .i64 x30)), (120, (.bool x27)), (121, v15), (122, (.int .i64 1)), (123, (.int .i64 x29.1)), (124, v15), (125, (.int .i64 1)), (126, (.int .i64 x30)), (127, (.int .i64 x30)), (128, (.bool (decide (x30 < 0)))), (129, (.int .i64 x30)), (130, (.int .i64 x29.1)), (131, (.bool (!decide (x30 = x29.1)))), (133, u1), (135, u2), (139, u5)]) ?_ ⟨rfl, rfl, rfl, rfl, rfl, rfl, rfl, rfl, rfl, rfl, rfl, rfl, rfl, rfl, rfl, rfl, rfl, rfl, rfl, rfl, rfl, rfl, rfl, rfl, trivial⟩
 refine WA_postsE [⟨1, [], fun vs => PW.own x31, []⟩, ⟨3, [], fun vs => PW.own x32, []⟩, ⟨4, [], fun vs => PW.val (.agg #[u3, u4]), []⟩] [[], [], []] 8 rfl (by kernel_rfl) (by kernel_rfl) rfl ?_ ?_
 ·refine StepsE_cons rfl ?_ ?_
  ·intro w44 hB37
   refine DepsE_nil ?_
   refine ⟨_, rfl, ?_⟩
   refine WL_call Tryz.call11 rfl rfl (c_Q_toIntS a1 u1 (g1.now (hC76.keep.then hB37)) x31 hr31) ?_
   rintro v25 w42 ⟨hB35, F17, hv26, hn22, hb22⟩
   refine WL_nil ?_
   exact FinE_own hB35 rfl rfl hv26 hn22 hb22 (Val.inh hv26)
  refine StepsE_cons rfl ?_ ?_
  ·intro w44 hB37
   refine DepsE_nil ?_
   refine ⟨_, rfl, ?_⟩
   refine WL_call Tryz.call12 rfl rfl (c_Q_toMethodS a2 u2 (g2.now (hC76.keep.then hB37)) x32 hr32) ?_
   rintro v26 w43 ⟨hB36, F18, hv27, hn23, hb23⟩
   refine WL_nil ?_
   exact FinE_own hB36 rfl rfl hv27 hn23 hb23 (Val.inh hv27)
  refine StepsE_cons rfl ?_ ?_
  ·intro w44 hB37
   refine DepsE_nil ?_
   refine ⟨_, rfl, ?_⟩
   refine WL_load_box_agg [u3, u4] (hC76.grow hB37) 2 rfl rfl rfl Tryz.isAgg26 Tryz.sizeOf26 rfl rfl ?_
   refine WL_nil ?_
   exact FinE_val (Below.refl _ _) rfl rfl ⟨rfl, rfl⟩
  exact StepsE_nil
 intro w45 hB38
 refine AllE_cons rfl rfl rfl ?_
 intro v25 F17 hv26
 refine AllE_cons rfl rfl rfl ?_
 intro v26 F18 hv27
 refine AllE_cons rfl rfl rfl ?_
 rintro _ _ ⟨rfl, rfl⟩
 refine AllE_nil ?_
 intro hn24 hb24
 have hC77 := hC76.pushL hB38 (Bs := [Item.own v26 (x32 : (List (Int × (List Int) × Int × Int × Int))), Item.own v25 (x31 : (List Int))]) (Fs := [F18, F17]) ⟨F18, _, rfl, hv27, F17, _, rfl, hv26, rfl⟩ (by simpa using hn24) (fun b h => (hb24 b (by simpa using h)).1)
 obtain ⟨x33, hr33, hF⟩ := bind_some hF
 refine WA_one 5 (by kernel_rfl) rfl ?_
 refine WL_call Tryz.call13 rfl rfl (c_Q_toQuery (a3.1, a3.2) u3 (g3.now hC77.keep) u4 (g4.now hC77.keep) x33 hr33) ?_
 rintro v27 w46 ⟨hB39, F19, hv28, hn25, hb25⟩
 have hC78 := hC77.push hB39 (A := Item.own v27 x33) hv28 hn25 hb25
 obtain ⟨v28, v29, rfl, hC79⟩ := st37_own hC78
 refine WL_nil ?_
 obtain ⟨x34, hr34, hF⟩ := bind_some hF
 refine WA_one 7 (by kernel_rfl) rfl ?_
 refine WL_call Tryz.call11 rfl rfl (c_Q_toIntS a4 u5 (g5.now hC79.keep) x34 hr34) ?_
 rintro v30 w47 ⟨hB40, F20, hv29, hn26, hb26⟩
 have hC80 := hC79.push hB40 (A := Item.own v30 x34) hv29 hn26 hb26
 refine WL_nil ?_
 obtain ⟨x35, hr35, hF⟩ := bind_some hF
 refine WA_one 8 (by kernel_rfl) rfl ?_
 refine WL_call Tryz.call21 rfl rfl (c_M_FindPrivateOrder x31 v25 ((hC80.ro 4 rfl).now (Keep.refl _ _)) x32 v26 ((hC80.ro 3 rfl).now (Keep.refl _ _)) x33 v28 ((hC80.ro 1 rfl).now (Keep.refl _ _)) v29 ((hC80.ro 2 rfl).now (Keep.refl _ _)) x34 v30 ((hC80.ro 0 rfl).now (Keep.refl _ _)) x35 hr35) ?_
 rintro _ w48 ⟨hB41, v31, v32, F21, F22, rfl, hv30, hv31, hn27, hb27⟩
 obtain ⟨rfl, rfl⟩ := val_bool hv31
 have hC81 := hC80.pushL hB41 (Bs := [Item.own v31 x35.1]) (Fs := [F21]) ⟨F21, _, rfl, hv30, rfl⟩ (by simpa using hn27) (fun b h => hb27 b (by simpa using h))
 refine WL_nil ?_
 refine WA_tk 9 (by kernel_rfl) rfl rfl (fl_move rfl) ?_
 refine WL_move rfl rfl ?_
 refine WL_nil ?_
 refine WA_tk 10 (by kernel_rfl) rfl rfl (fl_extract rfl rfl) ?_
 refine WL_extract rfl rfl rfl ?_
 refine WL_nil ?_
 refine WA_tk 11 (by kernel_rfl) rfl rfl (fl_extract rfl rfl) ?_
 refine WL_extract rfl rfl rfl ?_
 refine WL_nil ?_
 refine WA_tk 12 (by kernel_rfl) rfl rfl (fl_assign rfl) ?_
 refine WL_assign rfl rfl ?_
 refine WL_nil ?_
 refine WA_tk 13 (by kernel_rfl) rfl rfl (fl_assign rfl) ?_
 refine WL_assign rfl rfl ?_
 refine WL_nil ?_
 refine WA_done (by kernel_rfl) ?_
 refine nrm_normal (W_seq ?_)
 obtain ⟨r3, hr36, hF⟩ := bind_some hF
 refine W_cut (fun l w => ∃ x36 : Bool, x36 = r3 ∧ l = [(16, v15), (19, (.int .i64 x29.1)), (152, (.bool x36))] ∧ Below w48.heap.size w48 w ∧ Ctx [] w0 w [Item.own v15 (x29.2 : (List (Int × Int)))]) ?_ ?_
 ·refine W_reg ?_
  refine WL_move rfl rfl ?_
  refine WL_move rfl rfl ?_
  obtain ⟨x37, hr37, hr36⟩ := bind_some hr36
  refine WL_call Tryz.call19 rfl rfl (c_Q_eqStepS x35.1 v31 ((hC81.ro 0 rfl).now (Keep.refl _ _)) x7.1 v7 ((hC81.ro 7 rfl).now (Keep.refl _ _)) x37 hr37) ?_
  intro _ w50 hv32
  obtain ⟨rfl, hB43⟩ := res_bool hv32
  have hC83 := hC81.grow hB43
  refine WL_not rfl rfl ?_
  refine WL_move rfl rfl ?_
  refine WL_fork (fun hc16 => ?_) (fun hc16 => ?_)
  ·replace hr36 := ite_t hr36 hc16
   refine WL_guard_skip rfl rfl (by simp) rfl ?_
   refine WL_guard_skip rfl rfl (by simp) rfl ?_
   refine WL_guard_skip rfl rfl (by simp) rfl ?_
   refine WL_pick_t rfl rfl rfl ?_
   refine WL_nil ?_
   have hq23 := Option.some.inj hr36
   subst hq23
   have hC84 := hC83.f6
   have hC85 := hC84.h1
   refine nrm_sub (l' := [(16, v15), (19, (.int .i64 x29.1)), (152, (.bool true))]) ⟨rfl, rfl, rfl, trivial⟩ ?_
   exact ⟨true, rfl, rfl, (Keep.of hB43).below, hC85⟩
  replace hr36 := ite_f hr36 hc16
  refine WL_guard rfl rfl ?_
  refine WL_move rfl rfl ?_
  refine WL_guard rfl rfl ?_
  refine WL_move rfl rfl ?_
  refine WL_guard rfl rfl ?_
  refine WL_bool_neq Tryz.underlying4 rfl rfl rfl ?_
  refine WL_pick_f rfl rfl rfl ?_
  refine WL_nil ?_
  have hq24 := Option.some.inj hr36
  subst hq24
  have hC86 := hC83.f6
  have hC87 := hC86.h1
  refine nrm_sub (l' := [(16, v15), (19, (.int .i64 x29.1)), (152, (.bool (!decide (x35.2 = x7.2))))]) ⟨rfl, rfl, rfl, trivial⟩ ?_
  exact ⟨(!decide (x35.2 = x7.2)), rfl, rfl, (Keep.of hB43).below, hC87⟩
 rintro _ w49 ⟨x36, rfl, rfl, hB42, hC82⟩
 try dsimp only at hF
 refine W_cond rfl (fun hc17 => ?_) (fun hc17 => ?_)
 ·replace hF := ite_t hF hc17
  refine W_seq_reg ?_
  refine WL_assign rfl rfl ?_
  refine WL_nil (W_ret (nrm_ret ?_))
  have hq25 := Option.some.inj hF
  subst hq25
  refine fn_ret1 rfl rfl ?_
  exact ⟨_, rfl, bool_res hC82 _⟩
 replace hF := ite_f hF hc17
 refine W_skip (nrm_normal (W_seq_reg ?_))
 refine WL_assign rfl rfl ?_
 refine WL_nil (W_seq_reg ?_)
 refine WL_move rfl rfl ?_
 refine WL_move rfl rfl ?_
 obtain ⟨x38, hr38, hF⟩ := bind_some hF
 refine WL_call Tryz.call26 rfl rfl (c_Q_heldStepS x29.2 v15 ((hC82.ro 0 rfl).now (Keep.refl _ _)) 1 x38 hr38) ?_
 intro _ w51 hv33
 obtain ⟨rfl, hB44⟩ := res_int hv33
 have hC88 := hC82.grow hB44
 refine WL_assign rfl rfl ?_
 refine WL_nil (W_seq (W_seq_reg ?_))
 refine WL_move rfl rfl ?_
 refine WL_lss rfl rfl rfl ?_
 refine WL_nil ?_
 refine W_cond rfl (fun hc18 => ?_) (fun hc18 => ?_)
 ·replace hF := ite_t hF hc18
  refine W_seq_reg ?_
  refine WL_assign rfl rfl ?_
  refine WL_nil (W_ret (nrm_ret ?_))
  have hq26 := Option.some.inj hF
  subst hq26
  refine fn_ret1 rfl rfl ?_
  exact ⟨_, rfl, bool_res hC88 _⟩
 replace hF := ite_f hF hc18
 refine W_skip (nrm_normal (W_seq (W_seq_reg ?_)))
 refine WL_move rfl rfl ?_
 refine WL_move rfl rfl ?_
 refine WL_neq rfl rfl rfl ?_
 refine WL_nil ?_
 refine W_cond rfl (fun hc19 => ?_) (fun hc19 => ?_)
 ·replace hF := ite_t hF hc19
  refine W_seq_reg ?_
  refine WL_assign rfl rfl ?_
  refine WL_nil (W_ret (nrm_ret ?_))
  have hq27 := Option.some.inj hF
  subst hq27
  refine fn_ret1 rfl rfl ?_
  exact ⟨_, rfl, bool_res hC88 _⟩
 replace hF := ite_f hF hc19
 refine W_skip (nrm_normal (W_seq_reg ?_))
 refine WL_assign rfl rfl ?_
 refine WL_nil (W_ret ?_)
 have hq28 := Option.some.inj hF
 subst hq28
 refine fn_ret1 rfl rfl ?_
 exact ⟨_, rfl, bool_res hC88 _⟩

end Go.Gx.Px
