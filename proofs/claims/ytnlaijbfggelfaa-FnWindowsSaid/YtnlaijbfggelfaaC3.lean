/- The contracts of the Go functions against the pure functions, printed by program. Conditions: each says them. -/
import Derived.Test.YtnlaijbfggelfaaC2
set_option linter.unusedVariables false
set_option linter.unusedSimpArgs false
set_option maxRecDepth 100000
set_option maxHeartbeats 4000000
namespace Go.Gx.Px
open Go.Proofs Go.RowKit

theorem c_M_copyAtoms {w0 : World} (a1 : (List (Int × (List Int)))) (u1 : Value) (g1 : RO [] w0 u1 a1) (rr : (List (Int × (List Int)))) (hF : M.copyAtoms a1 = some rr) :
 Calls Try.prog 60 [u1].toArray w0 fun e w' => ∃ v, e = .returned v ∧ Res w0 rr v w' := by
 refine calls_of_W Try.func60 rfl rfl ?_
 have hC0 := Ctx.start w0
 unfold M.copyAtoms at hF
 refine W_seq_reg ?_
 refine WL_assign rfl rfl ?_
 refine WL_nil ?_
 refine W_seq_reg ?_
 refine WL_buildSlice (vs := []) hC0 Try.underlying47 ty70 rfl rfl rfl rfl (by simp) rfl rfl (fun b1 w1 hC1 hB1 => ?_)
 have hC2 := hC1.row0 (α := (Int × (List Int)))
 have hC3 := hC2.front 1 rfl
 dsimp only [List.eraseIdx, List.cons_append, List.nil_append, List.append_nil] at hC3
 have hC4 : Ctx [] w0 w1 (Item.own (.slice (some ⟨b1, 0, none⟩) 0 0) (([] : List (Int × (List Int))) : List (Int × (List Int))) :: []) := hC3.rowOwn (by simp [maxLen])
 refine WL_assign rfl rfl ?_
 refine WL_nil ?_
 refine W_seq ?_
 refine W_seq_reg ?_
 refine WL_move rfl rfl ?_
 refine WL_len Try.underlying47 g1 rfl rfl ?_
 refine WL_move rfl rfl ?_
 refine WL_nil ?_
 obtain ⟨r1, hr1, hF⟩ := bind_some hF
 refine W_norm (fun l w => ∃ v2 : Value, ∃ x3 : (List (Int × (List Int))), x3 = r1 ∧ l = [(3, v2)] ∧ Ctx [] w0 w [Item.own v2 (x3 : (List (Int × (List Int))))]) ?_ ?_
 ·refine W_block ?_
  refine W.sub (l' := [(3, (.slice (some ⟨b1, 0, none⟩) 0 0)), (7, u1), (8, (.int .i64 (List.length a1 : Int))), (9, (.int .i64 0))]) ?_ ⟨rfl, rfl, rfl, rfl, trivial⟩
  refine W_loop (fun k l w => ∃ v1 : Value, ∃ x1 : (List (Int × (List Int))), ∃ x2 : Int, l = [(3, v1), (7, u1), (8, (.int .i64 (List.length a1 : Int))), (9, (.int .i64 x2))] ∧ Ctx [] w0 w [Item.own v1 (x1 : (List (Int × (List Int))))] ∧ M.copyAtoms_l1 a1 k x1 x2 = some r1) FUEL ⟨(.slice (some ⟨b1, 0, none⟩) 0 0), ([] : List (Int × (List Int))), 0, rfl, hC4, hr1⟩ ?_
  clear hr1
  rintro k1 _ w2 ⟨v1, x1, x2, rfl, hC5, hL1⟩
  cases k1 with
  | zero => rw [M.copyAtoms_l1] at hL1; cases hL1
  | succ k1 =>
   rw [M.copyAtoms_l1] at hL1
   refine W_seq_reg ?_
   refine WL_lss rfl rfl rfl ?_
   refine WL_nil ?_
   refine W_seq ?_
   refine W_cond rfl (fun hc1 => ?_) (fun hc1 => ?_)
   ·replace hL1 := ite_t hL1 hc1
    refine W_skip ?_
    refine nrm_normal ?_
    refine W_seq ?_
    refine W_block ?_
    refine W_seq_reg ?_
    obtain ⟨x4, hx1, hL1⟩ := bind_some hL1
    refine WL_index Try.underlying47 ty70 g1 hx1 rfl rfl rfl (fun b2 o1 h1 => ?_)
    refine WL_load ty70 h1 hC5.keep rfl rfl (fun v3 h2 => ?_)
    obtain ⟨v4, rfl, h3⟩ := ro_st70 h2
    refine WL_allocK hC5 zero70 rfl rfl (fun b3 w3 hC6 hB3 hN1 => ?_)
    refine WL_store_box_aggK (cs' := [(.int .i64 x4.1), v4]) (new := [(.int .i64 x4.1), v4]) hC6 0 rfl rfl (by intro v hv; simp only [List.mem_cons, List.not_mem_nil, or_false] at hv; rcases hv with rfl | rfl; exact rfl; exact (ro_one h3)) rfl Try.sizeOf70 rfl rfl (fun w4 hC7 hKp1 => ?_)
    try dsimp only [List.set] at hC7
    have hk1 := Keep.over (Keep.of hB3) hN1 hKp1
    refine WL_nil ?_
    refine W_reg ?_
    refine WL_move rfl rfl ?_
    refine WL_load_box_agg [(.int .i64 x4.1), v4] hC7 0 rfl rfl rfl Try.isAgg70 Try.sizeOf70 rfl rfl ?_
    obtain ⟨x5, hr2, hL1⟩ := bind_some hL1
    refine WL_call Try.call62 rfl rfl (c_M_copyAtom (x4.1, x4.2) v4 (h3.now hC7.keep) x5 hr2) ?_
    rintro v5 w5 ⟨hB4, F1, hv1, hn1, hb1⟩
    have hC8 := hC7.push hB4 (A := Item.own v5 x5) hv1 hn1 hb1
    obtain ⟨v6, rfl, hC9⟩ := st70_own hC8
    refine WL_buildSlice (vs := [(.agg #[(.int .i64 x5.1), v6])]) hC9 Try.underlying47 ty70 rfl rfl rfl rfl (by intro v hv; simp only [List.mem_cons, List.not_mem_nil, or_false] at hv; rcases hv with rfl <;> rfl) rfl rfl (fun b4 w6 hC10 hB5 => ?_)
    have hC11 := hC10.row0 (α := (Int × (List Int)))
    have hC13 := hC11.f2
    have hC12 := own_st70 x5.1 v6 x5.2 hC13
    have hC14 := hC12.row1
    have hC15 := hC14.front 1 rfl
    dsimp only [List.eraseIdx, List.cons_append, List.nil_append, List.append_nil] at hC15
    have hC16 : Ctx [] w0 w6 (Item.own (.slice (some ⟨b4, 0, none⟩) 1 1) ([(x5.1, x5.2)] : List (Int × (List Int))) :: [Item.box b3 [(.int .i64 x4.1), v4], Item.own v1 (x1 : (List (Int × (List Int))))]) := hC15.rowOwn (by simp [maxLen])
    obtain ⟨x6, hx2, hL1⟩ := bind_some hL1
    refine WL_append_head hC16 1 rfl Try.underlying47 ty70 rfl hx2 rfl rfl rfl (fun v7 w7 hC17 => ?_)
    try dsimp only [List.set] at hC17
    refine WL_assign rfl rfl ?_
    refine WL_nil ?_
    refine blk_normal ?_
    refine nrm_normal ?_
    refine W_reg ?_
    refine WL_add rfl rfl rfl ?_
    refine WL_move rfl rfl ?_
    refine WL_nil ?_
    have hC19 := hC17.f1
    have hC20 := hC19.h1
    refine nrm_sub (l' := [(3, v7), (7, u1), (8, (.int .i64 (List.length a1 : Int))), (9, (.int .i64 (w64 (x2 + 1))))]) ⟨rfl, rfl, rfl, rfl, trivial⟩ ?_
    exact ⟨k1, Nat.lt_succ_self _, v7, x6, w64 (x2 + 1), rfl, hC20, hL1⟩
   replace hL1 := ite_f hL1 hc1
   refine W_exit ?_
   refine nrm_exit ?_
   refine nrm_exit ?_
   refine blk_exit ?_
   have hq1 := Option.some.inj hL1
   subst hq1
   refine nrm_sub (l' := [(3, v1)]) ⟨rfl, trivial⟩ ?_
   exact ⟨v1, x1, rfl, rfl, hC5⟩
 rintro l2 _ w9 hs2 ⟨v2, x3, rfl, rfl, hC21⟩
 try dsimp only at hF
 refine nrm_sub' hs2 ?_
 clear hs2
 refine W_seq_reg ?_
 refine WL_move rfl rfl ?_
 refine WL_assign rfl rfl ?_
 refine WL_nil ?_
 refine W_ret ?_
 have hq2 := Option.some.inj hF
 subst hq2
 refine fn_ret1 rfl rfl ?_
 exact ⟨_, rfl, own_res hC21 0 rfl⟩

theorem c_M_copyQuery {w0 : World} (a1 : ((List Int) × (List (Int × (List Int))))) (u1 : Value) (g1 : RO [] w0 u1 a1.1) (u2 : Value) (g2 : RO [] w0 u2 a1.2) (rr : ((List Int) × (List (Int × (List Int))))) (hF : M.copyQuery a1 = some rr) :
 Calls Try.prog 45 [(.agg #[u1, u2])].toArray w0 fun e w' => ∃ v, e = .returned v ∧ Res w0 rr v w' := by
 refine calls_of_W Try.func45 rfl rfl ?_
 have hC0 := Ctx.start w0
 unfold M.copyQuery at hF
 refine W_seq_reg ?_
 refine WL_boxK (cs := [u1, u2]) hC0 rfl rfl rfl (fun b1 w1 hC1 hB1 hN1 => ?_)
 refine WL_allocK hC1 zero49 rfl rfl (fun b2 w2 hC2 hB2 hN2 => ?_)
 refine WL_nil ?_
 refine W_seq ?_
 refine W_drawn 8 rfl hmix (fun w3 hB3 => ?_)
 have hC3 := hC2.grow hB3
 refine WA_tk 0 (by kernel_rfl) rfl rfl (fl_field Try.underlying49 rfl rfl (fun w => ⟨_, Try.sizeOf28 w⟩) rfl) ?_
 refine WL_field Try.underlying49 rfl rfl (fun w => ⟨_, Try.sizeOf28 w⟩) rfl rfl ?_
 refine WL_nil ?_
 refine WA_tk 3 (by kernel_rfl) rfl rfl (fl_field Try.underlying49 rfl rfl (fun w => ⟨_, Try.sizeOf47 w⟩) rfl) ?_
 refine WL_field Try.underlying49 rfl rfl (fun w => ⟨_, Try.sizeOf47 w⟩) rfl rfl ?_
 refine WL_nil ?_
 obtain ⟨x1, hr1, hF⟩ := bind_some hF
 refine WA.sub (l' := [(0, (.agg #[u1, u2])), (1, (ptr b1 0)), (2, (ptr b2 0)), (3, (ptr b1 0)), (6, (ptr b1 1))]) ?_ ⟨rfl, rfl, rfl, rfl, rfl, trivial⟩
 refine WA_postsE [⟨1, [], fun vs => PW.val u1, []⟩, ⟨2, [], fun vs => PW.own x1, []⟩, ⟨4, [], fun vs => PW.val u2, []⟩] [[], [1], []] 3 rfl (by kernel_rfl) (by kernel_rfl) rfl ?_ ?_
 ·refine StepsE_cons rfl ?_ ?_
  ·intro w5 hB5
   refine DepsE_nil ?_
   refine ⟨_, rfl, ?_⟩
   refine WL_load_box (hC3.grow hB5) 1 rfl rfl Try.isAgg28 rfl rfl ?_
   refine WL_nil ?_
   exact FinE_val (Below.refl _ _) rfl rfl ⟨rfl, rfl⟩
  refine StepsE_cons rfl ?_ ?_
  ·intro w5 hB5
   refine DepsE_cons rfl rfl rfl ?_
   rintro _ _ ⟨rfl, rfl⟩ _
   refine DepsE_nil ?_
   refine ⟨_, rfl, ?_⟩
   refine WL_call Try.call59 rfl rfl (c_Slices_Clone_Lint_int a1.1 u1 (g1.now (hC3.keep.then hB5)) x1 hr1) ?_
   rintro v1 w4 ⟨hB4, F1, hv1, hn1, hb1⟩
   refine WL_nil ?_
   exact FinE_own hB4 rfl rfl hv1 hn1 hb1 (Val.inh hv1)
  refine StepsE_cons rfl ?_ ?_
  ·intro w5 hB5
   refine DepsE_nil ?_
   refine ⟨_, rfl, ?_⟩
   refine WL_load_box (hC3.grow hB5) 1 rfl rfl Try.isAgg47 rfl rfl ?_
   refine WL_nil ?_
   exact FinE_val (Below.refl _ _) rfl rfl ⟨rfl, rfl⟩
  exact StepsE_nil
 intro w6 hB6
 refine AllE_cons rfl rfl rfl ?_
 rintro _ _ ⟨rfl, rfl⟩
 refine AllE_cons rfl rfl rfl ?_
 intro v1 F1 hv1
 refine AllE_cons rfl rfl rfl ?_
 rintro _ _ ⟨rfl, rfl⟩
 refine AllE_nil ?_
 intro hn2 hb2
 have hC4 := hC3.pushL hB6 (Bs := [Item.own v1 (x1 : (List Int))]) (Fs := [F1]) ⟨F1, _, rfl, hv1, rfl⟩ (by simpa using hn2) (fun b h => (hb2 b (by simpa using h)).1)
 obtain ⟨x2, hr2, hF⟩ := bind_some hF
 refine WA_one 5 (by kernel_rfl) rfl ?_
 refine WL_call Try.call60 rfl rfl (c_M_copyAtoms a1.2 u2 (g2.now hC4.keep) x2 hr2) ?_
 rintro v2 w7 ⟨hB7, F2, hv2, hn3, hb3⟩
 have hC5 := hC4.push hB7 (A := Item.own v2 x2) hv2 hn3 hb3
 refine WL_nil ?_
 refine WA_tk 6 (by kernel_rfl) rfl rfl (fl_build (vs := [(0, v1), (1, v2)]) rfl rfl (built49_0_1 (ro_cells (hC5.ro 1 rfl)) (ro_cells (hC5.ro 0 rfl)))) ?_
 refine WL_build (vs := [(0, v1), (1, v2)]) rfl rfl rfl (built49_0_1 (ro_cells (hC5.ro 1 rfl)) (ro_cells (hC5.ro 0 rfl))) ?_
 refine WL_nil ?_
 refine WA_one 7 (by kernel_rfl) rfl ?_
 refine WL_store_box_aggK (cs' := [v1, v2]) (new := [v1, v2]) hC5 2 rfl rfl (by intro v hv; simp only [List.mem_cons, List.not_mem_nil, or_false] at hv; rcases hv with rfl | rfl; exact (ro_one (hC5.ro 1 rfl)); exact (ro_one (hC5.ro 0 rfl))) rfl Try.sizeOf49 rfl rfl (fun w9 hC6 hKp1 => ?_)
 try dsimp only [List.set] at hC6
 have hk1 := Keep.over (((((Keep.of hB1).then hB2).then hB3).then hB6).then hB7) (Nat.le_trans (Keep.of hB1).size hN2) hKp1
 have hk2 := Keep.over ((((Keep.of hB2).then hB3).then hB6).then hB7) hN2 hKp1
 refine WL_nil ?_
 refine WA_done (by kernel_rfl) ?_
 refine nrm_normal ?_
 refine W_ret ?_
 have hq1 := Option.some.inj hF
 subst hq1
 refine fn_retG1 rfl (rv_cell_agg (cs' := [v1, v2]) hC6 (i := 2) rfl rfl rfl Try.isAgg49 Try.sizeOf49 rfl) ?_
 have hC9 := hC6.f1
 have hC7 := own_st49 v1 x1 v2 x2 hC9
 exact ⟨_, rfl, own_res hC7 0 rfl⟩

theorem c_M_isValue {w0 : World} (a1 : Int) (rr : Bool) (hF : M.isValue a1 = some rr) :
 Calls Try.prog 46 [(.int .i64 a1)].toArray w0 fun e w' => ∃ v, e = .returned v ∧ Res w0 rr v w' := by
 refine calls_of_W Try.func46 rfl rfl ?_
 have hC0 := Ctx.start w0
 unfold M.isValue at hF
 refine W_seq_reg ?_
 refine WL_assign rfl rfl ?_
 refine WL_nil ?_
 refine W_seq_reg ?_
 refine WL_move rfl rfl ?_
 obtain ⟨x1, hr1, hF⟩ := bind_some hF
 refine WL_call Try.call32 rfl rfl (c_M_within a1 0 9 x1 hr1) ?_
 intro _ w1 hv1
 obtain ⟨rfl, hB1⟩ := res_bool hv1
 have hC1 := hC0.grow hB1
 refine WL_assign rfl rfl ?_
 refine WL_nil ?_
 refine W_ret ?_
 have hq1 := Option.some.inj hF
 subst hq1
 refine fn_ret1 rfl rfl ?_
 exact ⟨_, rfl, bool_res hC1 _⟩

theorem c_M_swapped {w0 : World} (a1 : (List Int)) (u1 : Value) (g1 : RO [] w0 u1 a1) (a2 : Int) (a3 : Int) (rr : (List Int)) (hF : M.swapped a1 a2 a3 = some rr) :
 Calls Try.prog 47 [u1, (.int .i64 a2), (.int .i64 a3)].toArray w0 fun e w' => ∃ v, e = .returned v ∧ Res w0 rr v w' := by
 refine calls_of_W Try.func47 rfl rfl ?_
 have hC0 := Ctx.start w0
 unfold M.swapped at hF
 refine W_seq_reg ?_
 refine WL_assign rfl rfl ?_
 refine WL_nil ?_
 refine W_seq_reg ?_
 refine WL_move rfl rfl ?_
 obtain ⟨x1, hr1, hF⟩ := bind_some hF
 refine WL_call Try.call59 rfl rfl (c_Slices_Clone_Lint_int a1 u1 (g1.now hC0.keep) x1 hr1) ?_
 rintro v1 w1 ⟨hB1, F1, hv1, hn1, hb1⟩
 have hC1 := hC0.push hB1 (A := Item.own v1 x1) hv1 hn1 hb1
 refine WL_assign rfl rfl ?_
 refine WL_nil ?_
 refine W_seq ?_
 refine W_seq_reg ?_
 refine WL_move rfl rfl ?_
 refine WL_len Try.underlying28 g1 rfl rfl ?_
 refine WL_move rfl rfl ?_
 refine WL_nil ?_
 obtain ⟨r1, hr2, hF⟩ := bind_some hF
 refine W_norm (fun l w => ∃ x4 : (List Int), x4 = r1 ∧ l = [(7, v1)] ∧ Ctx [] w0 w [Item.own v1 (x4 : (List Int))]) ?_ ?_
 ·refine W_block ?_
  refine W.sub (l' := [(1, (.int .i64 a2)), (2, (.int .i64 a3)), (7, v1), (12, u1), (13, (.int .i64 (List.length a1 : Int))), (14, (.int .i64 0))]) ?_ ⟨rfl, rfl, rfl, rfl, rfl, rfl, trivial⟩
  refine W_loop (fun k l w => ∃ x2 : (List Int), ∃ x3 : Int, l = [(1, (.int .i64 a2)), (2, (.int .i64 a3)), (7, v1), (12, u1), (13, (.int .i64 (List.length a1 : Int))), (14, (.int .i64 x3))] ∧ Ctx [] w0 w [Item.own v1 (x2 : (List Int))] ∧ M.swapped_l1 a1 a2 a3 k x2 x3 = some r1) FUEL ⟨x1, 0, rfl, hC1, hr2⟩ ?_
  clear hr2
  rintro k1 _ w2 ⟨x2, x3, rfl, hC2, hL1⟩
  cases k1 with
  | zero => rw [M.swapped_l1] at hL1; cases hL1
  | succ k1 =>
   rw [M.swapped_l1] at hL1
   refine W_seq_reg ?_
   refine WL_lss rfl rfl rfl ?_
   refine WL_nil ?_
   refine W_seq ?_
   refine W_cond rfl (fun hc1 => ?_) (fun hc1 => ?_)
   ·replace hL1 := ite_t hL1 hc1
    refine W_skip ?_
    refine nrm_normal ?_
    refine W_seq ?_
    refine W_block ?_
    refine W_seq_reg ?_
    refine WL_move rfl rfl ?_
    obtain ⟨x5, hx1, hL1⟩ := bind_some hL1
    refine WL_index Try.underlying28 ty3 g1 hx1 rfl rfl rfl (fun b1 o1 h1 => ?_)
    refine WL_load ty3 h1 hC2.keep rfl rfl (fun v2 h2 => ?_)
    obtain rfl := ro_int h2
    refine WL_assign rfl rfl ?_
    refine WL_assign rfl rfl ?_
    refine WL_nil ?_
    refine W_seq_reg ?_
    refine WL_move rfl rfl ?_
    refine WL_nil ?_
    refine W_block ?_
    refine W_seq_reg ?_
    refine WL_move rfl rfl ?_
    refine WL_eql rfl rfl rfl ?_
    refine WL_assign rfl rfl ?_
    refine WL_nil ?_
    obtain ⟨r2, hr3, hL1⟩ := bind_some hL1
    refine W_norm (fun l w => ∃ x6 : (List Int), x6 = r2 ∧ l = [(1, (.int .i64 a2)), (2, (.int .i64 a3)), (7, v1), (12, u1), (13, (.int .i64 (List.length a1 : Int))), (14, (.int .i64 x3))] ∧ Ctx [] w0 w [Item.own v1 (x6 : (List Int))]) ?_ ?_
    ·refine W_cond rfl (fun hc2 => ?_) (fun hc2 => ?_)
     ·replace hr3 := ite_t hr3 hc2
      refine W_reg ?_
      refine WL_move rfl rfl ?_
      refine WL_move rfl rfl ?_
      refine WL_move rfl rfl ?_
      obtain ⟨x7, hx2, hr3⟩ := bind_some hr3
      refine WL_index_own hC2 0 rfl Try.underlying28 ty3 hx2 rfl rfl rfl (fun b2 hE1 => ?_)
      have hC5 := hC2.triv (int_val (a3))
      refine WL_store_elem hC5 0 rfl ty3 hE1 hx2 rfl rfl rfl (fun w4 hC4 => ?_)
      try dsimp only [List.set] at hC4
      refine WL_nil ?_
      have hq1 := Option.some.inj hr3
      subst hq1
      refine nrm_sub (l' := [(1, (.int .i64 a2)), (2, (.int .i64 a3)), (7, v1), (12, u1), (13, (.int .i64 (List.length a1 : Int))), (14, (.int .i64 x3))]) ⟨rfl, rfl, rfl, rfl, rfl, rfl, trivial⟩ ?_
      exact ⟨(List.set x2 (Int.toNat x3) a3), rfl, rfl, hC4⟩
     replace hr3 := ite_f hr3 hc2
     refine W_seq_reg ?_
     refine WL_move rfl rfl ?_
     refine WL_eql rfl rfl rfl ?_
     refine WL_assign rfl rfl ?_
     refine WL_nil ?_
     obtain ⟨r3, hr4, hr3⟩ := bind_some hr3
     refine W_norm (fun l w => ∃ x8 : (List Int), x8 = r3 ∧ l = [(1, (.int .i64 a2)), (2, (.int .i64 a3)), (7, v1), (12, u1), (13, (.int .i64 (List.length a1 : Int))), (14, (.int .i64 x3))] ∧ Ctx [] w0 w [Item.own v1 (x8 : (List Int))]) ?_ ?_
     ·refine W_cond rfl (fun hc3 => ?_) (fun hc3 => ?_)
      ·replace hr4 := ite_t hr4 hc3
       refine W_reg ?_
       refine WL_move rfl rfl ?_
       refine WL_move rfl rfl ?_
       refine WL_move rfl rfl ?_
       obtain ⟨x9, hx3, hr4⟩ := bind_some hr4
       refine WL_index_own hC2 0 rfl Try.underlying28 ty3 hx3 rfl rfl rfl (fun b3 hE2 => ?_)
       have hC8 := hC2.triv (int_val (a2))
       refine WL_store_elem hC8 0 rfl ty3 hE2 hx3 rfl rfl rfl (fun w6 hC7 => ?_)
       try dsimp only [List.set] at hC7
       refine WL_nil ?_
       have hq2 := Option.some.inj hr4
       subst hq2
       refine nrm_sub (l' := [(1, (.int .i64 a2)), (2, (.int .i64 a3)), (7, v1), (12, u1), (13, (.int .i64 (List.length a1 : Int))), (14, (.int .i64 x3))]) ⟨rfl, rfl, rfl, rfl, rfl, rfl, trivial⟩ ?_
       exact ⟨(List.set x2 (Int.toNat x3) a2), rfl, rfl, hC7⟩
      replace hr4 := ite_f hr4 hc3
      refine W_skip ?_
      have hq3 := Option.some.inj hr4
      subst hq3
      refine nrm_sub (l' := [(1, (.int .i64 a2)), (2, (.int .i64 a3)), (7, v1), (12, u1), (13, (.int .i64 (List.length a1 : Int))), (14, (.int .i64 x3))]) ⟨rfl, rfl, rfl, rfl, rfl, rfl, trivial⟩ ?_
      exact ⟨x2, rfl, rfl, hC2⟩
     rintro l3 _ w5 hs3 ⟨x8, rfl, rfl, hC6⟩
     try dsimp only at hr3
     have hq4 := Option.some.inj hr3
     subst hq4
     refine nrm_subs (l2 := [(1, (.int .i64 a2)), (2, (.int .i64 a3)), (7, v1), (12, u1), (13, (.int .i64 (List.length a1 : Int))), (14, (.int .i64 x3))]) hs3 ⟨rfl, rfl, rfl, rfl, rfl, rfl, trivial⟩ ?_
     exact ⟨x8, rfl, rfl, hC6⟩
    rintro l2 _ w3 hs2 ⟨x6, rfl, rfl, hC3⟩
    try dsimp only at hL1
    refine blk_normal ?_
    refine blk_normal ?_
    refine nrm_sub' hs2 ?_
    clear hs2
    refine W_reg ?_
    refine WL_add rfl rfl rfl ?_
    refine WL_move rfl rfl ?_
    refine WL_nil ?_
    refine nrm_sub (l' := [(1, (.int .i64 a2)), (2, (.int .i64 a3)), (7, v1), (12, u1), (13, (.int .i64 (List.length a1 : Int))), (14, (.int .i64 (w64 (x3 + 1))))]) ⟨rfl, rfl, rfl, rfl, rfl, rfl, trivial⟩ ?_
    exact ⟨k1, Nat.lt_succ_self _, x6, w64 (x3 + 1), rfl, hC3, hL1⟩
   replace hL1 := ite_f hL1 hc1
   refine W_exit ?_
   refine nrm_exit ?_
   refine nrm_exit ?_
   refine blk_exit ?_
   have hq5 := Option.some.inj hL1
   subst hq5
   refine nrm_sub (l' := [(7, v1)]) ⟨rfl, trivial⟩ ?_
   exact ⟨x2, rfl, rfl, hC2⟩
 rintro l4 _ w7 hs4 ⟨x4, rfl, rfl, hC9⟩
 try dsimp only at hF
 refine nrm_sub' hs4 ?_
 clear hs4
 refine W_seq_reg ?_
 refine WL_move rfl rfl ?_
 refine WL_assign rfl rfl ?_
 refine WL_nil ?_
 refine W_ret ?_
 have hq6 := Option.some.inj hF
 subst hq6
 refine fn_ret1 rfl rfl ?_
 exact ⟨_, rfl, own_res hC9 0 rfl⟩

theorem c_M_SwapValue {w0 : World} (a1 : ((List Int) × (List (Int × (List Int))))) (u1 : Value) (g1 : RO [] w0 u1 a1.1) (u2 : Value) (g2 : RO [] w0 u2 a1.2) (a2 : Int) (a3 : Int) (rr : ((List Int) × (List (Int × (List Int))))) (hF : M.SwapValue a1 a2 a3 = some rr) :
 Calls Try.prog 24 [(.agg #[u1, u2]), (.int .i64 a2), (.int .i64 a3)].toArray w0 fun e w' => ∃ v, e = .returned v ∧ Res w0 rr v w' := by
 refine calls_of_W Try.func24 rfl rfl ?_
 have hC0 := Ctx.start w0
 unfold M.SwapValue at hF
 refine W_seq_reg ?_
 refine WL_boxK (cs := [u1, u2]) hC0 rfl rfl rfl (fun b1 w1 hC1 hB1 hN1 => ?_)
 refine WL_allocK hC1 zero49 rfl rfl (fun b2 w2 hC2 hB2 hN2 => ?_)
 refine WL_nil ?_
 refine W_seq_reg ?_
 refine WL_load_box_agg [u1, u2] hC2 1 rfl rfl rfl Try.isAgg49 Try.sizeOf49 rfl rfl ?_
 obtain ⟨x1, hr1, hF⟩ := bind_some hF
 refine WL_call Try.call45 rfl rfl (c_M_copyQuery (a1.1, a1.2) u1 (g1.now hC2.keep) u2 (g2.now hC2.keep) x1 hr1) ?_
 rintro v1 w3 ⟨hB3, F1, hv1, hn1, hb1⟩
 have hC3 := hC2.push hB3 (A := Item.own v1 x1) hv1 hn1 hb1
 obtain ⟨v2, v3, rfl, hC4⟩ := st49_own hC3
 refine WL_allocK hC4 zero49 rfl rfl (fun b3 w4 hC5 hB4 hN3 => ?_)
 refine WL_store_box_aggK (cs' := [v2, v3]) (new := [v2, v3]) hC5 0 rfl rfl (by intro v hv; simp only [List.mem_cons, List.not_mem_nil, or_false] at hv; rcases hv with rfl | rfl; exact (ro_one (hC5.ro 1 rfl)); exact (ro_one (hC5.ro 2 rfl))) rfl Try.sizeOf49 rfl rfl (fun w5 hC6 hKp1 => ?_)
 try dsimp only [List.set] at hC6
 have hk1 := Keep.over ((((Keep.of hB1).then hB2).then hB3).then hB4) (Nat.le_trans (((Keep.of hB1).then hB2).then hB3).size hN3) hKp1
 have hk2 := Keep.over (((Keep.of hB2).then hB3).then hB4) (Nat.le_trans ((Keep.of hB2).then hB3).size hN3) hKp1
 have hk3 := Keep.over ((Keep.of hB3).then hB4) (Nat.le_trans (Keep.of hB3).size hN3) hKp1
 have hk4 := Keep.over (Keep.of hB4) hN3 hKp1
 refine WL_nil ?_
 refine W_seq ?_
 obtain ⟨r1, hr2, hF⟩ := bind_some hF
 refine W_cut (fun l w => ∃ x2 : Bool, x2 = r1 ∧ l = [(1, (.int .i64 a2)), (2, (.int .i64 a3)), (6, (ptr b2 0)), (7, (ptr b3 0)), (17, (.bool x2))] ∧ Below w5.heap.size w5 w ∧ Ctx [] w0 w [Item.box b3 [v2, v3], Item.own v2 (x1.1 : (List Int)), Item.own v3 (x1.2 : (List (Int × (List Int)))), Item.box b2 [(.slice none 0 0), (.slice none 0 0)]]) ?_ ?_
 ·refine W_reg ?_
  refine WL_move rfl rfl ?_
  obtain ⟨x3, hr3, hr2⟩ := bind_some hr2
  refine WL_call Try.call46 rfl rfl (c_M_isValue a2 x3 hr3) ?_
  intro _ w7 hv2
  obtain ⟨rfl, hB6⟩ := res_bool hv2
  have hC8 := hC6.grow hB6
  refine WL_move rfl rfl ?_
  refine WL_fork (fun hc1 => ?_) (fun hc1 => ?_)
  ·replace hr2 := ite_t hr2 hc1
   refine WL_guard rfl rfl ?_
   refine WL_move rfl rfl ?_
   obtain ⟨x4, hr4, hr2⟩ := bind_some hr2
   refine WL_guard rfl rfl ?_
   refine WL_call Try.call46 rfl rfl (c_M_isValue a3 x4 hr4) ?_
   intro _ w9 hv3
   obtain ⟨rfl, hB7⟩ := res_bool hv3
   have hC9 := hC8.grow hB7
   refine WL_pick_t rfl rfl rfl ?_
   refine WL_nil ?_
   have hq1 := Option.some.inj hr2
   subst hq1
   have hC10 := hC9.f3
   have hC11 := hC10.f3
   have hC12 := hC11.f3
   have hC13 := hC12.f3
   have hC14 := hC13.h4
   refine nrm_sub (l' := [(1, (.int .i64 a2)), (2, (.int .i64 a3)), (6, (ptr b2 0)), (7, (ptr b3 0)), (17, (.bool x4))]) ⟨rfl, rfl, rfl, rfl, rfl, trivial⟩ ?_
   exact ⟨x4, rfl, rfl, ((Keep.of hB6).then hB7).below, hC14⟩
  replace hr2 := ite_f hr2 hc1
  refine WL_guard_skip rfl rfl (by simp) rfl ?_
  refine WL_guard_skip rfl rfl (by simp) rfl ?_
  refine WL_pick_f rfl rfl rfl ?_
  refine WL_nil ?_
  have hq2 := Option.some.inj hr2
  subst hq2
  have hC15 := hC8.f3
  have hC16 := hC15.f3
  have hC17 := hC16.f3
  have hC18 := hC17.f3
  have hC19 := hC18.h4
  refine nrm_sub (l' := [(1, (.int .i64 a2)), (2, (.int .i64 a3)), (6, (ptr b2 0)), (7, (ptr b3 0)), (17, (.bool false))]) ⟨rfl, rfl, rfl, rfl, rfl, trivial⟩ ?_
  exact ⟨false, rfl, rfl, (Keep.of hB6).below, hC19⟩
 rintro _ w6 ⟨x2, rfl, rfl, hB5, hC7⟩
 try dsimp only at hF
 refine W_cond rfl (fun hc2 => ?_) (fun hc2 => ?_)
 ·replace hF := ite_t hF hc2
  refine W_seq_reg ?_
  refine WL_field Try.underlying49 rfl rfl (fun w => ⟨_, Try.sizeOf47 w⟩) rfl rfl ?_
  refine WL_load_box hC7 0 rfl rfl Try.isAgg47 rfl rfl ?_
  refine WL_len Try.underlying47 (hC7.ro 2 rfl) rfl rfl ?_
  refine WL_move rfl rfl ?_
  refine WL_nil ?_
  obtain ⟨r2, hr5, hF⟩ := bind_some hF
  refine W_norm (fun l w => ∃ x7 : (List (Int × (List Int))), x7 = r2 ∧ l = [(6, (ptr b2 0)), (7, (ptr b3 0))] ∧ Ctx [] w0 w [Item.box b3 [v2, v3], Item.own v2 (x1.1 : (List Int)), Item.own v3 (x7 : (List (Int × (List Int)))), Item.box b2 [(.slice none 0 0), (.slice none 0 0)]]) ?_ ?_
  ·refine W_block ?_
   refine W.sub (l' := [(1, (.int .i64 a2)), (2, (.int .i64 a3)), (6, (ptr b2 0)), (7, (ptr b3 0)), (19, v3), (20, (.int .i64 (List.length x1.2 : Int))), (21, (.int .i64 0))]) ?_ ⟨rfl, rfl, rfl, rfl, rfl, rfl, rfl, trivial⟩
   refine W_loop (fun k l w => ∃ x5 : (List (Int × (List Int))), ∃ x6 : Int, l = [(1, (.int .i64 a2)), (2, (.int .i64 a3)), (6, (ptr b2 0)), (7, (ptr b3 0)), (19, v3), (20, (.int .i64 (List.length x1.2 : Int))), (21, (.int .i64 x6))] ∧ Ctx [] w0 w [Item.box b3 [v2, v3], Item.own v2 (x1.1 : (List Int)), Item.own v3 (x5 : (List (Int × (List Int)))), Item.box b2 [(.slice none 0 0), (.slice none 0 0)]] ∧ M.SwapValue_l1 x1 a2 a3 k x5 x6 = some r2) FUEL ⟨x1.2, 0, rfl, hC7, hr5⟩ ?_
   clear hr5
   rintro k1 _ w10 ⟨x5, x6, rfl, hC20, hL1⟩
   cases k1 with
   | zero => rw [M.SwapValue_l1] at hL1; cases hL1
   | succ k1 =>
    rw [M.SwapValue_l1] at hL1
    refine W_seq_reg ?_
    refine WL_lss rfl rfl rfl ?_
    refine WL_nil ?_
    refine W_seq ?_
    refine W_cond rfl (fun hc3 => ?_) (fun hc3 => ?_)
    ·replace hL1 := ite_t hL1 hc3
     refine W_skip ?_
     refine nrm_normal ?_
     refine W_seq ?_
     refine W_block ?_
     refine W_seq_reg ?_
     refine WL_move rfl rfl ?_
     obtain ⟨x8, hx1, hL1⟩ := bind_some hL1
     refine WL_index Try.underlying47 ty70 (hC20.ro 2 rfl) hx1 rfl rfl rfl (fun b4 o1 h1 => ?_)
     refine WL_load ty70 h1 (Keep.refl _ _) rfl rfl (fun v4 h2 => ?_)
     obtain ⟨v5, rfl, h3⟩ := ro_st70 h2
     refine WL_allocK hC20 zero70 rfl rfl (fun b5 w11 hC21 hB9 hN4 => ?_)
     refine WL_assign rfl rfl ?_
     refine WL_store_box_aggK (cs' := [(.int .i64 x8.1), v5]) (new := [(.int .i64 x8.1), v5]) hC21 0 rfl rfl (by intro v hv; simp only [List.mem_cons, List.not_mem_nil, or_false] at hv; rcases hv with rfl | rfl; exact rfl; exact (ro_one h3)) rfl Try.sizeOf70 rfl rfl (fun w12 hC22 hKp2 => ?_)
     try dsimp only [List.set] at hC22
     have hk5 := Keep.over (Keep.of hB9) hN4 hKp2
     refine WL_nil ?_
     refine W_drawn 11 rfl hmix (fun w13 hB10 => ?_)
     have hC23 := hC22.grow hB10
     refine WA_tk 0 (by kernel_rfl) rfl rfl (fl_field Try.underlying49 rfl rfl (fun w => ⟨_, Try.sizeOf47 w⟩) rfl) ?_
     refine WL_field Try.underlying49 rfl rfl (fun w => ⟨_, Try.sizeOf47 w⟩) rfl rfl ?_
     refine WL_nil ?_
     refine WA_tk 2 (by kernel_rfl) rfl rfl (fl_move rfl) ?_
     refine WL_move rfl rfl ?_
     refine WL_nil ?_
     refine WA_tk 3 (by kernel_rfl) rfl rfl (fl_field Try.underlying70 rfl rfl (fun w => ⟨_, Try.sizeOf28 w⟩) rfl) ?_
     refine WL_field Try.underlying70 rfl rfl (fun w => ⟨_, Try.sizeOf28 w⟩) rfl rfl ?_
     refine WL_nil ?_
     refine WA_tk 5 (by kernel_rfl) rfl rfl (fl_move rfl) ?_
     refine WL_move rfl rfl ?_
     refine WL_nil ?_
     refine WA_tk 6 (by kernel_rfl) rfl rfl (fl_move rfl) ?_
     refine WL_move rfl rfl ?_
     refine WL_nil ?_
     obtain ⟨x9, hr6, hL1⟩ := bind_some hL1
     refine WA.sub (l' := [(1, (.int .i64 a2)), (2, (.int .i64 a3)), (6, (ptr b2 0)), (7, (ptr b3 0)), (8, (.int .i64 x6)), (9, (ptr b5 0)), (19, v3), (20, (.int .i64 (List.length x1.2 : Int))), (21, (.int .i64 x6)), (22, (.bool (decide (x6 < (List.length x1.2 : Int))))), (23, (.int .i64 x6)), (24, (ptr b4 o1)), (25, (.agg #[(.int .i64 x8.1), v5])), (26, (ptr b3 1)), (28, (.int .i64 x6)), (29, (ptr b5 1)), (31, (.int .i64 a2)), (32, (.int .i64 a3))]) ?_ ⟨rfl, rfl, rfl, rfl, rfl, rfl, rfl, rfl, rfl, rfl, rfl, rfl, rfl, rfl, rfl, rfl, rfl, rfl, trivial⟩
     refine WA_postsE [⟨1, [], fun vs => PW.val v3, []⟩, ⟨4, [], fun vs => PW.val v5, []⟩, ⟨7, [], fun vs => PW.own x9, []⟩] [[], [], [4]] 3 rfl (by kernel_rfl) (by kernel_rfl) rfl ?_ ?_
     ·refine StepsE_cons rfl ?_ ?_
      ·intro w15 hB12
       refine DepsE_nil ?_
       refine ⟨_, rfl, ?_⟩
       refine WL_load_box (hC23.grow hB12) 1 rfl rfl Try.isAgg47 rfl rfl ?_
       refine WL_nil ?_
       exact FinE_val (Below.refl _ _) rfl rfl ⟨rfl, rfl⟩
      refine StepsE_cons rfl ?_ ?_
      ·intro w15 hB12
       refine DepsE_nil ?_
       refine ⟨_, rfl, ?_⟩
       refine WL_load_box (hC23.grow hB12) 0 rfl rfl Try.isAgg28 rfl rfl ?_
       refine WL_nil ?_
       exact FinE_val (Below.refl _ _) rfl rfl ⟨rfl, rfl⟩
      refine StepsE_cons rfl ?_ ?_
      ·intro w15 hB12
       refine DepsE_cons rfl rfl rfl ?_
       rintro _ _ ⟨rfl, rfl⟩ _
       refine DepsE_nil ?_
       refine ⟨_, rfl, ?_⟩
       refine WL_call Try.call47 rfl rfl (c_M_swapped x8.2 v5 (h3.now ((hk5.then hB10).then hB12)) a2 a3 x9 hr6) ?_
       rintro v6 w14 ⟨hB11, F2, hv4, hn2, hb2⟩
       refine WL_nil ?_
       exact FinE_own hB11 rfl rfl hv4 hn2 hb2 (Val.inh hv4)
      exact StepsE_nil
     intro w16 hB13
     refine AllE_cons rfl rfl rfl ?_
     rintro _ _ ⟨rfl, rfl⟩
     refine AllE_cons rfl rfl rfl ?_
     rintro _ _ ⟨rfl, rfl⟩
     refine AllE_cons rfl rfl rfl ?_
     intro v6 F2 hv4
     refine AllE_nil ?_
     intro hn3 hb3
     have hC24 := hC23.pushL hB13 (Bs := [Item.own v6 (x9 : (List Int))]) (Fs := [F2]) ⟨F2, _, rfl, hv4, rfl⟩ (by simpa using hn3) (fun b h => (hb3 b (by simpa using h)).1)
     obtain ⟨x10, hx2, hL1⟩ := bind_some hL1
     refine WA_tk 8 (by kernel_rfl) rfl rfl (fl_index_own hC24 4 rfl Try.underlying47 ty70 hx2 rfl rfl) ?_
     refine WL_index_own hC24 4 rfl Try.underlying47 ty70 hx2 rfl rfl rfl (fun b6 hE1 => ?_)
     refine WL_nil ?_
     refine WA_tk 9 (by kernel_rfl) rfl rfl (fl_field Try.underlying70 rfl rfl (fun w => ⟨_, Try.sizeOf28 w⟩) rfl) ?_
     refine WL_field Try.underlying70 rfl rfl (fun w => ⟨_, Try.sizeOf28 w⟩) rfl rfl ?_
     refine WL_nil ?_
     refine WA_one 10 (by kernel_rfl) rfl ?_
     have hC26 := hC24.f4
     obtain ⟨cs1, hC27⟩ := hC26.openElem hx2
     obtain ⟨v7, he1, hC28⟩ := st70_own (hC27.cellsOwn rfl)
     obtain rfl := cells_of_agg he1
     refine WL_store_hole (fo := 1) (cs' := [(.int .i64 x10.1), v6]) hC28 1 rfl hE1 rfl rfl rfl (ro_one (hC28.ro 2 rfl)) Try.sizeOf28 rfl rfl (fun w17 hC25 => ?_)
     try dsimp only [List.set] at hC25
     have hC29 := hC25.f1
     have hC31 := hC29.f2
     have hC30 := own_st70 x10.1 v6 x9 hC31
     have hC32 := hC30.ownCells.closeElem
     refine WL_nil ?_
     refine WA_done (by kernel_rfl) ?_
     refine blk_normal ?_
     refine nrm_normal ?_
     refine W_reg ?_
     refine WL_add rfl rfl rfl ?_
     refine WL_move rfl rfl ?_
     refine WL_nil ?_
     have hC33 := hC32.f5
     have hC34 := hC33.f1
     have hC35 := hC34.f5
     have hC36 := hC35.f5
     have hC37 := hC36.h4
     refine nrm_sub (l' := [(1, (.int .i64 a2)), (2, (.int .i64 a3)), (6, (ptr b2 0)), (7, (ptr b3 0)), (19, v3), (20, (.int .i64 (List.length x1.2 : Int))), (21, (.int .i64 (w64 (x6 + 1))))]) ⟨rfl, rfl, rfl, rfl, rfl, rfl, rfl, trivial⟩ ?_
     exact ⟨k1, Nat.lt_succ_self _, (List.set x5 (Int.toNat x6) (x10.1, x9)), w64 (x6 + 1), rfl, hC37, hL1⟩
    replace hL1 := ite_f hL1 hc3
    refine W_exit ?_
    refine nrm_exit ?_
    refine nrm_exit ?_
    refine blk_exit ?_
    have hq3 := Option.some.inj hL1
    subst hq3
    refine nrm_sub (l' := [(6, (ptr b2 0)), (7, (ptr b3 0))]) ⟨rfl, rfl, trivial⟩ ?_
    exact ⟨x5, rfl, rfl, hC20⟩
  rintro l3 _ w18 hs3 ⟨x7, rfl, rfl, hC38⟩
  try dsimp only at hF
  refine nrm_sub' hs3 ?_
  clear hs3
  refine W_seq_reg ?_
  refine WL_load_box_agg [v2, v3] hC38 0 rfl rfl rfl Try.isAgg49 Try.sizeOf49 rfl rfl ?_
  refine WL_store_box_aggK (cs' := [v2, v3]) (new := [v2, v3]) hC38 3 rfl rfl (by intro v hv; simp only [List.mem_cons, List.not_mem_nil, or_false] at hv; rcases hv with rfl | rfl; exact (ro_one (hC38.ro 1 rfl)); exact (ro_one (hC38.ro 2 rfl))) rfl Try.sizeOf49 rfl rfl (fun w19 hC39 hKp4 => ?_)
  try dsimp only [List.set] at hC39
  refine WL_nil ?_
  refine W_ret ?_
  have hq4 := Option.some.inj hF
  subst hq4
  refine fn_retG1 rfl (rv_cell_agg (cs' := [v2, v3]) hC39 (i := 3) rfl rfl rfl Try.isAgg49 Try.sizeOf49 rfl) ?_
  have hC41 := hC39.f2
  have hC42 := hC41.f2
  have hC40 := own_st49 v2 x1.1 v3 x7 hC42
  exact ⟨_, rfl, own_res hC40 0 rfl⟩
 replace hF := ite_f hF hc2
 refine W_skip ?_
 refine nrm_normal ?_
 refine W_seq_reg ?_
 refine WL_load_box_agg [v2, v3] hC7 0 rfl rfl rfl Try.isAgg49 Try.sizeOf49 rfl rfl ?_
 refine WL_store_box_aggK (cs' := [v2, v3]) (new := [v2, v3]) hC7 3 rfl rfl (by intro v hv; simp only [List.mem_cons, List.not_mem_nil, or_false] at hv; rcases hv with rfl | rfl; exact (ro_one (hC7.ro 1 rfl)); exact (ro_one (hC7.ro 2 rfl))) rfl Try.sizeOf49 rfl rfl (fun w20 hC43 hKp5 => ?_)
 try dsimp only [List.set] at hC43
 have hk6 := Keep.over (hk1.then hB5) (Nat.le_trans (Keep.of hB1).size hN2) hKp5
 have hk7 := Keep.over (hk2.then hB5) hN2 hKp5
 refine WL_nil ?_
 refine W_ret ?_
 have hq5 := Option.some.inj hF
 subst hq5
 refine fn_retG1 rfl (rv_cell_agg (cs' := [v2, v3]) hC43 (i := 3) rfl rfl rfl Try.isAgg49 Try.sizeOf49 rfl) ?_
 have hC45 := hC43.f2
 have hC46 := hC45.f2
 have hC44 := own_st49 v2 x1.1 v3 x1.2 hC46
 exact ⟨_, rfl, own_res hC44 0 rfl⟩

theorem c_Q_eqIntS {w0 : World} (a1 : (List Int)) (u1 : Value) (g1 : RO [] w0 u1 a1) (a2 : (List Int)) (u2 : Value) (g2 : RO [] w0 u2 a2) (rr : Bool) (hF : Q.eqIntS a1 a2 = some rr) :
 Calls Try.prog 48 [u1, u2].toArray w0 fun e w' => ∃ v, e = .returned v ∧ Res w0 rr v w' := by
 refine calls_of_W Try.func48 rfl rfl ?_
 have hC0 := Ctx.start w0
 unfold Q.eqIntS at hF
 refine W_seq_reg ?_
 refine WL_assign rfl rfl ?_
 refine WL_nil ?_
 refine W_seq ?_
 refine W_seq_reg ?_
 refine WL_move rfl rfl ?_
 refine WL_len Try.underlying28 g1 rfl rfl ?_
 refine WL_move rfl rfl ?_
 refine WL_len Try.underlying28 g2 rfl rfl ?_
 refine WL_neq rfl rfl rfl ?_
 refine WL_nil ?_
 refine W_cond rfl (fun hc1 => ?_) (fun hc1 => ?_)
 ·replace hF := ite_t hF hc1
  refine W_seq_reg ?_
  refine WL_assign rfl rfl ?_
  refine WL_nil ?_
  refine W_ret ?_
  refine nrm_ret ?_
  have hq1 := Option.some.inj hF
  subst hq1
  refine fn_ret1 rfl rfl ?_
  exact ⟨_, rfl, bool_res hC0 _⟩
 replace hF := ite_f hF hc1
 refine W_skip ?_
 refine nrm_normal ?_
 refine W_seq ?_
 refine W_seq_reg ?_
 refine WL_assign rfl rfl ?_
 refine WL_nil ?_
 obtain ⟨r1, hr1, hF⟩ := bind_some hF
 refine W_norm (fun l w => .inl () = r1 ∧ l = [] ∧ Below w0.heap.size w0 w ∧ Ctx [] w0 w []) ?_ ?_
 ·refine W_block ?_
  refine W.sub (l' := [(0, u1), (1, u2), (5, (.int .i64 0))]) ?_ ⟨rfl, rfl, rfl, trivial⟩
  refine W_loop (fun k l w => ∃ x1 : Int, l = [(0, u1), (1, u2), (5, (.int .i64 x1))] ∧ Below w0.heap.size w0 w ∧ Ctx [] w0 w [] ∧ Q.eqIntS_l1 a1 a2 k x1 = some r1) FUEL ⟨0, rfl, (Below.refl _ _), hC0, hr1⟩ ?_
  clear hr1
  rintro k1 _ w1 ⟨x1, rfl, hB1, hC1, hL1⟩
  cases k1 with
  | zero => rw [Q.eqIntS_l1] at hL1; cases hL1
  | succ k1 =>
   rw [Q.eqIntS_l1] at hL1
   refine W_seq ?_
   refine W_seq_reg ?_
   refine WL_move rfl rfl ?_
   refine WL_move rfl rfl ?_
   refine WL_len Try.underlying28 g1 rfl rfl ?_
   refine WL_lss rfl rfl rfl ?_
   refine WL_nil ?_
   refine W_cond rfl (fun hc2 => ?_) (fun hc2 => ?_)
   ·replace hL1 := ite_t hL1 hc2
    refine W_skip ?_
    refine nrm_normal ?_
    refine W_seq ?_
    refine W_block ?_
    refine W_seq ?_
    refine W_drawn 9 rfl hmix (fun w2 hB2 => ?_)
    have hC2 := hC1.grow hB2
    refine WA_tk 0 (by kernel_rfl) rfl rfl (fl_move rfl) ?_
    refine WL_move rfl rfl ?_
    refine WL_nil ?_
    refine WA_tk 1 (by kernel_rfl) rfl rfl (fl_move rfl) ?_
    refine WL_move rfl rfl ?_
    refine WL_nil ?_
    obtain ⟨x2, hx1, hL1⟩ := bind_some hL1
    refine WA_tk 2 (by kernel_rfl) rfl rfl (fl_index Try.underlying28 ty3 g1 hx1 rfl rfl) ?_
    refine WL_index Try.underlying28 ty3 g1 hx1 rfl rfl rfl (fun b1 o1 h1 => ?_)
    refine WL_nil ?_
    refine WA_tk 4 (by kernel_rfl) rfl rfl (fl_move rfl) ?_
    refine WL_move rfl rfl ?_
    refine WL_nil ?_
    refine WA_tk 5 (by kernel_rfl) rfl rfl (fl_move rfl) ?_
    refine WL_move rfl rfl ?_
    refine WL_nil ?_
    obtain ⟨x3, hx2, hL1⟩ := bind_some hL1
    refine WA_tk 6 (by kernel_rfl) rfl rfl (fl_index Try.underlying28 ty3 g2 hx2 rfl rfl) ?_
    refine WL_index Try.underlying28 ty3 g2 hx2 rfl rfl rfl (fun b2 o2 h2 => ?_)
    refine WL_nil ?_
    refine WA.sub (l' := [(0, u1), (1, u2), (5, (.int .i64 x1)), (11, (.int .i64 x1)), (12, u1), (13, (.int .i64 (List.length a1 : Int))), (14, (.bool (decide (x1 < (List.length a1 : Int))))), (17, u1), (18, (.int .i64 x1)), (19, (ptr b1 o1)), (21, u2), (22, (.int .i64 x1)), (23, (ptr b2 o2))]) ?_ ⟨rfl, rfl, rfl, rfl, rfl, rfl, rfl, rfl, rfl, rfl, rfl, rfl, rfl, trivial⟩
    refine WA_postsE [⟨3, [], fun vs => PW.val (.int .i64 x2), []⟩, ⟨7, [], fun vs => PW.val (.int .i64 x3), []⟩] [[], []] 1 rfl (by kernel_rfl) (by kernel_rfl) rfl ?_ ?_
    ·refine StepsE_cons rfl ?_ ?_
     ·intro w3 hB3
      refine DepsE_nil ?_
      refine ⟨_, rfl, ?_⟩
      refine WL_load ty3 h1 (hC2.keep.then hB3) rfl rfl (fun v1 h3 => ?_)
      obtain rfl := ro_int h3
      refine WL_nil ?_
      exact FinE_val (Below.refl _ _) rfl rfl ⟨rfl, rfl⟩
     refine StepsE_cons rfl ?_ ?_
     ·intro w3 hB3
      refine DepsE_nil ?_
      refine ⟨_, rfl, ?_⟩
      refine WL_load ty3 h2 (hC2.keep.then hB3) rfl rfl (fun v2 h4 => ?_)
      obtain rfl := ro_int h4
      refine WL_nil ?_
      exact FinE_val (Below.refl _ _) rfl rfl ⟨rfl, rfl⟩
     exact StepsE_nil
    intro w4 hB4
    refine AllE_cons rfl rfl rfl ?_
    rintro _ _ ⟨rfl, rfl⟩
    refine AllE_cons rfl rfl rfl ?_
    rintro _ _ ⟨rfl, rfl⟩
    refine AllE_nil ?_
    intro hn1 hb1
    have hC3 := hC2.grow hB4
    refine WA_tk 8 (by kernel_rfl) rfl rfl (fl_neq rfl rfl) ?_
    refine WL_neq rfl rfl rfl ?_
    refine WL_nil ?_
    refine WA_done (by kernel_rfl) ?_
    refine nrm_normal ?_
    refine W_cond rfl (fun hc3 => ?_) (fun hc3 => ?_)
    ·replace hL1 := ite_t hL1 hc3
     refine W_seq_reg ?_
     refine WL_assign rfl rfl ?_
     refine WL_nil ?_
     refine W_ret ?_
     refine blk_ret ?_
     refine nrm_ret ?_
     refine nrm_ret ?_
     refine blk_ret ?_
     refine nrm_ret ?_
     refine nrm_ret ?_
     have hq2 := Option.some.inj hL1
     subst hq2
     dsimp only at hF
     have hq3 := Option.some.inj hF
     subst hq3
     refine fn_ret1 rfl rfl ?_
     exact ⟨_, rfl, bool_res hC3 _⟩
    replace hL1 := ite_f hL1 hc3
    refine W_skip ?_
    refine blk_normal ?_
    refine nrm_normal ?_
    refine W_reg ?_
    refine WL_move rfl rfl ?_
    refine WL_add rfl rfl rfl ?_
    refine WL_assign rfl rfl ?_
    refine WL_nil ?_
    refine nrm_sub (l' := [(0, u1), (1, u2), (5, (.int .i64 (w64 (x1 + 1))))]) ⟨rfl, rfl, rfl, trivial⟩ ?_
    exact ⟨k1, Nat.lt_succ_self _, w64 (x1 + 1), rfl, (((Keep.of hB1).then hB2).then hB4).below, hC3, hL1⟩
   replace hL1 := ite_f hL1 hc2
   refine W_exit ?_
   refine nrm_exit ?_
   refine nrm_exit ?_
   refine blk_exit ?_
   have hq4 := Option.some.inj hL1
   subst hq4
   refine nrm_sub (l' := []) trivial ?_
   exact ⟨rfl, rfl, (Keep.of hB1).below, hC1⟩
 rintro l2 _ w5 hs2 ⟨rfl, rfl, hB5, hC4⟩
 try dsimp only at hF
 refine nrm_sub' hs2 ?_
 clear hs2
 refine W_seq_reg ?_
 refine WL_assign rfl rfl ?_
 refine WL_nil ?_
 refine W_ret ?_
 have hq5 := Option.some.inj hF
 subst hq5
 refine fn_ret1 rfl rfl ?_
 exact ⟨_, rfl, bool_res hC4 _⟩

theorem c_Q_eqAtom {w0 : World} (a1 : (Int × (List Int))) (u1 : Value) (g1 : RO [] w0 u1 a1.2) (a2 : (Int × (List Int))) (u2 : Value) (g2 : RO [] w0 u2 a2.2) (rr : Bool) (hF : Q.eqAtom a1 a2 = some rr) :
 Calls Try.prog 61 [(.agg #[(.int .i64 a1.1), u1]), (.agg #[(.int .i64 a2.1), u2])].toArray w0 fun e w' => ∃ v, e = .returned v ∧ Res w0 rr v w' := by
 refine calls_of_W Try.func61 rfl rfl ?_
 have hC0 := Ctx.start w0
 unfold Q.eqAtom at hF
 refine W_seq_reg ?_
 refine WL_boxK (cs := [(.int .i64 a1.1), u1]) hC0 rfl rfl rfl (fun b1 w1 hC1 hB1 hN1 => ?_)
 refine WL_boxK (cs := [(.int .i64 a2.1), u2]) hC1 rfl rfl rfl (fun b2 w2 hC2 hB2 hN2 => ?_)
 refine WL_assign rfl rfl ?_
 refine WL_nil ?_
 refine W_seq ?_
 refine W_seq_reg ?_
 refine WL_field Try.underlying70 rfl rfl (fun w => ⟨_, Try.sizeOf3 w⟩) rfl rfl ?_
 refine WL_load_box hC2 1 rfl rfl Try.isAgg3 rfl rfl ?_
 refine WL_field Try.underlying70 rfl rfl (fun w => ⟨_, Try.sizeOf3 w⟩) rfl rfl ?_
 refine WL_load_box hC2 0 rfl rfl Try.isAgg3 rfl rfl ?_
 refine WL_neq rfl rfl rfl ?_
 refine WL_nil ?_
 refine W_cond rfl (fun hc1 => ?_) (fun hc1 => ?_)
 ·replace hF := ite_t hF hc1
  refine W_seq_reg ?_
  refine WL_assign rfl rfl ?_
  refine WL_nil ?_
  refine W_ret ?_
  refine nrm_ret ?_
  have hq1 := Option.some.inj hF
  subst hq1
  refine fn_ret1 rfl rfl ?_
  exact ⟨_, rfl, bool_res hC2 _⟩
 replace hF := ite_f hF hc1
 refine W_skip ?_
 refine nrm_normal ?_
 refine W_seq ?_
 refine W_seq_reg ?_
 refine WL_field Try.underlying70 rfl rfl (fun w => ⟨_, Try.sizeOf28 w⟩) rfl rfl ?_
 refine WL_load_box hC2 1 rfl rfl Try.isAgg28 rfl rfl ?_
 refine WL_field Try.underlying70 rfl rfl (fun w => ⟨_, Try.sizeOf28 w⟩) rfl rfl ?_
 refine WL_load_box hC2 0 rfl rfl Try.isAgg28 rfl rfl ?_
 obtain ⟨x1, hr1, hF⟩ := bind_some hF
 refine WL_call Try.call48 rfl rfl (c_Q_eqIntS a1.2 u1 (g1.now hC2.keep) a2.2 u2 (g2.now hC2.keep) x1 hr1) ?_
 intro _ w3 hv1
 obtain ⟨rfl, hB3⟩ := res_bool hv1
 have hC3 := hC2.grow hB3
 refine WL_not rfl rfl ?_
 refine WL_nil ?_
 refine W_cond rfl (fun hc2 => ?_) (fun hc2 => ?_)
 ·replace hF := ite_t hF hc2
  refine W_seq_reg ?_
  refine WL_assign rfl rfl ?_
  refine WL_nil ?_
  refine W_ret ?_
  refine nrm_ret ?_
  have hq2 := Option.some.inj hF
  subst hq2
  refine fn_ret1 rfl rfl ?_
  exact ⟨_, rfl, bool_res hC3 _⟩
 replace hF := ite_f hF hc2
 refine W_skip ?_
 refine nrm_normal ?_
 refine W_seq_reg ?_
 refine WL_assign rfl rfl ?_
 refine WL_nil ?_
 refine W_ret ?_
 have hq3 := Option.some.inj hF
 subst hq3
 refine fn_ret1 rfl rfl ?_
 exact ⟨_, rfl, bool_res hC3 _⟩

theorem c_Q_eqAtomS {w0 : World} (a1 : (List (Int × (List Int)))) (u1 : Value) (g1 : RO [] w0 u1 a1) (a2 : (List (Int × (List Int)))) (u2 : Value) (g2 : RO [] w0 u2 a2) (rr : Bool) (hF : Q.eqAtomS a1 a2 = some rr) :
 Calls Try.prog 49 [u1, u2].toArray w0 fun e w' => ∃ v, e = .returned v ∧ Res w0 rr v w' := by
 refine calls_of_W Try.func49 rfl rfl ?_
 have hC0 := Ctx.start w0
 unfold Q.eqAtomS at hF
 refine W_seq_reg ?_
 refine WL_assign rfl rfl ?_
 refine WL_nil ?_
 refine W_seq ?_
 refine W_seq_reg ?_
 refine WL_move rfl rfl ?_
 refine WL_len Try.underlying47 g1 rfl rfl ?_
 refine WL_move rfl rfl ?_
 refine WL_len Try.underlying47 g2 rfl rfl ?_
 refine WL_neq rfl rfl rfl ?_
 refine WL_nil ?_
 refine W_cond rfl (fun hc1 => ?_) (fun hc1 => ?_)
 ·replace hF := ite_t hF hc1
  refine W_seq_reg ?_
  refine WL_assign rfl rfl ?_
  refine WL_nil ?_
  refine W_ret ?_
  refine nrm_ret ?_
  have hq1 := Option.some.inj hF
  subst hq1
  refine fn_ret1 rfl rfl ?_
  exact ⟨_, rfl, bool_res hC0 _⟩
 replace hF := ite_f hF hc1
 refine W_skip ?_
 refine nrm_normal ?_
 refine W_seq ?_
 refine W_seq_reg ?_
 refine WL_assign rfl rfl ?_
 refine WL_nil ?_
 obtain ⟨r1, hr1, hF⟩ := bind_some hF
 refine W_norm (fun l w => .inl () = r1 ∧ l = [] ∧ Below w0.heap.size w0 w ∧ Ctx [] w0 w []) ?_ ?_
 ·refine W_block ?_
  refine W.sub (l' := [(0, u1), (1, u2), (5, (.int .i64 0))]) ?_ ⟨rfl, rfl, rfl, trivial⟩
  refine W_loop (fun k l w => ∃ x1 : Int, l = [(0, u1), (1, u2), (5, (.int .i64 x1))] ∧ Below w0.heap.size w0 w ∧ Ctx [] w0 w [] ∧ Q.eqAtomS_l1 a1 a2 k x1 = some r1) FUEL ⟨0, rfl, (Below.refl _ _), hC0, hr1⟩ ?_
  clear hr1
  rintro k1 _ w1 ⟨x1, rfl, hB1, hC1, hL1⟩
  cases k1 with
  | zero => rw [Q.eqAtomS_l1] at hL1; cases hL1
  | succ k1 =>
   rw [Q.eqAtomS_l1] at hL1
   refine W_seq ?_
   refine W_seq_reg ?_
   refine WL_move rfl rfl ?_
   refine WL_move rfl rfl ?_
   refine WL_len Try.underlying47 g1 rfl rfl ?_
   refine WL_lss rfl rfl rfl ?_
   refine WL_nil ?_
   refine W_cond rfl (fun hc2 => ?_) (fun hc2 => ?_)
   ·replace hL1 := ite_t hL1 hc2
    refine W_skip ?_
    refine nrm_normal ?_
    refine W_seq ?_
    refine W_block ?_
    refine W_seq ?_
    refine W_drawn 10 rfl hmix (fun w2 hB2 => ?_)
    have hC2 := hC1.grow hB2
    refine WA_tk 0 (by kernel_rfl) rfl rfl (fl_move rfl) ?_
    refine WL_move rfl rfl ?_
    refine WL_nil ?_
    refine WA_tk 1 (by kernel_rfl) rfl rfl (fl_move rfl) ?_
    refine WL_move rfl rfl ?_
    refine WL_nil ?_
    obtain ⟨x2, hx1, hL1⟩ := bind_some hL1
    refine WA_tk 2 (by kernel_rfl) rfl rfl (fl_index Try.underlying47 ty70 g1 hx1 rfl rfl) ?_
    refine WL_index Try.underlying47 ty70 g1 hx1 rfl rfl rfl (fun b1 o1 h1 => ?_)
    refine WL_nil ?_
    refine WA_tk 4 (by kernel_rfl) rfl rfl (fl_move rfl) ?_
    refine WL_move rfl rfl ?_
    refine WL_nil ?_
    refine WA_tk 5 (by kernel_rfl) rfl rfl (fl_move rfl) ?_
    refine WL_move rfl rfl ?_
    refine WL_nil ?_
    obtain ⟨x3, hx2, hL1⟩ := bind_some hL1
    refine WA_tk 6 (by kernel_rfl) rfl rfl (fl_index Try.underlying47 ty70 g2 hx2 rfl rfl) ?_
    refine WL_index Try.underlying47 ty70 g2 hx2 rfl rfl rfl (fun b2 o2 h2 => ?_)
    refine WL_nil ?_
    refine WA.sub (l' := [(0, u1), (1, u2), (5, (.int .i64 x1)), (11, (.int .i64 x1)), (12, u1), (13, (.int .i64 (List.length a1 : Int))), (14, (.bool (decide (x1 < (List.length a1 : Int))))), (17, u1), (18, (.int .i64 x1)), (19, (ptr b1 o1)), (21, u2), (22, (.int .i64 x1)), (23, (ptr b2 o2))]) ?_ ⟨rfl, rfl, rfl, rfl, rfl, rfl, rfl, rfl, rfl, rfl, rfl, rfl, rfl, trivial⟩
    refine WA_postsE [⟨3, [], fun vs => PW.ro [] w0 x2, []⟩, ⟨7, [], fun vs => PW.ro [] w0 x3, []⟩] [[], []] 2 rfl (by kernel_rfl) (by kernel_rfl) rfl ?_ ?_
    ·refine StepsE_cons rfl ?_ ?_
     ·intro w3 hB3
      refine DepsE_nil ?_
      refine ⟨_, rfl, ?_⟩
      refine WL_load ty70 h1 (hC2.keep.then hB3) rfl rfl (fun v3 h5 => ?_)
      refine WL_nil ?_
      exact FinE_val (Below.refl _ _) rfl rfl ⟨rfl, h5⟩
     refine StepsE_cons rfl ?_ ?_
     ·intro w3 hB3
      refine DepsE_nil ?_
      refine ⟨_, rfl, ?_⟩
      refine WL_load ty70 h2 (hC2.keep.then hB3) rfl rfl (fun v6 h8 => ?_)
      refine WL_nil ?_
      exact FinE_val (Below.refl _ _) rfl rfl ⟨rfl, h8⟩
     exact StepsE_nil
    intro w4 hB4
    refine AllE_cons rfl rfl rfl ?_
    rintro v3 _ ⟨rfl, h5⟩
    obtain ⟨v2, rfl, h4⟩ := ro_st70 h5
    refine AllE_cons rfl rfl rfl ?_
    rintro v6 _ ⟨rfl, h8⟩
    obtain ⟨v5, rfl, h7⟩ := ro_st70 h8
    refine AllE_nil ?_
    intro hn1 hb1
    have hC3 := hC2.grow hB4
    obtain ⟨x4, hr2, hL1⟩ := bind_some hL1
    refine WA_one 8 (by kernel_rfl) rfl ?_
    refine WL_call Try.call61 rfl rfl (c_Q_eqAtom x2 v2 (h4.now hC3.keep) x3 v5 (h7.now hC3.keep) x4 hr2) ?_
    intro _ w5 hv1
    obtain ⟨rfl, hB5⟩ := res_bool hv1
    have hC4 := hC3.grow hB5
    refine WL_nil ?_
    refine WA_tk 9 (by kernel_rfl) rfl rfl (fl_not rfl) ?_
    refine WL_not rfl rfl ?_
    refine WL_nil ?_
    refine WA_done (by kernel_rfl) ?_
    refine nrm_normal ?_
    refine W_cond rfl (fun hc3 => ?_) (fun hc3 => ?_)
    ·replace hL1 := ite_t hL1 hc3
     refine W_seq_reg ?_
     refine WL_assign rfl rfl ?_
     refine WL_nil ?_
     refine W_ret ?_
     refine blk_ret ?_
     refine nrm_ret ?_
     refine nrm_ret ?_
     refine blk_ret ?_
     refine nrm_ret ?_
     refine nrm_ret ?_
     have hq2 := Option.some.inj hL1
     subst hq2
     dsimp only at hF
     have hq3 := Option.some.inj hF
     subst hq3
     refine fn_ret1 rfl rfl ?_
     exact ⟨_, rfl, bool_res hC4 _⟩
    replace hL1 := ite_f hL1 hc3
    refine W_skip ?_
    refine blk_normal ?_
    refine nrm_normal ?_
    refine W_reg ?_
    refine WL_move rfl rfl ?_
    refine WL_add rfl rfl rfl ?_
    refine WL_assign rfl rfl ?_
    refine WL_nil ?_
    refine nrm_sub (l' := [(0, u1), (1, u2), (5, (.int .i64 (w64 (x1 + 1))))]) ⟨rfl, rfl, rfl, trivial⟩ ?_
    exact ⟨k1, Nat.lt_succ_self _, w64 (x1 + 1), rfl, ((((Keep.of hB1).then hB2).then hB4).then hB5).below, hC4, hL1⟩
   replace hL1 := ite_f hL1 hc2
   refine W_exit ?_
   refine nrm_exit ?_
   refine nrm_exit ?_
   refine blk_exit ?_
   have hq4 := Option.some.inj hL1
   subst hq4
   refine nrm_sub (l' := []) trivial ?_
   exact ⟨rfl, rfl, (Keep.of hB1).below, hC1⟩
 rintro l2 _ w6 hs2 ⟨rfl, rfl, hB6, hC5⟩
 try dsimp only at hF
 refine nrm_sub' hs2 ?_
 clear hs2
 refine W_seq_reg ?_
 refine WL_assign rfl rfl ?_
 refine WL_nil ?_
 refine W_ret ?_
 have hq5 := Option.some.inj hF
 subst hq5
 refine fn_ret1 rfl rfl ?_
 exact ⟨_, rfl, bool_res hC5 _⟩

theorem c_Q_eqQuery {w0 : World} (a1 : ((List Int) × (List (Int × (List Int))))) (u1 : Value) (g1 : RO [] w0 u1 a1.1) (u2 : Value) (g2 : RO [] w0 u2 a1.2) (a2 : ((List Int) × (List (Int × (List Int))))) (u3 : Value) (g3 : RO [] w0 u3 a2.1) (u4 : Value) (g4 : RO [] w0 u4 a2.2) (rr : Bool) (hF : Q.eqQuery a1 a2 = some rr) :
 Calls Try.prog 25 [(.agg #[u1, u2]), (.agg #[u3, u4])].toArray w0 fun e w' => ∃ v, e = .returned v ∧ Res w0 rr v w' := by
 refine calls_of_W Try.func25 rfl rfl ?_
 have hC0 := Ctx.start w0
 unfold Q.eqQuery at hF
 refine W_seq_reg ?_
 refine WL_boxK (cs := [u1, u2]) hC0 rfl rfl rfl (fun b1 w1 hC1 hB1 hN1 => ?_)
 refine WL_boxK (cs := [u3, u4]) hC1 rfl rfl rfl (fun b2 w2 hC2 hB2 hN2 => ?_)
 refine WL_assign rfl rfl ?_
 refine WL_nil ?_
 refine W_seq ?_
 refine W_seq_reg ?_
 refine WL_field Try.underlying49 rfl rfl (fun w => ⟨_, Try.sizeOf28 w⟩) rfl rfl ?_
 refine WL_load_box hC2 1 rfl rfl Try.isAgg28 rfl rfl ?_
 refine WL_field Try.underlying49 rfl rfl (fun w => ⟨_, Try.sizeOf28 w⟩) rfl rfl ?_
 refine WL_load_box hC2 0 rfl rfl Try.isAgg28 rfl rfl ?_
 obtain ⟨x1, hr1, hF⟩ := bind_some hF
 refine WL_call Try.call48 rfl rfl (c_Q_eqIntS a1.1 u1 (g1.now hC2.keep) a2.1 u3 (g3.now hC2.keep) x1 hr1) ?_
 intro _ w3 hv1
 obtain ⟨rfl, hB3⟩ := res_bool hv1
 have hC3 := hC2.grow hB3
 refine WL_not rfl rfl ?_
 refine WL_nil ?_
 refine W_cond rfl (fun hc1 => ?_) (fun hc1 => ?_)
 ·replace hF := ite_t hF hc1
  refine W_seq_reg ?_
  refine WL_assign rfl rfl ?_
  refine WL_nil ?_
  refine W_ret ?_
  refine nrm_ret ?_
  have hq1 := Option.some.inj hF
  subst hq1
  refine fn_ret1 rfl rfl ?_
  exact ⟨_, rfl, bool_res hC3 _⟩
 replace hF := ite_f hF hc1
 refine W_skip ?_
 refine nrm_normal ?_
 refine W_seq ?_
 refine W_seq_reg ?_
 refine WL_field Try.underlying49 rfl rfl (fun w => ⟨_, Try.sizeOf47 w⟩) rfl rfl ?_
 refine WL_load_box hC3 1 rfl rfl Try.isAgg47 rfl rfl ?_
 refine WL_field Try.underlying49 rfl rfl (fun w => ⟨_, Try.sizeOf47 w⟩) rfl rfl ?_
 refine WL_load_box hC3 0 rfl rfl Try.isAgg47 rfl rfl ?_
 obtain ⟨x2, hr2, hF⟩ := bind_some hF
 refine WL_call Try.call49 rfl rfl (c_Q_eqAtomS a1.2 u2 (g2.now hC3.keep) a2.2 u4 (g4.now hC3.keep) x2 hr2) ?_
 intro _ w4 hv2
 obtain ⟨rfl, hB4⟩ := res_bool hv2
 have hC4 := hC3.grow hB4
 refine WL_not rfl rfl ?_
 refine WL_nil ?_
 refine W_cond rfl (fun hc2 => ?_) (fun hc2 => ?_)
 ·replace hF := ite_t hF hc2
  refine W_seq_reg ?_
  refine WL_assign rfl rfl ?_
  refine WL_nil ?_
  refine W_ret ?_
  refine nrm_ret ?_
  have hq2 := Option.some.inj hF
  subst hq2
  refine fn_ret1 rfl rfl ?_
  exact ⟨_, rfl, bool_res hC4 _⟩
 replace hF := ite_f hF hc2
 refine W_skip ?_
 refine nrm_normal ?_
 refine W_seq_reg ?_
 refine WL_assign rfl rfl ?_
 refine WL_nil ?_
 refine W_ret ?_
 have hq3 := Option.some.inj hF
 subst hq3
 refine fn_ret1 rfl rfl ?_
 exact ⟨_, rfl, bool_res hC4 _⟩

theorem c_Q_markIntS {w0 : World} {Fs : List (List Nat)} (a1 : (List Int)) (u1 : Value) (a2 : Int) (hH : Hold [Item.own u1 (a1 : (List Int))] w0 Fs) (hn : Fs.flatten.Nodup) (rr : (Int × (List Int))) (hF : Q.markIntS a1 a2 = some rr) :
 Calls Try.prog 50 [u1, (.int .i64 a2)].toArray w0 fun e w' => ∃ v, e = .returned v ∧ v = (.int .i64 rr.1) ∧ Ctx Fs.flatten w0 w' [Item.own u1 (rr.2 : (List Int))] := by
 refine calls_of_W Try.func50 rfl rfl ?_
 have hC0 := Ctx.startIn hH hn
 unfold Q.markIntS at hF
 refine W_seq_reg ?_
 refine WL_assign rfl rfl ?_
 refine WL_nil ?_
 refine W_seq ?_
 refine W_seq_reg ?_
 refine WL_assign rfl rfl ?_
 refine WL_nil ?_
 obtain ⟨r1, hr1, hF⟩ := bind_some hF
 refine W_norm (fun l w => ∃ x4 : (List Int), ∃ x5 : Int, (x4, x5) = r1 ∧ l = [(1, (.int .i64 x5))] ∧ Ctx Fs.flatten w0 w [Item.own u1 (x4 : (List Int))]) ?_ ?_
 ·refine W_block ?_
  refine W.sub (l' := [(0, u1), (1, (.int .i64 a2)), (5, (.int .i64 0))]) ?_ ⟨rfl, rfl, rfl, trivial⟩
  refine W_loop (fun k l w => ∃ x1 : (List Int), ∃ x2 : Int, ∃ x3 : Int, l = [(0, u1), (1, (.int .i64 x2)), (5, (.int .i64 x3))] ∧ Ctx Fs.flatten w0 w [Item.own u1 (x1 : (List Int))] ∧ Q.markIntS_l1 k x1 x2 x3 = some r1) FUEL ⟨a1, a2, 0, rfl, hC0, hr1⟩ ?_
  clear hr1
  rintro k1 _ w1 ⟨x1, x2, x3, rfl, hC1, hL1⟩
  cases k1 with
  | zero => rw [Q.markIntS_l1] at hL1; cases hL1
  | succ k1 =>
   rw [Q.markIntS_l1] at hL1
   refine W_seq ?_
   refine W_seq_reg ?_
   refine WL_move rfl rfl ?_
   refine WL_move rfl rfl ?_
   refine WL_len Try.underlying28 (hC1.ro 0 rfl) rfl rfl ?_
   refine WL_lss rfl rfl rfl ?_
   refine WL_nil ?_
   refine W_cond rfl (fun hc1 => ?_) (fun hc1 => ?_)
   ·replace hL1 := ite_t hL1 hc1
    refine W_skip ?_
    refine nrm_normal ?_
    refine W_seq ?_
    refine W_block ?_
    refine W_seq_reg ?_
    refine WL_move rfl rfl ?_
    refine WL_move rfl rfl ?_
    refine WL_move rfl rfl ?_
    obtain ⟨x6, hx1, hL1⟩ := bind_some hL1
    refine WL_index_own hC1 0 rfl Try.underlying28 ty3 hx1 rfl rfl rfl (fun b1 hE1 => ?_)
    have hC3 := hC1.triv (int_val (x2))
    refine WL_store_elem hC3 0 rfl ty3 hE1 hx1 rfl rfl rfl (fun w2 hC2 => ?_)
    try dsimp only [List.set] at hC2
    refine WL_nil ?_
    refine W_reg ?_
    refine WL_move rfl rfl ?_
    refine WL_add rfl rfl rfl ?_
    refine WL_assign rfl rfl ?_
    refine WL_nil ?_
    refine blk_normal ?_
    refine nrm_normal ?_
    refine W_reg ?_
    refine WL_move rfl rfl ?_
    refine WL_add rfl rfl rfl ?_
    refine WL_assign rfl rfl ?_
    refine WL_nil ?_
    refine nrm_sub (l' := [(0, u1), (1, (.int .i64 (w64 (x2 + 1)))), (5, (.int .i64 (w64 (x3 + 1))))]) ⟨rfl, rfl, rfl, trivial⟩ ?_
    exact ⟨k1, Nat.lt_succ_self _, (List.set x1 (Int.toNat x3) x2), w64 (x2 + 1), w64 (x3 + 1), rfl, hC2, hL1⟩
   replace hL1 := ite_f hL1 hc1
   refine W_exit ?_
   refine nrm_exit ?_
   refine nrm_exit ?_
   refine blk_exit ?_
   have hq1 := Option.some.inj hL1
   subst hq1
   refine nrm_sub (l' := [(1, (.int .i64 x2))]) ⟨rfl, trivial⟩ ?_
   exact ⟨x1, x2, rfl, rfl, hC1⟩
 rintro l2 _ w3 hs2 ⟨x4, x5, rfl, rfl, hC4⟩
 try dsimp only at hF
 refine nrm_sub' hs2 ?_
 clear hs2
 refine W_seq_reg ?_
 refine WL_move rfl rfl ?_
 refine WL_assign rfl rfl ?_
 refine WL_nil ?_
 refine W_ret ?_
 have hq2 := Option.some.inj hF
 subst hq2
 refine fn_ret1 rfl rfl ?_
 exact ⟨_, rfl, rfl, hC4⟩

theorem c_Q_markAtomS {w0 : World} {Fs : List (List Nat)} (a1 : (List (Int × (List Int)))) (u1 : Value) (a2 : Int) (hH : Hold [Item.own u1 (a1 : (List (Int × (List Int))))] w0 Fs) (hn : Fs.flatten.Nodup) (rr : (Int × (List (Int × (List Int))))) (hF : Q.markAtomS a1 a2 = some rr) :
 Calls Try.prog 51 [u1, (.int .i64 a2)].toArray w0 fun e w' => ∃ v, e = .returned v ∧ v = (.int .i64 rr.1) ∧ Ctx Fs.flatten w0 w' [Item.own u1 (rr.2 : (List (Int × (List Int))))] := by
 refine calls_of_W Try.func51 rfl rfl ?_
 have hC0 := Ctx.startIn hH hn
 unfold Q.markAtomS at hF
 refine W_seq_reg ?_
 refine WL_assign rfl rfl ?_
 refine WL_nil ?_
 refine W_seq ?_
 refine W_seq_reg ?_
 refine WL_assign rfl rfl ?_
 refine WL_nil ?_
 obtain ⟨r1, hr1, hF⟩ := bind_some hF
 refine W_norm (fun l w => ∃ x4 : (List (Int × (List Int))), ∃ x5 : Int, (x4, x5) = r1 ∧ l = [(1, (.int .i64 x5))] ∧ Ctx Fs.flatten w0 w [Item.own u1 (x4 : (List (Int × (List Int))))]) ?_ ?_
 ·refine W_block ?_
  refine W.sub (l' := [(0, u1), (1, (.int .i64 a2)), (5, (.int .i64 0))]) ?_ ⟨rfl, rfl, rfl, trivial⟩
  refine W_loop (fun k l w => ∃ x1 : (List (Int × (List Int))), ∃ x2 : Int, ∃ x3 : Int, l = [(0, u1), (1, (.int .i64 x2)), (5, (.int .i64 x3))] ∧ Ctx Fs.flatten w0 w [Item.own u1 (x1 : (List (Int × (List Int))))] ∧ Q.markAtomS_l1 k x1 x2 x3 = some r1) FUEL ⟨a1, a2, 0, rfl, hC0, hr1⟩ ?_
  clear hr1
  rintro k1 _ w1 ⟨x1, x2, x3, rfl, hC1, hL1⟩
  cases k1 with
  | zero => rw [Q.markAtomS_l1] at hL1; cases hL1
  | succ k1 =>
   rw [Q.markAtomS_l1] at hL1
   refine W_seq ?_
   refine W_seq_reg ?_
   refine WL_move rfl rfl ?_
   refine WL_move rfl rfl ?_
   refine WL_len Try.underlying47 (hC1.ro 0 rfl) rfl rfl ?_
   refine WL_lss rfl rfl rfl ?_
   refine WL_nil ?_
   refine W_cond rfl (fun hc1 => ?_) (fun hc1 => ?_)
   ·replace hL1 := ite_t hL1 hc1
    refine W_skip ?_
    refine nrm_normal ?_
    refine W_seq ?_
    refine W_block ?_
    refine W_seq_reg ?_
    refine WL_move rfl rfl ?_
    refine WL_move rfl rfl ?_
    refine WL_move rfl rfl ?_
    obtain ⟨x6, hx1, hL1⟩ := bind_some hL1
    refine WL_index_own hC1 0 rfl Try.underlying47 ty70 hx1 rfl rfl rfl (fun b1 hE1 => ?_)
    refine WL_field Try.underlying70 rfl rfl (fun w => ⟨_, Try.sizeOf3 w⟩) rfl rfl ?_
    obtain ⟨cs1, hC3⟩ := hC1.openElem hx1
    obtain ⟨v1, he1, hC4⟩ := st70_own (hC3.cellsOwn rfl)
    obtain rfl := cells_of_agg he1
    refine WL_store_hole (fo := 0) (cs' := [(.int .i64 x2), v1]) hC4 1 rfl hE1 rfl rfl rfl rfl Try.sizeOf3 rfl rfl (fun w2 hC2 => ?_)
    try dsimp only [List.set] at hC2
    have hC5 := hC2.f1
    have hC7 := hC5.f1
    have hC6 := own_st70 x2 v1 x6.2 hC7
    have hC8 := hC6.ownCells.closeElem
    refine WL_nil ?_
    refine W_seq_reg ?_
    refine WL_move rfl rfl ?_
    refine WL_add rfl rfl rfl ?_
    refine WL_assign rfl rfl ?_
    refine WL_nil ?_
    refine W_reg ?_
    refine WL_move rfl rfl ?_
    refine WL_move rfl rfl ?_
    obtain ⟨x7, hx2, hL1⟩ := bind_some hL1
    refine WL_index_own hC8 0 rfl Try.underlying47 ty70 hx2 rfl rfl rfl (fun b2 hE2 => ?_)
    refine WL_field Try.underlying70 rfl rfl (fun w => ⟨_, Try.sizeOf28 w⟩) rfl rfl ?_
    obtain ⟨cs2, hC9⟩ := hC8.openElem hx2
    obtain ⟨v2, he2, hC10⟩ := st70_own (hC9.cellsOwn rfl)
    obtain rfl := cells_of_agg he2
    refine WL_load_hole (fo := 1) hC10 1 rfl hE2 rfl rfl Try.isAgg28 rfl rfl ?_
    refine WL_move rfl rfl ?_
    obtain ⟨x8, hr2, hL1⟩ := bind_some hL1
    obtain ⟨Fs1, hH1, hn1, hF1, hO1, hb1⟩ := Ctx.lend2 (As := [Item.hole u1 ((List.set x1 (Int.toNat x3) (x2, x6.2)) : (List (Int × (List Int)))) (Int.toNat x3) [(.int .i64 x7.1), v2]]) [Item.own v2 (x7.2 : (List Int))] hC10
    refine WL_call Try.call50 rfl rfl (c_Q_markIntS x7.2 v2 (w64 (x2 + 1)) hH1 hn1 x8 hr2) ?_
    rintro _ w3 ⟨rfl, hq1⟩
    have hC12 : Ctx Fs.flatten w0 w3 [Item.own v2 (x8.2 : (List Int)), Item.hole u1 ((List.set x1 (Int.toNat x3) (x2, x6.2)) : (List (Int × (List Int)))) (Int.toNat x3) [(.int .i64 x7.1), v2]] := hb1 _ _ hq1
    have hC13 := hC12.f1
    have hC15 := hC13.f1
    have hC14 := own_st70 x7.1 v2 x8.2 hC15
    have hC16 := hC14.ownCells.closeElem
    refine WL_assign rfl rfl ?_
    refine WL_nil ?_
    refine blk_normal ?_
    refine nrm_normal ?_
    refine W_reg ?_
    refine WL_move rfl rfl ?_
    refine WL_add rfl rfl rfl ?_
    refine WL_assign rfl rfl ?_
    refine WL_nil ?_
    refine nrm_sub (l' := [(0, u1), (1, (.int .i64 x8.1)), (5, (.int .i64 (w64 (x3 + 1))))]) ⟨rfl, rfl, rfl, trivial⟩ ?_
    exact ⟨k1, Nat.lt_succ_self _, (List.set (List.set x1 (Int.toNat x3) (x2, x6.2)) (Int.toNat x3) (x7.1, x8.2)), x8.1, w64 (x3 + 1), rfl, hC16, hL1⟩
   replace hL1 := ite_f hL1 hc1
   refine W_exit ?_
   refine nrm_exit ?_
   refine nrm_exit ?_
   refine blk_exit ?_
   have hq2 := Option.some.inj hL1
   subst hq2
   refine nrm_sub (l' := [(1, (.int .i64 x2))]) ⟨rfl, trivial⟩ ?_
   exact ⟨x1, x2, rfl, rfl, hC1⟩
 rintro l2 _ w4 hs2 ⟨x4, x5, rfl, rfl, hC17⟩
 try dsimp only at hF
 refine nrm_sub' hs2 ?_
 clear hs2
 refine W_seq_reg ?_
 refine WL_move rfl rfl ?_
 refine WL_assign rfl rfl ?_
 refine WL_nil ?_
 refine W_ret ?_
 have hq3 := Option.some.inj hF
 subst hq3
 refine fn_ret1 rfl rfl ?_
 exact ⟨_, rfl, rfl, hC17⟩

theorem c_Q_markQuery {w0 : World} {Fs : List (List Nat)} (a1 : ((List Int) × (List (Int × (List Int))))) (u1 : Value) (u2 : Value) (a2 : Int) (hH : Hold [Item.own u1 (a1.1 : (List Int)), Item.own u2 (a1.2 : (List (Int × (List Int))))] w0 Fs) (hn : Fs.flatten.Nodup) (rr : (Int × ((List Int) × (List (Int × (List Int)))))) (hF : Q.markQuery a1 a2 = some rr) :
 Calls Try.prog 26 [(.agg #[u1, u2]), (.int .i64 a2)].toArray w0 fun e w' => ∃ v, e = .returned v ∧ v = (.int .i64 rr.1) ∧ Ctx Fs.flatten w0 w' [Item.own u1 (rr.2.1 : (List Int)), Item.own u2 (rr.2.2 : (List (Int × (List Int))))] := by
 refine calls_of_W Try.func26 rfl rfl ?_
 have hC0 := Ctx.startIn hH hn
 unfold Q.markQuery at hF
 refine W_seq_reg ?_
 refine WL_boxK (cs := [u1, u2]) hC0 rfl rfl rfl (fun b1 w1 hC1 hB1 hN1 => ?_)
 refine WL_assign rfl rfl ?_
 refine WL_nil ?_
 refine W_seq_reg ?_
 refine WL_field Try.underlying49 rfl rfl (fun w => ⟨_, Try.sizeOf28 w⟩) rfl rfl ?_
 refine WL_load_box hC1 0 rfl rfl Try.isAgg28 rfl rfl ?_
 refine WL_move rfl rfl ?_
 obtain ⟨x1, hr1, hF⟩ := bind_some hF
 have hC2 := hC1.f1
 obtain ⟨Fs1, hH1, hn1, hF1, hO1, hb1⟩ := Ctx.lend2 (As := [Item.box b1 [u1, u2], Item.own u2 (a1.2 : (List (Int × (List Int))))]) [Item.own u1 (a1.1 : (List Int))] hC2
 refine WL_call Try.call50 rfl rfl (c_Q_markIntS a1.1 u1 a2 hH1 hn1 x1 hr1) ?_
 rintro _ w2 ⟨rfl, hq1⟩
 have hC3 : Ctx Fs.flatten w0 w2 [Item.own u1 (x1.2 : (List Int)), Item.box b1 [u1, u2], Item.own u2 (a1.2 : (List (Int × (List Int))))] := hb1 _ _ hq1
 refine WL_assign rfl rfl ?_
 refine WL_nil ?_
 refine W_seq_reg ?_
 refine WL_field Try.underlying49 rfl rfl (fun w => ⟨_, Try.sizeOf47 w⟩) rfl rfl ?_
 refine WL_load_box hC3 1 rfl rfl Try.isAgg47 rfl rfl ?_
 refine WL_move rfl rfl ?_
 obtain ⟨x2, hr2, hF⟩ := bind_some hF
 have hC4 := hC3.f2
 obtain ⟨Fs2, hH2, hn2, hF2, hO2, hb2⟩ := Ctx.lend2 (As := [Item.own u1 (x1.2 : (List Int)), Item.box b1 [u1, u2]]) [Item.own u2 (a1.2 : (List (Int × (List Int))))] hC4
 refine WL_call Try.call51 rfl rfl (c_Q_markAtomS a1.2 u2 x1.1 hH2 hn2 x2 hr2) ?_
 rintro _ w3 ⟨rfl, hq2⟩
 have hC5 : Ctx Fs.flatten w0 w3 [Item.own u2 (x2.2 : (List (Int × (List Int)))), Item.own u1 (x1.2 : (List Int)), Item.box b1 [u1, u2]] := hb2 _ _ hq2
 refine WL_assign rfl rfl ?_
 refine WL_nil ?_
 refine W_seq_reg ?_
 refine WL_move rfl rfl ?_
 refine WL_assign rfl rfl ?_
 refine WL_nil ?_
 refine W_ret ?_
 have hq3 := Option.some.inj hF
 subst hq3
 refine fn_ret1 rfl rfl ?_
 have hC6 := hC5.f1
 have hC7 := hC6.h2
 exact ⟨_, rfl, rfl, hC7⟩

theorem c_Q_heldIntS {w0 : World} (a1 : (List Int)) (u1 : Value) (g1 : RO [] w0 u1 a1) (a2 : Int) (rr : Int) (hF : Q.heldIntS a1 a2 = some rr) :
 Calls Try.prog 52 [u1, (.int .i64 a2)].toArray w0 fun e w' => ∃ v, e = .returned v ∧ Res w0 rr v w' := by
 refine calls_of_W Try.func52 rfl rfl ?_
 have hC0 := Ctx.start w0
 unfold Q.heldIntS at hF
 refine W_seq_reg ?_
 refine WL_assign rfl rfl ?_
 refine WL_nil ?_
 refine W_seq ?_
 refine W_seq_reg ?_
 refine WL_assign rfl rfl ?_
 refine WL_nil ?_
 obtain ⟨r1, hr1, hF⟩ := bind_some hF
 refine W_norm (fun l w => ∃ x3 : Int, .inl x3 = r1 ∧ l = [(1, (.int .i64 x3))] ∧ Below w0.heap.size w0 w ∧ Ctx [] w0 w []) ?_ ?_
 ·refine W_block ?_
  refine W.sub (l' := [(0, u1), (1, (.int .i64 a2)), (5, (.int .i64 0))]) ?_ ⟨rfl, rfl, rfl, trivial⟩
  refine W_loop (fun k l w => ∃ x1 : Int, ∃ x2 : Int, l = [(0, u1), (1, (.int .i64 x1)), (5, (.int .i64 x2))] ∧ Below w0.heap.size w0 w ∧ Ctx [] w0 w [] ∧ Q.heldIntS_l1 a1 k x1 x2 = some r1) FUEL ⟨a2, 0, rfl, (Below.refl _ _), hC0, hr1⟩ ?_
  clear hr1
  rintro k1 _ w1 ⟨x1, x2, rfl, hB1, hC1, hL1⟩
  cases k1 with
  | zero => rw [Q.heldIntS_l1] at hL1; cases hL1
  | succ k1 =>
   rw [Q.heldIntS_l1] at hL1
   refine W_seq ?_
   refine W_seq_reg ?_
   refine WL_move rfl rfl ?_
   refine WL_move rfl rfl ?_
   refine WL_len Try.underlying28 g1 rfl rfl ?_
   refine WL_lss rfl rfl rfl ?_
   refine WL_nil ?_
   refine W_cond rfl (fun hc1 => ?_) (fun hc1 => ?_)
   ·replace hL1 := ite_t hL1 hc1
    refine W_skip ?_
    refine nrm_normal ?_
    refine W_seq ?_
    refine W_block ?_
    refine W_seq ?_
    refine W_seq_reg ?_
    refine WL_move rfl rfl ?_
    refine WL_move rfl rfl ?_
    obtain ⟨x4, hx1, hL1⟩ := bind_some hL1
    refine WL_index Try.underlying28 ty3 g1 hx1 rfl rfl rfl (fun b1 o1 h1 => ?_)
    refine WL_load ty3 h1 hC1.keep rfl rfl (fun v1 h2 => ?_)
    obtain rfl := ro_int h2
    refine WL_move rfl rfl ?_
    refine WL_neq rfl rfl rfl ?_
    refine WL_nil ?_
    refine W_cond rfl (fun hc2 => ?_) (fun hc2 => ?_)
    ·replace hL1 := ite_t hL1 hc2
     refine W_seq_reg ?_
     refine WL_assign rfl rfl ?_
     refine WL_nil ?_
     refine W_ret ?_
     refine nrm_ret ?_
     refine blk_ret ?_
     refine nrm_ret ?_
     refine nrm_ret ?_
     refine blk_ret ?_
     refine nrm_ret ?_
     refine nrm_ret ?_
     have hq1 := Option.some.inj hL1
     subst hq1
     dsimp only at hF
     have hq2 := Option.some.inj hF
     subst hq2
     refine fn_ret1 rfl rfl ?_
     exact ⟨_, rfl, int_res hC1 _⟩
    replace hL1 := ite_f hL1 hc2
    refine W_skip ?_
    refine nrm_normal ?_
    refine W_reg ?_
    refine WL_move rfl rfl ?_
    refine WL_add rfl rfl rfl ?_
    refine WL_assign rfl rfl ?_
    refine WL_nil ?_
    refine blk_normal ?_
    refine nrm_normal ?_
    refine W_reg ?_
    refine WL_move rfl rfl ?_
    refine WL_add rfl rfl rfl ?_
    refine WL_assign rfl rfl ?_
    refine WL_nil ?_
    refine nrm_sub (l' := [(0, u1), (1, (.int .i64 (w64 (x1 + 1)))), (5, (.int .i64 (w64 (x2 + 1))))]) ⟨rfl, rfl, rfl, trivial⟩ ?_
    exact ⟨k1, Nat.lt_succ_self _, w64 (x1 + 1), w64 (x2 + 1), rfl, (Keep.of hB1).below, hC1, hL1⟩
   replace hL1 := ite_f hL1 hc1
   refine W_exit ?_
   refine nrm_exit ?_
   refine nrm_exit ?_
   refine blk_exit ?_
   have hq3 := Option.some.inj hL1
   subst hq3
   refine nrm_sub (l' := [(1, (.int .i64 x1))]) ⟨rfl, trivial⟩ ?_
   exact ⟨x1, rfl, rfl, (Keep.of hB1).below, hC1⟩
 rintro l2 _ w2 hs2 ⟨x3, rfl, rfl, hB2, hC2⟩
 try dsimp only at hF
 refine nrm_sub' hs2 ?_
 clear hs2
 refine W_seq_reg ?_
 refine WL_move rfl rfl ?_
 refine WL_assign rfl rfl ?_
 refine WL_nil ?_
 refine W_ret ?_
 have hq4 := Option.some.inj hF
 subst hq4
 refine fn_ret1 rfl rfl ?_
 exact ⟨_, rfl, int_res hC2 _⟩

theorem c_Q_heldAtomS {w0 : World} (a1 : (List (Int × (List Int)))) (u1 : Value) (g1 : RO [] w0 u1 a1) (a2 : Int) (rr : Int) (hF : Q.heldAtomS a1 a2 = some rr) :
 Calls Try.prog 53 [u1, (.int .i64 a2)].toArray w0 fun e w' => ∃ v, e = .returned v ∧ Res w0 rr v w' := by
 refine calls_of_W Try.func53 rfl rfl ?_
 have hC0 := Ctx.start w0
 unfold Q.heldAtomS at hF
 refine W_seq_reg ?_
 refine WL_assign rfl rfl ?_
 refine WL_nil ?_
 refine W_seq ?_
 refine W_seq_reg ?_
 refine WL_assign rfl rfl ?_
 refine WL_nil ?_
 obtain ⟨r1, hr1, hF⟩ := bind_some hF
 refine W_norm (fun l w => ∃ x3 : Int, .inl x3 = r1 ∧ l = [(1, (.int .i64 x3))] ∧ Below w0.heap.size w0 w ∧ Ctx [] w0 w []) ?_ ?_
 ·refine W_block ?_
  refine W.sub (l' := [(0, u1), (1, (.int .i64 a2)), (5, (.int .i64 0))]) ?_ ⟨rfl, rfl, rfl, trivial⟩
  refine W_loop (fun k l w => ∃ x1 : Int, ∃ x2 : Int, l = [(0, u1), (1, (.int .i64 x1)), (5, (.int .i64 x2))] ∧ Below w0.heap.size w0 w ∧ Ctx [] w0 w [] ∧ Q.heldAtomS_l1 a1 k x1 x2 = some r1) FUEL ⟨a2, 0, rfl, (Below.refl _ _), hC0, hr1⟩ ?_
  clear hr1
  rintro k1 _ w1 ⟨x1, x2, rfl, hB1, hC1, hL1⟩
  cases k1 with
  | zero => rw [Q.heldAtomS_l1] at hL1; cases hL1
  | succ k1 =>
   rw [Q.heldAtomS_l1] at hL1
   refine W_seq ?_
   refine W_seq_reg ?_
   refine WL_move rfl rfl ?_
   refine WL_move rfl rfl ?_
   refine WL_len Try.underlying47 g1 rfl rfl ?_
   refine WL_lss rfl rfl rfl ?_
   refine WL_nil ?_
   refine W_cond rfl (fun hc1 => ?_) (fun hc1 => ?_)
   ·replace hL1 := ite_t hL1 hc1
    refine W_skip ?_
    refine nrm_normal ?_
    refine W_seq ?_
    refine W_block ?_
    refine W_seq ?_
    refine W_seq_reg ?_
    refine WL_move rfl rfl ?_
    refine WL_move rfl rfl ?_
    obtain ⟨x4, hx1, hL1⟩ := bind_some hL1
    refine WL_index Try.underlying47 ty70 g1 hx1 rfl rfl rfl (fun b1 o1 h1 => ?_)
    refine WL_field Try.underlying70 rfl rfl (fun w => ⟨_, Try.sizeOf3 w⟩) rfl rfl ?_
    refine WL_load ty3 h1.fst hC1.keep rfl rfl (fun v1 h2 => ?_)
    obtain rfl := ro_int h2
    refine WL_move rfl rfl ?_
    refine WL_neq rfl rfl rfl ?_
    refine WL_nil ?_
    refine W_cond rfl (fun hc2 => ?_) (fun hc2 => ?_)
    ·replace hL1 := ite_t hL1 hc2
     refine W_seq_reg ?_
     refine WL_assign rfl rfl ?_
     refine WL_nil ?_
     refine W_ret ?_
     refine nrm_ret ?_
     refine blk_ret ?_
     refine nrm_ret ?_
     refine nrm_ret ?_
     refine blk_ret ?_
     refine nrm_ret ?_
     refine nrm_ret ?_
     have hq1 := Option.some.inj hL1
     subst hq1
     dsimp only at hF
     have hq2 := Option.some.inj hF
     subst hq2
     refine fn_ret1 rfl rfl ?_
     exact ⟨_, rfl, int_res hC1 _⟩
    replace hL1 := ite_f hL1 hc2
    refine W_skip ?_
    refine nrm_normal ?_
    refine W_seq_reg ?_
    refine WL_move rfl rfl ?_
    refine WL_add rfl rfl rfl ?_
    refine WL_assign rfl rfl ?_
    refine WL_nil ?_
    refine W_seq_reg ?_
    refine WL_move rfl rfl ?_
    refine WL_move rfl rfl ?_
    obtain ⟨x5, hx2, hL1⟩ := bind_some hL1
    refine WL_index Try.underlying47 ty70 g1 hx2 rfl rfl rfl (fun b2 o2 h3 => ?_)
    refine WL_field Try.underlying70 rfl rfl (fun w => ⟨_, Try.sizeOf28 w⟩) rfl rfl ?_
    refine WL_load ty28 h3.snd hC1.keep rfl rfl (fun v2 h4 => ?_)
    refine WL_move rfl rfl ?_
    obtain ⟨x6, hr2, hL1⟩ := bind_some hL1
    refine WL_call Try.call52 rfl rfl (c_Q_heldIntS x5.2 v2 (h4.now hC1.keep) (w64 (x1 + 1)) x6 hr2) ?_
    intro _ w2 hv1
    obtain ⟨rfl, hB2⟩ := res_int hv1
    have hC2 := hC1.grow hB2
    refine WL_assign rfl rfl ?_
    refine WL_nil ?_
    refine W_seq_reg ?_
    refine WL_move rfl rfl ?_
    refine WL_lss rfl rfl rfl ?_
    refine WL_nil ?_
    refine W_cond rfl (fun hc3 => ?_) (fun hc3 => ?_)
    ·replace hL1 := ite_t hL1 hc3
     refine W_seq_reg ?_
     refine WL_assign rfl rfl ?_
     refine WL_nil ?_
     refine W_ret ?_
     refine blk_ret ?_
     refine nrm_ret ?_
     refine nrm_ret ?_
     refine blk_ret ?_
     refine nrm_ret ?_
     refine nrm_ret ?_
     have hq3 := Option.some.inj hL1
     subst hq3
     dsimp only at hF
     have hq4 := Option.some.inj hF
     subst hq4
     refine fn_ret1 rfl rfl ?_
     exact ⟨_, rfl, int_res hC2 _⟩
    replace hL1 := ite_f hL1 hc3
    refine W_skip ?_
    refine blk_normal ?_
    refine nrm_normal ?_
    refine W_reg ?_
    refine WL_move rfl rfl ?_
    refine WL_add rfl rfl rfl ?_
    refine WL_assign rfl rfl ?_
    refine WL_nil ?_
    refine nrm_sub (l' := [(0, u1), (1, (.int .i64 x6)), (5, (.int .i64 (w64 (x2 + 1))))]) ⟨rfl, rfl, rfl, trivial⟩ ?_
    exact ⟨k1, Nat.lt_succ_self _, x6, w64 (x2 + 1), rfl, ((Keep.of hB1).then hB2).below, hC2, hL1⟩
   replace hL1 := ite_f hL1 hc1
   refine W_exit ?_
   refine nrm_exit ?_
   refine nrm_exit ?_
   refine blk_exit ?_
   have hq5 := Option.some.inj hL1
   subst hq5
   refine nrm_sub (l' := [(1, (.int .i64 x1))]) ⟨rfl, trivial⟩ ?_
   exact ⟨x1, rfl, rfl, (Keep.of hB1).below, hC1⟩
 rintro l2 _ w3 hs2 ⟨x3, rfl, rfl, hB3, hC3⟩
 try dsimp only at hF
 refine nrm_sub' hs2 ?_
 clear hs2
 refine W_seq_reg ?_
 refine WL_move rfl rfl ?_
 refine WL_assign rfl rfl ?_
 refine WL_nil ?_
 refine W_ret ?_
 have hq6 := Option.some.inj hF
 subst hq6
 refine fn_ret1 rfl rfl ?_
 exact ⟨_, rfl, int_res hC3 _⟩

theorem c_Q_heldQuery {w0 : World} (a1 : ((List Int) × (List (Int × (List Int))))) (u1 : Value) (g1 : RO [] w0 u1 a1.1) (u2 : Value) (g2 : RO [] w0 u2 a1.2) (a2 : Int) (rr : Int) (hF : Q.heldQuery a1 a2 = some rr) :
 Calls Try.prog 27 [(.agg #[u1, u2]), (.int .i64 a2)].toArray w0 fun e w' => ∃ v, e = .returned v ∧ Res w0 rr v w' := by
 refine calls_of_W Try.func27 rfl rfl ?_
 have hC0 := Ctx.start w0
 unfold Q.heldQuery at hF
 refine W_seq_reg ?_
 refine WL_boxK (cs := [u1, u2]) hC0 rfl rfl rfl (fun b1 w1 hC1 hB1 hN1 => ?_)
 refine WL_assign rfl rfl ?_
 refine WL_nil ?_
 refine W_seq_reg ?_
 refine WL_field Try.underlying49 rfl rfl (fun w => ⟨_, Try.sizeOf28 w⟩) rfl rfl ?_
 refine WL_load_box hC1 0 rfl rfl Try.isAgg28 rfl rfl ?_
 refine WL_move rfl rfl ?_
 obtain ⟨x1, hr1, hF⟩ := bind_some hF
 refine WL_call Try.call52 rfl rfl (c_Q_heldIntS a1.1 u1 (g1.now hC1.keep) a2 x1 hr1) ?_
 intro _ w2 hv1
 obtain ⟨rfl, hB2⟩ := res_int hv1
 have hC2 := hC1.grow hB2
 refine WL_assign rfl rfl ?_
 refine WL_nil ?_
 refine W_seq ?_
 refine W_seq_reg ?_
 refine WL_move rfl rfl ?_
 refine WL_lss rfl rfl rfl ?_
 refine WL_nil ?_
 refine W_cond rfl (fun hc1 => ?_) (fun hc1 => ?_)
 ·replace hF := ite_t hF hc1
  refine W_seq_reg ?_
  refine WL_assign rfl rfl ?_
  refine WL_nil ?_
  refine W_ret ?_
  refine nrm_ret ?_
  have hq1 := Option.some.inj hF
  subst hq1
  refine fn_ret1 rfl rfl ?_
  exact ⟨_, rfl, int_res hC2 _⟩
 replace hF := ite_f hF hc1
 refine W_skip ?_
 refine nrm_normal ?_
 refine W_seq_reg ?_
 refine WL_field Try.underlying49 rfl rfl (fun w => ⟨_, Try.sizeOf47 w⟩) rfl rfl ?_
 refine WL_load_box hC2 0 rfl rfl Try.isAgg47 rfl rfl ?_
 refine WL_move rfl rfl ?_
 obtain ⟨x2, hr2, hF⟩ := bind_some hF
 refine WL_call Try.call53 rfl rfl (c_Q_heldAtomS a1.2 u2 (g2.now hC2.keep) x1 x2 hr2) ?_
 intro _ w3 hv2
 obtain ⟨rfl, hB3⟩ := res_int hv2
 have hC3 := hC2.grow hB3
 refine WL_assign rfl rfl ?_
 refine WL_nil ?_
 refine W_seq ?_
 refine W_seq_reg ?_
 refine WL_move rfl rfl ?_
 refine WL_lss rfl rfl rfl ?_
 refine WL_nil ?_
 refine W_cond rfl (fun hc2 => ?_) (fun hc2 => ?_)
 ·replace hF := ite_t hF hc2
  refine W_seq_reg ?_
  refine WL_assign rfl rfl ?_
  refine WL_nil ?_
  refine W_ret ?_
  refine nrm_ret ?_
  have hq2 := Option.some.inj hF
  subst hq2
  refine fn_ret1 rfl rfl ?_
  exact ⟨_, rfl, int_res hC3 _⟩
 replace hF := ite_f hF hc2
 refine W_skip ?_
 refine nrm_normal ?_
 refine W_seq_reg ?_
 refine WL_move rfl rfl ?_
 refine WL_assign rfl rfl ?_
 refine WL_nil ?_
 refine W_ret ?_
 have hq3 := Option.some.inj hF
 subst hq3
 refine fn_ret1 rfl rfl ?_
 exact ⟨_, rfl, int_res hC3 _⟩

theorem c_Q_FnExactSwapValue {w0 : World} (a1 : ((List Int) × (List (Int × (List Int))))) (u1 : Value) (g1 : RO [] w0 u1 a1.1) (u2 : Value) (g2 : RO [] w0 u2 a1.2) (a2 : Int) (a3 : Int) (rr : Bool) (hF : Q.FnExactSwapValue a1 a2 a3 = some rr) :
 Calls Try.prog 4 [(.agg #[u1, u2]), (.int .i64 a2), (.int .i64 a3)].toArray w0 fun e w' => ∃ v, e = .returned v ∧ Res w0 rr v w' := by
 refine calls_of_W Try.func4 rfl rfl ?_
 have hC0 := Ctx.start w0
 unfold Q.FnExactSwapValue at hF
 refine W_seq_reg ?_
 refine WL_boxK (cs := [u1, u2]) hC0 rfl rfl rfl (fun b1 w1 hC1 hB1 hN1 => ?_)
 refine WL_assign rfl rfl ?_
 refine WL_nil ?_
 refine W_seq_reg ?_
 refine WL_assign rfl rfl ?_
 refine WL_nil ?_
 refine W_seq_reg ?_
 refine WL_load_box_agg [u1, u2] hC1 0 rfl rfl rfl Try.isAgg45 Try.sizeOf45 rfl rfl ?_
 refine WL_move rfl rfl ?_
 obtain ⟨x1, hr1, hF⟩ := bind_some hF
 refine WL_call Try.call21 rfl rfl (c_Q_szQuery (a1.1, a1.2) u1 (g1.now hC1.keep) u2 (g2.now hC1.keep) 1048576 x1 hr1) ?_
 intro _ w2 hv1
 obtain ⟨rfl, hB2⟩ := res_int hv1
 have hC2 := hC1.grow hB2
 refine WL_assign rfl rfl ?_
 refine WL_nil ?_
 refine W_seq ?_
 refine W_seq_reg ?_
 refine WL_move rfl rfl ?_
 refine WL_lss rfl rfl rfl ?_
 refine WL_nil ?_
 refine W_cond rfl (fun hc1 => ?_) (fun hc1 => ?_)
 ·replace hF := ite_t hF hc1
  refine W_seq_reg ?_
  refine WL_assign rfl rfl ?_
  refine WL_nil ?_
  refine W_ret ?_
  refine nrm_ret ?_
  have hq1 := Option.some.inj hF
  subst hq1
  refine fn_ret1 rfl rfl ?_
  exact ⟨_, rfl, bool_res hC2 _⟩
 replace hF := ite_f hF hc1
 refine W_skip ?_
 refine nrm_normal ?_
 refine W_seq_reg ?_
 refine WL_load_box_agg [u1, u2] hC2 0 rfl rfl rfl Try.isAgg45 Try.sizeOf45 rfl rfl ?_
 obtain ⟨x2, hr2, hF⟩ := bind_some hF
 refine WL_call Try.call23 rfl rfl (c_Q_toQuery (a1.1, a1.2) u1 (g1.now hC2.keep) u2 (g2.now hC2.keep) x2 hr2) ?_
 rintro v1 w3 ⟨hB3, F1, hv2, hn1, hb1⟩
 have hC3 := hC2.push hB3 (A := Item.own v1 x2) hv2 hn1 hb1
 obtain ⟨v2, v3, rfl, hC4⟩ := st49_own hC3
 refine WL_move rfl rfl ?_
 refine WL_move rfl rfl ?_
 obtain ⟨x3, hr3, hF⟩ := bind_some hF
 refine WL_call Try.call22 rfl rfl (c_S_SwapValue x2 v2 ((hC4.ro 0 rfl).now (Keep.refl _ _)) v3 ((hC4.ro 1 rfl).now (Keep.refl _ _)) a2 a3 x3 hr3) ?_
 rintro v4 w4 ⟨hB4, F2, hv3, hn2, hb2⟩
 have hC5 := hC4.push hB4 (A := Item.own v4 x3) hv3 hn2 hb2
 obtain ⟨v5, v6, rfl, hC6⟩ := st49_own hC5
 refine WL_allocK hC6 zero49 rfl rfl (fun b2 w5 hC7 hB5 hN2 => ?_)
 refine WL_store_box_aggK (cs' := [v5, v6]) (new := [v5, v6]) hC7 0 rfl rfl (by intro v hv; simp only [List.mem_cons, List.not_mem_nil, or_false] at hv; rcases hv with rfl | rfl; exact (ro_one (hC7.ro 1 rfl)); exact (ro_one (hC7.ro 2 rfl))) rfl Try.sizeOf49 rfl rfl (fun w6 hC8 hKp1 => ?_)
 try dsimp only [List.set] at hC8
 have hk1 := Keep.over (((((Keep.of hB1).then hB2).then hB3).then hB4).then hB5) (Nat.le_trans ((((Keep.of hB1).then hB2).then hB3).then hB4).size hN2) hKp1
 have hk2 := Keep.over ((((Keep.of hB2).then hB3).then hB4).then hB5) (Nat.le_trans (((Keep.of hB2).then hB3).then hB4).size hN2) hKp1
 have hk3 := Keep.over (((Keep.of hB3).then hB4).then hB5) (Nat.le_trans ((Keep.of hB3).then hB4).size hN2) hKp1
 have hk4 := Keep.over ((Keep.of hB4).then hB5) (Nat.le_trans (Keep.of hB4).size hN2) hKp1
 have hk5 := Keep.over (Keep.of hB5) hN2 hKp1
 refine WL_nil ?_
 refine W_seq_reg ?_
 refine WL_load_box_agg [u1, u2] hC8 5 rfl rfl rfl Try.isAgg45 Try.sizeOf45 rfl rfl ?_
 obtain ⟨x4, hr4, hF⟩ := bind_some hF
 refine WL_call Try.call23 rfl rfl (c_Q_toQuery (a1.1, a1.2) u1 (g1.now hC8.keep) u2 (g2.now hC8.keep) x4 hr4) ?_
 rintro v7 w7 ⟨hB6, F3, hv4, hn3, hb3⟩
 have hC9 := hC8.push hB6 (A := Item.own v7 x4) hv4 hn3 hb3
 obtain ⟨v8, v9, rfl, hC10⟩ := st49_own hC9
 refine WL_allocK hC10 zero49 rfl rfl (fun b3 w9 hC11 hB7 hN3 => ?_)
 refine WL_store_box_aggK (cs' := [v8, v9]) (new := [v8, v9]) hC11 0 rfl rfl (by intro v hv; simp only [List.mem_cons, List.not_mem_nil, or_false] at hv; rcases hv with rfl | rfl; exact (ro_one (hC11.ro 1 rfl)); exact (ro_one (hC11.ro 2 rfl))) rfl Try.sizeOf49 rfl rfl (fun w10 hC12 hKp2 => ?_)
 try dsimp only [List.set] at hC12
 have hk6 := Keep.over ((hk1.then hB6).then hB7) (Nat.le_trans (hk1.then hB6).size hN3) hKp2
 have hk7 := Keep.over ((hk2.then hB6).then hB7) (Nat.le_trans (hk2.then hB6).size hN3) hKp2
 have hk8 := Keep.over ((hk3.then hB6).then hB7) (Nat.le_trans (hk3.then hB6).size hN3) hKp2
 have hk9 := Keep.over ((hk4.then hB6).then hB7) (Nat.le_trans (hk4.then hB6).size hN3) hKp2
 have hk10 := Keep.over ((hk5.then hB6).then hB7) (Nat.le_trans (hk5.then hB6).size hN3) hKp2
 have hk11 := Keep.over ((Keep.of hB6).then hB7) (Nat.le_trans (Keep.of hB6).size hN3) hKp2
 have hk12 := Keep.over (Keep.of hB7) hN3 hKp2
 refine WL_nil ?_
 refine W_seq_reg ?_
 refine WL_load_box_agg [v8, v9] hC12 0 rfl rfl rfl Try.isAgg49 Try.sizeOf49 rfl rfl ?_
 refine WL_move rfl rfl ?_
 refine WL_move rfl rfl ?_
 obtain ⟨x5, hr5, hF⟩ := bind_some hF
 refine WL_call Try.call24 rfl rfl (c_M_SwapValue (x4.1, x4.2) v8 ((hC12.ro 1 rfl).now (Keep.refl _ _)) v9 ((hC12.ro 2 rfl).now (Keep.refl _ _)) a2 a3 x5 hr5) ?_
 rintro v10 w11 ⟨hB8, F4, hv5, hn4, hb4⟩
 have hC13 := hC12.push hB8 (A := Item.own v10 x5) hv5 hn4 hb4
 obtain ⟨v11, v12, rfl, hC14⟩ := st49_own hC13
 refine WL_allocK hC14 zero49 rfl rfl (fun b4 w12 hC15 hB9 hN4 => ?_)
 refine WL_store_box_aggK (cs' := [v11, v12]) (new := [v11, v12]) hC15 0 rfl rfl (by intro v hv; simp only [List.mem_cons, List.not_mem_nil, or_false] at hv; rcases hv with rfl | rfl; exact (ro_one (hC15.ro 1 rfl)); exact (ro_one (hC15.ro 2 rfl))) rfl Try.sizeOf49 rfl rfl (fun w13 hC16 hKp3 => ?_)
 try dsimp only [List.set] at hC16
 have hk13 := Keep.over ((hk6.then hB8).then hB9) (Nat.le_trans (hk6.then hB8).size hN4) hKp3
 have hk14 := Keep.over ((hk7.then hB8).then hB9) (Nat.le_trans (hk7.then hB8).size hN4) hKp3
 have hk15 := Keep.over ((hk8.then hB8).then hB9) (Nat.le_trans (hk8.then hB8).size hN4) hKp3
 have hk16 := Keep.over ((hk9.then hB8).then hB9) (Nat.le_trans (hk9.then hB8).size hN4) hKp3
 have hk17 := Keep.over ((hk10.then hB8).then hB9) (Nat.le_trans (hk10.then hB8).size hN4) hKp3
 have hk18 := Keep.over ((hk11.then hB8).then hB9) (Nat.le_trans (hk11.then hB8).size hN4) hKp3
 have hk19 := Keep.over ((hk12.then hB8).then hB9) (Nat.le_trans (hk12.then hB8).size hN4) hKp3
 have hk20 := Keep.over ((Keep.of hB8).then hB9) (Nat.le_trans (Keep.of hB8).size hN4) hKp3
 have hk21 := Keep.over (Keep.of hB9) hN4 hKp3
 refine WL_nil ?_
 refine W_seq ?_
 refine W_seq_reg ?_
 refine WL_load_box_agg [v11, v12] hC16 0 rfl rfl rfl Try.isAgg49 Try.sizeOf49 rfl rfl ?_
 refine WL_load_box_agg [v5, v6] hC16 6 rfl rfl rfl Try.isAgg49 Try.sizeOf49 rfl rfl ?_
 obtain ⟨x6, hr6, hF⟩ := bind_some hF
 refine WL_call Try.call25 rfl rfl (c_Q_eqQuery (x5.1, x5.2) v11 ((hC16.ro 1 rfl).now (Keep.refl _ _)) v12 ((hC16.ro 2 rfl).now (Keep.refl _ _)) (x3.1, x3.2) v5 ((hC16.ro 7 rfl).now (Keep.refl _ _)) v6 ((hC16.ro 8 rfl).now (Keep.refl _ _)) x6 hr6) ?_
 intro _ w14 hv6
 obtain ⟨rfl, hB10⟩ := res_bool hv6
 have hC17 := hC16.grow hB10
 refine WL_not rfl rfl ?_
 refine WL_nil ?_
 refine W_cond rfl (fun hc2 => ?_) (fun hc2 => ?_)
 ·replace hF := ite_t hF hc2
  refine W_seq_reg ?_
  refine WL_assign rfl rfl ?_
  refine WL_nil ?_
  refine W_ret ?_
  refine nrm_ret ?_
  have hq2 := Option.some.inj hF
  subst hq2
  refine fn_ret1 rfl rfl ?_
  exact ⟨_, rfl, bool_res hC17 _⟩
 replace hF := ite_f hF hc2
 refine W_skip ?_
 refine nrm_normal ?_
 refine W_seq ?_
 refine W_seq ?_
 refine W_drawn 5 rfl hmix (fun w15 hB11 => ?_)
 have hC18 := hC17.grow hB11
 obtain ⟨x7, hr7, hF⟩ := bind_some hF
 refine WA.sub (l' := [(0, (.agg #[u1, u2])), (1, (.int .i64 a2)), (2, (.int .i64 a3)), (3, (ptr b1 0)), (6, (.bool false)), (7, (.int .i64 x1)), (8, (ptr b2 0)), (9, (ptr b3 0)), (10, (ptr b4 0)), (15, (.agg #[u1, u2])), (16, (.int .i64 1048576)), (17, (.int .i64 x1)), (18, (.int .i64 x1)), (19, (.bool (decide (x1 < 0)))), (20, (.agg #[u1, u2])), (21, (.agg #[v2, v3])), (22, (.int .i64 a2)), (23, (.int .i64 a3)), (24, (.agg #[v5, v6])), (25, (.agg #[u1, u2])), (26, (.agg #[v8, v9])), (27, (.agg #[v8, v9])), (28, (.int .i64 a2)), (29, (.int .i64 a3)), (30, (.agg #[v11, v12])), (31, (.agg #[v11, v12])), (32, (.agg #[v5, v6])), (33, (.bool x6)), (34, (.bool (!x6)))]) ?_ ⟨rfl, rfl, rfl, rfl, rfl, rfl, rfl, rfl, rfl, rfl, rfl, rfl, rfl, rfl, rfl, rfl, rfl, rfl, rfl, rfl, rfl, rfl, rfl, rfl, rfl, rfl, rfl, rfl, rfl, trivial⟩
 refine WA_postsE [⟨0, [], fun vs => PW.val (.agg #[v8, v9]), []⟩, ⟨1, [], fun vs => PW.val (.agg #[u1, u2]), []⟩, ⟨2, [], fun vs => PW.own x7, []⟩] [[], [], [1]] 2 rfl (by kernel_rfl) (by kernel_rfl) rfl ?_ ?_
 ·refine StepsE_cons rfl ?_ ?_
  ·intro w17 hB13
   refine DepsE_nil ?_
   refine ⟨_, rfl, ?_⟩
   refine WL_load_box_agg [v8, v9] (hC18.grow hB13) 3 rfl rfl rfl Try.isAgg49 Try.sizeOf49 rfl rfl ?_
   refine WL_nil ?_
   exact FinE_val (Below.refl _ _) rfl rfl ⟨rfl, rfl⟩
  refine StepsE_cons rfl ?_ ?_
  ·intro w17 hB13
   refine DepsE_nil ?_
   refine ⟨_, rfl, ?_⟩
   refine WL_load_box_agg [u1, u2] (hC18.grow hB13) 11 rfl rfl rfl Try.isAgg45 Try.sizeOf45 rfl rfl ?_
   refine WL_nil ?_
   exact FinE_val (Below.refl _ _) rfl rfl ⟨rfl, rfl⟩
  refine StepsE_cons rfl ?_ ?_
  ·intro w17 hB13
   refine DepsE_cons rfl rfl rfl ?_
   rintro _ _ ⟨rfl, rfl⟩ _
   refine DepsE_nil ?_
   refine ⟨_, rfl, ?_⟩
   refine WL_call Try.call23 rfl rfl (c_Q_toQuery (a1.1, a1.2) u1 (g1.now (hC18.keep.then hB13)) u2 (g2.now (hC18.keep.then hB13)) x7 hr7) ?_
   rintro v13 w16 ⟨hB12, F5, hv7, hn5, hb5⟩
   refine WL_nil ?_
   exact FinE_own hB12 rfl rfl hv7 hn5 hb5 (Val.inh hv7)
  exact StepsE_nil
 intro w18 hB14
 refine AllE_cons rfl rfl rfl ?_
 rintro _ _ ⟨rfl, rfl⟩
 refine AllE_cons rfl rfl rfl ?_
 rintro _ _ ⟨rfl, rfl⟩
 refine AllE_cons rfl rfl rfl ?_
 intro v13 F5 hv7
 refine AllE_nil ?_
 intro hn6 hb6
 have hC19 := hC18.pushL hB14 (Bs := [Item.own v13 (x7 : ((List Int) × (List (Int × (List Int)))))]) (Fs := [F5]) ⟨F5, _, rfl, hv7, rfl⟩ (by simpa using hn6) (fun b h => (hb6 b (by simpa using h)).1)
 obtain ⟨v16, v17, rfl, hC20⟩ := st49_own hC19
 obtain ⟨x8, hr8, hF⟩ := bind_some hF
 refine WA_one 3 (by kernel_rfl) rfl ?_
 refine WL_call Try.call25 rfl rfl (c_Q_eqQuery (x4.1, x4.2) v8 ((hC20.ro 6 rfl).now (Keep.refl _ _)) v9 ((hC20.ro 7 rfl).now (Keep.refl _ _)) x7 v16 ((hC20.ro 0 rfl).now (Keep.refl _ _)) v17 ((hC20.ro 1 rfl).now (Keep.refl _ _)) x8 hr8) ?_
 intro _ w19 hv8
 obtain ⟨rfl, hB15⟩ := res_bool hv8
 have hC21 := hC20.grow hB15
 refine WL_nil ?_
 refine WA_tk 4 (by kernel_rfl) rfl rfl (fl_not rfl) ?_
 refine WL_not rfl rfl ?_
 refine WL_nil ?_
 refine WA_done (by kernel_rfl) ?_
 refine nrm_normal ?_
 refine W_cond rfl (fun hc3 => ?_) (fun hc3 => ?_)
 ·replace hF := ite_t hF hc3
  refine W_seq_reg ?_
  refine WL_assign rfl rfl ?_
  refine WL_nil ?_
  refine W_ret ?_
  refine nrm_ret ?_
  have hq3 := Option.some.inj hF
  subst hq3
  refine fn_ret1 rfl rfl ?_
  exact ⟨_, rfl, bool_res hC21 _⟩
 replace hF := ite_f hF hc3
 refine W_skip ?_
 refine nrm_normal ?_
 refine W_seq_reg ?_
 refine WL_assign rfl rfl ?_
 refine WL_nil ?_
 refine W_seq_reg ?_
 refine WL_load_box_agg [v8, v9] hC21 5 rfl rfl rfl Try.isAgg49 Try.sizeOf49 rfl rfl ?_
 refine WL_move rfl rfl ?_
 obtain ⟨x9, hr9, hF⟩ := bind_some hF
 have hC22 := hC21.f7
 have hC23 := hC22.f7
 obtain ⟨Fs1, hH1, hn7, hF1, hO1, hb7⟩ := Ctx.lend2 (As := [Item.own v16 (x7.1 : (List Int)), Item.own v17 (x7.2 : (List (Int × (List Int)))), Item.box b4 [v11, v12], Item.own v11 (x5.1 : (List Int)), Item.own v12 (x5.2 : (List (Int × (List Int)))), Item.box b3 [v8, v9], Item.box b2 [v5, v6], Item.own v5 (x3.1 : (List Int)), Item.own v6 (x3.2 : (List (Int × (List Int)))), Item.own v2 (x2.1 : (List Int)), Item.own v3 (x2.2 : (List (Int × (List Int)))), Item.box b1 [u1, u2]]) [Item.own v8 (x4.1 : (List Int)), Item.own v9 (x4.2 : (List (Int × (List Int))))] hC23
 refine WL_call Try.call26 rfl rfl (c_Q_markQuery (x4.1, x4.2) v8 v9 1 hH1 hn7 x9 hr9) ?_
 rintro _ w20 ⟨rfl, hq4⟩
 have hC24 : Ctx [] w0 w20 [Item.own v8 (x9.2.1 : (List Int)), Item.own v9 (x9.2.2 : (List (Int × (List Int)))), Item.own v16 (x7.1 : (List Int)), Item.own v17 (x7.2 : (List (Int × (List Int)))), Item.box b4 [v11, v12], Item.own v11 (x5.1 : (List Int)), Item.own v12 (x5.2 : (List (Int × (List Int)))), Item.box b3 [v8, v9], Item.box b2 [v5, v6], Item.own v5 (x3.1 : (List Int)), Item.own v6 (x3.2 : (List (Int × (List Int)))), Item.own v2 (x2.1 : (List Int)), Item.own v3 (x2.2 : (List (Int × (List Int)))), Item.box b1 [u1, u2]] := hb7 _ _ hq4
 refine WL_assign rfl rfl ?_
 refine WL_nil ?_
 refine W_seq ?_
 obtain ⟨r1, hr10, hF⟩ := bind_some hF
 refine W_cut (fun l w => ∃ x10 : Bool, x10 = r1 ∧ l = [(1, (.int .i64 a2)), (2, (.int .i64 a3)), (3, (ptr b1 0)), (8, (ptr b2 0)), (10, (ptr b4 0)), (50, (.bool x10))] ∧ Below w20.heap.size w20 w ∧ Ctx [] w0 w [Item.box b4 [v11, v12], Item.own v11 (x5.1 : (List Int)), Item.own v12 (x5.2 : (List (Int × (List Int)))), Item.box b2 [v5, v6], Item.own v5 (x3.1 : (List Int)), Item.own v6 (x3.2 : (List (Int × (List Int)))), Item.box b1 [u1, u2]]) ?_ ?_
 ·refine W_reg ?_
  refine WL_move rfl rfl ?_
  refine WL_lss rfl rfl rfl ?_
  refine WL_move rfl rfl ?_
  refine WL_fork (fun hc4 => ?_) (fun hc4 => ?_)
  ·replace hr10 := ite_t hr10 hc4
   refine WL_guard_skip rfl rfl (by simp) rfl ?_
   refine WL_guard_skip rfl rfl (by simp) rfl ?_
   refine WL_guard_skip rfl rfl (by simp) rfl ?_
   refine WL_guard_skip rfl rfl (by simp) rfl ?_
   refine WL_pick_t rfl rfl rfl ?_
   refine WL_nil ?_
   have hq5 := Option.some.inj hr10
   subst hq5
   have hC26 := hC24.f13
   have hC27 := hC26.f11
   have hC28 := hC27.f11
   have hC29 := hC28.f11
   have hC30 := hC29.f10
   have hC31 := hC30.f10
   have hC32 := hC31.f10
   have hC33 := hC32.h7
   refine nrm_sub (l' := [(1, (.int .i64 a2)), (2, (.int .i64 a3)), (3, (ptr b1 0)), (8, (ptr b2 0)), (10, (ptr b4 0)), (50, (.bool true))]) ⟨rfl, rfl, rfl, rfl, rfl, rfl, trivial⟩ ?_
   exact ⟨true, rfl, rfl, (Below.refl _ _), hC33⟩
  replace hr10 := ite_f hr10 hc4
  refine WL_guard rfl rfl ?_
  refine WL_load_box_agg [v11, v12] hC24 4 rfl rfl rfl Try.isAgg49 Try.sizeOf49 rfl rfl ?_
  refine WL_guard rfl rfl ?_
  refine WL_load_box_agg [v5, v6] hC24 8 rfl rfl rfl Try.isAgg49 Try.sizeOf49 rfl rfl ?_
  obtain ⟨x11, hr11, hr10⟩ := bind_some hr10
  refine WL_guard rfl rfl ?_
  refine WL_call Try.call25 rfl rfl (c_Q_eqQuery (x5.1, x5.2) v11 ((hC24.ro 5 rfl).now (Keep.refl _ _)) v12 ((hC24.ro 6 rfl).now (Keep.refl _ _)) (x3.1, x3.2) v5 ((hC24.ro 9 rfl).now (Keep.refl _ _)) v6 ((hC24.ro 10 rfl).now (Keep.refl _ _)) x11 hr11) ?_
  intro _ w22 hv9
  obtain ⟨rfl, hB17⟩ := res_bool hv9
  have hC34 := hC24.grow hB17
  refine WL_guard rfl rfl ?_
  refine WL_not rfl rfl ?_
  refine WL_pick_f rfl rfl rfl ?_
  refine WL_nil ?_
  have hq6 := Option.some.inj hr10
  subst hq6
  have hC35 := hC34.f13
  have hC36 := hC35.f11
  have hC37 := hC36.f11
  have hC38 := hC37.f11
  have hC39 := hC38.f10
  have hC40 := hC39.f10
  have hC41 := hC40.f10
  have hC42 := hC41.h7
  refine nrm_sub (l' := [(1, (.int .i64 a2)), (2, (.int .i64 a3)), (3, (ptr b1 0)), (8, (ptr b2 0)), (10, (ptr b4 0)), (50, (.bool (!x11)))]) ⟨rfl, rfl, rfl, rfl, rfl, rfl, trivial⟩ ?_
  exact ⟨(!x11), rfl, rfl, (Keep.of hB17).below, hC42⟩
 rintro _ w21 ⟨x10, rfl, rfl, hB16, hC25⟩
 try dsimp only at hF
 refine W_cond rfl (fun hc5 => ?_) (fun hc5 => ?_)
 ·replace hF := ite_t hF hc5
  refine W_seq_reg ?_
  refine WL_assign rfl rfl ?_
  refine WL_nil ?_
  refine W_ret ?_
  refine nrm_ret ?_
  have hq7 := Option.some.inj hF
  subst hq7
  refine fn_ret1 rfl rfl ?_
  exact ⟨_, rfl, bool_res hC25 _⟩
 replace hF := ite_f hF hc5
 refine W_skip ?_
 refine nrm_normal ?_
 refine W_seq_reg ?_
 refine WL_assign rfl rfl ?_
 refine WL_nil ?_
 refine W_seq_reg ?_
 refine WL_load_box_agg [v11, v12] hC25 0 rfl rfl rfl Try.isAgg49 Try.sizeOf49 rfl rfl ?_
 refine WL_move rfl rfl ?_
 obtain ⟨x12, hr12, hF⟩ := bind_some hF
 have hC43 := hC25.f2
 have hC44 := hC43.f2
 obtain ⟨Fs2, hH2, hn8, hF2, hO2, hb8⟩ := Ctx.lend2 (As := [Item.box b4 [v11, v12], Item.box b2 [v5, v6], Item.own v5 (x3.1 : (List Int)), Item.own v6 (x3.2 : (List (Int × (List Int)))), Item.box b1 [u1, u2]]) [Item.own v11 (x5.1 : (List Int)), Item.own v12 (x5.2 : (List (Int × (List Int))))] hC44
 refine WL_call Try.call26 rfl rfl (c_Q_markQuery (x5.1, x5.2) v11 v12 1 hH2 hn8 x12 hr12) ?_
 rintro _ w23 ⟨rfl, hq8⟩
 have hC45 : Ctx [] w0 w23 [Item.own v11 (x12.2.1 : (List Int)), Item.own v12 (x12.2.2 : (List (Int × (List Int)))), Item.box b4 [v11, v12], Item.box b2 [v5, v6], Item.own v5 (x3.1 : (List Int)), Item.own v6 (x3.2 : (List (Int × (List Int)))), Item.box b1 [u1, u2]] := hb8 _ _ hq8
 refine WL_assign rfl rfl ?_
 refine WL_nil ?_
 refine W_seq_reg ?_
 refine WL_assign rfl rfl ?_
 refine WL_nil ?_
 refine W_seq_reg ?_
 refine WL_load_box_agg [v11, v12] hC45 2 rfl rfl rfl Try.isAgg49 Try.sizeOf49 rfl rfl ?_
 refine WL_move rfl rfl ?_
 obtain ⟨x13, hr13, hF⟩ := bind_some hF
 refine WL_call Try.call27 rfl rfl (c_Q_heldQuery (x12.2.1, x12.2.2) v11 ((hC45.ro 0 rfl).now (Keep.refl _ _)) v12 ((hC45.ro 1 rfl).now (Keep.refl _ _)) 1 x13 hr13) ?_
 intro _ w24 hv10
 obtain ⟨rfl, hB18⟩ := res_int hv10
 have hC46 := hC45.grow hB18
 refine WL_assign rfl rfl ?_
 refine WL_nil ?_
 refine W_seq ?_
 refine W_seq_reg ?_
 refine WL_move rfl rfl ?_
 refine WL_lss rfl rfl rfl ?_
 refine WL_nil ?_
 refine W_cond rfl (fun hc6 => ?_) (fun hc6 => ?_)
 ·replace hF := ite_t hF hc6
  refine W_seq_reg ?_
  refine WL_assign rfl rfl ?_
  refine WL_nil ?_
  refine W_ret ?_
  refine nrm_ret ?_
  have hq9 := Option.some.inj hF
  subst hq9
  refine fn_ret1 rfl rfl ?_
  exact ⟨_, rfl, bool_res hC46 _⟩
 replace hF := ite_f hF hc6
 refine W_skip ?_
 refine nrm_normal ?_
 refine W_seq ?_
 refine W_seq_reg ?_
 refine WL_move rfl rfl ?_
 refine WL_move rfl rfl ?_
 refine WL_neq rfl rfl rfl ?_
 refine WL_nil ?_
 refine W_cond rfl (fun hc7 => ?_) (fun hc7 => ?_)
 ·replace hF := ite_t hF hc7
  refine W_seq_reg ?_
  refine WL_assign rfl rfl ?_
  refine WL_nil ?_
  refine W_ret ?_
  refine nrm_ret ?_
  have hq10 := Option.some.inj hF
  subst hq10
  refine fn_ret1 rfl rfl ?_
  exact ⟨_, rfl, bool_res hC46 _⟩
 replace hF := ite_f hF hc7
 refine W_skip ?_
 refine nrm_normal ?_
 refine W_seq_reg ?_
 refine WL_load_box_agg [u1, u2] hC46 6 rfl rfl rfl Try.isAgg45 Try.sizeOf45 rfl rfl ?_
 obtain ⟨x14, hr14, hF⟩ := bind_some hF
 refine WL_call Try.call23 rfl rfl (c_Q_toQuery (a1.1, a1.2) u1 (g1.now hC46.keep) u2 (g2.now hC46.keep) x14 hr14) ?_
 rintro v18 w25 ⟨hB19, F6, hv11, hn9, hb9⟩
 have hC47 := hC46.push hB19 (A := Item.own v18 x14) hv11 hn9 hb9
 obtain ⟨v19, v20, rfl, hC48⟩ := st49_own hC47
 refine WL_move rfl rfl ?_
 refine WL_move rfl rfl ?_
 obtain ⟨x15, hr15, hF⟩ := bind_some hF
 refine WL_call Try.call24 rfl rfl (c_M_SwapValue x14 v19 ((hC48.ro 0 rfl).now (Keep.refl _ _)) v20 ((hC48.ro 1 rfl).now (Keep.refl _ _)) a2 a3 x15 hr15) ?_
 rintro v21 w26 ⟨hB20, F7, hv12, hn10, hb10⟩
 have hC49 := hC48.push hB20 (A := Item.own v21 x15) hv12 hn10 hb10
 obtain ⟨v22, v23, rfl, hC50⟩ := st49_own hC49
 refine WL_allocK hC50 zero49 rfl rfl (fun b5 w27 hC51 hB21 hN5 => ?_)
 refine WL_store_box_aggK (cs' := [v22, v23]) (new := [v22, v23]) hC51 0 rfl rfl (by intro v hv; simp only [List.mem_cons, List.not_mem_nil, or_false] at hv; rcases hv with rfl | rfl; exact (ro_one (hC51.ro 1 rfl)); exact (ro_one (hC51.ro 2 rfl))) rfl Try.sizeOf49 rfl rfl (fun w28 hC52 hKp4 => ?_)
 try dsimp only [List.set] at hC52
 have hk22 := Keep.over ((((Keep.of hB18).then hB19).then hB20).then hB21) (Nat.le_trans (((Keep.of hB18).then hB19).then hB20).size hN5) hKp4
 have hk23 := Keep.over (((Keep.of hB19).then hB20).then hB21) (Nat.le_trans ((Keep.of hB19).then hB20).size hN5) hKp4
 have hk24 := Keep.over ((Keep.of hB20).then hB21) (Nat.le_trans (Keep.of hB20).size hN5) hKp4
 have hk25 := Keep.over (Keep.of hB21) hN5 hKp4
 refine WL_nil ?_
 refine W_seq ?_
 refine W_seq_reg ?_
 refine WL_load_box_agg [v22, v23] hC52 0 rfl rfl rfl Try.isAgg49 Try.sizeOf49 rfl rfl ?_
 refine WL_load_box_agg [v5, v6] hC52 8 rfl rfl rfl Try.isAgg49 Try.sizeOf49 rfl rfl ?_
 obtain ⟨x16, hr16, hF⟩ := bind_some hF
 refine WL_call Try.call25 rfl rfl (c_Q_eqQuery (x15.1, x15.2) v22 ((hC52.ro 1 rfl).now (Keep.refl _ _)) v23 ((hC52.ro 2 rfl).now (Keep.refl _ _)) (x3.1, x3.2) v5 ((hC52.ro 9 rfl).now (Keep.refl _ _)) v6 ((hC52.ro 10 rfl).now (Keep.refl _ _)) x16 hr16) ?_
 intro _ w29 hv13
 obtain ⟨rfl, hB22⟩ := res_bool hv13
 have hC53 := hC52.grow hB22
 refine WL_not rfl rfl ?_
 refine WL_nil ?_
 refine W_cond rfl (fun hc8 => ?_) (fun hc8 => ?_)
 ·replace hF := ite_t hF hc8
  refine W_seq_reg ?_
  refine WL_assign rfl rfl ?_
  refine WL_nil ?_
  refine W_ret ?_
  refine nrm_ret ?_
  have hq11 := Option.some.inj hF
  subst hq11
  refine fn_ret1 rfl rfl ?_
  exact ⟨_, rfl, bool_res hC53 _⟩
 replace hF := ite_f hF hc8
 refine W_skip ?_
 refine nrm_normal ?_
 refine W_seq_reg ?_
 refine WL_assign rfl rfl ?_
 refine WL_nil ?_
 refine W_seq_reg ?_
 refine WL_load_box_agg [v11, v12] hC53 7 rfl rfl rfl Try.isAgg49 Try.sizeOf49 rfl rfl ?_
 refine WL_move rfl rfl ?_
 obtain ⟨x17, hr17, hF⟩ := bind_some hF
 refine WL_call Try.call27 rfl rfl (c_Q_heldQuery (x12.2.1, x12.2.2) v11 ((hC53.ro 5 rfl).now (Keep.refl _ _)) v12 ((hC53.ro 6 rfl).now (Keep.refl _ _)) 1 x17 hr17) ?_
 intro _ w30 hv14
 obtain ⟨rfl, hB23⟩ := res_int hv14
 have hC54 := hC53.grow hB23
 refine WL_assign rfl rfl ?_
 refine WL_nil ?_
 refine W_seq ?_
 refine W_seq_reg ?_
 refine WL_move rfl rfl ?_
 refine WL_lss rfl rfl rfl ?_
 refine WL_nil ?_
 refine W_cond rfl (fun hc9 => ?_) (fun hc9 => ?_)
 ·replace hF := ite_t hF hc9
  refine W_seq_reg ?_
  refine WL_assign rfl rfl ?_
  refine WL_nil ?_
  refine W_ret ?_
  refine nrm_ret ?_
  have hq12 := Option.some.inj hF
  subst hq12
  refine fn_ret1 rfl rfl ?_
  exact ⟨_, rfl, bool_res hC54 _⟩
 replace hF := ite_f hF hc9
 refine W_skip ?_
 refine nrm_normal ?_
 refine W_seq ?_
 refine W_seq_reg ?_
 refine WL_move rfl rfl ?_
 refine WL_move rfl rfl ?_
 refine WL_neq rfl rfl rfl ?_
 refine WL_nil ?_
 refine W_cond rfl (fun hc10 => ?_) (fun hc10 => ?_)
 ·replace hF := ite_t hF hc10
  refine W_seq_reg ?_
  refine WL_assign rfl rfl ?_
  refine WL_nil ?_
  refine W_ret ?_
  refine nrm_ret ?_
  have hq13 := Option.some.inj hF
  subst hq13
  refine fn_ret1 rfl rfl ?_
  exact ⟨_, rfl, bool_res hC54 _⟩
 replace hF := ite_f hF hc10
 refine W_skip ?_
 refine nrm_normal ?_
 refine W_seq_reg ?_
 refine WL_assign rfl rfl ?_
 refine WL_nil ?_
 refine W_ret ?_
 have hq14 := Option.some.inj hF
 subst hq14
 refine fn_ret1 rfl rfl ?_
 exact ⟨_, rfl, bool_res hC54 _⟩

end Go.Gx.Px
