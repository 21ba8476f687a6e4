/- The contracts of the Go functions against the pure functions, printed by program. Conditions: each says them. -/
import Derived.Test.YtbfmhlhjkbimmaaGreatDoorTy
import Derived.Test.YtbfmhlhjkbimmaaGreatDoorPure
set_option linter.unusedVariables false
set_option linter.unusedSimpArgs false
set_option maxRecDepth 100000
set_option maxHeartbeats 4000000
namespace Go.Gx.Px
open Go.Proofs Go.RowKit

theorem c_S_l1In {w0 : World} (a1 : Int) (a2 : Int) (a3 : Int) (rr : Bool) (hF : S.l1In a1 a2 a3 = some rr) :
 Calls Tryz.prog 38 [(.int .i64 a1), (.int .i64 a2), (.int .i64 a3)].toArray w0 fun e w' => ∃ v, e = .returned v ∧ Res w0 rr v w' := by
 refine calls_of_W Tryz.func38 rfl rfl ?_
 have hC0 := Ctx.start w0
 unfold S.l1In at hF
 refine W_seq_reg ?_
 refine WL_assign rfl rfl ?_
 refine WL_nil ?_
 obtain ⟨r1, hr1, hF⟩ := bind_some hF
 refine W_cut (fun l w => ∃ x1 : Bool, x1 = r1 ∧ l = [(6, (.bool x1))] ∧ Below w0.heap.size w0 w ∧ Ctx [] w0 w []) ?_ ?_
 ·refine W_reg ?_
  refine WL_move rfl rfl ?_
  refine WL_move rfl rfl ?_
  refine WL_geq rfl rfl rfl ?_
  refine WL_move rfl rfl ?_
  refine WL_fork (fun hc1 => ?_) (fun hc1 => ?_)
  ·replace hr1 := ite_t hr1 hc1
   refine WL_guard rfl rfl ?_
   refine WL_move rfl rfl ?_
   refine WL_guard rfl rfl ?_
   refine WL_move rfl rfl ?_
   refine WL_guard rfl rfl ?_
   refine WL_leq rfl rfl rfl ?_
   refine WL_pick_t rfl rfl rfl ?_
   refine WL_assign rfl rfl ?_
   refine WL_nil ?_
   have hq1 := Option.some.inj hr1
   subst hq1
   refine nrm_sub (l' := [(6, (.bool (decide (a1 ≤ a3))))]) ⟨rfl, trivial⟩ ?_
   exact ⟨(decide (a1 ≤ a3)), rfl, rfl, (Below.refl _ _), hC0⟩
  replace hr1 := ite_f hr1 hc1
  refine WL_guard_skip rfl rfl (by simp) rfl ?_
  refine WL_guard_skip rfl rfl (by simp) rfl ?_
  refine WL_guard_skip rfl rfl (by simp) rfl ?_
  refine WL_pick_f rfl rfl rfl ?_
  refine WL_assign rfl rfl ?_
  refine WL_nil ?_
  have hq2 := Option.some.inj hr1
  subst hq2
  refine nrm_sub (l' := [(6, (.bool false))]) ⟨rfl, trivial⟩ ?_
  exact ⟨false, rfl, rfl, (Below.refl _ _), hC0⟩
 rintro _ w1 ⟨x1, rfl, rfl, hB1, hC1⟩
 try dsimp only at hF
 refine W_ret ?_
 have hq3 := Option.some.inj hF
 subst hq3
 refine fn_ret1 rfl rfl ?_
 exact ⟨_, rfl, bool_res hC1 _⟩

theorem c_S_FormatInt {w0 : World} (a1 : Int) (rr : Str) (hF : S.FormatInt a1 = some rr) :
 Calls Tryz.prog 50 [(.int .i64 a1)].toArray w0 fun e w' => ∃ v, e = .returned v ∧ Res w0 rr v w' := by
 refine calls_of_W Tryz.func50 rfl rfl ?_
 have hC0 := Ctx.start w0
 unfold S.FormatInt at hF
 refine W_seq_reg ?_
 refine WL_assign rfl rfl ?_
 refine WL_nil (W_seq (W_seq_reg ?_))
 refine WL_move rfl rfl ?_
 refine WL_eql rfl rfl rfl ?_
 refine WL_nil ?_
 refine W_cond rfl (fun hc1 => ?_) (fun hc1 => ?_)
 ·replace hF := ite_t hF hc1
  refine W_seq_reg ?_
  refine WL_assign rfl rfl ?_
  refine WL_nil (W_ret (nrm_ret ?_))
  have hq1 := Option.some.inj hF
  subst hq1
  refine fn_ret1 rfl rfl ?_
  exact ⟨_, rfl, str_res hC0 _⟩
 replace hF := ite_f hF hc1
 refine W_skip (nrm_normal (W_seq_reg ?_))
 refine WL_assign rfl rfl ?_
 refine WL_nil (W_seq_reg ?_)
 refine WL_move rfl rfl ?_
 refine WL_lss rfl rfl rfl ?_
 refine WL_assign rfl rfl ?_
 refine WL_nil (W_seq ?_)
 obtain ⟨r1, hr1, hF⟩ := bind_some hF
 refine W_norm (fun l w => ∃ x3 : Str, x3 = r1 ∧ l = [(3, (sv x3)), (4, (.bool (decide (a1 < 0))))] ∧ Below w0.heap.size w0 w ∧ Ctx [] w0 w []) ?_ ?_
 ·refine W_block ?_
  refine W.sub (l' := [(0, (.int .i64 a1)), (3, (sv (str []))), (4, (.bool (decide (a1 < 0))))]) ?_ ⟨rfl, rfl, rfl, trivial⟩
  refine W_loop (fun k l w => ∃ x1 : Int, ∃ x2 : Str, l = [(0, (.int .i64 x1)), (3, (sv x2)), (4, (.bool (decide (a1 < 0))))] ∧ Below w0.heap.size w0 w ∧ Ctx [] w0 w [] ∧ S.FormatInt_l1 k x1 x2 = some r1) FUEL ⟨a1, (str []), rfl, (Below.refl _ _), hC0, hr1⟩ ?_
  clear hr1
  rintro k1 _ w1 ⟨x1, x2, rfl, hB1, hC1, hL1⟩
  cases k1 with
  | zero => rw [S.FormatInt_l1] at hL1; cases hL1
  | succ k1 =>
   rw [S.FormatInt_l1] at hL1
   refine W_seq (W_seq_reg ?_)
   refine WL_move rfl rfl ?_
   refine WL_neq rfl rfl rfl ?_
   refine WL_nil ?_
   refine W_cond rfl (fun hc2 => ?_) (fun hc2 => ?_)
   ·replace hL1 := ite_t hL1 hc2
    refine W_skip (nrm_normal (W_block (W_seq_reg ?_)))
    refine WL_move rfl rfl ?_
    refine WL_rem (by decide) rfl rfl rfl ?_
    refine WL_assign rfl rfl ?_
    refine WL_nil (W_seq (W_seq_reg ?_))
    refine WL_move rfl rfl ?_
    refine WL_lss rfl rfl rfl ?_
    refine WL_nil ?_
    obtain ⟨r2, hr2, hL1⟩ := bind_some hL1
    refine W_norm (fun l w => ∃ x4 : Int, x4 = r2 ∧ l = [(0, (.int .i64 x1)), (3, (sv x2)), (4, (.bool (decide (a1 < 0)))), (5, (.int .i64 x4))] ∧ Below w1.heap.size w1 w ∧ Ctx [] w0 w []) ?_ ?_
    ·refine W_cond rfl (fun hc3 => ?_) (fun hc3 => ?_)
     ·replace hr2 := ite_t hr2 hc3
      refine W_reg ?_
      refine WL_move rfl rfl ?_
      refine WL_neg rfl rfl ?_
      refine WL_assign rfl rfl ?_
      refine WL_nil ?_
      have hq2 := Option.some.inj hr2
      subst hq2
      refine nrm_sub (l' := [(0, (.int .i64 x1)), (3, (sv x2)), (4, (.bool (decide (a1 < 0)))), (5, (.int .i64 (w64 (0 - (x1.tmod 10)))))]) ⟨rfl, rfl, rfl, rfl, trivial⟩ ?_
      exact ⟨w64 (0 - (x1.tmod 10)), rfl, rfl, (Below.refl _ _), hC1⟩
     replace hr2 := ite_f hr2 hc3
     refine W_skip ?_
     have hq3 := Option.some.inj hr2
     subst hq3
     refine nrm_sub (l' := [(0, (.int .i64 x1)), (3, (sv x2)), (4, (.bool (decide (a1 < 0)))), (5, (.int .i64 (x1.tmod 10)))]) ⟨rfl, rfl, rfl, rfl, trivial⟩ ?_
     exact ⟨x1.tmod 10, rfl, rfl, (Below.refl _ _), hC1⟩
    rintro l2 _ w2 hs2 ⟨x4, rfl, rfl, hB2, hC2⟩
    try dsimp only at hL1
    refine nrm_sub' hs2 ?_
    clear hs2
    refine W_seq_reg ?_
    refine WL_move rfl rfl ?_
    refine WL_add rfl rfl rfl ?_
    refine WL_conv_u8 Tryz.underlying3 Tryz.underlying5 rfl rfl ?_
    refine WL_buildSlice (vs := [(.int .u8 (w8 (w64 (48 + x4))))]) hC2 Tryz.underlying32 ty5 rfl rfl rfl rfl (by intro v hv; simp only [List.mem_cons, List.not_mem_nil, or_false] at hv; rcases hv with rfl <;> rfl) rfl rfl (fun b1 w3 hC3 hB3 => ?_)
    have hC4 := hC3.row0 (α := UInt8)
    have hC5 := hC4.triv (u8_val (w64 (48 + x4)))
    have hC6 := hC5.row1
    have hC7 := hC6.front 1 rfl
    dsimp only [List.eraseIdx, List.cons_append, List.nil_append, List.append_nil] at hC7
    have hC8 : Ctx [] w0 w3 (Item.own (.slice (some ⟨b1, 0, none⟩) 1 1) ([(u8 (w64 (48 + x4)))] : List UInt8) :: []) := hC7.rowOwn (by simp [maxLen])
    refine WL_conv_bytes Tryz.underlying32 Tryz.underlying5 Tryz.underlying9 (hC8.ro 0 rfl) (Keep.refl _ _) rfl rfl ?_
    refine WL_move rfl rfl ?_
    obtain ⟨x5, hx1, hL1⟩ := bind_some hL1
    refine WL_str_add hx1 rfl rfl rfl ?_
    refine WL_assign rfl rfl ?_
    refine WL_nil (W_reg ?_)
    refine WL_move rfl rfl ?_
    refine WL_quo (by decide) rfl rfl rfl ?_
    refine WL_assign rfl rfl ?_
    refine WL_nil (blk_normal ?_)
    have hC9 := hC8.h0
    refine nrm_sub (l' := [(0, (.int .i64 (w64 (x1.tdiv 10)))), (3, (sv x5)), (4, (.bool (decide (a1 < 0))))]) ⟨rfl, rfl, rfl, trivial⟩ ?_
    exact ⟨k1, Nat.lt_succ_self _, w64 (x1.tdiv 10), x5, rfl, (((Keep.of hB1).then hB2).then hB3).below, hC9, hL1⟩
   replace hL1 := ite_f hL1 hc2
   refine W_exit (nrm_exit (nrm_exit (blk_exit ?_)))
   have hq4 := Option.some.inj hL1
   subst hq4
   refine nrm_sub (l' := [(3, (sv x2)), (4, (.bool (decide (a1 < 0))))]) ⟨rfl, rfl, trivial⟩ ?_
   exact ⟨x2, rfl, rfl, (Keep.of hB1).below, hC1⟩
 rintro l3 _ w4 hs3 ⟨x3, rfl, rfl, hB4, hC10⟩
 try dsimp only at hF
 refine nrm_sub' hs3 ?_
 clear hs3
 refine W_seq (W_seq_reg ?_)
 refine WL_move rfl rfl ?_
 refine WL_nil ?_
 refine W_cond rfl (fun hc4 => ?_) (fun hc4 => ?_)
 ·replace hF := ite_t hF hc4
  refine W_seq_reg ?_
  refine WL_move rfl rfl ?_
  obtain ⟨x6, hx2, hF⟩ := bind_some hF
  refine WL_str_add hx2 rfl rfl rfl ?_
  refine WL_assign rfl rfl ?_
  refine WL_nil (W_ret (nrm_ret ?_))
  have hq5 := Option.some.inj hF
  subst hq5
  refine fn_ret1 rfl rfl ?_
  exact ⟨_, rfl, str_res hC10 _⟩
 replace hF := ite_f hF hc4
 refine W_skip (nrm_normal (W_seq_reg ?_))
 refine WL_move rfl rfl ?_
 refine WL_assign rfl rfl ?_
 refine WL_nil (W_ret ?_)
 have hq6 := Option.some.inj hF
 subst hq6
 refine fn_ret1 rfl rfl ?_
 exact ⟨_, rfl, str_res hC10 _⟩

theorem c_S_l2List {w0 : World} (a1 : (List Int)) (u1 : Value) (g1 : RO [] w0 u1 a1) (rr : Str) (hF : S.l2List a1 = some rr) :
 Calls Tryz.prog 71 [u1].toArray w0 fun e w' => ∃ v, e = .returned v ∧ Res w0 rr v w' := by
 refine calls_of_W Tryz.func71 rfl rfl ?_
 have hC0 := Ctx.start w0
 unfold S.l2List at hF
 refine W_seq_reg ?_
 refine WL_assign rfl rfl ?_
 refine WL_nil (W_seq_reg ?_)
 refine WL_assign rfl rfl ?_
 refine WL_nil (W_seq (W_seq_reg ?_))
 refine WL_assign rfl rfl ?_
 refine WL_nil ?_
 obtain ⟨r1, hr1, hF⟩ := bind_some hF
 refine W_norm (fun l w => ∃ x3 : Str, x3 = r1 ∧ l = [(3, (sv x3))] ∧ Below w0.heap.size w0 w ∧ Ctx [] w0 w []) ?_ ?_
 ·refine W_block ?_
  refine W.sub (l' := [(0, u1), (3, (sv (str []))), (4, (.int .i64 0))]) ?_ ⟨rfl, rfl, rfl, trivial⟩
  refine W_loop (fun k l w => ∃ x1 : Str, ∃ x2 : Int, l = [(0, u1), (3, (sv x1)), (4, (.int .i64 x2))] ∧ Below w0.heap.size w0 w ∧ Ctx [] w0 w [] ∧ S.l2List_l1 a1 k x1 x2 = some r1) FUEL ⟨(str []), 0, rfl, (Below.refl _ _), hC0, hr1⟩ ?_
  clear hr1
  rintro k1 _ w1 ⟨x1, x2, rfl, hB1, hC1, hL1⟩
  cases k1 with
  | zero => rw [S.l2List_l1] at hL1; cases hL1
  | succ k1 =>
   rw [S.l2List_l1] at hL1
   refine W_seq (W_seq_reg ?_)
   refine WL_move rfl rfl ?_
   refine WL_move rfl rfl ?_
   refine WL_len Tryz.underlying22 g1 rfl rfl ?_
   refine WL_lss rfl rfl rfl ?_
   refine WL_nil ?_
   refine W_cond rfl (fun hc1 => ?_) (fun hc1 => ?_)
   ·replace hL1 := ite_t hL1 hc1
    refine W_skip (nrm_normal (W_seq (W_block (W_seq (W_seq_reg ?_)))))
    refine WL_move rfl rfl ?_
    refine WL_gtr rfl rfl rfl ?_
    refine WL_nil ?_
    obtain ⟨r2, hr2, hL1⟩ := bind_some hL1
    refine W_norm (fun l w => ∃ x4 : Str, x4 = r2 ∧ l = [(0, u1), (3, (sv x4)), (4, (.int .i64 x2))] ∧ Below w1.heap.size w1 w ∧ Ctx [] w0 w []) ?_ ?_
    ·refine W_cond rfl (fun hc2 => ?_) (fun hc2 => ?_)
     ·replace hr2 := ite_t hr2 hc2
      refine W_reg ?_
      refine WL_move rfl rfl ?_
      obtain ⟨x5, hx1, hr2⟩ := bind_some hr2
      refine WL_str_add hx1 rfl rfl rfl ?_
      refine WL_assign rfl rfl ?_
      refine WL_nil ?_
      have hq1 := Option.some.inj hr2
      subst hq1
      refine nrm_sub (l' := [(0, u1), (3, (sv x5)), (4, (.int .i64 x2))]) ⟨rfl, rfl, rfl, trivial⟩ ?_
      exact ⟨x5, rfl, rfl, (Below.refl _ _), hC1⟩
     replace hr2 := ite_f hr2 hc2
     refine W_skip ?_
     have hq2 := Option.some.inj hr2
     subst hq2
     refine nrm_sub (l' := [(0, u1), (3, (sv x1)), (4, (.int .i64 x2))]) ⟨rfl, rfl, rfl, trivial⟩ ?_
     exact ⟨x1, rfl, rfl, (Below.refl _ _), hC1⟩
    rintro l2 _ w2 hs2 ⟨x4, rfl, rfl, hB2, hC2⟩
    try dsimp only at hL1
    refine nrm_sub' hs2 ?_
    clear hs2
    refine W_reg ?_
    refine WL_move rfl rfl ?_
    refine WL_move rfl rfl ?_
    refine WL_move rfl rfl ?_
    obtain ⟨x6, hx2, hL1⟩ := bind_some hL1
    refine WL_index Tryz.underlying22 ty3 g1 hx2 rfl rfl rfl (fun b1 o1 h1 => ?_)
    refine WL_load ty3 h1 hC2.keep rfl rfl (fun v1 h2 => ?_)
    obtain rfl := ro_int h2
    obtain ⟨x7, hr3, hL1⟩ := bind_some hL1
    refine WL_call Tryz.call50 rfl rfl (c_S_FormatInt x6 x7 hr3) ?_
    intro _ w3 hv1
    obtain ⟨rfl, hB3⟩ := res_str hv1
    have hC3 := hC2.grow hB3
    obtain ⟨x8, hx3, hL1⟩ := bind_some hL1
    refine WL_str_add hx3 rfl rfl rfl ?_
    refine WL_assign rfl rfl ?_
    refine WL_nil (blk_normal (nrm_normal (W_reg ?_)))
    refine WL_move rfl rfl ?_
    refine WL_add rfl rfl rfl ?_
    refine WL_assign rfl rfl ?_
    refine WL_nil ?_
    refine nrm_sub (l' := [(0, u1), (3, (sv x8)), (4, (.int .i64 (w64 (x2 + 1))))]) ⟨rfl, rfl, rfl, trivial⟩ ?_
    exact ⟨k1, Nat.lt_succ_self _, x8, w64 (x2 + 1), rfl, (((Keep.of hB1).then hB2).then hB3).below, hC3, hL1⟩
   replace hL1 := ite_f hL1 hc1
   refine W_exit (nrm_exit (nrm_exit (blk_exit ?_)))
   have hq3 := Option.some.inj hL1
   subst hq3
   refine nrm_sub (l' := [(3, (sv x1))]) ⟨rfl, trivial⟩ ?_
   exact ⟨x1, rfl, rfl, (Keep.of hB1).below, hC1⟩
 rintro l3 _ w4 hs3 ⟨x3, rfl, rfl, hB4, hC4⟩
 try dsimp only at hF
 refine nrm_sub' hs3 ?_
 clear hs3
 refine W_seq_reg ?_
 refine WL_move rfl rfl ?_
 refine WL_assign rfl rfl ?_
 refine WL_nil (W_ret ?_)
 have hq4 := Option.some.inj hF
 subst hq4
 refine fn_ret1 rfl rfl ?_
 exact ⟨_, rfl, str_res hC4 _⟩

theorem c_S_FormatAccess {w0 : World} (a1 : (Int × (List Int))) (u1 : Value) (g1 : RO [] w0 u1 a1.2) (rr : Str) (hF : S.FormatAccess a1 = some rr) :
 Calls Tryz.prog 49 [(.agg #[(.int .i64 a1.1), u1])].toArray w0 fun e w' => ∃ v, e = .returned v ∧ Res w0 rr v w' := by
 refine calls_of_W Tryz.func49 rfl rfl ?_
 have hC0 := Ctx.start w0
 unfold S.FormatAccess at hF
 refine W_seq_reg ?_
 refine WL_boxK (cs := [(.int .i64 a1.1), u1]) hC0 rfl rfl rfl (fun b1 w1 hC1 hB1 hN1 => ?_)
 refine WL_assign rfl rfl ?_
 refine WL_nil (W_seq ?_)
 obtain ⟨r1, hr1, hF⟩ := bind_some hF
 refine W_cut (fun l w => ∃ x1 : Bool, x1 = r1 ∧ l = [(1, (ptr b1 0)), (13, (.bool x1))] ∧ Below w1.heap.size w1 w ∧ Ctx [] w0 w [Item.box b1 [(.int .i64 a1.1), u1]]) ?_ ?_
 ·refine W_reg ?_
  refine WL_field Tryz.underlying24 rfl rfl (fun w => ⟨_, Tryz.sizeOf3 w⟩) rfl rfl ?_
  refine WL_load_box hC1 0 rfl rfl Tryz.isAgg3 rfl rfl ?_
  obtain ⟨x2, hr2, hr1⟩ := bind_some hr1
  refine WL_call Tryz.call38 rfl rfl (c_S_l1In a1.1 0 4 x2 hr2) ?_
  intro _ w3 hv1
  obtain ⟨rfl, hB3⟩ := res_bool hv1
  have hC3 := hC1.grow hB3
  refine WL_not rfl rfl ?_
  refine WL_move rfl rfl ?_
  refine WL_fork (fun hc1 => ?_) (fun hc1 => ?_)
  ·replace hr1 := ite_t hr1 hc1
   refine WL_guard_skip rfl rfl (by simp) rfl ?_
   refine WL_guard_skip rfl rfl (by simp) rfl ?_
   refine WL_guard_skip rfl rfl (by simp) rfl ?_
   refine WL_guard_skip rfl rfl (by simp) rfl ?_
   refine WL_pick_t rfl rfl rfl ?_
   refine WL_nil ?_
   have hq1 := Option.some.inj hr1
   subst hq1
   refine nrm_sub (l' := [(1, (ptr b1 0)), (13, (.bool true))]) ⟨rfl, rfl, trivial⟩ ?_
   exact ⟨true, rfl, rfl, (Keep.of hB3).below, hC3⟩
  replace hr1 := ite_f hr1 hc1
  refine WL_guard rfl rfl ?_
  refine WL_field Tryz.underlying24 rfl rfl (fun w => ⟨_, Tryz.sizeOf22 w⟩) rfl rfl ?_
  refine WL_guard rfl rfl ?_
  refine WL_load_box hC3 0 rfl rfl Tryz.isAgg22 rfl rfl ?_
  refine WL_guard rfl rfl ?_
  refine WL_len Tryz.underlying22 g1 rfl rfl ?_
  refine WL_guard rfl rfl ?_
  refine WL_gtr rfl rfl rfl ?_
  refine WL_pick_f rfl rfl rfl ?_
  refine WL_nil ?_
  have hq2 := Option.some.inj hr1
  subst hq2
  refine nrm_sub (l' := [(1, (ptr b1 0)), (13, (.bool (decide (3 < (List.length a1.2 : Int)))))]) ⟨rfl, rfl, trivial⟩ ?_
  exact ⟨(decide (3 < (List.length a1.2 : Int))), rfl, rfl, (Keep.of hB3).below, hC3⟩
 rintro _ w2 ⟨x1, rfl, rfl, hB2, hC2⟩
 try dsimp only at hF
 refine W_cond rfl (fun hc2 => ?_) (fun hc2 => ?_)
 ·replace hF := ite_t hF hc2
  refine W_seq_reg ?_
  refine WL_assign rfl rfl ?_
  refine WL_nil (W_ret (nrm_ret ?_))
  have hq3 := Option.some.inj hF
  subst hq3
  refine fn_ret1 rfl rfl ?_
  exact ⟨_, rfl, str_res hC2 _⟩
 replace hF := ite_f hF hc2
 refine W_skip (nrm_normal (W_seq (W_seq_reg ?_)))
 refine WL_assign rfl rfl ?_
 refine WL_nil ?_
 obtain ⟨r2, hr3, hF⟩ := bind_some hF
 refine W_norm (fun l w => .inl () = r2 ∧ l = [(1, (ptr b1 0))] ∧ Below w2.heap.size w2 w ∧ Ctx [] w0 w [Item.box b1 [(.int .i64 a1.1), u1]]) ?_ ?_
 ·refine W_block ?_
  refine W.sub (l' := [(1, (ptr b1 0)), (3, (.int .i64 0))]) ?_ ⟨rfl, rfl, trivial⟩
  refine W_loop (fun k l w => ∃ x3 : Int, l = [(1, (ptr b1 0)), (3, (.int .i64 x3))] ∧ Below w2.heap.size w2 w ∧ Ctx [] w0 w [Item.box b1 [(.int .i64 a1.1), u1]] ∧ S.FormatAccess_l1 a1 k x3 = some r2) FUEL ⟨0, rfl, (Below.refl _ _), hC2, hr3⟩ ?_
  clear hr3
  rintro k1 _ w4 ⟨x3, rfl, hB4, hC4, hL1⟩
  cases k1 with
  | zero => rw [S.FormatAccess_l1] at hL1; cases hL1
  | succ k1 =>
   rw [S.FormatAccess_l1] at hL1
   refine W_seq (W_seq_reg ?_)
   refine WL_move rfl rfl ?_
   refine WL_field Tryz.underlying24 rfl rfl (fun w => ⟨_, Tryz.sizeOf22 w⟩) rfl rfl ?_
   refine WL_load_box hC4 0 rfl rfl Tryz.isAgg22 rfl rfl ?_
   refine WL_len Tryz.underlying22 g1 rfl rfl ?_
   refine WL_lss rfl rfl rfl ?_
   refine WL_nil ?_
   refine W_cond rfl (fun hc3 => ?_) (fun hc3 => ?_)
   ·replace hL1 := ite_t hL1 hc3
    refine W_skip (nrm_normal (W_seq (W_block (W_seq_reg ?_))))
    refine WL_field Tryz.underlying24 rfl rfl (fun w => ⟨_, Tryz.sizeOf22 w⟩) rfl rfl ?_
    refine WL_load_box hC4 0 rfl rfl Tryz.isAgg22 rfl rfl ?_
    refine WL_move rfl rfl ?_
    obtain ⟨x4, hx1, hL1⟩ := bind_some hL1
    refine WL_index Tryz.underlying22 ty3 g1 hx1 rfl rfl rfl (fun b2 o1 h1 => ?_)
    refine WL_load ty3 h1 hC4.keep rfl rfl (fun v1 h2 => ?_)
    obtain rfl := ro_int h2
    obtain ⟨x5, hr4, hL1⟩ := bind_some hL1
    refine WL_call Tryz.call38 rfl rfl (c_S_l1In x4 0 9 x5 hr4) ?_
    intro _ w5 hv2
    obtain ⟨rfl, hB5⟩ := res_bool hv2
    have hC5 := hC4.grow hB5
    refine WL_not rfl rfl ?_
    refine WL_nil ?_
    refine W_cond rfl (fun hc4 => ?_) (fun hc4 => ?_)
    ·replace hL1 := ite_t hL1 hc4
     refine W_seq_reg ?_
     refine WL_assign rfl rfl ?_
     refine WL_nil (W_ret (blk_ret (nrm_ret (nrm_ret (blk_ret (nrm_ret (nrm_ret ?_)))))))
     have hq4 := Option.some.inj hL1
     subst hq4
     dsimp only at hF
     have hq5 := Option.some.inj hF
     subst hq5
     refine fn_ret1 rfl rfl ?_
     exact ⟨_, rfl, str_res hC5 _⟩
    replace hL1 := ite_f hL1 hc4
    refine W_skip (blk_normal (nrm_normal (W_reg ?_)))
    refine WL_move rfl rfl ?_
    refine WL_add rfl rfl rfl ?_
    refine WL_assign rfl rfl ?_
    refine WL_nil ?_
    refine nrm_sub (l' := [(1, (ptr b1 0)), (3, (.int .i64 (w64 (x3 + 1))))]) ⟨rfl, rfl, trivial⟩ ?_
    exact ⟨k1, Nat.lt_succ_self _, w64 (x3 + 1), rfl, ((Keep.of hB4).then hB5).below, hC5, hL1⟩
   replace hL1 := ite_f hL1 hc3
   refine W_exit (nrm_exit (nrm_exit (blk_exit ?_)))
   have hq6 := Option.some.inj hL1
   subst hq6
   refine nrm_sub (l' := [(1, (ptr b1 0))]) ⟨rfl, trivial⟩ ?_
   exact ⟨rfl, rfl, (Keep.of hB4).below, hC4⟩
 rintro l3 _ w6 hs3 ⟨rfl, rfl, hB6, hC6⟩
 try dsimp only at hF
 refine nrm_sub' hs3 ?_
 clear hs3
 refine W_seq ?_
 refine W_drawn 11 rfl hmix (fun w7 hB7 => ?_)
 have hC7 := hC6.grow hB7
 refine WA_tk 0 (by kernel_rfl) rfl rfl (fl_field Tryz.underlying24 rfl rfl (fun w => ⟨_, Tryz.sizeOf3 w⟩) rfl) ?_
 refine WL_field Tryz.underlying24 rfl rfl (fun w => ⟨_, Tryz.sizeOf3 w⟩) rfl rfl ?_
 refine WL_nil ?_
 refine WA_tk 5 (by kernel_rfl) rfl rfl (fl_field Tryz.underlying24 rfl rfl (fun w => ⟨_, Tryz.sizeOf22 w⟩) rfl) ?_
 refine WL_field Tryz.underlying24 rfl rfl (fun w => ⟨_, Tryz.sizeOf22 w⟩) rfl rfl ?_
 refine WL_nil ?_
 obtain ⟨x6, hr5, hF⟩ := bind_some hF
 obtain ⟨x7, hx2, hF⟩ := bind_some hF
 obtain ⟨x8, hx3, hF⟩ := bind_some hF
 obtain ⟨x9, hr6, hF⟩ := bind_some hF
 refine WA.sub (l' := [(1, (ptr b1 0)), (28, (ptr b1 0)), (33, (ptr b1 1))]) ?_ ⟨rfl, rfl, rfl, trivial⟩
 refine WA_postsE [⟨1, [], fun vs => PW.val (.int .i64 a1.1), []⟩, ⟨2, [], fun vs => PW.val (sv x6), []⟩, ⟨3, [], fun vs => PW.val (sv x7), []⟩, ⟨4, [], fun vs => PW.val (sv x8), []⟩, ⟨6, [], fun vs => PW.val u1, []⟩, ⟨7, [], fun vs => PW.val (sv x9), []⟩] [[], [1], [2], [3], [], [6]] 3 rfl (by kernel_rfl) (by kernel_rfl) rfl ?_ ?_
 ·refine StepsE_cons rfl ?_ ?_
  ·intro w11 hB10
   refine DepsE_nil ?_
   refine ⟨_, rfl, ?_⟩
   refine WL_load_box (hC7.grow hB10) 0 rfl rfl Tryz.isAgg3 rfl rfl ?_
   refine WL_nil ?_
   exact FinE_val (Below.refl _ _) rfl rfl ⟨rfl, rfl⟩
  refine StepsE_cons rfl ?_ ?_
  ·intro w11 hB10
   refine DepsE_cons rfl rfl rfl ?_
   rintro _ _ ⟨rfl, rfl⟩ _
   refine DepsE_nil ?_
   refine ⟨_, rfl, ?_⟩
   refine WL_call Tryz.call50 rfl rfl (c_S_FormatInt a1.1 x6 hr5) ?_
   intro _ w9 hv3
   obtain ⟨rfl, hB8⟩ := res_str hv3
   refine WL_nil ?_
   exact FinE_val hB8 rfl rfl ⟨rfl, rfl⟩
  refine StepsE_cons rfl ?_ ?_
  ·intro w11 hB10
   refine DepsE_cons rfl rfl rfl ?_
   rintro _ _ ⟨rfl, rfl⟩ _
   refine DepsE_nil ?_
   refine ⟨_, rfl, ?_⟩
   refine WL_str_add hx2 rfl rfl rfl ?_
   refine WL_nil ?_
   exact FinE_val (Below.refl _ _) rfl rfl ⟨rfl, rfl⟩
  refine StepsE_cons rfl ?_ ?_
  ·intro w11 hB10
   refine DepsE_cons rfl rfl rfl ?_
   rintro _ _ ⟨rfl, rfl⟩ _
   refine DepsE_nil ?_
   refine ⟨_, rfl, ?_⟩
   refine WL_str_add hx3 rfl rfl rfl ?_
   refine WL_nil ?_
   exact FinE_val (Below.refl _ _) rfl rfl ⟨rfl, rfl⟩
  refine StepsE_cons rfl ?_ ?_
  ·intro w11 hB10
   refine DepsE_nil ?_
   refine ⟨_, rfl, ?_⟩
   refine WL_load_box (hC7.grow hB10) 0 rfl rfl Tryz.isAgg22 rfl rfl ?_
   refine WL_nil ?_
   exact FinE_val (Below.refl _ _) rfl rfl ⟨rfl, rfl⟩
  refine StepsE_cons rfl ?_ ?_
  ·intro w11 hB10
   refine DepsE_cons rfl rfl rfl ?_
   rintro _ _ ⟨rfl, rfl⟩ _
   refine DepsE_nil ?_
   refine ⟨_, rfl, ?_⟩
   refine WL_call Tryz.call71 rfl rfl (c_S_l2List a1.2 u1 (g1.now (hC7.keep.then hB10)) x9 hr6) ?_
   intro _ w10 hv4
   obtain ⟨rfl, hB9⟩ := res_str hv4
   refine WL_nil ?_
   exact FinE_val hB9 rfl rfl ⟨rfl, rfl⟩
  exact StepsE_nil
 intro w12 hB11
 refine AllE_cons rfl rfl rfl ?_
 rintro _ _ ⟨rfl, rfl⟩
 refine AllE_cons rfl rfl rfl ?_
 rintro _ _ ⟨rfl, rfl⟩
 refine AllE_cons rfl rfl rfl ?_
 rintro _ _ ⟨rfl, rfl⟩
 refine AllE_cons rfl rfl rfl ?_
 rintro _ _ ⟨rfl, rfl⟩
 refine AllE_cons rfl rfl rfl ?_
 rintro _ _ ⟨rfl, rfl⟩
 refine AllE_cons rfl rfl rfl ?_
 rintro _ _ ⟨rfl, rfl⟩
 refine AllE_nil ?_
 intro hn1 hb1
 have hC8 := hC7.grow hB11
 obtain ⟨x10, hx4, hF⟩ := bind_some hF
 refine WA_tk 8 (by kernel_rfl) rfl rfl (fl_str_add hx4 rfl rfl) ?_
 refine WL_str_add hx4 rfl rfl rfl ?_
 refine WL_nil ?_
 obtain ⟨x11, hx5, hF⟩ := bind_some hF
 refine WA_tk 9 (by kernel_rfl) rfl rfl (fl_str_add hx5 rfl rfl) ?_
 refine WL_str_add hx5 rfl rfl rfl ?_
 refine WL_nil ?_
 refine WA_tk 10 (by kernel_rfl) rfl rfl (fl_assign rfl) ?_
 refine WL_assign rfl rfl ?_
 refine WL_nil ?_
 refine WA_done (by kernel_rfl) ?_
 refine nrm_normal (W_ret ?_)
 have hq7 := Option.some.inj hF
 subst hq7
 refine fn_ret1 rfl rfl ?_
 exact ⟨_, rfl, str_res hC8 _⟩

theorem c_S_FormatCursor {w0 : World} (a1 : ((Int × (List Int)) × Int × Int)) (u1 : Value) (g1 : RO [] w0 u1 a1.1.2) (rr : Str) (hF : S.FormatCursor a1 = some rr) :
 Calls Tryz.prog 25 [(.agg #[(.int .i64 a1.1.1), u1, (.int .i64 a1.2.1), (.int .i64 a1.2.2)])].toArray w0 fun e w' => ∃ v, e = .returned v ∧ Res w0 rr v w' := by
 refine calls_of_W Tryz.func25 rfl rfl ?_
 have hC0 := Ctx.start w0
 unfold S.FormatCursor at hF
 refine W_seq_reg ?_
 refine WL_boxK (cs := [(.int .i64 a1.1.1), u1, (.int .i64 a1.2.1), (.int .i64 a1.2.2)]) hC0 rfl rfl rfl (fun b1 w1 hC1 hB1 hN1 => ?_)
 refine WL_assign rfl rfl ?_
 refine WL_nil (W_seq_reg ?_)
 refine WL_field Tryz.underlying26 rfl rfl (fun w => ⟨_, Tryz.sizeOf24 w⟩) rfl rfl ?_
 refine WL_load_box_agg [(.int .i64 a1.1.1), u1] hC1 0 rfl rfl rfl Tryz.isAgg24 Tryz.sizeOf24 rfl rfl ?_
 obtain ⟨x1, hr1, hF⟩ := bind_some hF
 refine WL_call Tryz.call49 rfl rfl (c_S_FormatAccess (a1.1.1, a1.1.2) u1 (g1.now hC1.keep) x1 hr1) ?_
 intro _ w2 hv1
 obtain ⟨rfl, hB2⟩ := res_str hv1
 have hC2 := hC1.grow hB2
 refine WL_assign rfl rfl ?_
 refine WL_nil (W_seq ?_)
 obtain ⟨r1, hr2, hF⟩ := bind_some hF
 refine W_cut (fun l w => ∃ x2 : Bool, x2 = r1 ∧ l = [(1, (ptr b1 0)), (3, (sv x1)), (20, (.bool x2))] ∧ Below w2.heap.size w2 w ∧ Ctx [] w0 w [Item.box b1 [(.int .i64 a1.1.1), u1, (.int .i64 a1.2.1), (.int .i64 a1.2.2)]]) ?_ ?_
 ·refine W_reg ?_
  refine WL_move rfl rfl ?_
  refine WL_str_eql rfl rfl rfl ?_
  refine WL_move rfl rfl ?_
  refine WL_fork (fun hc1 => ?_) (fun hc1 => ?_)
  ·replace hr2 := ite_t hr2 hc1
   refine WL_guard_skip rfl rfl (by simp) rfl ?_
   refine WL_guard_skip rfl rfl (by simp) rfl ?_
   refine WL_guard_skip rfl rfl (by simp) rfl ?_
   refine WL_guard_skip rfl rfl (by simp) rfl ?_
   refine WL_pick_t rfl rfl rfl ?_
   refine WL_move rfl rfl ?_
   refine WL_guard_skip rfl rfl (by simp) rfl ?_
   refine WL_guard_skip rfl rfl (by simp) rfl ?_
   refine WL_guard_skip rfl rfl (by simp) rfl ?_
   refine WL_guard_skip rfl rfl (by simp) rfl ?_
   refine WL_pick_t rfl rfl rfl ?_
   refine WL_nil ?_
   have hq1 := Option.some.inj hr2
   subst hq1
   refine nrm_sub (l' := [(1, (ptr b1 0)), (3, (sv x1)), (20, (.bool true))]) ⟨rfl, rfl, rfl, trivial⟩ ?_
   exact ⟨true, rfl, rfl, (Below.refl _ _), hC2⟩
  replace hr2 := ite_f hr2 hc1
  refine WL_guard rfl rfl ?_
  refine WL_field Tryz.underlying26 rfl rfl (fun w => ⟨_, Tryz.sizeOf3 w⟩) rfl rfl ?_
  refine WL_guard rfl rfl ?_
  refine WL_load_box hC2 0 rfl rfl Tryz.isAgg3 rfl rfl ?_
  obtain ⟨x3, hr3, hr2⟩ := bind_some hr2
  refine WL_guard rfl rfl ?_
  refine WL_call Tryz.call38 rfl rfl (c_S_l1In a1.2.1 0 1000 x3 hr3) ?_
  intro _ w4 hv2
  obtain ⟨rfl, hB4⟩ := res_bool hv2
  have hC4 := hC2.grow hB4
  refine WL_guard rfl rfl ?_
  refine WL_not rfl rfl ?_
  refine WL_pick_f rfl rfl rfl ?_
  refine WL_move rfl rfl ?_
  refine WL_fork (fun hc2 => ?_) (fun hc2 => ?_)
  ·replace hr2 := ite_t hr2 hc2
   refine WL_guard_skip rfl rfl (by simp) rfl ?_
   refine WL_guard_skip rfl rfl (by simp) rfl ?_
   refine WL_guard_skip rfl rfl (by simp) rfl ?_
   refine WL_guard_skip rfl rfl (by simp) rfl ?_
   refine WL_pick_t rfl rfl rfl ?_
   refine WL_nil ?_
   have hq2 := Option.some.inj hr2
   subst hq2
   refine nrm_sub (l' := [(1, (ptr b1 0)), (3, (sv x1)), (20, (.bool true))]) ⟨rfl, rfl, rfl, trivial⟩ ?_
   exact ⟨true, rfl, rfl, (Keep.of hB4).below, hC4⟩
  replace hr2 := ite_f hr2 hc2
  refine WL_guard rfl rfl ?_
  refine WL_field Tryz.underlying26 rfl rfl (fun w => ⟨_, Tryz.sizeOf3 w⟩) rfl rfl ?_
  refine WL_guard rfl rfl ?_
  refine WL_load_box hC4 0 rfl rfl Tryz.isAgg3 rfl rfl ?_
  obtain ⟨x4, hr4, hr2⟩ := bind_some hr2
  refine WL_guard rfl rfl ?_
  refine WL_call Tryz.call38 rfl rfl (c_S_l1In a1.2.2 0 1000 x4 hr4) ?_
  intro _ w5 hv3
  obtain ⟨rfl, hB5⟩ := res_bool hv3
  have hC5 := hC4.grow hB5
  refine WL_guard rfl rfl ?_
  refine WL_not rfl rfl ?_
  refine WL_pick_f rfl rfl rfl ?_
  refine WL_nil ?_
  have hq3 := Option.some.inj hr2
  subst hq3
  refine nrm_sub (l' := [(1, (ptr b1 0)), (3, (sv x1)), (20, (.bool (!x4)))]) ⟨rfl, rfl, rfl, trivial⟩ ?_
  exact ⟨(!x4), rfl, rfl, ((Keep.of hB4).then hB5).below, hC5⟩
 rintro _ w3 ⟨x2, rfl, rfl, hB3, hC3⟩
 try dsimp only at hF
 refine W_cond rfl (fun hc3 => ?_) (fun hc3 => ?_)
 ·replace hF := ite_t hF hc3
  refine W_seq_reg ?_
  refine WL_assign rfl rfl ?_
  refine WL_nil (W_ret (nrm_ret ?_))
  have hq4 := Option.some.inj hF
  subst hq4
  refine fn_ret1 rfl rfl ?_
  exact ⟨_, rfl, str_res hC3 _⟩
 replace hF := ite_f hF hc3
 refine W_skip (nrm_normal (W_seq ?_))
 refine W_drawn 12 rfl hmix (fun w6 hB6 => ?_)
 have hC6 := hC3.grow hB6
 refine WA_tk 0 (by kernel_rfl) rfl rfl (fl_move rfl) ?_
 refine WL_move rfl rfl ?_
 refine WL_nil ?_
 obtain ⟨x5, hx1, hF⟩ := bind_some hF
 refine WA_tk 1 (by kernel_rfl) rfl rfl (fl_str_add hx1 rfl rfl) ?_
 refine WL_str_add hx1 rfl rfl rfl ?_
 refine WL_nil ?_
 refine WA_tk 2 (by kernel_rfl) rfl rfl (fl_field Tryz.underlying26 rfl rfl (fun w => ⟨_, Tryz.sizeOf3 w⟩) rfl) ?_
 refine WL_field Tryz.underlying26 rfl rfl (fun w => ⟨_, Tryz.sizeOf3 w⟩) rfl rfl ?_
 refine WL_nil ?_
 refine WA_tk 7 (by kernel_rfl) rfl rfl (fl_field Tryz.underlying26 rfl rfl (fun w => ⟨_, Tryz.sizeOf3 w⟩) rfl) ?_
 refine WL_field Tryz.underlying26 rfl rfl (fun w => ⟨_, Tryz.sizeOf3 w⟩) rfl rfl ?_
 refine WL_nil ?_
 obtain ⟨x6, hr5, hF⟩ := bind_some hF
 obtain ⟨x7, hx2, hF⟩ := bind_some hF
 obtain ⟨x8, hx3, hF⟩ := bind_some hF
 obtain ⟨x9, hr6, hF⟩ := bind_some hF
 refine WA.sub (l' := [(1, (ptr b1 0)), (3, (sv x1)), (20, (.bool x2)), (21, (sv x1)), (22, (sv x5)), (23, (ptr b1 2)), (28, (ptr b1 3))]) ?_ ⟨rfl, rfl, rfl, rfl, rfl, rfl, rfl, trivial⟩
 refine WA_postsE [⟨3, [], fun vs => PW.val (.int .i64 a1.2.1), []⟩, ⟨4, [], fun vs => PW.val (sv x6), []⟩, ⟨5, [], fun vs => PW.val (sv x7), []⟩, ⟨6, [], fun vs => PW.val (sv x8), []⟩, ⟨8, [], fun vs => PW.val (.int .i64 a1.2.2), []⟩, ⟨9, [], fun vs => PW.val (sv x9), []⟩] [[], [3], [4], [5], [], [8]] 2 rfl (by kernel_rfl) (by kernel_rfl) rfl ?_ ?_
 ·refine StepsE_cons rfl ?_ ?_
  ·intro w10 hB9
   refine DepsE_nil ?_
   refine ⟨_, rfl, ?_⟩
   refine WL_load_box (hC6.grow hB9) 0 rfl rfl Tryz.isAgg3 rfl rfl ?_
   refine WL_nil ?_
   exact FinE_val (Below.refl _ _) rfl rfl ⟨rfl, rfl⟩
  refine StepsE_cons rfl ?_ ?_
  ·intro w10 hB9
   refine DepsE_cons rfl rfl rfl ?_
   rintro _ _ ⟨rfl, rfl⟩ _
   refine DepsE_nil ?_
   refine ⟨_, rfl, ?_⟩
   refine WL_call Tryz.call50 rfl rfl (c_S_FormatInt a1.2.1 x6 hr5) ?_
   intro _ w7 hv4
   obtain ⟨rfl, hB7⟩ := res_str hv4
   refine WL_nil ?_
   exact FinE_val hB7 rfl rfl ⟨rfl, rfl⟩
  refine StepsE_cons rfl ?_ ?_
  ·intro w10 hB9
   refine DepsE_cons rfl rfl rfl ?_
   rintro _ _ ⟨rfl, rfl⟩ _
   refine DepsE_nil ?_
   refine ⟨_, rfl, ?_⟩
   refine WL_str_add hx2 rfl rfl rfl ?_
   refine WL_nil ?_
   exact FinE_val (Below.refl _ _) rfl rfl ⟨rfl, rfl⟩
  refine StepsE_cons rfl ?_ ?_
  ·intro w10 hB9
   refine DepsE_cons rfl rfl rfl ?_
   rintro _ _ ⟨rfl, rfl⟩ _
   refine DepsE_nil ?_
   refine ⟨_, rfl, ?_⟩
   refine WL_str_add hx3 rfl rfl rfl ?_
   refine WL_nil ?_
   exact FinE_val (Below.refl _ _) rfl rfl ⟨rfl, rfl⟩
  refine StepsE_cons rfl ?_ ?_
  ·intro w10 hB9
   refine DepsE_nil ?_
   refine ⟨_, rfl, ?_⟩
   refine WL_load_box (hC6.grow hB9) 0 rfl rfl Tryz.isAgg3 rfl rfl ?_
   refine WL_nil ?_
   exact FinE_val (Below.refl _ _) rfl rfl ⟨rfl, rfl⟩
  refine StepsE_cons rfl ?_ ?_
  ·intro w10 hB9
   refine DepsE_cons rfl rfl rfl ?_
   rintro _ _ ⟨rfl, rfl⟩ _
   refine DepsE_nil ?_
   refine ⟨_, rfl, ?_⟩
   refine WL_call Tryz.call50 rfl rfl (c_S_FormatInt a1.2.2 x9 hr6) ?_
   intro _ w9 hv5
   obtain ⟨rfl, hB8⟩ := res_str hv5
   refine WL_nil ?_
   exact FinE_val hB8 rfl rfl ⟨rfl, rfl⟩
  exact StepsE_nil
 intro w11 hB10
 refine AllE_cons rfl rfl rfl ?_
 rintro _ _ ⟨rfl, rfl⟩
 refine AllE_cons rfl rfl rfl ?_
 rintro _ _ ⟨rfl, rfl⟩
 refine AllE_cons rfl rfl rfl ?_
 rintro _ _ ⟨rfl, rfl⟩
 refine AllE_cons rfl rfl rfl ?_
 rintro _ _ ⟨rfl, rfl⟩
 refine AllE_cons rfl rfl rfl ?_
 rintro _ _ ⟨rfl, rfl⟩
 refine AllE_cons rfl rfl rfl ?_
 rintro _ _ ⟨rfl, rfl⟩
 refine AllE_nil ?_
 intro hn1 hb1
 have hC7 := hC6.grow hB10
 obtain ⟨x10, hx4, hF⟩ := bind_some hF
 refine WA_tk 10 (by kernel_rfl) rfl rfl (fl_str_add hx4 rfl rfl) ?_
 refine WL_str_add hx4 rfl rfl rfl ?_
 refine WL_nil ?_
 refine WA_tk 11 (by kernel_rfl) rfl rfl (fl_assign rfl) ?_
 refine WL_assign rfl rfl ?_
 refine WL_nil ?_
 refine WA_done (by kernel_rfl) ?_
 refine nrm_normal (W_ret ?_)
 have hq5 := Option.some.inj hF
 subst hq5
 refine fn_ret1 rfl rfl ?_
 exact ⟨_, rfl, str_res hC7 _⟩

theorem c_S_l2Cut {w0 : World} (a1 : Str) (a2 : Int) (rr : (List Str)) (hF : S.l2Cut a1 a2 = some rr) :
 Calls Tryz.prog 26 [(sv a1), (.int .u8 a2)].toArray w0 fun e w' => ∃ v, e = .returned v ∧ Res w0 rr v w' := by
 refine calls_of_W Tryz.func26 rfl rfl ?_
 have hC0 := Ctx.start w0
 unfold S.l2Cut at hF
 refine W_seq_reg ?_
 refine WL_assign rfl rfl ?_
 refine WL_nil (W_seq_reg ?_)
 refine WL_buildSlice (vs := []) hC0 Tryz.underlying51 ty9 rfl rfl rfl rfl (by simp) rfl rfl (fun b1 w1 hC1 hB1 => ?_)
 have hC2 := hC1.row0 (α := Str)
 have hC3 := hC2.front 1 rfl
 dsimp only [List.eraseIdx, List.cons_append, List.nil_append, List.append_nil] at hC3
 have hC4 : Ctx [] w0 w1 (Item.own (.slice (some ⟨b1, 0, none⟩) 0 0) (([] : List Str) : List Str) :: []) := hC3.rowOwn (by simp [maxLen])
 refine WL_assign rfl rfl ?_
 refine WL_nil (W_seq_reg ?_)
 refine WL_assign rfl rfl ?_
 refine WL_nil (W_seq (W_seq_reg ?_))
 refine WL_assign rfl rfl ?_
 refine WL_nil ?_
 obtain ⟨r1, hr1, hF⟩ := bind_some hF
 refine W_norm (fun l w => ∃ v2 : Value, ∃ x4 : (List Str), ∃ x5 : Str, (x4, x5) = r1 ∧ l = [(5, v2), (6, (sv x5))] ∧ Ctx [] w0 w [Item.own v2 (x4 : (List Str))]) ?_ ?_
 ·refine W_block ?_
  refine W.sub (l' := [(0, (sv a1)), (1, (.int .u8 a2)), (5, (.slice (some ⟨b1, 0, none⟩) 0 0)), (6, (sv (str []))), (7, (.int .i64 0))]) ?_ ⟨rfl, rfl, rfl, rfl, rfl, trivial⟩
  refine W_loop (fun k l w => ∃ v1 : Value, ∃ x1 : (List Str), ∃ x2 : Str, ∃ x3 : Int, l = [(0, (sv a1)), (1, (.int .u8 a2)), (5, v1), (6, (sv x2)), (7, (.int .i64 x3))] ∧ Ctx [] w0 w [Item.own v1 (x1 : (List Str))] ∧ S.l2Cut_l1 a1 a2 k x1 x2 x3 = some r1) FUEL ⟨(.slice (some ⟨b1, 0, none⟩) 0 0), ([] : List Str), (str []), 0, rfl, hC4, hr1⟩ ?_
  clear hr1
  rintro k1 _ w2 ⟨v1, x1, x2, x3, rfl, hC5, hL1⟩
  cases k1 with
  | zero => rw [S.l2Cut_l1] at hL1; cases hL1
  | succ k1 =>
   rw [S.l2Cut_l1] at hL1
   refine W_seq (W_seq_reg ?_)
   refine WL_move rfl rfl ?_
   refine WL_move rfl rfl ?_
   refine WL_len_str Tryz.underlying9 rfl rfl ?_
   refine WL_lss rfl rfl rfl ?_
   refine WL_nil ?_
   refine W_cond rfl (fun hc1 => ?_) (fun hc1 => ?_)
   ·replace hL1 := ite_t hL1 hc1
    refine W_skip (nrm_normal (W_seq (W_block (W_seq_reg ?_))))
    refine WL_move rfl rfl ?_
    refine WL_move rfl rfl ?_
    obtain ⟨x6, hx1, hL1⟩ := bind_some hL1
    refine WL_index_str Tryz.underlying9 hx1 rfl rfl rfl ?_
    refine WL_move rfl rfl ?_
    refine WL_eql rfl rfl rfl ?_
    refine WL_nil ?_
    obtain ⟨r2, hr2, hL1⟩ := bind_some hL1
    refine W_norm (fun l w => ∃ v3 : Value, ∃ x7 : (List Str), ∃ x8 : Str, (x7, x8) = r2 ∧ l = [(0, (sv a1)), (1, (.int .u8 a2)), (5, v3), (6, (sv x8)), (7, (.int .i64 x3))] ∧ Ctx [] w0 w [Item.own v3 (x7 : (List Str))]) ?_ ?_
    ·refine W_cond rfl (fun hc2 => ?_) (fun hc2 => ?_)
     ·replace hr2 := ite_t hr2 hc2
      refine W_seq_reg ?_
      refine WL_move rfl rfl ?_
      refine WL_move rfl rfl ?_
      refine WL_buildSlice (vs := [(sv x2)]) hC5 Tryz.underlying51 ty9 rfl rfl rfl rfl (by intro v hv; simp only [List.mem_cons, List.not_mem_nil, or_false] at hv; rcases hv with rfl <;> rfl) rfl rfl (fun b2 w4 hC7 hB4 => ?_)
      have hC8 := hC7.row0 (α := Str)
      have hC9 := hC8.triv (str_val (x2))
      have hC10 := hC9.row1
      have hC11 := hC10.front 1 rfl
      dsimp only [List.eraseIdx, List.cons_append, List.nil_append, List.append_nil] at hC11
      have hC12 : Ctx [] w0 w4 (Item.own (.slice (some ⟨b2, 0, none⟩) 1 1) ([x2] : List Str) :: [Item.own v1 (x1 : (List Str))]) := hC11.rowOwn (by simp [maxLen])
      obtain ⟨x9, hx2, hr2⟩ := bind_some hr2
      refine WL_append_flat (α := Str) hC12 1 rfl (hC12.ro 0 rfl) (Keep.refl _ _) Tryz.underlying51 ty9 rfl hx2 rfl rfl rfl (fun v4 w5 hC13 => ?_)
      try dsimp only [List.set] at hC13
      refine WL_assign rfl rfl ?_
      refine WL_nil (W_reg ?_)
      refine WL_assign rfl rfl ?_
      refine WL_nil ?_
      have hq1 := Option.some.inj hr2
      subst hq1
      have hC14 := hC13.f1
      have hC15 := hC14.h1
      refine nrm_sub (l' := [(0, (sv a1)), (1, (.int .u8 a2)), (5, v4), (6, (sv (str []))), (7, (.int .i64 x3))]) ⟨rfl, rfl, rfl, rfl, rfl, trivial⟩ ?_
      exact ⟨v4, x9, (str []), rfl, rfl, hC15⟩
     replace hr2 := ite_f hr2 hc2
     refine W_reg ?_
     refine WL_move rfl rfl ?_
     refine WL_move rfl rfl ?_
     refine WL_move rfl rfl ?_
     refine WL_move rfl rfl ?_
     refine WL_add rfl rfl rfl ?_
     obtain ⟨x10, hx3, hr2⟩ := bind_some hr2
     refine WL_slice_str_lh Tryz.underlying9 hx3 rfl rfl rfl rfl ?_
     obtain ⟨x11, hx4, hr2⟩ := bind_some hr2
     refine WL_str_add hx4 rfl rfl rfl ?_
     refine WL_assign rfl rfl ?_
     refine WL_nil ?_
     have hq2 := Option.some.inj hr2
     subst hq2
     refine nrm_sub (l' := [(0, (sv a1)), (1, (.int .u8 a2)), (5, v1), (6, (sv x11)), (7, (.int .i64 x3))]) ⟨rfl, rfl, rfl, rfl, rfl, trivial⟩ ?_
     exact ⟨v1, x1, x11, rfl, rfl, hC5⟩
    rintro l2 _ w3 hs2 ⟨v3, x7, x8, rfl, rfl, hC6⟩
    try dsimp only at hL1
    refine blk_normal ?_
    refine nrm_sub' hs2 ?_
    clear hs2
    refine W_reg ?_
    refine WL_move rfl rfl ?_
    refine WL_add rfl rfl rfl ?_
    refine WL_assign rfl rfl ?_
    refine WL_nil ?_
    refine nrm_sub (l' := [(0, (sv a1)), (1, (.int .u8 a2)), (5, v3), (6, (sv x8)), (7, (.int .i64 (w64 (x3 + 1))))]) ⟨rfl, rfl, rfl, rfl, rfl, trivial⟩ ?_
    exact ⟨k1, Nat.lt_succ_self _, v3, x7, x8, w64 (x3 + 1), rfl, hC6, hL1⟩
   replace hL1 := ite_f hL1 hc1
   refine W_exit (nrm_exit (nrm_exit (blk_exit ?_)))
   have hq3 := Option.some.inj hL1
   subst hq3
   refine nrm_sub (l' := [(5, v1), (6, (sv x2))]) ⟨rfl, rfl, trivial⟩ ?_
   exact ⟨v1, x1, x2, rfl, rfl, hC5⟩
 rintro l3 _ w6 hs3 ⟨v2, x4, x5, rfl, rfl, hC16⟩
 try dsimp only at hF
 refine nrm_sub' hs3 ?_
 clear hs3
 refine W_seq_reg ?_
 refine WL_move rfl rfl ?_
 refine WL_move rfl rfl ?_
 refine WL_buildSlice (vs := [(sv x5)]) hC16 Tryz.underlying51 ty9 rfl rfl rfl rfl (by intro v hv; simp only [List.mem_cons, List.not_mem_nil, or_false] at hv; rcases hv with rfl <;> rfl) rfl rfl (fun b3 w7 hC17 hB6 => ?_)
 have hC18 := hC17.row0 (α := Str)
 have hC19 := hC18.triv (str_val (x5))
 have hC20 := hC19.row1
 have hC21 := hC20.front 1 rfl
 dsimp only [List.eraseIdx, List.cons_append, List.nil_append, List.append_nil] at hC21
 have hC22 : Ctx [] w0 w7 (Item.own (.slice (some ⟨b3, 0, none⟩) 1 1) ([x5] : List Str) :: [Item.own v2 (x4 : (List Str))]) := hC21.rowOwn (by simp [maxLen])
 obtain ⟨x12, hx5, hF⟩ := bind_some hF
 refine WL_append_flat (α := Str) hC22 1 rfl (hC22.ro 0 rfl) (Keep.refl _ _) Tryz.underlying51 ty9 rfl hx5 rfl rfl rfl (fun v5 w9 hC23 => ?_)
 try dsimp only [List.set] at hC23
 refine WL_assign rfl rfl ?_
 refine WL_nil (W_ret ?_)
 have hq4 := Option.some.inj hF
 subst hq4
 refine fn_ret1 rfl rfl ?_
 exact ⟨_, rfl, own_res hC23 1 rfl⟩

theorem c_S_ParseInt {w0 : World} (a1 : Str) (rr : (Int × Bool)) (hF : S.ParseInt a1 = some rr) :
 Calls Tryz.prog 51 [(sv a1)].toArray w0 fun e w' => ∃ v, e = .returned v ∧ Res2 w0 rr.1 rr.2 v w' := by
 refine calls_of_W Tryz.func51 rfl rfl ?_
 have hC0 := Ctx.start w0
 unfold S.ParseInt at hF
 refine W_seq_reg ?_
 refine WL_assign rfl rfl ?_
 refine WL_assign rfl rfl ?_
 refine WL_nil (W_seq_reg ?_)
 refine WL_assign rfl rfl ?_
 refine WL_nil (W_seq_reg ?_)
 refine WL_assign rfl rfl ?_
 refine WL_nil (W_seq (W_seq_reg ?_))
 refine WL_assign rfl rfl ?_
 refine WL_nil ?_
 obtain ⟨r1, hr1, hF⟩ := bind_some hF
 refine W_norm (fun l w => ∃ x4 : Int, ∃ x5 : Int, (x4, x5) = r1 ∧ l = [(0, (sv a1)), (4, (.int .i64 x4)), (5, (.int .i64 x5))] ∧ Below w0.heap.size w0 w ∧ Ctx [] w0 w []) ?_ ?_
 ·refine W_block ?_
  refine W.sub (l' := [(0, (sv a1)), (4, (.int .i64 0)), (5, (.int .i64 0)), (6, (.int .i64 0))]) ?_ ⟨rfl, rfl, rfl, rfl, trivial⟩
  refine W_loop (fun k l w => ∃ x1 : Int, ∃ x2 : Int, ∃ x3 : Int, l = [(0, (sv a1)), (4, (.int .i64 x1)), (5, (.int .i64 x2)), (6, (.int .i64 x3))] ∧ Below w0.heap.size w0 w ∧ Ctx [] w0 w [] ∧ S.ParseInt_l1 a1 k x1 x2 x3 = some r1) FUEL ⟨0, 0, 0, rfl, (Below.refl _ _), hC0, hr1⟩ ?_
  clear hr1
  rintro k1 _ w1 ⟨x1, x2, x3, rfl, hB1, hC1, hL1⟩
  cases k1 with
  | zero => rw [S.ParseInt_l1] at hL1; cases hL1
  | succ k1 =>
   rw [S.ParseInt_l1] at hL1
   refine W_seq ?_
   obtain ⟨r2, hr2, hL1⟩ := bind_some hL1
   refine W_cut (fun l w => ∃ x6 : Bool, x6 = r2 ∧ l = [(0, (sv a1)), (4, (.int .i64 x1)), (5, (.int .i64 x2)), (6, (.int .i64 x3)), (14, (.bool x6))] ∧ Below w1.heap.size w1 w ∧ Ctx [] w0 w []) ?_ ?_
   ·refine W_reg ?_
    refine WL_move rfl rfl ?_
    refine WL_move rfl rfl ?_
    refine WL_len_str Tryz.underlying9 rfl rfl ?_
    refine WL_lss rfl rfl rfl ?_
    refine WL_move rfl rfl ?_
    refine WL_fork (fun hc1 => ?_) (fun hc1 => ?_)
    ·replace hr2 := ite_t hr2 hc1
     refine WL_guard rfl rfl ?_
     refine WL_move rfl rfl ?_
     refine WL_guard rfl rfl ?_
     refine WL_lss rfl rfl rfl ?_
     refine WL_pick_t rfl rfl rfl ?_
     refine WL_nil ?_
     have hq1 := Option.some.inj hr2
     subst hq1
     refine nrm_sub (l' := [(0, (sv a1)), (4, (.int .i64 x1)), (5, (.int .i64 x2)), (6, (.int .i64 x3)), (14, (.bool (decide (x3 < 11))))]) ⟨rfl, rfl, rfl, rfl, rfl, trivial⟩ ?_
     exact ⟨(decide (x3 < 11)), rfl, rfl, (Below.refl _ _), hC1⟩
    replace hr2 := ite_f hr2 hc1
    refine WL_guard_skip rfl rfl (by simp) rfl ?_
    refine WL_guard_skip rfl rfl (by simp) rfl ?_
    refine WL_pick_f rfl rfl rfl ?_
    refine WL_nil ?_
    have hq2 := Option.some.inj hr2
    subst hq2
    refine nrm_sub (l' := [(0, (sv a1)), (4, (.int .i64 x1)), (5, (.int .i64 x2)), (6, (.int .i64 x3)), (14, (.bool false))]) ⟨rfl, rfl, rfl, rfl, rfl, trivial⟩ ?_
    exact ⟨false, rfl, rfl, (Below.refl _ _), hC1⟩
   rintro _ w2 ⟨x6, rfl, rfl, hB2, hC2⟩
   try dsimp only at hL1
   refine W_cond rfl (fun hc2 => ?_) (fun hc2 => ?_)
   ·replace hL1 := ite_t hL1 hc2
    refine W_skip (nrm_normal (W_seq (W_block ?_)))
    obtain ⟨r3, hr3, hL1⟩ := bind_some hL1
    refine W_cut (fun l w => ∃ x7 : Bool, x7 = r3 ∧ l = [(0, (sv a1)), (4, (.int .i64 x1)), (5, (.int .i64 x2)), (6, (.int .i64 x3)), (26, (.bool x7))] ∧ Below w2.heap.size w2 w ∧ Ctx [] w0 w []) ?_ ?_
    ·refine W_reg ?_
     refine WL_move rfl rfl ?_
     refine WL_move rfl rfl ?_
     obtain ⟨x8, hx1, hr3⟩ := bind_some hr3
     refine WL_index_str Tryz.underlying9 hx1 rfl rfl rfl ?_
     refine WL_geq rfl rfl rfl ?_
     refine WL_move rfl rfl ?_
     refine WL_fork (fun hc3 => ?_) (fun hc3 => ?_)
     ·replace hr3 := ite_t hr3 hc3
      refine WL_guard rfl rfl ?_
      refine WL_move rfl rfl ?_
      refine WL_guard rfl rfl ?_
      refine WL_move rfl rfl ?_
      obtain ⟨x9, hx2, hr3⟩ := bind_some hr3
      refine WL_guard rfl rfl ?_
      refine WL_index_str Tryz.underlying9 hx2 rfl rfl rfl ?_
      refine WL_guard rfl rfl ?_
      refine WL_leq rfl rfl rfl ?_
      refine WL_pick_t rfl rfl rfl ?_
      refine WL_nil ?_
      have hq3 := Option.some.inj hr3
      subst hq3
      refine nrm_sub (l' := [(0, (sv a1)), (4, (.int .i64 x1)), (5, (.int .i64 x2)), (6, (.int .i64 x3)), (26, (.bool (decide ((UInt8.toNat x9 : Int) ≤ 57))))]) ⟨rfl, rfl, rfl, rfl, rfl, trivial⟩ ?_
      exact ⟨(decide ((UInt8.toNat x9 : Int) ≤ 57)), rfl, rfl, (Below.refl _ _), hC2⟩
     replace hr3 := ite_f hr3 hc3
     refine WL_guard_skip rfl rfl (by simp) rfl ?_
     refine WL_guard_skip rfl rfl (by simp) rfl ?_
     refine WL_guard_skip rfl rfl (by simp) rfl ?_
     refine WL_guard_skip rfl rfl (by simp) rfl ?_
     refine WL_pick_f rfl rfl rfl ?_
     refine WL_nil ?_
     have hq4 := Option.some.inj hr3
     subst hq4
     refine nrm_sub (l' := [(0, (sv a1)), (4, (.int .i64 x1)), (5, (.int .i64 x2)), (6, (.int .i64 x3)), (26, (.bool false))]) ⟨rfl, rfl, rfl, rfl, rfl, trivial⟩ ?_
     exact ⟨false, rfl, rfl, (Below.refl _ _), hC2⟩
    rintro _ w3 ⟨x7, rfl, rfl, hB3, hC3⟩
    try dsimp only at hL1
    obtain ⟨r4, hr4, hL1⟩ := bind_some hL1
    refine W_norm (fun l w => ∃ x10 : Int, ∃ x11 : Int, (x10, x11) = r4 ∧ l = [(0, (sv a1)), (4, (.int .i64 x10)), (5, (.int .i64 x11)), (6, (.int .i64 x3))] ∧ Below w3.heap.size w3 w ∧ Ctx [] w0 w []) ?_ ?_
    ·refine W_cond rfl (fun hc4 => ?_) (fun hc4 => ?_)
     ·replace hr4 := ite_t hr4 hc4
      refine W_seq_reg ?_
      refine WL_move rfl rfl ?_
      refine WL_mul rfl rfl rfl ?_
      refine WL_move rfl rfl ?_
      refine WL_move rfl rfl ?_
      obtain ⟨x12, hx3, hr4⟩ := bind_some hr4
      refine WL_index_str Tryz.underlying9 hx3 rfl rfl rfl ?_
      refine WL_sub8 rfl rfl rfl ?_
      refine WL_conv_i64 Tryz.underlying5 Tryz.underlying3 rfl rfl ?_
      refine WL_add rfl rfl rfl ?_
      refine WL_assign rfl rfl ?_
      refine WL_nil (W_reg ?_)
      refine WL_move rfl rfl ?_
      refine WL_add rfl rfl rfl ?_
      refine WL_assign rfl rfl ?_
      refine WL_nil ?_
      have hq5 := Option.some.inj hr4
      subst hq5
      refine nrm_sub (l' := [(0, (sv a1)), (4, (.int .i64 (w64 ((w64 (x1 * 10)) + (w64 (w8 ((UInt8.toNat x12 : Int) - 48))))))), (5, (.int .i64 (w64 (x2 + 1)))), (6, (.int .i64 x3))]) ⟨rfl, rfl, rfl, rfl, trivial⟩ ?_
      exact ⟨w64 ((w64 (x1 * 10)) + (w64 (w8 ((UInt8.toNat x12 : Int) - 48)))), w64 (x2 + 1), rfl, rfl, (Below.refl _ _), hC3⟩
     replace hr4 := ite_f hr4 hc4
     refine W_skip ?_
     have hq6 := Option.some.inj hr4
     subst hq6
     refine nrm_sub (l' := [(0, (sv a1)), (4, (.int .i64 x1)), (5, (.int .i64 x2)), (6, (.int .i64 x3))]) ⟨rfl, rfl, rfl, rfl, trivial⟩ ?_
     exact ⟨x1, x2, rfl, rfl, (Below.refl _ _), hC3⟩
    rintro l4 _ w4 hs4 ⟨x10, x11, rfl, rfl, hB4, hC4⟩
    try dsimp only at hL1
    refine blk_normal ?_
    refine nrm_sub' hs4 ?_
    clear hs4
    refine W_reg ?_
    refine WL_move rfl rfl ?_
    refine WL_add rfl rfl rfl ?_
    refine WL_assign rfl rfl ?_
    refine WL_nil ?_
    refine nrm_sub (l' := [(0, (sv a1)), (4, (.int .i64 x10)), (5, (.int .i64 x11)), (6, (.int .i64 (w64 (x3 + 1))))]) ⟨rfl, rfl, rfl, rfl, trivial⟩ ?_
    exact ⟨k1, Nat.lt_succ_self _, x10, x11, w64 (x3 + 1), rfl, ((((Keep.of hB1).then hB2).then hB3).then hB4).below, hC4, hL1⟩
   replace hL1 := ite_f hL1 hc2
   refine W_exit (nrm_exit (nrm_exit (blk_exit ?_)))
   have hq7 := Option.some.inj hL1
   subst hq7
   refine nrm_sub (l' := [(0, (sv a1)), (4, (.int .i64 x1)), (5, (.int .i64 x2))]) ⟨rfl, rfl, rfl, trivial⟩ ?_
   exact ⟨x1, x2, rfl, rfl, ((Keep.of hB1).then hB2).below, hC2⟩
 rintro l5 _ w5 hs5 ⟨x4, x5, rfl, rfl, hB5, hC5⟩
 try dsimp only at hF
 refine nrm_sub' hs5 ?_
 clear hs5
 refine W_seq ?_
 obtain ⟨r5, hr5, hF⟩ := bind_some hF
 refine W_cut (fun l w => ∃ x13 : Bool, x13 = r5 ∧ l = [(0, (sv a1)), (4, (.int .i64 x4)), (5, (.int .i64 x5)), (44, (.bool x13))] ∧ Below w5.heap.size w5 w ∧ Ctx [] w0 w []) ?_ ?_
 ·refine W_reg ?_
  refine WL_move rfl rfl ?_
  refine WL_len_str Tryz.underlying9 rfl rfl ?_
  refine WL_gtr rfl rfl rfl ?_
  refine WL_move rfl rfl ?_
  refine WL_fork (fun hc5 => ?_) (fun hc5 => ?_)
  ·replace hr5 := ite_t hr5 hc5
   refine WL_guard rfl rfl ?_
   refine WL_move rfl rfl ?_
   obtain ⟨x14, hx4, hr5⟩ := bind_some hr5
   refine WL_guard rfl rfl ?_
   refine WL_index_str Tryz.underlying9 hx4 rfl rfl rfl ?_
   refine WL_guard rfl rfl ?_
   refine WL_eql rfl rfl rfl ?_
   refine WL_pick_t rfl rfl rfl ?_
   refine WL_nil ?_
   have hq8 := Option.some.inj hr5
   subst hq8
   refine nrm_sub (l' := [(0, (sv a1)), (4, (.int .i64 x4)), (5, (.int .i64 x5)), (44, (.bool (decide ((UInt8.toNat x14 : Int) = 45))))]) ⟨rfl, rfl, rfl, rfl, trivial⟩ ?_
   exact ⟨(decide ((UInt8.toNat x14 : Int) = 45)), rfl, rfl, (Below.refl _ _), hC5⟩
  replace hr5 := ite_f hr5 hc5
  refine WL_guard_skip rfl rfl (by simp) rfl ?_
  refine WL_guard_skip rfl rfl (by simp) rfl ?_
  refine WL_guard_skip rfl rfl (by simp) rfl ?_
  refine WL_pick_f rfl rfl rfl ?_
  refine WL_nil ?_
  have hq9 := Option.some.inj hr5
  subst hq9
  refine nrm_sub (l' := [(0, (sv a1)), (4, (.int .i64 x4)), (5, (.int .i64 x5)), (44, (.bool false))]) ⟨rfl, rfl, rfl, rfl, trivial⟩ ?_
  exact ⟨false, rfl, rfl, (Below.refl _ _), hC5⟩
 rintro _ w6 ⟨x13, rfl, rfl, hB6, hC6⟩
 try dsimp only at hF
 obtain ⟨r6, hr6, hF⟩ := bind_some hF
 refine W_norm (fun l w => ∃ x15 : Int, x15 = r6 ∧ l = [(0, (sv a1)), (4, (.int .i64 x15)), (5, (.int .i64 x5))] ∧ Below w6.heap.size w6 w ∧ Ctx [] w0 w []) ?_ ?_
 ·refine W_cond rfl (fun hc6 => ?_) (fun hc6 => ?_)
  ·replace hr6 := ite_t hr6 hc6
   refine W_reg ?_
   refine WL_move rfl rfl ?_
   refine WL_neg rfl rfl ?_
   refine WL_assign rfl rfl ?_
   refine WL_nil ?_
   have hq10 := Option.some.inj hr6
   subst hq10
   refine nrm_sub (l' := [(0, (sv a1)), (4, (.int .i64 (w64 (0 - x4)))), (5, (.int .i64 x5))]) ⟨rfl, rfl, rfl, trivial⟩ ?_
   exact ⟨w64 (0 - x4), rfl, rfl, (Below.refl _ _), hC6⟩
  replace hr6 := ite_f hr6 hc6
  refine W_skip ?_
  have hq11 := Option.some.inj hr6
  subst hq11
  refine nrm_sub (l' := [(0, (sv a1)), (4, (.int .i64 x4)), (5, (.int .i64 x5))]) ⟨rfl, rfl, rfl, trivial⟩ ?_
  exact ⟨x4, rfl, rfl, (Below.refl _ _), hC6⟩
 rintro l7 _ w7 hs7 ⟨x15, rfl, rfl, hB7, hC7⟩
 try dsimp only at hF
 refine nrm_sub' hs7 ?_
 clear hs7
 refine W_seq ?_
 obtain ⟨r7, hr7, hF⟩ := bind_some hF
 refine W_cut (fun l w => ∃ x16 : Bool, x16 = r7 ∧ l = [(4, (.int .i64 x15)), (59, (.bool x16))] ∧ Below w7.heap.size w7 w ∧ Ctx [] w0 w []) ?_ ?_
 ·refine W_reg ?_
  refine WL_move rfl rfl ?_
  refine WL_gtr rfl rfl rfl ?_
  refine WL_move rfl rfl ?_
  refine WL_fork (fun hc7 => ?_) (fun hc7 => ?_)
  ·replace hr7 := ite_t hr7 hc7
   refine WL_guard_skip rfl rfl (by simp) rfl ?_
   refine WL_guard_skip rfl rfl (by simp) rfl ?_
   refine WL_guard_skip rfl rfl (by simp) rfl ?_
   refine WL_pick_t rfl rfl rfl ?_
   refine WL_move rfl rfl ?_
   refine WL_guard_skip rfl rfl (by simp) rfl ?_
   refine WL_guard_skip rfl rfl (by simp) rfl ?_
   refine WL_guard_skip rfl rfl (by simp) rfl ?_
   refine WL_guard_skip rfl rfl (by simp) rfl ?_
   refine WL_pick_t rfl rfl rfl ?_
   refine WL_nil ?_
   have hq12 := Option.some.inj hr7
   subst hq12
   refine nrm_sub (l' := [(4, (.int .i64 x15)), (59, (.bool true))]) ⟨rfl, rfl, trivial⟩ ?_
   exact ⟨true, rfl, rfl, (Below.refl _ _), hC7⟩
  replace hr7 := ite_f hr7 hc7
  refine WL_guard rfl rfl ?_
  refine WL_move rfl rfl ?_
  refine WL_guard rfl rfl ?_
  refine WL_len_str Tryz.underlying9 rfl rfl ?_
  refine WL_guard rfl rfl ?_
  refine WL_gtr rfl rfl rfl ?_
  refine WL_pick_f rfl rfl rfl ?_
  refine WL_move rfl rfl ?_
  refine WL_fork (fun hc8 => ?_) (fun hc8 => ?_)
  ·replace hr7 := ite_t hr7 hc8
   refine WL_guard_skip rfl rfl (by simp) rfl ?_
   refine WL_guard_skip rfl rfl (by simp) rfl ?_
   refine WL_guard_skip rfl rfl (by simp) rfl ?_
   refine WL_guard_skip rfl rfl (by simp) rfl ?_
   refine WL_pick_t rfl rfl rfl ?_
   refine WL_nil ?_
   have hq13 := Option.some.inj hr7
   subst hq13
   refine nrm_sub (l' := [(4, (.int .i64 x15)), (59, (.bool true))]) ⟨rfl, rfl, trivial⟩ ?_
   exact ⟨true, rfl, rfl, (Below.refl _ _), hC7⟩
  replace hr7 := ite_f hr7 hc8
  refine WL_guard rfl rfl ?_
  refine WL_move rfl rfl ?_
  obtain ⟨x17, hr8, hr7⟩ := bind_some hr7
  refine WL_guard rfl rfl ?_
  refine WL_call Tryz.call50 rfl rfl (c_S_FormatInt x15 x17 hr8) ?_
  intro _ w10 hv1
  obtain ⟨rfl, hB9⟩ := res_str hv1
  have hC9 := hC7.grow hB9
  refine WL_guard rfl rfl ?_
  refine WL_move rfl rfl ?_
  refine WL_guard rfl rfl ?_
  refine WL_str_neq rfl rfl rfl ?_
  refine WL_pick_f rfl rfl rfl ?_
  refine WL_nil ?_
  have hq14 := Option.some.inj hr7
  subst hq14
  refine nrm_sub (l' := [(4, (.int .i64 x15)), (59, (.bool (!decide (x17 = a1))))]) ⟨rfl, rfl, trivial⟩ ?_
  exact ⟨(!decide (x17 = a1)), rfl, rfl, (Keep.of hB9).below, hC9⟩
 rintro _ w9 ⟨x16, rfl, rfl, hB8, hC8⟩
 try dsimp only at hF
 refine W_cond rfl (fun hc9 => ?_) (fun hc9 => ?_)
 ·replace hF := ite_t hF hc9
  refine W_seq_reg ?_
  refine WL_assign rfl rfl ?_
  refine WL_assign rfl rfl ?_
  refine WL_nil (W_ret (nrm_ret ?_))
  have hq15 := Option.some.inj hF
  subst hq15
  refine fn_ret2 rfl rfl rfl ?_
  have hC10 := hC8.triv (bool_val (false))
  have hC11 := hC10.triv (int_val (0))
  exact ⟨_, rfl, res2_of hC11⟩
 replace hF := ite_f hF hc9
 refine W_skip (nrm_normal (W_seq_reg ?_))
 refine WL_move rfl rfl ?_
 refine WL_assign rfl rfl ?_
 refine WL_assign rfl rfl ?_
 refine WL_nil (W_ret ?_)
 have hq16 := Option.some.inj hF
 subst hq16
 refine fn_ret2 rfl rfl rfl ?_
 have hC12 := hC8.triv (bool_val (true))
 have hC13 := hC12.triv (int_val (x15))
 exact ⟨_, rfl, res2_of hC13⟩

theorem c_S_l2Num {w0 : World} (a1 : Str) (rr : Int) (hF : S.l2Num a1 = some rr) :
 Calls Tryz.prog 28 [(sv a1)].toArray w0 fun e w' => ∃ v, e = .returned v ∧ Res w0 rr v w' := by
 refine calls_of_W Tryz.func28 rfl rfl ?_
 have hC0 := Ctx.start w0
 unfold S.l2Num at hF
 refine W_seq_reg ?_
 refine WL_assign rfl rfl ?_
 refine WL_nil (W_seq_reg ?_)
 refine WL_move rfl rfl ?_
 obtain ⟨x1, hr1, hF⟩ := bind_some hF
 refine WL_call Tryz.call51 rfl rfl (c_S_ParseInt a1 x1 hr1) ?_
 rintro _ w1 ⟨hB1, v1, v2, F1, F2, rfl, hv1, hv2, hn1, hb1⟩
 obtain ⟨rfl, rfl⟩ := val_int hv1
 obtain ⟨rfl, rfl⟩ := val_bool hv2
 have hC1 := hC0.grow hB1
 refine WL_move rfl rfl ?_
 refine WL_extract rfl rfl rfl ?_
 refine WL_extract rfl rfl rfl ?_
 refine WL_assign rfl rfl ?_
 refine WL_assign rfl rfl ?_
 refine WL_nil (W_seq (W_seq_reg ?_))
 refine WL_move rfl rfl ?_
 refine WL_not rfl rfl ?_
 refine WL_nil ?_
 refine W_cond rfl (fun hc1 => ?_) (fun hc1 => ?_)
 ·replace hF := ite_t hF hc1
  refine W_seq_reg ?_
  refine WL_assign rfl rfl ?_
  refine WL_nil (W_ret (nrm_ret ?_))
  have hq1 := Option.some.inj hF
  subst hq1
  refine fn_ret1 rfl rfl ?_
  exact ⟨_, rfl, int_res hC1 _⟩
 replace hF := ite_f hF hc1
 refine W_skip (nrm_normal (W_seq_reg ?_))
 refine WL_move rfl rfl ?_
 refine WL_assign rfl rfl ?_
 refine WL_nil (W_ret ?_)
 have hq2 := Option.some.inj hF
 subst hq2
 refine fn_ret1 rfl rfl ?_
 exact ⟨_, rfl, int_res hC1 _⟩

theorem c_S_l24Access {w0 : World} (a1 : Str) (rr : (Int × (List Int))) (hF : S.l24Access a1 = some rr) :
 Calls Tryz.prog 27 [(sv a1)].toArray w0 fun e w' => ∃ v, e = .returned v ∧ Res w0 rr v w' := by
 refine calls_of_W Tryz.func27 rfl rfl ?_
 have hC0 := Ctx.start w0
 unfold S.l24Access at hF
 refine W_seq_reg ?_
 refine WL_allocK hC0 zero24 rfl rfl (fun b1 w1 hC1 hB1 hN1 => ?_)
 refine WL_nil (W_seq (W_seq_reg ?_))
 refine WL_assign rfl rfl ?_
 refine WL_nil ?_
 obtain ⟨r1, hr1, hF⟩ := bind_some hF
 refine W_norm (fun l w => ∃ x4 : Int, ∃ v2 : Value, ∃ x5 : (List Int), .inl (x4, x5) = r1 ∧ l = [(2, (ptr b1 0))] ∧ Ctx [] w0 w [Item.own v2 (x5 : (List Int)), Item.box b1 [(.int .i64 x4), v2]]) ?_ ?_
 ·refine W_block ?_
  have hC38 := hC1.triv (nil_val (α := Int))
  refine W.sub (l' := [(0, (sv a1)), (2, (ptr b1 0)), (3, (.int .i64 0))]) ?_ ⟨rfl, rfl, rfl, trivial⟩
  refine W_loop (fun k l w => ∃ x1 : Int, ∃ v1 : Value, ∃ x2 : (List Int), ∃ x3 : Int, l = [(0, (sv a1)), (2, (ptr b1 0)), (3, (.int .i64 x3))] ∧ Ctx [] w0 w [Item.own v1 (x2 : (List Int)), Item.box b1 [(.int .i64 x1), v1]] ∧ S.l24Access_l1 a1 k x1 x2 x3 = some r1) FUEL ⟨0, (.slice none 0 0), [], 0, rfl, hC38, hr1⟩ ?_
  clear hr1
  rintro k1 _ w2 ⟨x1, v1, x2, x3, rfl, hC2, hL1⟩
  cases k1 with
  | zero => rw [S.l24Access_l1] at hL1; cases hL1
  | succ k1 =>
   rw [S.l24Access_l1] at hL1
   refine W_seq (W_seq_reg ?_)
   refine WL_move rfl rfl ?_
   refine WL_move rfl rfl ?_
   refine WL_len_str Tryz.underlying9 rfl rfl ?_
   refine WL_lss rfl rfl rfl ?_
   refine WL_nil ?_
   refine W_cond rfl (fun hc1 => ?_) (fun hc1 => ?_)
   ·replace hL1 := ite_t hL1 hc1
    refine W_skip (nrm_normal (W_seq (W_block ?_)))
    obtain ⟨r2, hr2, hL1⟩ := bind_some hL1
    refine W_cut (fun l w => ∃ x6 : Bool, x6 = r2 ∧ l = [(0, (sv a1)), (2, (ptr b1 0)), (3, (.int .i64 x3)), (30, (.bool x6))] ∧ Below w2.heap.size w2 w ∧ Ctx [] w0 w [Item.own v1 (x2 : (List Int)), Item.box b1 [(.int .i64 x1), v1]]) ?_ ?_
    ·refine W_reg ?_
     refine WL_move rfl rfl ?_
     refine WL_move rfl rfl ?_
     obtain ⟨x7, hx1, hr2⟩ := bind_some hr2
     refine WL_index_str Tryz.underlying9 hx1 rfl rfl rfl ?_
     refine WL_eql rfl rfl rfl ?_
     refine WL_move rfl rfl ?_
     refine WL_fork (fun hc2 => ?_) (fun hc2 => ?_)
     ·replace hr2 := ite_t hr2 hc2
      refine WL_guard rfl rfl ?_
      refine WL_move rfl rfl ?_
      refine WL_guard rfl rfl ?_
      refine WL_move rfl rfl ?_
      refine WL_guard rfl rfl ?_
      refine WL_len_str Tryz.underlying9 rfl rfl ?_
      refine WL_guard rfl rfl ?_
      refine WL_sub rfl rfl rfl ?_
      obtain ⟨x8, hx2, hr2⟩ := bind_some hr2
      refine WL_guard rfl rfl ?_
      refine WL_index_str Tryz.underlying9 hx2 rfl rfl rfl ?_
      refine WL_guard rfl rfl ?_
      refine WL_eql rfl rfl rfl ?_
      refine WL_pick_t rfl rfl rfl ?_
      refine WL_move rfl rfl ?_
      refine WL_fork (fun hc3 => ?_) (fun hc3 => ?_)
      ·replace hr2 := ite_t hr2 hc3
       refine WL_guard rfl rfl ?_
       refine WL_move rfl rfl ?_
       obtain ⟨x9, hx3, hr2⟩ := bind_some hr2
       refine WL_guard rfl rfl ?_
       refine WL_index_str Tryz.underlying9 hx3 rfl rfl rfl ?_
       refine WL_guard rfl rfl ?_
       refine WL_eql rfl rfl rfl ?_
       refine WL_pick_t rfl rfl rfl ?_
       refine WL_nil ?_
       have hq1 := Option.some.inj hr2
       subst hq1
       refine nrm_sub (l' := [(0, (sv a1)), (2, (ptr b1 0)), (3, (.int .i64 x3)), (30, (.bool (decide ((UInt8.toNat x9 : Int) = 109))))]) ⟨rfl, rfl, rfl, rfl, trivial⟩ ?_
       exact ⟨(decide ((UInt8.toNat x9 : Int) = 109)), rfl, rfl, (Below.refl _ _), hC2⟩
      replace hr2 := ite_f hr2 hc3
      refine WL_guard_skip rfl rfl (by simp) rfl ?_
      refine WL_guard_skip rfl rfl (by simp) rfl ?_
      refine WL_guard_skip rfl rfl (by simp) rfl ?_
      refine WL_pick_f rfl rfl rfl ?_
      refine WL_nil ?_
      have hq2 := Option.some.inj hr2
      subst hq2
      refine nrm_sub (l' := [(0, (sv a1)), (2, (ptr b1 0)), (3, (.int .i64 x3)), (30, (.bool false))]) ⟨rfl, rfl, rfl, rfl, trivial⟩ ?_
      exact ⟨false, rfl, rfl, (Below.refl _ _), hC2⟩
     replace hr2 := ite_f hr2 hc2
     refine WL_guard_skip rfl rfl (by simp) rfl ?_
     refine WL_guard_skip rfl rfl (by simp) rfl ?_
     refine WL_guard_skip rfl rfl (by simp) rfl ?_
     refine WL_guard_skip rfl rfl (by simp) rfl ?_
     refine WL_guard_skip rfl rfl (by simp) rfl ?_
     refine WL_guard_skip rfl rfl (by simp) rfl ?_
     refine WL_pick_f rfl rfl rfl ?_
     refine WL_move rfl rfl ?_
     refine WL_guard_skip rfl rfl (by simp) rfl ?_
     refine WL_guard_skip rfl rfl (by simp) rfl ?_
     refine WL_guard_skip rfl rfl (by simp) rfl ?_
     refine WL_pick_f rfl rfl rfl ?_
     refine WL_nil ?_
     have hq3 := Option.some.inj hr2
     subst hq3
     refine nrm_sub (l' := [(0, (sv a1)), (2, (ptr b1 0)), (3, (.int .i64 x3)), (30, (.bool false))]) ⟨rfl, rfl, rfl, rfl, trivial⟩ ?_
     exact ⟨false, rfl, rfl, (Below.refl _ _), hC2⟩
    rintro _ w3 ⟨x6, rfl, rfl, hB3, hC3⟩
    try dsimp only at hL1
    refine W_cond rfl (fun hc4 => ?_) (fun hc4 => ?_)
    ·replace hL1 := ite_t hL1 hc4
     refine W_seq_reg ?_
     refine WL_move rfl rfl ?_
     refine WL_move rfl rfl ?_
     obtain ⟨x10, hx4, hL1⟩ := bind_some hL1
     refine WL_slice_str_lh Tryz.underlying9 hx4 rfl rfl rfl rfl ?_
     obtain ⟨x11, hr3, hL1⟩ := bind_some hL1
     refine WL_call Tryz.call28 rfl rfl (c_S_l2Num x10 x11 hr3) ?_
     intro _ w4 hv1
     obtain ⟨rfl, hB4⟩ := res_int hv1
     have hC4 := hC3.grow hB4
     refine WL_build (vs := [(0, (.int .i64 x11))]) rfl rfl rfl (built24_0 rfl) ?_
     refine WL_allocK hC4 zero24 rfl rfl (fun b2 w5 hC5 hB5 hN2 => ?_)
     refine WL_store_box_aggK (cs' := [(.int .i64 x11), (.slice none 0 0)]) (new := [(.int .i64 x11), (.slice none 0 0)]) hC5 0 rfl rfl (by intro v hv; simp only [List.mem_cons, List.not_mem_nil, or_false] at hv; rcases hv with rfl | rfl; exact rfl; exact rfl) rfl Tryz.sizeOf24 rfl rfl (fun w6 hC6 hKp1 => ?_)
     try dsimp only [List.set] at hC6
     have hk1 := Keep.over (((Keep.of hB3).then hB4).then hB5) (Nat.le_trans ((Keep.of hB3).then hB4).size hN2) hKp1
     have hk2 := Keep.over ((Keep.of hB4).then hB5) (Nat.le_trans (Keep.of hB4).size hN2) hKp1
     have hk3 := Keep.over (Keep.of hB5) hN2 hKp1
     refine WL_nil (W_seq_reg ?_)
     refine WL_move rfl rfl ?_
     refine WL_move rfl rfl ?_
     refine WL_add rfl rfl rfl ?_
     refine WL_move rfl rfl ?_
     refine WL_len_str Tryz.underlying9 rfl rfl ?_
     refine WL_sub rfl rfl rfl ?_
     obtain ⟨x12, hx5, hL1⟩ := bind_some hL1
     refine WL_slice_str_lh Tryz.underlying9 hx5 rfl rfl rfl rfl ?_
     refine WL_assign rfl rfl ?_
     refine WL_nil (W_seq (W_seq_reg ?_))
     refine WL_move rfl rfl ?_
     refine WL_str_eql rfl rfl rfl ?_
     refine WL_nil ?_
     refine W_cond rfl (fun hc5 => ?_) (fun hc5 => ?_)
     ·replace hL1 := ite_t hL1 hc5
      refine W_seq_reg ?_
      refine WL_load_box_agg [(.int .i64 x11), (.slice none 0 0)] hC6 0 rfl rfl rfl Tryz.isAgg24 Tryz.sizeOf24 rfl rfl ?_
      refine WL_store_box_aggK (cs' := [(.int .i64 x11), (.slice none 0 0)]) (new := [(.int .i64 x11), (.slice none 0 0)]) hC6 2 rfl rfl (by intro v hv; simp only [List.mem_cons, List.not_mem_nil, or_false] at hv; rcases hv with rfl | rfl; exact rfl; exact rfl) rfl Tryz.sizeOf24 rfl rfl (fun w7 hC7 hKp2 => ?_)
      try dsimp only [List.set] at hC7
      refine WL_nil (W_ret (nrm_ret (blk_ret (nrm_ret (nrm_ret (blk_ret (nrm_ret (nrm_ret ?_))))))))
      have hq4 := Option.some.inj hL1
      subst hq4
      dsimp only at hF
      have hq5 := Option.some.inj hF
      subst hq5
      refine fn_retG1 rfl (rv_cell_agg (cs' := [(.int .i64 x11), (.slice none 0 0)]) hC7 (i := 2) rfl rfl rfl Tryz.isAgg24 Tryz.sizeOf24 rfl) ?_
      have hC9 := hC7.triv (nil_val (α := Int))
      have hC8 := own_st24 x11 (.slice none 0 0) ([]) hC9
      exact ⟨_, rfl, own_res hC8 0 rfl⟩
     replace hL1 := ite_f hL1 hc5
     refine W_skip (nrm_normal (W_seq_reg ?_))
     refine WL_move rfl rfl ?_
     obtain ⟨x13, hr4, hL1⟩ := bind_some hL1
     refine WL_call Tryz.call26 rfl rfl (c_S_l2Cut x12 44 x13 hr4) ?_
     rintro v3 w9 ⟨hB6, F1, hv2, hn1, hb1⟩
     have hC10 := hC6.push hB6 (A := Item.own v3 x13) hv2 hn1 hb1
     refine WL_assign rfl rfl ?_
     refine WL_nil (W_seq (W_seq_reg ?_))
     refine WL_assign rfl rfl ?_
     refine WL_nil ?_
     obtain ⟨r3, hr5, hL1⟩ := bind_some hL1
     refine W_norm (fun l w => ∃ x17 : Int, ∃ v5 : Value, ∃ x18 : (List Int), (x17, x18) = r3 ∧ l = [(2, (ptr b1 0)), (4, (ptr b2 0))] ∧ Ctx [] w0 w [Item.own v5 (x18 : (List Int)), Item.box b2 [(.int .i64 x17), v5], Item.own v1 (x2 : (List Int)), Item.box b1 [(.int .i64 x1), v1]]) ?_ ?_
     ·refine W_block ?_
      have hC33 := hC10.triv (nil_val (α := Int))
      refine W.sub (l' := [(2, (ptr b1 0)), (4, (ptr b2 0)), (6, v3), (7, (.int .i64 0))]) ?_ ⟨rfl, rfl, rfl, rfl, trivial⟩
      refine W_loop (fun k l w => ∃ x14 : Int, ∃ v4 : Value, ∃ x15 : (List Int), ∃ x16 : Int, l = [(2, (ptr b1 0)), (4, (ptr b2 0)), (6, v3), (7, (.int .i64 x16))] ∧ Ctx [] w0 w [Item.own v4 (x15 : (List Int)), Item.own v3 (x13 : (List Str)), Item.box b2 [(.int .i64 x14), v4], Item.own v1 (x2 : (List Int)), Item.box b1 [(.int .i64 x1), v1]] ∧ S.l24Access_l2 x13 k x14 x15 x16 = some r3) FUEL ⟨x11, (.slice none 0 0), [], 0, rfl, hC33, hr5⟩ ?_
      clear hr5
      rintro k2 _ w10 ⟨x14, v4, x15, x16, rfl, hC11, hL2⟩
      cases k2 with
      | zero => rw [S.l24Access_l2] at hL2; cases hL2
      | succ k2 =>
       rw [S.l24Access_l2] at hL2
       refine W_seq (W_seq_reg ?_)
       refine WL_move rfl rfl ?_
       refine WL_move rfl rfl ?_
       refine WL_len Tryz.underlying51 (hC11.ro 1 rfl) rfl rfl ?_
       refine WL_lss rfl rfl rfl ?_
       refine WL_nil ?_
       refine W_cond rfl (fun hc6 => ?_) (fun hc6 => ?_)
       ·replace hL2 := ite_t hL2 hc6
        refine W_skip (nrm_normal (W_seq (W_block ?_)))
        refine W_drawn 11 rfl hmix (fun w11 hB8 => ?_)
        have hC12 := hC11.grow hB8
        refine WA_tk 0 (by kernel_rfl) rfl rfl (fl_field Tryz.underlying24 rfl rfl (fun w => ⟨_, Tryz.sizeOf22 w⟩) rfl) ?_
        refine WL_field Tryz.underlying24 rfl rfl (fun w => ⟨_, Tryz.sizeOf22 w⟩) rfl rfl ?_
        refine WL_nil ?_
        refine WA_tk 2 (by kernel_rfl) rfl rfl (fl_move rfl) ?_
        refine WL_move rfl rfl ?_
        refine WL_nil ?_
        refine WA_tk 3 (by kernel_rfl) rfl rfl (fl_move rfl) ?_
        refine WL_move rfl rfl ?_
        refine WL_nil ?_
        obtain ⟨x19, hx6, hL2⟩ := bind_some hL2
        refine WA_tk 4 (by kernel_rfl) rfl rfl (fl_index Tryz.underlying51 ty9 (hC12.ro 1 rfl) hx6 rfl rfl) ?_
        refine WL_index Tryz.underlying51 ty9 (hC12.ro 1 rfl) hx6 rfl rfl rfl (fun b3 o1 h1 => ?_)
        refine WL_nil ?_
        obtain ⟨x20, hr6, hL2⟩ := bind_some hL2
        refine WA.sub (l' := [(2, (ptr b1 0)), (4, (ptr b2 0)), (6, v3), (7, (.int .i64 x16)), (48, (.int .i64 x16)), (49, v3), (50, (.int .i64 (List.length x13 : Int))), (51, (.bool (decide (x16 < (List.length x13 : Int))))), (54, (ptr b2 1)), (56, v3), (57, (.int .i64 x16)), (58, (ptr b3 o1))]) ?_ ⟨rfl, rfl, rfl, rfl, rfl, rfl, rfl, rfl, rfl, rfl, rfl, rfl, trivial⟩
        refine WA_postsE [⟨1, [], fun vs => PW.val v4, []⟩, ⟨5, [], fun vs => PW.val (sv x19), []⟩, ⟨6, [], fun vs => PW.val (.int .i64 x20), []⟩, ⟨7, [], fun vs => PW.own ([x20] : (List Int)), []⟩] [[], [], [5], [6]] 3 rfl (by kernel_rfl) (by kernel_rfl) rfl ?_ ?_
        ·refine StepsE_cons rfl ?_ ?_
         ·intro w14 hB11
          refine DepsE_nil ?_
          refine ⟨_, rfl, ?_⟩
          refine WL_load_box (hC12.grow hB11) 2 rfl rfl Tryz.isAgg22 rfl rfl ?_
          refine WL_nil ?_
          exact FinE_val (Below.refl _ _) rfl rfl ⟨rfl, rfl⟩
         refine StepsE_cons rfl ?_ ?_
         ·intro w14 hB11
          refine DepsE_nil ?_
          refine ⟨_, rfl, ?_⟩
          refine WL_load ty9 h1 (Keep.of hB11) rfl rfl (fun v6 h2 => ?_)
          obtain rfl := ro_str h2
          refine WL_nil ?_
          exact FinE_val (Below.refl _ _) rfl rfl ⟨rfl, rfl⟩
         refine StepsE_cons rfl ?_ ?_
         ·intro w14 hB11
          refine DepsE_cons rfl rfl rfl ?_
          rintro _ _ ⟨rfl, rfl⟩ _
          refine DepsE_nil ?_
          refine ⟨_, rfl, ?_⟩
          refine WL_call Tryz.call28 rfl rfl (c_S_l2Num x19 x20 hr6) ?_
          intro _ w12 hv3
          obtain ⟨rfl, hB9⟩ := res_int hv3
          refine WL_nil ?_
          exact FinE_val hB9 rfl rfl ⟨rfl, rfl⟩
         refine StepsE_cons rfl ?_ ?_
         ·intro w14 hB11
          refine DepsE_cons rfl rfl rfl ?_
          rintro _ _ ⟨rfl, rfl⟩ _
          refine DepsE_nil ?_
          refine ⟨_, rfl, ?_⟩
          refine WL_buildSlice (vs := [(.int .i64 x20)]) (Ctx.start w14) Tryz.underlying22 ty3 rfl rfl rfl rfl (by intro v hv; simp only [List.mem_cons, List.not_mem_nil, or_false] at hv; rcases hv with rfl <;> rfl) rfl rfl (fun b4 w13 hC13 hB10 => ?_)
          have hC14 := hC13.row0 (α := Int)
          have hC15 := hC14.triv (int_val (x20))
          have hC16 := hC15.row1
          have hC17 := hC16.front 1 rfl
          dsimp only [List.eraseIdx, List.cons_append, List.nil_append, List.append_nil] at hC17
          have hC18 : Ctx [] w14 w13 (Item.own (.slice (some ⟨b4, 0, none⟩) 1 1) ([x20] : List Int) :: []) := hC17.rowOwn (by simp [maxLen])
          refine WL_nil ?_
          exact FinE_ctx hC18 rfl rfl (fun F h => h)
         exact StepsE_nil
        intro w15 hB12
        refine AllE_cons rfl rfl rfl ?_
        rintro _ _ ⟨rfl, rfl⟩
        refine AllE_cons rfl rfl rfl ?_
        rintro _ _ ⟨rfl, rfl⟩
        refine AllE_cons rfl rfl rfl ?_
        rintro _ _ ⟨rfl, rfl⟩
        refine AllE_cons rfl rfl rfl ?_
        intro v7 F2 hv4
        refine AllE_nil ?_
        intro hn2 hb2
        have hC19 := hC12.pushL hB12 (Bs := [Item.own v7 ([x20] : (List Int))]) (Fs := [F2]) ⟨F2, _, rfl, hv4, rfl⟩ (by simpa using hn2) (fun b h => (hb2 b (by simpa using h)).1)
        obtain ⟨x21, hx7, hL2⟩ := bind_some hL2
        refine WA_one 8 (by kernel_rfl) rfl ?_
        refine WL_append_flat (α := Int) hC19 1 rfl (hC19.ro 0 rfl) (Keep.refl _ _) Tryz.underlying22 ty3 rfl hx7 rfl rfl rfl (fun v8 w16 hC20 => ?_)
        try dsimp only [List.set] at hC20
        refine WL_nil ?_
        refine WA_tk 9 (by kernel_rfl) rfl rfl (fl_field Tryz.underlying24 rfl rfl (fun w => ⟨_, Tryz.sizeOf22 w⟩) rfl) ?_
        refine WL_field Tryz.underlying24 rfl rfl (fun w => ⟨_, Tryz.sizeOf22 w⟩) rfl rfl ?_
        refine WL_nil ?_
        refine WA_one 10 (by kernel_rfl) rfl ?_
        refine WL_store_boxK (cs' := [(.int .i64 x14), v8]) hC20 3 rfl rfl (ro_one (hC20.ro 1 rfl)) rfl Tryz.sizeOf22 rfl rfl (fun w17 hC21 hKp3 => ?_)
        try dsimp only [List.set] at hC21
        refine WL_nil ?_
        refine WA_done (by kernel_rfl) ?_
        refine blk_normal (nrm_normal (W_reg ?_))
        refine WL_move rfl rfl ?_
        refine WL_add rfl rfl rfl ?_
        refine WL_assign rfl rfl ?_
        refine WL_nil ?_
        have hC22 := hC21.f5
        have hC23 := hC22.f5
        have hC24 := hC23.f5
        have hC25 := hC24.f5
        have hC26 := hC25.f5
        have hC27 := hC26.h5
        refine nrm_sub (l' := [(2, (ptr b1 0)), (4, (ptr b2 0)), (6, v3), (7, (.int .i64 (w64 (x16 + 1))))]) ⟨rfl, rfl, rfl, rfl, trivial⟩ ?_
        exact ⟨k2, Nat.lt_succ_self _, x14, v8, x21, w64 (x16 + 1), rfl, hC27, hL2⟩
       replace hL2 := ite_f hL2 hc6
       refine W_exit (nrm_exit (nrm_exit (blk_exit ?_)))
       have hq6 := Option.some.inj hL2
       subst hq6
       have hC28 := hC11.f4
       have hC29 := hC28.f4
       have hC30 := hC29.f4
       have hC31 := hC30.f3
       have hC32 := hC31.h4
       refine nrm_sub (l' := [(2, (ptr b1 0)), (4, (ptr b2 0))]) ⟨rfl, rfl, trivial⟩ ?_
       exact ⟨x14, v4, x15, rfl, rfl, hC32⟩
     rintro l4 _ w18 hs4 ⟨x17, v5, x18, rfl, rfl, hC34⟩
     try dsimp only at hL1
     refine nrm_sub' hs4 ?_
     clear hs4
     refine W_seq_reg ?_
     refine WL_load_box_agg [(.int .i64 x17), v5] hC34 1 rfl rfl rfl Tryz.isAgg24 Tryz.sizeOf24 rfl rfl ?_
     refine WL_store_box_aggK (cs' := [(.int .i64 x17), v5]) (new := [(.int .i64 x17), v5]) hC34 3 rfl rfl (by intro v hv; simp only [List.mem_cons, List.not_mem_nil, or_false] at hv; rcases hv with rfl | rfl; exact rfl; exact (ro_one (hC34.ro 0 rfl))) rfl Tryz.sizeOf24 rfl rfl (fun w19 hC35 hKp4 => ?_)
     try dsimp only [List.set] at hC35
     refine WL_nil (W_ret (blk_ret (nrm_ret (nrm_ret (blk_ret (nrm_ret (nrm_ret ?_)))))))
     have hq7 := Option.some.inj hL1
     subst hq7
     dsimp only at hF
     have hq8 := Option.some.inj hF
     subst hq8
     refine fn_retG1 rfl (rv_cell_agg (cs' := [(.int .i64 x17), v5]) hC35 (i := 3) rfl rfl rfl Tryz.isAgg24 Tryz.sizeOf24 rfl) ?_
     have hC36 := own_st24 x17 v5 x18 hC35
     exact ⟨_, rfl, own_res hC36 0 rfl⟩
    replace hL1 := ite_f hL1 hc4
    refine W_skip (blk_normal (nrm_normal (W_reg ?_)))
    refine WL_move rfl rfl ?_
    refine WL_add rfl rfl rfl ?_
    refine WL_assign rfl rfl ?_
    refine WL_nil ?_
    refine nrm_sub (l' := [(0, (sv a1)), (2, (ptr b1 0)), (3, (.int .i64 (w64 (x3 + 1))))]) ⟨rfl, rfl, rfl, trivial⟩ ?_
    exact ⟨k1, Nat.lt_succ_self _, x1, v1, x2, w64 (x3 + 1), rfl, hC3, hL1⟩
   replace hL1 := ite_f hL1 hc1
   refine W_exit (nrm_exit (nrm_exit (blk_exit ?_)))
   have hq9 := Option.some.inj hL1
   subst hq9
   refine nrm_sub (l' := [(2, (ptr b1 0))]) ⟨rfl, trivial⟩ ?_
   exact ⟨x1, v1, x2, rfl, rfl, hC2⟩
 rintro l5 _ w20 hs5 ⟨x4, v2, x5, rfl, rfl, hC39⟩
 try dsimp only at hF
 refine nrm_sub' hs5 ?_
 clear hs5
 refine W_seq_reg ?_
 refine WL_build (vs := [(0, (.int .i64 (-1)))]) rfl rfl rfl (built24_0 rfl) ?_
 refine WL_store_box_aggK (cs' := [(.int .i64 (-1)), (.slice none 0 0)]) (new := [(.int .i64 (-1)), (.slice none 0 0)]) hC39 1 rfl rfl (by intro v hv; simp only [List.mem_cons, List.not_mem_nil, or_false] at hv; rcases hv with rfl | rfl; exact rfl; exact rfl) rfl Tryz.sizeOf24 rfl rfl (fun w21 hC40 hKp5 => ?_)
 try dsimp only [List.set] at hC40
 refine WL_nil (W_ret ?_)
 have hq10 := Option.some.inj hF
 subst hq10
 refine fn_retG1 rfl (rv_cell_agg (cs' := [(.int .i64 (-1)), (.slice none 0 0)]) hC40 (i := 1) rfl rfl rfl Tryz.isAgg24 Tryz.sizeOf24 rfl) ?_
 have hC42 := hC40.triv (nil_val (α := Int))
 have hC41 := own_st24 (-1) (.slice none 0 0) ([]) hC42
 exact ⟨_, rfl, own_res hC41 0 rfl⟩

theorem c_S_ParseCursor {w0 : World} (a1 : Str) (rr : (((Int × (List Int)) × Int × Int) × Bool)) (hF : S.ParseCursor a1 = some rr) :
 Calls Tryz.prog 5 [(sv a1)].toArray w0 fun e w' => ∃ v, e = .returned v ∧ Res2 w0 rr.1 rr.2 v w' := by
 refine calls_of_W Tryz.func5 rfl rfl ?_
 have hC0 := Ctx.start w0
 unfold S.ParseCursor at hF
 refine W_seq_reg ?_
 refine WL_allocK hC0 zero26 rfl rfl (fun b1 w1 hC1 hB1 hN1 => ?_)
 refine WL_assign rfl rfl ?_
 refine WL_nil (W_seq_reg ?_)
 refine WL_move rfl rfl ?_
 obtain ⟨x1, hr1, hF⟩ := bind_some hF
 refine WL_call Tryz.call26 rfl rfl (c_S_l2Cut a1 43 x1 hr1) ?_
 rintro v1 w2 ⟨hB2, F1, hv1, hn1, hb1⟩
 have hC2 := hC1.push hB2 (A := Item.own v1 x1) hv1 hn1 hb1
 refine WL_assign rfl rfl ?_
 refine WL_nil (W_seq (W_seq_reg ?_))
 refine WL_move rfl rfl ?_
 refine WL_len Tryz.underlying51 (hC2.ro 0 rfl) rfl rfl ?_
 refine WL_neq rfl rfl rfl ?_
 refine WL_nil ?_
 refine W_cond rfl (fun hc1 => ?_) (fun hc1 => ?_)
 ·replace hF := ite_t hF hc1
  refine W_seq_reg ?_
  refine WL_build (vs := []) rfl rfl rfl built26 ?_
  refine WL_store_box_aggK (cs' := [(.int .i64 0), (.slice none 0 0), (.int .i64 0), (.int .i64 0)]) (new := [(.int .i64 0), (.slice none 0 0), (.int .i64 0), (.int .i64 0)]) hC2 1 rfl rfl (by intro v hv; simp only [List.mem_cons, List.not_mem_nil, or_false] at hv; rcases hv with rfl | rfl | rfl | rfl; exact rfl; exact rfl; exact rfl; exact rfl) rfl Tryz.sizeOf26 rfl rfl (fun w3 hC3 hKp1 => ?_)
  try dsimp only [List.set] at hC3
  have hk1 := Keep.over ((Keep.of hB1).then hB2) hN1 hKp1
  refine WL_assign rfl rfl ?_
  refine WL_nil (W_ret (nrm_ret ?_))
  have hq1 := Option.some.inj hF
  subst hq1
  refine fn_retG2 rfl (rv_cell_agg (cs' := [(.int .i64 0), (.slice none 0 0), (.int .i64 0), (.int .i64 0)]) hC3 (i := 1) rfl rfl rfl Tryz.isAgg26 Tryz.sizeOf26 rfl) (rv_tmp rfl) ?_
  have hC4 := hC3.triv (bool_val (false))
  have hC6 := hC4.triv (nil_val (α := Int))
  have hC5 := own_st26 0 (.slice none 0 0) ([]) 0 0 hC6
  exact ⟨_, rfl, res2_of hC5⟩
 replace hF := ite_f hF hc1
 refine W_skip (nrm_normal (W_seq_reg ?_))
 refine WL_move rfl rfl ?_
 obtain ⟨x2, hx1, hF⟩ := bind_some hF
 refine WL_index Tryz.underlying51 ty9 (hC2.ro 0 rfl) hx1 rfl rfl rfl (fun b2 o1 h1 => ?_)
 refine WL_load ty9 h1 (Keep.refl _ _) rfl rfl (fun v2 h2 => ?_)
 obtain rfl := ro_str h2
 obtain ⟨x3, hr2, hF⟩ := bind_some hF
 refine WL_call Tryz.call26 rfl rfl (c_S_l2Cut x2 64 x3 hr2) ?_
 rintro v3 w4 ⟨hB3, F2, hv2, hn2, hb2⟩
 have hC7 := hC2.push hB3 (A := Item.own v3 x3) hv2 hn2 hb2
 refine WL_assign rfl rfl ?_
 refine WL_nil (W_seq (W_seq_reg ?_))
 refine WL_move rfl rfl ?_
 refine WL_len Tryz.underlying51 (hC7.ro 0 rfl) rfl rfl ?_
 refine WL_neq rfl rfl rfl ?_
 refine WL_nil ?_
 refine W_cond rfl (fun hc2 => ?_) (fun hc2 => ?_)
 ·replace hF := ite_t hF hc2
  refine W_seq_reg ?_
  refine WL_build (vs := []) rfl rfl rfl built26 ?_
  refine WL_store_box_aggK (cs' := [(.int .i64 0), (.slice none 0 0), (.int .i64 0), (.int .i64 0)]) (new := [(.int .i64 0), (.slice none 0 0), (.int .i64 0), (.int .i64 0)]) hC7 2 rfl rfl (by intro v hv; simp only [List.mem_cons, List.not_mem_nil, or_false] at hv; rcases hv with rfl | rfl | rfl | rfl; exact rfl; exact rfl; exact rfl; exact rfl) rfl Tryz.sizeOf26 rfl rfl (fun w5 hC8 hKp2 => ?_)
  try dsimp only [List.set] at hC8
  have hk2 := Keep.over (((Keep.of hB1).then hB2).then hB3) hN1 hKp2
  refine WL_assign rfl rfl ?_
  refine WL_nil (W_ret (nrm_ret ?_))
  have hq2 := Option.some.inj hF
  subst hq2
  refine fn_retG2 rfl (rv_cell_agg (cs' := [(.int .i64 0), (.slice none 0 0), (.int .i64 0), (.int .i64 0)]) hC8 (i := 2) rfl rfl rfl Tryz.isAgg26 Tryz.sizeOf26 rfl) (rv_tmp rfl) ?_
  have hC9 := hC8.triv (bool_val (false))
  have hC11 := hC9.triv (nil_val (α := Int))
  have hC10 := own_st26 0 (.slice none 0 0) ([]) 0 0 hC11
  exact ⟨_, rfl, res2_of hC10⟩
 replace hF := ite_f hF hc2
 refine W_skip (nrm_normal ?_)
 obtain ⟨r1, hr3, hF⟩ := bind_some hF
 refine W_cut (fun l w => ∃ b3 : Nat, ∃ x4 : Int, ∃ v4 : Value, ∃ x5 : (List Int), ∃ x6 : Int, ∃ x7 : Int, (x4, x5, x6, x7) = r1 ∧ l = [(0, (sv a1)), (2, (ptr b1 0)), (6, (ptr b3 0))] ∧ Ctx [] w0 w [Item.box b3 [(.int .i64 x4), v4, (.int .i64 x6), (.int .i64 x7)], Item.own v4 (x5 : (List Int)), Item.box b1 [(.int .i64 0), (.slice none 0 0), (.int .i64 0), (.int .i64 0)]]) ?_ ?_
 ·refine W_drawn 15 rfl hmix (fun w7 hB5 => ?_)
  have hC13 := hC7.grow hB5
  refine WA_tk 0 (by kernel_rfl) rfl rfl (fl_move rfl) ?_
  refine WL_move rfl rfl ?_
  refine WL_nil ?_
  obtain ⟨x8, hx2, hr3⟩ := bind_some hr3
  refine WA_tk 1 (by kernel_rfl) rfl rfl (fl_index Tryz.underlying51 ty9 (hC13.ro 1 rfl) hx2 rfl rfl) ?_
  refine WL_index Tryz.underlying51 ty9 (hC13.ro 1 rfl) hx2 rfl rfl rfl (fun b4 o2 h3 => ?_)
  refine WL_nil ?_
  refine WA_tk 4 (by kernel_rfl) rfl rfl (fl_move rfl) ?_
  refine WL_move rfl rfl ?_
  refine WL_nil ?_
  obtain ⟨x9, hx3, hr3⟩ := bind_some hr3
  refine WA_tk 5 (by kernel_rfl) rfl rfl (fl_index Tryz.underlying51 ty9 (hC13.ro 0 rfl) hx3 rfl rfl) ?_
  refine WL_index Tryz.underlying51 ty9 (hC13.ro 0 rfl) hx3 rfl rfl rfl (fun b5 o3 h4 => ?_)
  refine WL_nil ?_
  refine WA_tk 8 (by kernel_rfl) rfl rfl (fl_move rfl) ?_
  refine WL_move rfl rfl ?_
  refine WL_nil ?_
  obtain ⟨x10, hx4, hr3⟩ := bind_some hr3
  refine WA_tk 9 (by kernel_rfl) rfl rfl (fl_index Tryz.underlying51 ty9 (hC13.ro 0 rfl) hx4 rfl rfl) ?_
  refine WL_index Tryz.underlying51 ty9 (hC13.ro 0 rfl) hx4 rfl rfl rfl (fun b6 o4 h5 => ?_)
  refine WL_nil ?_
  obtain ⟨x11, hr4, hr3⟩ := bind_some hr3
  obtain ⟨x12, hr5, hr3⟩ := bind_some hr3
  obtain ⟨x13, hr6, hr3⟩ := bind_some hr3
  refine WA.sub (l' := [(0, (sv a1)), (2, (ptr b1 0)), (3, (.bool false)), (4, v1), (5, v3), (7, (sv a1)), (8, v1), (9, v1), (10, (.int .i64 (List.length x1 : Int))), (11, (.bool (!decide ((List.length x1 : Int) = 2)))), (13, v1), (14, (ptr b2 o1)), (15, (sv x2)), (16, v3), (17, v3), (18, (.int .i64 (List.length x3 : Int))), (19, (.bool (!decide ((List.length x3 : Int) = 2)))), (21, v1), (22, (ptr b4 o2)), (25, v3), (26, (ptr b5 o3)), (29, v3), (30, (ptr b6 o4))]) ?_ ⟨rfl, rfl, rfl, rfl, rfl, rfl, rfl, rfl, rfl, rfl, rfl, rfl, rfl, rfl, rfl, rfl, rfl, rfl, rfl, rfl, rfl, rfl, rfl, trivial⟩
  refine WA_postsO [⟨2, [], fun vs => PW.val (sv x8), []⟩, ⟨3, [], fun vs => PW.own x11, []⟩, ⟨6, [], fun vs => PW.val (sv x9), []⟩, ⟨7, [], fun vs => PW.val (.int .i64 x12), []⟩, ⟨10, [], fun vs => PW.val (sv x10), []⟩, ⟨11, [], fun vs => PW.val (.int .i64 x13), []⟩, ⟨13, [], fun vs => PW.box [(.int .i64 0), (.slice none 0 0), (.int .i64 0), (.int .i64 0)], []⟩] [[], [2], [], [6], [], [10], []] [13] 2 rfl (by kernel_rfl) (by kernel_rfl) ?_ ⟨?_, ?_, trivial⟩
  ·refine StepsE_cons rfl ?_ ?_
   ·intro w13 hB10
    refine DepsE_nil ?_
    refine ⟨_, rfl, ?_⟩
    refine WL_load ty9 h3 (Keep.of hB10) rfl rfl (fun v5 h6 => ?_)
    obtain rfl := ro_str h6
    refine WL_nil ?_
    exact FinE_val (Below.refl _ _) rfl rfl ⟨rfl, rfl⟩
   refine StepsE_cons rfl ?_ ?_
   ·intro w13 hB10
    refine DepsE_cons rfl rfl rfl ?_
    rintro _ _ ⟨rfl, rfl⟩ _
    refine DepsE_nil ?_
    refine ⟨_, rfl, ?_⟩
    refine WL_call Tryz.call27 rfl rfl (c_S_l24Access x8 x11 hr4) ?_
    rintro v6 w9 ⟨hB6, F3, hv3, hn3, hb3⟩
    refine WL_nil ?_
    exact FinE_own hB6 rfl rfl hv3 hn3 hb3 (Val.inh hv3)
   refine StepsE_cons rfl ?_ ?_
   ·intro w13 hB10
    refine DepsE_nil ?_
    refine ⟨_, rfl, ?_⟩
    refine WL_load ty9 h4 (Keep.of hB10) rfl rfl (fun v8 h8 => ?_)
    obtain rfl := ro_str h8
    refine WL_nil ?_
    exact FinE_val (Below.refl _ _) rfl rfl ⟨rfl, rfl⟩
   refine StepsE_cons rfl ?_ ?_
   ·intro w13 hB10
    refine DepsE_cons rfl rfl rfl ?_
    rintro _ _ ⟨rfl, rfl⟩ _
    refine DepsE_nil ?_
    refine ⟨_, rfl, ?_⟩
    refine WL_call Tryz.call28 rfl rfl (c_S_l2Num x9 x12 hr5) ?_
    intro _ w10 hv4
    obtain ⟨rfl, hB7⟩ := res_int hv4
    refine WL_nil ?_
    exact FinE_val hB7 rfl rfl ⟨rfl, rfl⟩
   refine StepsE_cons rfl ?_ ?_
   ·intro w13 hB10
    refine DepsE_nil ?_
    refine ⟨_, rfl, ?_⟩
    refine WL_load ty9 h5 (Keep.of hB10) rfl rfl (fun v9 h9 => ?_)
    obtain rfl := ro_str h9
    refine WL_nil ?_
    exact FinE_val (Below.refl _ _) rfl rfl ⟨rfl, rfl⟩
   refine StepsE_cons rfl ?_ ?_
   ·intro w13 hB10
    refine DepsE_cons rfl rfl rfl ?_
    rintro _ _ ⟨rfl, rfl⟩ _
    refine DepsE_nil ?_
    refine ⟨_, rfl, ?_⟩
    refine WL_call Tryz.call28 rfl rfl (c_S_l2Num x10 x13 hr6) ?_
    intro _ w11 hv5
    obtain ⟨rfl, hB8⟩ := res_int hv5
    refine WL_nil ?_
    exact FinE_val hB8 rfl rfl ⟨rfl, rfl⟩
   refine StepsE_cons rfl ?_ ?_
   ·intro w13 hB10
    refine DepsE_nil ?_
    refine ⟨_, rfl, ?_⟩
    refine WL_alloc (Ctx.start _) zero26 rfl rfl (fun b7 w12 hC14 hB9 => ?_)
    refine WL_nil ?_
    exact FinE_ctx hC14 rfl rfl (fun F h => ⟨b7, rfl, h⟩)
   exact StepsE_nil
  ·intro g' hg'
   obtain rfl : g' = 2 := hg'
   intro w14 hB11
   refine AllE_cons rfl rfl rfl ?_
   rintro _ _ ⟨rfl, rfl⟩
   refine AllE_cons rfl rfl rfl ?_
   intro v6 F3 hv3
   refine AllE_cons rfl rfl rfl ?_
   rintro _ _ ⟨rfl, rfl⟩
   refine AllE_cons rfl rfl rfl ?_
   rintro _ _ ⟨rfl, rfl⟩
   refine AllE_cons rfl rfl rfl ?_
   rintro _ _ ⟨rfl, rfl⟩
   refine AllE_cons rfl rfl rfl ?_
   rintro _ _ ⟨rfl, rfl⟩
   refine AllE_cons rfl rfl rfl ?_
   rintro _ F4 ⟨b7, rfl, hv6⟩
   refine AllE_nil ?_
   intro hn4 hb4
   have hC15 := hC13.pushL hB11 (Bs := [Item.box b7 [(.int .i64 0), (.slice none 0 0), (.int .i64 0), (.int .i64 0)], Item.own v6 (x11 : (Int × (List Int)))]) (Fs := [F4, F3]) ⟨F4, _, rfl, hv6, F3, _, rfl, hv3, rfl⟩ (by simpa using hn4) (fun b h => (hb4 b (by simpa using h)).1)
   have hC16 := hC15.f1
   obtain ⟨v10, rfl, hC17⟩ := st24_own hC16
   refine WA_tk 12 (by kernel_rfl) rfl rfl (fl_build (vs := [(0, (.agg #[(.int .i64 x11.1), v10])), (1, (.int .i64 x12)), (2, (.int .i64 x13))]) rfl rfl (built26_0_1_2 rfl rfl rfl)) ?_
   refine WL_build (vs := [(0, (.agg #[(.int .i64 x11.1), v10])), (1, (.int .i64 x12)), (2, (.int .i64 x13))]) rfl rfl rfl (built26_0_1_2 rfl rfl rfl) ?_
   refine WL_nil ?_
   refine WA_one 14 (by kernel_rfl) rfl ?_
   refine WL_store_box_aggK (cs' := [(.int .i64 x11.1), v10, (.int .i64 x12), (.int .i64 x13)]) (new := [(.int .i64 x11.1), v10, (.int .i64 x12), (.int .i64 x13)]) hC17 1 rfl rfl (by intro v hv; simp only [List.mem_cons, List.not_mem_nil, or_false] at hv; rcases hv with rfl | rfl | rfl | rfl; exact rfl; exact (ro_one (hC17.ro 0 rfl)); exact rfl; exact rfl) rfl Tryz.sizeOf26 rfl rfl (fun w15 hC18 hKp3 => ?_)
   try dsimp only [List.set] at hC18
   refine WL_nil ?_
   refine WA_done (by kernel_rfl) ?_
   have hq3 := Option.some.inj hr3
   subst hq3
   have hC19 := hC18.f4
   have hC20 := hC19.f1
   have hC21 := hC20.f2
   have hC22 := hC21.h3
   refine nrm_sub (l' := [(0, (sv a1)), (2, (ptr b1 0)), (6, (ptr b7 0))]) ⟨rfl, rfl, rfl, trivial⟩ ?_
   exact ⟨b7, x11.1, v10, x11.2, x12, x13, rfl, rfl, hC22⟩
  intro g' hg'
  obtain rfl : g' = 3 := hg'
  intro w14 hB11
  refine AllE_cons rfl rfl rfl ?_
  rintro _ _ ⟨rfl, rfl⟩
  refine AllE_cons rfl rfl rfl ?_
  intro v6 F3 hv3
  refine AllE_cons rfl rfl rfl ?_
  rintro _ _ ⟨rfl, rfl⟩
  refine AllE_cons rfl rfl rfl ?_
  rintro _ _ ⟨rfl, rfl⟩
  refine AllE_cons rfl rfl rfl ?_
  rintro _ _ ⟨rfl, rfl⟩
  refine AllE_cons rfl rfl rfl ?_
  rintro _ _ ⟨rfl, rfl⟩
  refine AllE_nil ?_
  intro hn4 hb4
  have hC15 := hC13.pushL hB11 (Bs := [Item.own v6 (x11 : (Int × (List Int)))]) (Fs := [F3]) ⟨F3, _, rfl, hv3, rfl⟩ (by simpa using hn4) (fun b h => (hb4 b (by simpa using h)).1)
  obtain ⟨v10, rfl, hC16⟩ := st24_own hC15
  refine WA_tk 12 (by kernel_rfl) rfl rfl (fl_build (vs := [(0, (.agg #[(.int .i64 x11.1), v10])), (1, (.int .i64 x12)), (2, (.int .i64 x13))]) rfl rfl (built26_0_1_2 rfl rfl rfl)) ?_
  refine WL_build (vs := [(0, (.agg #[(.int .i64 x11.1), v10])), (1, (.int .i64 x12)), (2, (.int .i64 x13))]) rfl rfl rfl (built26_0_1_2 rfl rfl rfl) ?_
  refine WL_nil ?_
  refine WA_one 13 (by kernel_rfl) rfl ?_
  refine WL_allocK hC16 zero26 rfl rfl (fun b8 w15 hC17 hB12 hN2 => ?_)
  refine WL_nil ?_
  refine WA_one 14 (by kernel_rfl) rfl ?_
  refine WL_store_box_aggK (cs' := [(.int .i64 x11.1), v10, (.int .i64 x12), (.int .i64 x13)]) (new := [(.int .i64 x11.1), v10, (.int .i64 x12), (.int .i64 x13)]) hC17 0 rfl rfl (by intro v hv; simp only [List.mem_cons, List.not_mem_nil, or_false] at hv; rcases hv with rfl | rfl | rfl | rfl; exact rfl; exact (ro_one (hC17.ro 1 rfl)); exact rfl; exact rfl) rfl Tryz.sizeOf26 rfl rfl (fun w16 hC18 hKp3 => ?_)
  try dsimp only [List.set] at hC18
  have hk3 := Keep.over ((((((Keep.of hB1).then hB2).then hB3).then hB5).then hB11).then hB12) (Nat.le_trans (((((Keep.of hB1).then hB2).then hB3).then hB5).then hB11).size hN2) hKp3
  have hk4 := Keep.over (((((Keep.of hB2).then hB3).then hB5).then hB11).then hB12) (Nat.le_trans ((((Keep.of hB2).then hB3).then hB5).then hB11).size hN2) hKp3
  have hk5 := Keep.over ((((Keep.of hB3).then hB5).then hB11).then hB12) (Nat.le_trans (((Keep.of hB3).then hB5).then hB11).size hN2) hKp3
  have hk6 := Keep.over (((Keep.of hB5).then hB11).then hB12) (Nat.le_trans ((Keep.of hB5).then hB11).size hN2) hKp3
  have hk7 := Keep.over ((Keep.of hB11).then hB12) (Nat.le_trans (Keep.of hB11).size hN2) hKp3
  have hk8 := Keep.over (Keep.of hB12) hN2 hKp3
  refine WL_nil ?_
  refine WA_done (by kernel_rfl) ?_
  have hq3 := Option.some.inj hr3
  subst hq3
  have hC19 := hC18.f4
  have hC20 := hC19.f2
  have hC21 := hC20.f2
  have hC22 := hC21.h3
  refine nrm_sub (l' := [(0, (sv a1)), (2, (ptr b1 0)), (6, (ptr b8 0))]) ⟨rfl, rfl, rfl, trivial⟩ ?_
  exact ⟨b8, x11.1, v10, x11.2, x12, x13, rfl, rfl, hC22⟩
 rintro _ w6 ⟨b3, x4, v4, x5, x6, x7, rfl, rfl, hC12⟩
 try dsimp only at hF
 refine W_seq (W_seq_reg ?_)
 refine WL_load_box_agg [(.int .i64 x4), v4, (.int .i64 x6), (.int .i64 x7)] hC12 0 rfl rfl rfl Tryz.isAgg26 Tryz.sizeOf26 rfl rfl ?_
 obtain ⟨x14, hr7, hF⟩ := bind_some hF
 refine WL_call Tryz.call25 rfl rfl (c_S_FormatCursor ((x4, x5), x6, x7) v4 ((hC12.ro 1 rfl).now (Keep.refl _ _)) x14 hr7) ?_
 intro _ w17 hv7
 obtain ⟨rfl, hB13⟩ := res_str hv7
 have hC23 := hC12.grow hB13
 refine WL_move rfl rfl ?_
 refine WL_str_neq rfl rfl rfl ?_
 refine WL_nil ?_
 refine W_cond rfl (fun hc3 => ?_) (fun hc3 => ?_)
 ·replace hF := ite_t hF hc3
  refine W_seq_reg ?_
  refine WL_build (vs := []) rfl rfl rfl built26 ?_
  refine WL_store_box_aggK (cs' := [(.int .i64 0), (.slice none 0 0), (.int .i64 0), (.int .i64 0)]) (new := [(.int .i64 0), (.slice none 0 0), (.int .i64 0), (.int .i64 0)]) hC23 2 rfl rfl (by intro v hv; simp only [List.mem_cons, List.not_mem_nil, or_false] at hv; rcases hv with rfl | rfl | rfl | rfl; exact rfl; exact rfl; exact rfl; exact rfl) rfl Tryz.sizeOf26 rfl rfl (fun w18 hC24 hKp4 => ?_)
  try dsimp only [List.set] at hC24
  refine WL_assign rfl rfl ?_
  refine WL_nil (W_ret (nrm_ret ?_))
  have hq4 := Option.some.inj hF
  subst hq4
  refine fn_retG2 rfl (rv_cell_agg (cs' := [(.int .i64 0), (.slice none 0 0), (.int .i64 0), (.int .i64 0)]) hC24 (i := 2) rfl rfl rfl Tryz.isAgg26 Tryz.sizeOf26 rfl) (rv_tmp rfl) ?_
  have hC25 := hC24.triv (bool_val (false))
  have hC27 := hC25.triv (nil_val (α := Int))
  have hC26 := own_st26 0 (.slice none 0 0) ([]) 0 0 hC27
  exact ⟨_, rfl, res2_of hC26⟩
 replace hF := ite_f hF hc3
 refine W_skip (nrm_normal (W_seq_reg ?_))
 refine WL_load_box_agg [(.int .i64 x4), v4, (.int .i64 x6), (.int .i64 x7)] hC23 0 rfl rfl rfl Tryz.isAgg26 Tryz.sizeOf26 rfl rfl ?_
 refine WL_store_box_aggK (cs' := [(.int .i64 x4), v4, (.int .i64 x6), (.int .i64 x7)]) (new := [(.int .i64 x4), v4, (.int .i64 x6), (.int .i64 x7)]) hC23 2 rfl rfl (by intro v hv; simp only [List.mem_cons, List.not_mem_nil, or_false] at hv; rcases hv with rfl | rfl | rfl | rfl; exact rfl; exact (ro_one (hC23.ro 1 rfl)); exact rfl; exact rfl) rfl Tryz.sizeOf26 rfl rfl (fun w19 hC28 hKp5 => ?_)
 try dsimp only [List.set] at hC28
 refine WL_assign rfl rfl ?_
 refine WL_nil (W_ret ?_)
 have hq5 := Option.some.inj hF
 subst hq5
 refine fn_retG2 rfl (rv_cell_agg (cs' := [(.int .i64 x4), v4, (.int .i64 x6), (.int .i64 x7)]) hC28 (i := 2) rfl rfl rfl Tryz.isAgg26 Tryz.sizeOf26 rfl) (rv_tmp rfl) ?_
 have hC29 := hC28.triv (bool_val (true))
 have hC31 := hC29.f2
 have hC30 := own_st26 x4 v4 x5 x6 x7 hC31
 exact ⟨_, rfl, res2_of hC30⟩

theorem c_M_within {w0 : World} (a1 : Int) (a2 : Int) (a3 : Int) (rr : Bool) (hF : M.within a1 a2 a3 = some rr) :
 Calls Tryz.prog 42 [(.int .i64 a1), (.int .i64 a2), (.int .i64 a3)].toArray w0 fun e w' => ∃ v, e = .returned v ∧ Res w0 rr v w' := by
 refine calls_of_W Tryz.func42 rfl rfl ?_
 have hC0 := Ctx.start w0
 unfold M.within at hF
 refine W_seq_reg ?_
 refine WL_assign rfl rfl ?_
 refine WL_nil ?_
 obtain ⟨r1, hr1, hF⟩ := bind_some hF
 refine W_cut (fun l w => ∃ x1 : Bool, x1 = r1 ∧ l = [(6, (.bool x1))] ∧ Below w0.heap.size w0 w ∧ Ctx [] w0 w []) ?_ ?_
 ·refine W_reg ?_
  refine WL_move rfl rfl ?_
  refine WL_move rfl rfl ?_
  refine WL_geq rfl rfl rfl ?_
  refine WL_move rfl rfl ?_
  refine WL_fork (fun hc1 => ?_) (fun hc1 => ?_)
  ·replace hr1 := ite_t hr1 hc1
   refine WL_guard rfl rfl ?_
   refine WL_move rfl rfl ?_
   refine WL_guard rfl rfl ?_
   refine WL_move rfl rfl ?_
   refine WL_guard rfl rfl ?_
   refine WL_leq rfl rfl rfl ?_
   refine WL_pick_t rfl rfl rfl ?_
   refine WL_assign rfl rfl ?_
   refine WL_nil ?_
   have hq1 := Option.some.inj hr1
   subst hq1
   refine nrm_sub (l' := [(6, (.bool (decide (a1 ≤ a3))))]) ⟨rfl, trivial⟩ ?_
   exact ⟨(decide (a1 ≤ a3)), rfl, rfl, (Below.refl _ _), hC0⟩
  replace hr1 := ite_f hr1 hc1
  refine WL_guard_skip rfl rfl (by simp) rfl ?_
  refine WL_guard_skip rfl rfl (by simp) rfl ?_
  refine WL_guard_skip rfl rfl (by simp) rfl ?_
  refine WL_pick_f rfl rfl rfl ?_
  refine WL_assign rfl rfl ?_
  refine WL_nil ?_
  have hq2 := Option.some.inj hr1
  subst hq2
  refine nrm_sub (l' := [(6, (.bool false))]) ⟨rfl, trivial⟩ ?_
  exact ⟨false, rfl, rfl, (Below.refl _ _), hC0⟩
 rintro _ w1 ⟨x1, rfl, rfl, hB1, hC1⟩
 try dsimp only at hF
 refine W_ret ?_
 have hq3 := Option.some.inj hF
 subst hq3
 refine fn_ret1 rfl rfl ?_
 exact ⟨_, rfl, bool_res hC1 _⟩

theorem c_Strconv_Itoa {w0 : World} (hT : HasTab w0) (a1 : Int) (rr : Str) (hF : Strconv.Itoa a1 = some rr) :
    Calls Tryz.prog 69 [(.int .i64 a1)].toArray w0 fun e w' => ∃ v, e = .returned v ∧ Res w0 rr v w' := itoa_full a1 rr hF fun n h0 h1 => Any.strconv_Itoa Tryz.laysM171 n h0 h1 w0 hT.1

theorem c_M_FormatInt {w0 : World} (hT : HasTab w0) (a1 : Int) (rr : Str) (hF : M.FormatInt a1 = some rr) :
 Calls Tryz.prog 46 [(.int .i64 a1)].toArray w0 fun e w' => ∃ v, e = .returned v ∧ Res w0 rr v w' := by
 refine calls_of_W Tryz.func46 rfl rfl ?_
 have hC0 := Ctx.start w0
 unfold M.FormatInt at hF
 refine W_seq_reg ?_
 refine WL_assign rfl rfl ?_
 refine WL_nil (W_seq_reg ?_)
 refine WL_move rfl rfl ?_
 obtain ⟨x1, hr1, hF⟩ := bind_some hF
 refine WL_call Tryz.call69 rfl rfl (c_Strconv_Itoa (hT.keep hC0.keep) a1 x1 hr1) ?_
 intro _ w1 hv1
 obtain ⟨rfl, hB1⟩ := res_str hv1
 have hC1 := hC0.grow hB1
 refine WL_assign rfl rfl ?_
 refine WL_nil (W_ret ?_)
 have hq1 := Option.some.inj hF
 subst hq1
 refine fn_ret1 rfl rfl ?_
 exact ⟨_, rfl, str_res hC1 _⟩

theorem c_M_isValue {w0 : World} (a1 : Int) (rr : Bool) (hF : M.isValue a1 = some rr) :
 Calls Tryz.prog 90 [(.int .i64 a1)].toArray w0 fun e w' => ∃ v, e = .returned v ∧ Res w0 rr v w' := by
 refine calls_of_W Tryz.func90 rfl rfl ?_
 have hC0 := Ctx.start w0
 unfold M.isValue at hF
 refine W_seq_reg ?_
 refine WL_assign rfl rfl ?_
 refine WL_nil (W_seq_reg ?_)
 refine WL_move rfl rfl ?_
 obtain ⟨x1, hr1, hF⟩ := bind_some hF
 refine WL_call Tryz.call42 rfl rfl (c_M_within a1 0 9 x1 hr1) ?_
 intro _ w1 hv1
 obtain ⟨rfl, hB1⟩ := res_bool hv1
 have hC1 := hC0.grow hB1
 refine WL_assign rfl rfl ?_
 refine WL_nil (W_ret ?_)
 have hq1 := Option.some.inj hF
 subst hq1
 refine fn_ret1 rfl rfl ?_
 exact ⟨_, rfl, bool_res hC1 _⟩

theorem c_M_areValues_c1 {w0 : World} (a1 : Int) (rr : Bool) (hF : M.areValues_c1 a1 = some rr) :
 Calls Tryz.prog 89 [(.int .i64 a1)].toArray w0 fun e w' => ∃ v, e = .returned v ∧ Res w0 rr v w' := by
 refine calls_of_W Tryz.func89 rfl rfl ?_
 have hC0 := Ctx.start w0
 unfold M.areValues_c1 at hF
 refine W_seq_reg ?_
 refine WL_assign rfl rfl ?_
 refine WL_nil (W_seq_reg ?_)
 refine WL_move rfl rfl ?_
 obtain ⟨x1, hr1, hF⟩ := bind_some hF
 refine WL_call Tryz.call90 rfl rfl (c_M_isValue a1 x1 hr1) ?_
 intro _ w1 hv1
 obtain ⟨rfl, hB1⟩ := res_bool hv1
 have hC1 := hC0.grow hB1
 refine WL_not rfl rfl ?_
 refine WL_assign rfl rfl ?_
 refine WL_nil (W_ret ?_)
 have hq1 := Option.some.inj hF
 subst hq1
 refine fn_ret1 rfl rfl ?_
 exact ⟨_, rfl, bool_res hC1 _⟩

theorem c_Slices_IndexFunc_Lint_int_M_areValues_c1 {w0 : World} (a1 : (List Int)) (u1 : Value) (g1 : RO [] w0 u1 a1) (rr : Int) (hF : Slices.IndexFunc_Lint_int_M_areValues_c1 a1 = some rr) :
 Calls Tryz.prog 110 [u1, (.func (.func 89) #[] #[])].toArray w0 fun e w' => ∃ v, e = .returned v ∧ Res w0 rr v w' := by
 refine calls_of_W Tryz.func110 rfl rfl ?_
 have hC0 := Ctx.start w0
 unfold Slices.IndexFunc_Lint_int_M_areValues_c1 at hF
 refine W_seq_reg ?_
 refine WL_assign rfl rfl ?_
 refine WL_nil (W_seq (W_seq_reg ?_))
 refine WL_move rfl rfl ?_
 refine WL_len Tryz.underlying22 g1 rfl rfl ?_
 refine WL_move rfl rfl ?_
 refine WL_nil ?_
 obtain ⟨r1, hr1, hF⟩ := bind_some hF
 refine W_norm (fun l w => .inl () = r1 ∧ l = [] ∧ Below w0.heap.size w0 w ∧ Ctx [] w0 w []) ?_ ?_
 ·refine W_block ?_
  refine W.sub (l' := [(0, u1), (1, (.func (.func 89) #[] #[])), (7, (.int .i64 (List.length a1 : Int))), (8, (.int .i64 0))]) ?_ ⟨rfl, rfl, rfl, rfl, trivial⟩
  refine W_loop (fun k l w => ∃ x1 : Int, l = [(0, u1), (1, (.func (.func 89) #[] #[])), (7, (.int .i64 (List.length a1 : Int))), (8, (.int .i64 x1))] ∧ Below w0.heap.size w0 w ∧ Ctx [] w0 w [] ∧ Slices.IndexFunc_Lint_int_M_areValues_c1_l1 a1 k x1 = some r1) FUEL ⟨0, rfl, (Below.refl _ _), hC0, hr1⟩ ?_
  clear hr1
  rintro k1 _ w1 ⟨x1, rfl, hB1, hC1, hL1⟩
  cases k1 with
  | zero => rw [Slices.IndexFunc_Lint_int_M_areValues_c1_l1] at hL1; cases hL1
  | succ k1 =>
   rw [Slices.IndexFunc_Lint_int_M_areValues_c1_l1] at hL1
   refine W_seq_reg ?_
   refine WL_lss rfl rfl rfl ?_
   refine WL_nil (W_seq ?_)
   refine W_cond rfl (fun hc1 => ?_) (fun hc1 => ?_)
   ·replace hL1 := ite_t hL1 hc1
    refine W_skip (nrm_normal (W_seq (W_block (W_seq_reg ?_))))
    refine WL_move rfl rfl ?_
    refine WL_assign rfl rfl ?_
    refine WL_nil (W_seq_reg ?_)
    refine WL_move rfl rfl ?_
    refine WL_move rfl rfl ?_
    refine WL_move rfl rfl ?_
    obtain ⟨x2, hx1, hL1⟩ := bind_some hL1
    refine WL_index Tryz.underlying22 ty3 g1 hx1 rfl rfl rfl (fun b1 o1 h1 => ?_)
    refine WL_load ty3 h1 hC1.keep rfl rfl (fun v1 h2 => ?_)
    obtain rfl := ro_int h2
    obtain ⟨x3, hr2, hL1⟩ := bind_some hL1
    refine WL_callv (cap := []) Tryz.call89 rfl rfl rfl (c_M_areValues_c1 x2 x3 hr2) ?_
    intro _ w2 hv1
    obtain ⟨rfl, hB2⟩ := res_bool hv1
    have hC2 := hC1.grow hB2
    refine WL_nil ?_
    refine W_cond rfl (fun hc2 => ?_) (fun hc2 => ?_)
    ·replace hL1 := ite_t hL1 hc2
     refine W_seq_reg ?_
     refine WL_move rfl rfl ?_
     refine WL_assign rfl rfl ?_
     refine WL_nil (W_ret (blk_ret (nrm_ret (nrm_ret (blk_ret (nrm_ret (nrm_ret ?_)))))))
     have hq1 := Option.some.inj hL1
     subst hq1
     dsimp only at hF
     have hq2 := Option.some.inj hF
     subst hq2
     refine fn_ret1 rfl rfl ?_
     exact ⟨_, rfl, int_res hC2 _⟩
    replace hL1 := ite_f hL1 hc2
    refine W_skip (blk_normal (nrm_normal (W_reg ?_)))
    refine WL_add rfl rfl rfl ?_
    refine WL_move rfl rfl ?_
    refine WL_nil ?_
    refine nrm_sub (l' := [(0, u1), (1, (.func (.func 89) #[] #[])), (7, (.int .i64 (List.length a1 : Int))), (8, (.int .i64 (w64 (x1 + 1))))]) ⟨rfl, rfl, rfl, rfl, trivial⟩ ?_
    exact ⟨k1, Nat.lt_succ_self _, w64 (x1 + 1), rfl, ((Keep.of hB1).then hB2).below, hC2, hL1⟩
   replace hL1 := ite_f hL1 hc1
   refine W_exit (nrm_exit (nrm_exit (blk_exit ?_)))
   have hq3 := Option.some.inj hL1
   subst hq3
   refine nrm_sub (l' := []) trivial ?_
   exact ⟨rfl, rfl, (Keep.of hB1).below, hC1⟩
 rintro l2 _ w3 hs2 ⟨rfl, rfl, hB3, hC3⟩
 try dsimp only at hF
 refine nrm_sub' hs2 ?_
 clear hs2
 refine W_seq_reg ?_
 refine WL_assign rfl rfl ?_
 refine WL_nil (W_ret ?_)
 have hq4 := Option.some.inj hF
 subst hq4
 refine fn_ret1 rfl rfl ?_
 exact ⟨_, rfl, int_res hC3 _⟩

theorem c_Slices_ContainsFunc_Lint_int_M_areValues_c1 {w0 : World} (a1 : (List Int)) (u1 : Value) (g1 : RO [] w0 u1 a1) (rr : Bool) (hF : Slices.ContainsFunc_Lint_int_M_areValues_c1 a1 = some rr) :
 Calls Tryz.prog 88 [u1, (.func (.func 89) #[] #[])].toArray w0 fun e w' => ∃ v, e = .returned v ∧ Res w0 rr v w' := by
 refine calls_of_W Tryz.func88 rfl rfl ?_
 have hC0 := Ctx.start w0
 unfold Slices.ContainsFunc_Lint_int_M_areValues_c1 at hF
 refine W_seq_reg ?_
 refine WL_assign rfl rfl ?_
 refine WL_nil (W_seq_reg ?_)
 refine WL_move rfl rfl ?_
 refine WL_move rfl rfl ?_
 obtain ⟨x1, hr1, hF⟩ := bind_some hF
 refine WL_call Tryz.call110 rfl rfl (c_Slices_IndexFunc_Lint_int_M_areValues_c1 a1 u1 (g1.now hC0.keep) x1 hr1) ?_
 intro _ w1 hv1
 obtain ⟨rfl, hB1⟩ := res_int hv1
 have hC1 := hC0.grow hB1
 refine WL_geq rfl rfl rfl ?_
 refine WL_assign rfl rfl ?_
 refine WL_nil (W_ret ?_)
 have hq1 := Option.some.inj hF
 subst hq1
 refine fn_ret1 rfl rfl ?_
 exact ⟨_, rfl, bool_res hC1 _⟩

theorem c_M_areValues {w0 : World} (a1 : (List Int)) (u1 : Value) (g1 : RO [] w0 u1 a1) (rr : Bool) (hF : M.areValues a1 = some rr) :
 Calls Tryz.prog 67 [u1].toArray w0 fun e w' => ∃ v, e = .returned v ∧ Res w0 rr v w' := by
 refine calls_of_W Tryz.func67 rfl rfl ?_
 have hC0 := Ctx.start w0
 unfold M.areValues at hF
 refine W_seq_reg ?_
 refine WL_assign rfl rfl ?_
 refine WL_nil (W_seq_reg ?_)
 refine WL_move rfl rfl ?_
 obtain ⟨x1, hr1, hF⟩ := bind_some hF
 refine WL_call Tryz.call88 rfl rfl (c_Slices_ContainsFunc_Lint_int_M_areValues_c1 a1 u1 (g1.now hC0.keep) x1 hr1) ?_
 intro _ w1 hv1
 obtain ⟨rfl, hB1⟩ := res_bool hv1
 have hC1 := hC0.grow hB1
 refine WL_not rfl rfl ?_
 refine WL_assign rfl rfl ?_
 refine WL_nil (W_ret ?_)
 have hq1 := Option.some.inj hF
 subst hq1
 refine fn_ret1 rfl rfl ?_
 exact ⟨_, rfl, bool_res hC1 _⟩

theorem c_Strings_Join {w0 : World} (a1 : (List Str)) (u1 : Value) (g1 : RO [] w0 u1 a1) (a2 : Str) (rr : Str) (hF : Strings.Join a1 a2 = some rr) :
    Calls Tryz.prog 91 [u1, (sv a2)].toArray w0 fun e w' => ∃ v, e = .returned v ∧ Res w0 rr v w' := join_calls Tryz.lays156 Tryz.Builder_Extra_156 a1 u1 g1 a2 rr hF

theorem c_M_joined {w0 : World} (hT : HasTab w0) (a1 : (List Int)) (u1 : Value) (g1 : RO [] w0 u1 a1) (a2 : Str) (rr : Str) (hF : M.joined a1 a2 = some rr) :
 Calls Tryz.prog 68 [u1, (sv a2)].toArray w0 fun e w' => ∃ v, e = .returned v ∧ Res w0 rr v w' := by
 refine calls_of_W Tryz.func68 rfl rfl ?_
 have hC0 := Ctx.start w0
 unfold M.joined at hF
 refine W_seq_reg ?_
 refine WL_assign rfl rfl ?_
 refine WL_nil (W_seq_reg ?_)
 refine WL_buildSlice (vs := []) hC0 Tryz.underlying51 ty9 rfl rfl rfl rfl (by simp) rfl rfl (fun b1 w1 hC1 hB1 => ?_)
 have hC2 := hC1.row0 (α := Str)
 have hC3 := hC2.front 1 rfl
 dsimp only [List.eraseIdx, List.cons_append, List.nil_append, List.append_nil] at hC3
 have hC4 : Ctx [] w0 w1 (Item.own (.slice (some ⟨b1, 0, none⟩) 0 0) (([] : List Str) : List Str) :: []) := hC3.rowOwn (by simp [maxLen])
 refine WL_assign rfl rfl ?_
 refine WL_nil (W_seq (W_seq_reg ?_))
 refine WL_move rfl rfl ?_
 refine WL_len Tryz.underlying22 g1 rfl rfl ?_
 refine WL_move rfl rfl ?_
 refine WL_nil ?_
 obtain ⟨r1, hr1, hF⟩ := bind_some hF
 refine W_norm (fun l w => ∃ v2 : Value, ∃ x3 : (List Str), x3 = r1 ∧ l = [(1, (sv a2)), (5, v2)] ∧ Ctx [] w0 w [Item.own v2 (x3 : (List Str))]) ?_ ?_
 ·refine W_block ?_
  refine W.sub (l' := [(1, (sv a2)), (5, (.slice (some ⟨b1, 0, none⟩) 0 0)), (9, u1), (10, (.int .i64 (List.length a1 : Int))), (11, (.int .i64 0))]) ?_ ⟨rfl, rfl, rfl, rfl, rfl, trivial⟩
  refine W_loop (fun k l w => ∃ v1 : Value, ∃ x1 : (List Str), ∃ x2 : Int, l = [(1, (sv a2)), (5, v1), (9, u1), (10, (.int .i64 (List.length a1 : Int))), (11, (.int .i64 x2))] ∧ Ctx [] w0 w [Item.own v1 (x1 : (List Str))] ∧ M.joined_l1 a1 k x1 x2 = some r1) FUEL ⟨(.slice (some ⟨b1, 0, none⟩) 0 0), ([] : List Str), 0, rfl, hC4, hr1⟩ ?_
  clear hr1
  rintro k1 _ w2 ⟨v1, x1, x2, rfl, hC5, hL1⟩
  cases k1 with
  | zero => rw [M.joined_l1] at hL1; cases hL1
  | succ k1 =>
   rw [M.joined_l1] at hL1
   refine W_seq_reg ?_
   refine WL_lss rfl rfl rfl ?_
   refine WL_nil (W_seq ?_)
   refine W_cond rfl (fun hc1 => ?_) (fun hc1 => ?_)
   ·replace hL1 := ite_t hL1 hc1
    refine W_skip (nrm_normal (W_seq (W_block (W_seq_reg ?_))))
    obtain ⟨x4, hx1, hL1⟩ := bind_some hL1
    refine WL_index Tryz.underlying22 ty3 g1 hx1 rfl rfl rfl (fun b2 o1 h1 => ?_)
    refine WL_load ty3 h1 hC5.keep rfl rfl (fun v3 h2 => ?_)
    obtain rfl := ro_int h2
    refine WL_assign rfl rfl ?_
    refine WL_nil (W_reg ?_)
    refine WL_move rfl rfl ?_
    refine WL_move rfl rfl ?_
    obtain ⟨x5, hr2, hL1⟩ := bind_some hL1
    refine WL_call Tryz.call46 rfl rfl (c_M_FormatInt (hT.keep hC5.keep) x4 x5 hr2) ?_
    intro _ w3 hv1
    obtain ⟨rfl, hB3⟩ := res_str hv1
    have hC6 := hC5.grow hB3
    refine WL_buildSlice (vs := [(sv x5)]) hC6 Tryz.underlying51 ty9 rfl rfl rfl rfl (by intro v hv; simp only [List.mem_cons, List.not_mem_nil, or_false] at hv; rcases hv with rfl <;> rfl) rfl rfl (fun b3 w4 hC7 hB4 => ?_)
    have hC8 := hC7.row0 (α := Str)
    have hC9 := hC8.triv (str_val (x5))
    have hC10 := hC9.row1
    have hC11 := hC10.front 1 rfl
    dsimp only [List.eraseIdx, List.cons_append, List.nil_append, List.append_nil] at hC11
    have hC12 : Ctx [] w0 w4 (Item.own (.slice (some ⟨b3, 0, none⟩) 1 1) ([x5] : List Str) :: [Item.own v1 (x1 : (List Str))]) := hC11.rowOwn (by simp [maxLen])
    obtain ⟨x6, hx2, hL1⟩ := bind_some hL1
    refine WL_append_flat (α := Str) hC12 1 rfl (hC12.ro 0 rfl) (Keep.refl _ _) Tryz.underlying51 ty9 rfl hx2 rfl rfl rfl (fun v4 w5 hC13 => ?_)
    try dsimp only [List.set] at hC13
    refine WL_assign rfl rfl ?_
    refine WL_nil (blk_normal (nrm_normal (W_reg ?_)))
    refine WL_add rfl rfl rfl ?_
    refine WL_move rfl rfl ?_
    refine WL_nil ?_
    have hC14 := hC13.f1
    have hC15 := hC14.h1
    refine nrm_sub (l' := [(1, (sv a2)), (5, v4), (9, u1), (10, (.int .i64 (List.length a1 : Int))), (11, (.int .i64 (w64 (x2 + 1))))]) ⟨rfl, rfl, rfl, rfl, rfl, trivial⟩ ?_
    exact ⟨k1, Nat.lt_succ_self _, v4, x6, w64 (x2 + 1), rfl, hC15, hL1⟩
   replace hL1 := ite_f hL1 hc1
   refine W_exit (nrm_exit (nrm_exit (blk_exit ?_)))
   have hq1 := Option.some.inj hL1
   subst hq1
   refine nrm_sub (l' := [(1, (sv a2)), (5, v1)]) ⟨rfl, rfl, trivial⟩ ?_
   exact ⟨v1, x1, rfl, rfl, hC5⟩
 rintro l2 _ w6 hs2 ⟨v2, x3, rfl, rfl, hC16⟩
 try dsimp only at hF
 refine nrm_sub' hs2 ?_
 clear hs2
 refine W_seq_reg ?_
 refine WL_move rfl rfl ?_
 refine WL_move rfl rfl ?_
 obtain ⟨x7, hr3, hF⟩ := bind_some hF
 refine WL_call Tryz.call91 rfl rfl (c_Strings_Join x3 v2 ((hC16.ro 0 rfl).now (Keep.refl _ _)) a2 x7 hr3) ?_
 intro _ w7 hv2
 obtain ⟨rfl, hB6⟩ := res_str hv2
 have hC17 := hC16.grow hB6
 refine WL_assign rfl rfl ?_
 refine WL_nil (W_ret ?_)
 have hq2 := Option.some.inj hF
 subst hq2
 refine fn_ret1 rfl rfl ?_
 exact ⟨_, rfl, str_res hC17 _⟩

theorem c_M_FormatAccess {w0 : World} (hT : HasTab w0) (a1 : (Int × (List Int))) (u1 : Value) (g1 : RO [] w0 u1 a1.2) (rr : Str) (hF : M.FormatAccess a1 = some rr) :
 Calls Tryz.prog 45 [(.agg #[(.int .i64 a1.1), u1])].toArray w0 fun e w' => ∃ v, e = .returned v ∧ Res w0 rr v w' := by
 refine calls_of_W Tryz.func45 rfl rfl ?_
 have hC0 := Ctx.start w0
 unfold M.FormatAccess at hF
 refine W_seq_reg ?_
 refine WL_boxK (cs := [(.int .i64 a1.1), u1]) hC0 rfl rfl rfl (fun b1 w1 hC1 hB1 hN1 => ?_)
 refine WL_assign rfl rfl ?_
 refine WL_nil (W_seq ?_)
 obtain ⟨r1, hr1, hF⟩ := bind_some hF
 refine W_cut (fun l w => ∃ x1 : Bool, x1 = r1 ∧ l = [(1, (ptr b1 0)), (18, (.bool x1))] ∧ Below w1.heap.size w1 w ∧ Ctx [] w0 w [Item.box b1 [(.int .i64 a1.1), u1]]) ?_ ?_
 ·refine W_reg ?_
  refine WL_field Tryz.underlying24 rfl rfl (fun w => ⟨_, Tryz.sizeOf3 w⟩) rfl rfl ?_
  refine WL_load_box hC1 0 rfl rfl Tryz.isAgg3 rfl rfl ?_
  obtain ⟨x2, hr2, hr1⟩ := bind_some hr1
  refine WL_call Tryz.call42 rfl rfl (c_M_within a1.1 0 4 x2 hr2) ?_
  intro _ w3 hv1
  obtain ⟨rfl, hB3⟩ := res_bool hv1
  have hC3 := hC1.grow hB3
  refine WL_not rfl rfl ?_
  refine WL_move rfl rfl ?_
  refine WL_fork (fun hc1 => ?_) (fun hc1 => ?_)
  ·replace hr1 := ite_t hr1 hc1
   refine WL_guard_skip rfl rfl (by simp) rfl ?_
   refine WL_guard_skip rfl rfl (by simp) rfl ?_
   refine WL_guard_skip rfl rfl (by simp) rfl ?_
   refine WL_guard_skip rfl rfl (by simp) rfl ?_
   refine WL_pick_t rfl rfl rfl ?_
   refine WL_move rfl rfl ?_
   refine WL_guard_skip rfl rfl (by simp) rfl ?_
   refine WL_guard_skip rfl rfl (by simp) rfl ?_
   refine WL_guard_skip rfl rfl (by simp) rfl ?_
   refine WL_guard_skip rfl rfl (by simp) rfl ?_
   refine WL_pick_t rfl rfl rfl ?_
   refine WL_nil ?_
   have hq1 := Option.some.inj hr1
   subst hq1
   refine nrm_sub (l' := [(1, (ptr b1 0)), (18, (.bool true))]) ⟨rfl, rfl, trivial⟩ ?_
   exact ⟨true, rfl, rfl, (Keep.of hB3).below, hC3⟩
  replace hr1 := ite_f hr1 hc1
  refine WL_guard rfl rfl ?_
  refine WL_field Tryz.underlying24 rfl rfl (fun w => ⟨_, Tryz.sizeOf22 w⟩) rfl rfl ?_
  refine WL_guard rfl rfl ?_
  refine WL_load_box hC3 0 rfl rfl Tryz.isAgg22 rfl rfl ?_
  refine WL_guard rfl rfl ?_
  refine WL_len Tryz.underlying22 g1 rfl rfl ?_
  refine WL_guard rfl rfl ?_
  refine WL_gtr rfl rfl rfl ?_
  refine WL_pick_f rfl rfl rfl ?_
  refine WL_move rfl rfl ?_
  refine WL_fork (fun hc2 => ?_) (fun hc2 => ?_)
  ·replace hr1 := ite_t hr1 hc2
   refine WL_guard_skip rfl rfl (by simp) rfl ?_
   refine WL_guard_skip rfl rfl (by simp) rfl ?_
   refine WL_guard_skip rfl rfl (by simp) rfl ?_
   refine WL_guard_skip rfl rfl (by simp) rfl ?_
   refine WL_pick_t rfl rfl rfl ?_
   refine WL_nil ?_
   have hq2 := Option.some.inj hr1
   subst hq2
   refine nrm_sub (l' := [(1, (ptr b1 0)), (18, (.bool true))]) ⟨rfl, rfl, trivial⟩ ?_
   exact ⟨true, rfl, rfl, (Keep.of hB3).below, hC3⟩
  replace hr1 := ite_f hr1 hc2
  refine WL_guard rfl rfl ?_
  refine WL_field Tryz.underlying24 rfl rfl (fun w => ⟨_, Tryz.sizeOf22 w⟩) rfl rfl ?_
  refine WL_guard rfl rfl ?_
  refine WL_load_box hC3 0 rfl rfl Tryz.isAgg22 rfl rfl ?_
  obtain ⟨x3, hr3, hr1⟩ := bind_some hr1
  refine WL_guard rfl rfl ?_
  refine WL_call Tryz.call67 rfl rfl (c_M_areValues a1.2 u1 (g1.now hC3.keep) x3 hr3) ?_
  intro _ w4 hv2
  obtain ⟨rfl, hB4⟩ := res_bool hv2
  have hC4 := hC3.grow hB4
  refine WL_guard rfl rfl ?_
  refine WL_not rfl rfl ?_
  refine WL_pick_f rfl rfl rfl ?_
  refine WL_nil ?_
  have hq3 := Option.some.inj hr1
  subst hq3
  refine nrm_sub (l' := [(1, (ptr b1 0)), (18, (.bool (!x3)))]) ⟨rfl, rfl, trivial⟩ ?_
  exact ⟨(!x3), rfl, rfl, ((Keep.of hB3).then hB4).below, hC4⟩
 rintro _ w2 ⟨x1, rfl, rfl, hB2, hC2⟩
 try dsimp only at hF
 refine W_cond rfl (fun hc3 => ?_) (fun hc3 => ?_)
 ·replace hF := ite_t hF hc3
  refine W_seq_reg ?_
  refine WL_assign rfl rfl ?_
  refine WL_nil (W_ret (nrm_ret ?_))
  have hq4 := Option.some.inj hF
  subst hq4
  refine fn_ret1 rfl rfl ?_
  exact ⟨_, rfl, str_res hC2 _⟩
 replace hF := ite_f hF hc3
 refine W_skip (nrm_normal (W_seq ?_))
 refine W_drawn 11 rfl hmix (fun w5 hB5 => ?_)
 have hC5 := hC2.grow hB5
 refine WA_tk 0 (by kernel_rfl) rfl rfl (fl_field Tryz.underlying24 rfl rfl (fun w => ⟨_, Tryz.sizeOf3 w⟩) rfl) ?_
 refine WL_field Tryz.underlying24 rfl rfl (fun w => ⟨_, Tryz.sizeOf3 w⟩) rfl rfl ?_
 refine WL_nil ?_
 refine WA_tk 5 (by kernel_rfl) rfl rfl (fl_field Tryz.underlying24 rfl rfl (fun w => ⟨_, Tryz.sizeOf22 w⟩) rfl) ?_
 refine WL_field Tryz.underlying24 rfl rfl (fun w => ⟨_, Tryz.sizeOf22 w⟩) rfl rfl ?_
 refine WL_nil ?_
 obtain ⟨x4, hr4, hF⟩ := bind_some hF
 obtain ⟨x5, hx1, hF⟩ := bind_some hF
 obtain ⟨x6, hx2, hF⟩ := bind_some hF
 obtain ⟨x7, hr5, hF⟩ := bind_some hF
 refine WA.sub (l' := [(1, (ptr b1 0)), (18, (.bool x1)), (19, (ptr b1 0)), (24, (ptr b1 1))]) ?_ ⟨rfl, rfl, rfl, rfl, trivial⟩
 refine WA_postsE [⟨1, [], fun vs => PW.val (.int .i64 a1.1), []⟩, ⟨2, [], fun vs => PW.val (sv x4), []⟩, ⟨3, [], fun vs => PW.val (sv x5), []⟩, ⟨4, [], fun vs => PW.val (sv x6), []⟩, ⟨6, [], fun vs => PW.val u1, []⟩, ⟨7, [], fun vs => PW.val (sv x7), []⟩] [[], [1], [2], [3], [], [6]] 3 rfl (by kernel_rfl) (by kernel_rfl) rfl ?_ ?_
 ·refine StepsE_cons rfl ?_ ?_
  ·intro w9 hB8
   refine DepsE_nil ?_
   refine ⟨_, rfl, ?_⟩
   refine WL_load_box (hC5.grow hB8) 0 rfl rfl Tryz.isAgg3 rfl rfl ?_
   refine WL_nil ?_
   exact FinE_val (Below.refl _ _) rfl rfl ⟨rfl, rfl⟩
  refine StepsE_cons rfl ?_ ?_
  ·intro w9 hB8
   refine DepsE_cons rfl rfl rfl ?_
   rintro _ _ ⟨rfl, rfl⟩ _
   refine DepsE_nil ?_
   refine ⟨_, rfl, ?_⟩
   refine WL_call Tryz.call46 rfl rfl (c_M_FormatInt (hT.keep (hC5.grow hB8).keep) a1.1 x4 hr4) ?_
   intro _ w6 hv3
   obtain ⟨rfl, hB6⟩ := res_str hv3
   refine WL_nil ?_
   exact FinE_val hB6 rfl rfl ⟨rfl, rfl⟩
  refine StepsE_cons rfl ?_ ?_
  ·intro w9 hB8
   refine DepsE_cons rfl rfl rfl ?_
   rintro _ _ ⟨rfl, rfl⟩ _
   refine DepsE_nil ?_
   refine ⟨_, rfl, ?_⟩
   refine WL_str_add hx1 rfl rfl rfl ?_
   refine WL_nil ?_
   exact FinE_val (Below.refl _ _) rfl rfl ⟨rfl, rfl⟩
  refine StepsE_cons rfl ?_ ?_
  ·intro w9 hB8
   refine DepsE_cons rfl rfl rfl ?_
   rintro _ _ ⟨rfl, rfl⟩ _
   refine DepsE_nil ?_
   refine ⟨_, rfl, ?_⟩
   refine WL_str_add hx2 rfl rfl rfl ?_
   refine WL_nil ?_
   exact FinE_val (Below.refl _ _) rfl rfl ⟨rfl, rfl⟩
  refine StepsE_cons rfl ?_ ?_
  ·intro w9 hB8
   refine DepsE_nil ?_
   refine ⟨_, rfl, ?_⟩
   refine WL_load_box (hC5.grow hB8) 0 rfl rfl Tryz.isAgg22 rfl rfl ?_
   refine WL_nil ?_
   exact FinE_val (Below.refl _ _) rfl rfl ⟨rfl, rfl⟩
  refine StepsE_cons rfl ?_ ?_
  ·intro w9 hB8
   refine DepsE_cons rfl rfl rfl ?_
   rintro _ _ ⟨rfl, rfl⟩ _
   refine DepsE_nil ?_
   refine ⟨_, rfl, ?_⟩
   refine WL_call Tryz.call68 rfl rfl (c_M_joined (hT.keep (hC5.grow hB8).keep) a1.2 u1 (g1.now (hC5.keep.then hB8)) (str [44]) x7 hr5) ?_
   intro _ w7 hv4
   obtain ⟨rfl, hB7⟩ := res_str hv4
   refine WL_nil ?_
   exact FinE_val hB7 rfl rfl ⟨rfl, rfl⟩
  exact StepsE_nil
 intro w10 hB9
 refine AllE_cons rfl rfl rfl ?_
 rintro _ _ ⟨rfl, rfl⟩
 refine AllE_cons rfl rfl rfl ?_
 rintro _ _ ⟨rfl, rfl⟩
 refine AllE_cons rfl rfl rfl ?_
 rintro _ _ ⟨rfl, rfl⟩
 refine AllE_cons rfl rfl rfl ?_
 rintro _ _ ⟨rfl, rfl⟩
 refine AllE_cons rfl rfl rfl ?_
 rintro _ _ ⟨rfl, rfl⟩
 refine AllE_cons rfl rfl rfl ?_
 rintro _ _ ⟨rfl, rfl⟩
 refine AllE_nil ?_
 intro hn1 hb1
 have hC6 := hC5.grow hB9
 obtain ⟨x8, hx3, hF⟩ := bind_some hF
 refine WA_tk 8 (by kernel_rfl) rfl rfl (fl_str_add hx3 rfl rfl) ?_
 refine WL_str_add hx3 rfl rfl rfl ?_
 refine WL_nil ?_
 obtain ⟨x9, hx4, hF⟩ := bind_some hF
 refine WA_tk 9 (by kernel_rfl) rfl rfl (fl_str_add hx4 rfl rfl) ?_
 refine WL_str_add hx4 rfl rfl rfl ?_
 refine WL_nil ?_
 refine WA_tk 10 (by kernel_rfl) rfl rfl (fl_assign rfl) ?_
 refine WL_assign rfl rfl ?_
 refine WL_nil ?_
 refine WA_done (by kernel_rfl) ?_
 refine nrm_normal (W_ret ?_)
 have hq5 := Option.some.inj hF
 subst hq5
 refine fn_ret1 rfl rfl ?_
 exact ⟨_, rfl, str_res hC6 _⟩

theorem c_M_FormatCursor {w0 : World} (hT : HasTab w0) (a1 : ((Int × (List Int)) × Int × Int)) (u1 : Value) (g1 : RO [] w0 u1 a1.1.2) (rr : Str) (hF : M.FormatCursor a1 = some rr) :
 Calls Tryz.prog 22 [(.agg #[(.int .i64 a1.1.1), u1, (.int .i64 a1.2.1), (.int .i64 a1.2.2)])].toArray w0 fun e w' => ∃ v, e = .returned v ∧ Res w0 rr v w' := by
 refine calls_of_W Tryz.func22 rfl rfl ?_
 have hC0 := Ctx.start w0
 unfold M.FormatCursor at hF
 refine W_seq_reg ?_
 refine WL_boxK (cs := [(.int .i64 a1.1.1), u1, (.int .i64 a1.2.1), (.int .i64 a1.2.2)]) hC0 rfl rfl rfl (fun b1 w1 hC1 hB1 hN1 => ?_)
 refine WL_assign rfl rfl ?_
 refine WL_nil (W_seq_reg ?_)
 refine WL_field Tryz.underlying26 rfl rfl (fun w => ⟨_, Tryz.sizeOf24 w⟩) rfl rfl ?_
 refine WL_load_box_agg [(.int .i64 a1.1.1), u1] hC1 0 rfl rfl rfl Tryz.isAgg24 Tryz.sizeOf24 rfl rfl ?_
 obtain ⟨x1, hr1, hF⟩ := bind_some hF
 refine WL_call Tryz.call45 rfl rfl (c_M_FormatAccess (hT.keep hC1.keep) (a1.1.1, a1.1.2) u1 (g1.now hC1.keep) x1 hr1) ?_
 intro _ w2 hv1
 obtain ⟨rfl, hB2⟩ := res_str hv1
 have hC2 := hC1.grow hB2
 refine WL_assign rfl rfl ?_
 refine WL_nil (W_seq ?_)
 obtain ⟨r1, hr2, hF⟩ := bind_some hF
 refine W_cut (fun l w => ∃ x2 : Bool, x2 = r1 ∧ l = [(1, (ptr b1 0)), (3, (sv x1)), (20, (.bool x2))] ∧ Below w2.heap.size w2 w ∧ Ctx [] w0 w [Item.box b1 [(.int .i64 a1.1.1), u1, (.int .i64 a1.2.1), (.int .i64 a1.2.2)]]) ?_ ?_
 ·refine W_reg ?_
  refine WL_move rfl rfl ?_
  refine WL_str_eql rfl rfl rfl ?_
  refine WL_move rfl rfl ?_
  refine WL_fork (fun hc1 => ?_) (fun hc1 => ?_)
  ·replace hr2 := ite_t hr2 hc1
   refine WL_guard_skip rfl rfl (by simp) rfl ?_
   refine WL_guard_skip rfl rfl (by simp) rfl ?_
   refine WL_guard_skip rfl rfl (by simp) rfl ?_
   refine WL_guard_skip rfl rfl (by simp) rfl ?_
   refine WL_pick_t rfl rfl rfl ?_
   refine WL_move rfl rfl ?_
   refine WL_guard_skip rfl rfl (by simp) rfl ?_
   refine WL_guard_skip rfl rfl (by simp) rfl ?_
   refine WL_guard_skip rfl rfl (by simp) rfl ?_
   refine WL_guard_skip rfl rfl (by simp) rfl ?_
   refine WL_pick_t rfl rfl rfl ?_
   refine WL_nil ?_
   have hq1 := Option.some.inj hr2
   subst hq1
   refine nrm_sub (l' := [(1, (ptr b1 0)), (3, (sv x1)), (20, (.bool true))]) ⟨rfl, rfl, rfl, trivial⟩ ?_
   exact ⟨true, rfl, rfl, (Below.refl _ _), hC2⟩
  replace hr2 := ite_f hr2 hc1
  refine WL_guard rfl rfl ?_
  refine WL_field Tryz.underlying26 rfl rfl (fun w => ⟨_, Tryz.sizeOf3 w⟩) rfl rfl ?_
  refine WL_guard rfl rfl ?_
  refine WL_load_box hC2 0 rfl rfl Tryz.isAgg3 rfl rfl ?_
  obtain ⟨x3, hr3, hr2⟩ := bind_some hr2
  refine WL_guard rfl rfl ?_
  refine WL_call Tryz.call42 rfl rfl (c_M_within a1.2.1 0 1000 x3 hr3) ?_
  intro _ w4 hv2
  obtain ⟨rfl, hB4⟩ := res_bool hv2
  have hC4 := hC2.grow hB4
  refine WL_guard rfl rfl ?_
  refine WL_not rfl rfl ?_
  refine WL_pick_f rfl rfl rfl ?_
  refine WL_move rfl rfl ?_
  refine WL_fork (fun hc2 => ?_) (fun hc2 => ?_)
  ·replace hr2 := ite_t hr2 hc2
   refine WL_guard_skip rfl rfl (by simp) rfl ?_
   refine WL_guard_skip rfl rfl (by simp) rfl ?_
   refine WL_guard_skip rfl rfl (by simp) rfl ?_
   refine WL_guard_skip rfl rfl (by simp) rfl ?_
   refine WL_pick_t rfl rfl rfl ?_
   refine WL_nil ?_
   have hq2 := Option.some.inj hr2
   subst hq2
   refine nrm_sub (l' := [(1, (ptr b1 0)), (3, (sv x1)), (20, (.bool true))]) ⟨rfl, rfl, rfl, trivial⟩ ?_
   exact ⟨true, rfl, rfl, (Keep.of hB4).below, hC4⟩
  replace hr2 := ite_f hr2 hc2
  refine WL_guard rfl rfl ?_
  refine WL_field Tryz.underlying26 rfl rfl (fun w => ⟨_, Tryz.sizeOf3 w⟩) rfl rfl ?_
  refine WL_guard rfl rfl ?_
  refine WL_load_box hC4 0 rfl rfl Tryz.isAgg3 rfl rfl ?_
  obtain ⟨x4, hr4, hr2⟩ := bind_some hr2
  refine WL_guard rfl rfl ?_
  refine WL_call Tryz.call42 rfl rfl (c_M_within a1.2.2 0 1000 x4 hr4) ?_
  intro _ w5 hv3
  obtain ⟨rfl, hB5⟩ := res_bool hv3
  have hC5 := hC4.grow hB5
  refine WL_guard rfl rfl ?_
  refine WL_not rfl rfl ?_
  refine WL_pick_f rfl rfl rfl ?_
  refine WL_nil ?_
  have hq3 := Option.some.inj hr2
  subst hq3
  refine nrm_sub (l' := [(1, (ptr b1 0)), (3, (sv x1)), (20, (.bool (!x4)))]) ⟨rfl, rfl, rfl, trivial⟩ ?_
  exact ⟨(!x4), rfl, rfl, ((Keep.of hB4).then hB5).below, hC5⟩
 rintro _ w3 ⟨x2, rfl, rfl, hB3, hC3⟩
 try dsimp only at hF
 refine W_cond rfl (fun hc3 => ?_) (fun hc3 => ?_)
 ·replace hF := ite_t hF hc3
  refine W_seq_reg ?_
  refine WL_assign rfl rfl ?_
  refine WL_nil (W_ret (nrm_ret ?_))
  have hq4 := Option.some.inj hF
  subst hq4
  refine fn_ret1 rfl rfl ?_
  exact ⟨_, rfl, str_res hC3 _⟩
 replace hF := ite_f hF hc3
 refine W_skip (nrm_normal (W_seq ?_))
 refine W_drawn 12 rfl hmix (fun w6 hB6 => ?_)
 have hC6 := hC3.grow hB6
 refine WA_tk 0 (by kernel_rfl) rfl rfl (fl_move rfl) ?_
 refine WL_move rfl rfl ?_
 refine WL_nil ?_
 obtain ⟨x5, hx1, hF⟩ := bind_some hF
 refine WA_tk 1 (by kernel_rfl) rfl rfl (fl_str_add hx1 rfl rfl) ?_
 refine WL_str_add hx1 rfl rfl rfl ?_
 refine WL_nil ?_
 refine WA_tk 2 (by kernel_rfl) rfl rfl (fl_field Tryz.underlying26 rfl rfl (fun w => ⟨_, Tryz.sizeOf3 w⟩) rfl) ?_
 refine WL_field Tryz.underlying26 rfl rfl (fun w => ⟨_, Tryz.sizeOf3 w⟩) rfl rfl ?_
 refine WL_nil ?_
 refine WA_tk 7 (by kernel_rfl) rfl rfl (fl_field Tryz.underlying26 rfl rfl (fun w => ⟨_, Tryz.sizeOf3 w⟩) rfl) ?_
 refine WL_field Tryz.underlying26 rfl rfl (fun w => ⟨_, Tryz.sizeOf3 w⟩) rfl rfl ?_
 refine WL_nil ?_
 obtain ⟨x6, hr5, hF⟩ := bind_some hF
 obtain ⟨x7, hx2, hF⟩ := bind_some hF
 obtain ⟨x8, hx3, hF⟩ := bind_some hF
 obtain ⟨x9, hr6, hF⟩ := bind_some hF
 refine WA.sub (l' := [(1, (ptr b1 0)), (3, (sv x1)), (20, (.bool x2)), (21, (sv x1)), (22, (sv x5)), (23, (ptr b1 2)), (28, (ptr b1 3))]) ?_ ⟨rfl, rfl, rfl, rfl, rfl, rfl, rfl, trivial⟩
 refine WA_postsE [⟨3, [], fun vs => PW.val (.int .i64 a1.2.1), []⟩, ⟨4, [], fun vs => PW.val (sv x6), []⟩, ⟨5, [], fun vs => PW.val (sv x7), []⟩, ⟨6, [], fun vs => PW.val (sv x8), []⟩, ⟨8, [], fun vs => PW.val (.int .i64 a1.2.2), []⟩, ⟨9, [], fun vs => PW.val (sv x9), []⟩] [[], [3], [4], [5], [], [8]] 2 rfl (by kernel_rfl) (by kernel_rfl) rfl ?_ ?_
 ·refine StepsE_cons rfl ?_ ?_
  ·intro w10 hB9
   refine DepsE_nil ?_
   refine ⟨_, rfl, ?_⟩
   refine WL_load_box (hC6.grow hB9) 0 rfl rfl Tryz.isAgg3 rfl rfl ?_
   refine WL_nil ?_
   exact FinE_val (Below.refl _ _) rfl rfl ⟨rfl, rfl⟩
  refine StepsE_cons rfl ?_ ?_
  ·intro w10 hB9
   refine DepsE_cons rfl rfl rfl ?_
   rintro _ _ ⟨rfl, rfl⟩ _
   refine DepsE_nil ?_
   refine ⟨_, rfl, ?_⟩
   refine WL_call Tryz.call46 rfl rfl (c_M_FormatInt (hT.keep (hC6.grow hB9).keep) a1.2.1 x6 hr5) ?_
   intro _ w7 hv4
   obtain ⟨rfl, hB7⟩ := res_str hv4
   refine WL_nil ?_
   exact FinE_val hB7 rfl rfl ⟨rfl, rfl⟩
  refine StepsE_cons rfl ?_ ?_
  ·intro w10 hB9
   refine DepsE_cons rfl rfl rfl ?_
   rintro _ _ ⟨rfl, rfl⟩ _
   refine DepsE_nil ?_
   refine ⟨_, rfl, ?_⟩
   refine WL_str_add hx2 rfl rfl rfl ?_
   refine WL_nil ?_
   exact FinE_val (Below.refl _ _) rfl rfl ⟨rfl, rfl⟩
  refine StepsE_cons rfl ?_ ?_
  ·intro w10 hB9
   refine DepsE_cons rfl rfl rfl ?_
   rintro _ _ ⟨rfl, rfl⟩ _
   refine DepsE_nil ?_
   refine ⟨_, rfl, ?_⟩
   refine WL_str_add hx3 rfl rfl rfl ?_
   refine WL_nil ?_
   exact FinE_val (Below.refl _ _) rfl rfl ⟨rfl, rfl⟩
  refine StepsE_cons rfl ?_ ?_
  ·intro w10 hB9
   refine DepsE_nil ?_
   refine ⟨_, rfl, ?_⟩
   refine WL_load_box (hC6.grow hB9) 0 rfl rfl Tryz.isAgg3 rfl rfl ?_
   refine WL_nil ?_
   exact FinE_val (Below.refl _ _) rfl rfl ⟨rfl, rfl⟩
  refine StepsE_cons rfl ?_ ?_
  ·intro w10 hB9
   refine DepsE_cons rfl rfl rfl ?_
   rintro _ _ ⟨rfl, rfl⟩ _
   refine DepsE_nil ?_
   refine ⟨_, rfl, ?_⟩
   refine WL_call Tryz.call46 rfl rfl (c_M_FormatInt (hT.keep (hC6.grow hB9).keep) a1.2.2 x9 hr6) ?_
   intro _ w9 hv5
   obtain ⟨rfl, hB8⟩ := res_str hv5
   refine WL_nil ?_
   exact FinE_val hB8 rfl rfl ⟨rfl, rfl⟩
  exact StepsE_nil
 intro w11 hB10
 refine AllE_cons rfl rfl rfl ?_
 rintro _ _ ⟨rfl, rfl⟩
 refine AllE_cons rfl rfl rfl ?_
 rintro _ _ ⟨rfl, rfl⟩
 refine AllE_cons rfl rfl rfl ?_
 rintro _ _ ⟨rfl, rfl⟩
 refine AllE_cons rfl rfl rfl ?_
 rintro _ _ ⟨rfl, rfl⟩
 refine AllE_cons rfl rfl rfl ?_
 rintro _ _ ⟨rfl, rfl⟩
 refine AllE_cons rfl rfl rfl ?_
 rintro _ _ ⟨rfl, rfl⟩
 refine AllE_nil ?_
 intro hn1 hb1
 have hC7 := hC6.grow hB10
 obtain ⟨x10, hx4, hF⟩ := bind_some hF
 refine WA_tk 10 (by kernel_rfl) rfl rfl (fl_str_add hx4 rfl rfl) ?_
 refine WL_str_add hx4 rfl rfl rfl ?_
 refine WL_nil ?_
 refine WA_tk 11 (by kernel_rfl) rfl rfl (fl_assign rfl) ?_
 refine WL_assign rfl rfl ?_
 refine WL_nil ?_
 refine WA_done (by kernel_rfl) ?_
 refine nrm_normal (W_ret ?_)
 have hq5 := Option.some.inj hF
 subst hq5
 refine fn_ret1 rfl rfl ?_
 exact ⟨_, rfl, str_res hC7 _⟩

theorem c_Strings_Cut {w0 : World} (hT : HasTab w0) (a1 : Str) (a2 : Str) (rr : (Str × Str × Bool)) (hF : Strings.Cut a1 a2 = some rr) :
    Calls Tryz.prog 29 [(sv a1), (sv a2)].toArray w0 fun e w' => ∃ v, e = .returned v ∧ Res3 w0 rr.1 rr.2.1 rr.2.2 v w' := cut_calls Tryz.lays145 hT.2.1 a1 a2 rr hF

theorem c_Strconv_Atoi {w0 : World} (hT : HasTab w0) (a1 : Str) (rr : (Int × Bool)) (hF : Strconv.Atoi a1 = some rr) :
    Calls Tryz.prog 55 [(sv a1)].toArray w0 fun e w' => ∃ v, e = .returned v ∧ ResE w0 rr v w' := atoi_calls Tryz.laysC172 hT.2.2.1 hT.2.2.2 a1 rr hF

theorem c_M_ParseInt {w0 : World} (hT : HasTab w0) (a1 : Str) (rr : (Int × Bool)) (hF : M.ParseInt a1 = some rr) :
 Calls Tryz.prog 31 [(sv a1)].toArray w0 fun e w' => ∃ v, e = .returned v ∧ Res2 w0 rr.1 rr.2 v w' := by
 refine calls_of_W Tryz.func31 rfl rfl ?_
 have hC0 := Ctx.start w0
 unfold M.ParseInt at hF
 refine W_seq_reg ?_
 refine WL_assign rfl rfl ?_
 refine WL_assign rfl rfl ?_
 refine WL_nil (W_seq_reg ?_)
 refine WL_move rfl rfl ?_
 obtain ⟨x1, hr1, hF⟩ := bind_some hF
 refine WL_call Tryz.call55 rfl rfl (c_Strconv_Atoi (hT.keep hC0.keep) a1 x1 hr1) ?_
 rintro _ w1 ⟨hB1, v1, rfl, h1⟩
 have hC1 := hC0.grow hB1
 refine WL_move rfl rfl ?_
 refine WL_extract rfl rfl rfl ?_
 refine WL_extract rfl rfl rfl ?_
 refine WL_assign rfl rfl ?_
 refine WL_assign rfl rfl ?_
 refine WL_nil (W_seq ?_)
 obtain ⟨r1, hr2, hF⟩ := bind_some hF
 refine W_cut (fun l w => ∃ x2 : Bool, x2 = r1 ∧ l = [(4, (.int .i64 x1.1)), (23, (.bool x2))] ∧ Below w1.heap.size w1 w ∧ Ctx [] w0 w []) ?_ ?_
 ·refine W_reg ?_
  refine WL_move rfl rfl ?_
  refine WL_err_neq Tryz.underlying83 h1 rfl rfl ?_
  refine WL_move rfl rfl ?_
  refine WL_fork (fun hc1 => ?_) (fun hc1 => ?_)
  ·replace hr2 := ite_t hr2 hc1
   refine WL_guard_skip rfl rfl (by simp) rfl ?_
   refine WL_guard_skip rfl rfl (by simp) rfl ?_
   refine WL_guard_skip rfl rfl (by simp) rfl ?_
   refine WL_pick_t rfl rfl rfl ?_
   refine WL_move rfl rfl ?_
   refine WL_guard_skip rfl rfl (by simp) rfl ?_
   refine WL_guard_skip rfl rfl (by simp) rfl ?_
   refine WL_guard_skip rfl rfl (by simp) rfl ?_
   refine WL_guard_skip rfl rfl (by simp) rfl ?_
   refine WL_pick_t rfl rfl rfl ?_
   refine WL_nil ?_
   have hq1 := Option.some.inj hr2
   subst hq1
   refine nrm_sub (l' := [(4, (.int .i64 x1.1)), (23, (.bool true))]) ⟨rfl, rfl, trivial⟩ ?_
   exact ⟨true, rfl, rfl, (Below.refl _ _), hC1⟩
  replace hr2 := ite_f hr2 hc1
  refine WL_guard rfl rfl ?_
  refine WL_move rfl rfl ?_
  obtain ⟨x3, hr3, hr2⟩ := bind_some hr2
  refine WL_guard rfl rfl ?_
  refine WL_call Tryz.call42 rfl rfl (c_M_within x1.1 (-999999999) 999999999 x3 hr3) ?_
  intro _ w3 hv1
  obtain ⟨rfl, hB3⟩ := res_bool hv1
  have hC3 := hC1.grow hB3
  refine WL_guard rfl rfl ?_
  refine WL_not rfl rfl ?_
  refine WL_pick_f rfl rfl rfl ?_
  refine WL_move rfl rfl ?_
  refine WL_fork (fun hc2 => ?_) (fun hc2 => ?_)
  ·replace hr2 := ite_t hr2 hc2
   refine WL_guard_skip rfl rfl (by simp) rfl ?_
   refine WL_guard_skip rfl rfl (by simp) rfl ?_
   refine WL_guard_skip rfl rfl (by simp) rfl ?_
   refine WL_guard_skip rfl rfl (by simp) rfl ?_
   refine WL_pick_t rfl rfl rfl ?_
   refine WL_nil ?_
   have hq2 := Option.some.inj hr2
   subst hq2
   refine nrm_sub (l' := [(4, (.int .i64 x1.1)), (23, (.bool true))]) ⟨rfl, rfl, trivial⟩ ?_
   exact ⟨true, rfl, rfl, (Keep.of hB3).below, hC3⟩
  replace hr2 := ite_f hr2 hc2
  refine WL_guard rfl rfl ?_
  refine WL_move rfl rfl ?_
  obtain ⟨x4, hr4, hr2⟩ := bind_some hr2
  refine WL_guard rfl rfl ?_
  refine WL_call Tryz.call46 rfl rfl (c_M_FormatInt (hT.keep hC3.keep) x1.1 x4 hr4) ?_
  intro _ w4 hv2
  obtain ⟨rfl, hB4⟩ := res_str hv2
  have hC4 := hC3.grow hB4
  refine WL_guard rfl rfl ?_
  refine WL_move rfl rfl ?_
  refine WL_guard rfl rfl ?_
  refine WL_str_neq rfl rfl rfl ?_
  refine WL_pick_f rfl rfl rfl ?_
  refine WL_nil ?_
  have hq3 := Option.some.inj hr2
  subst hq3
  refine nrm_sub (l' := [(4, (.int .i64 x1.1)), (23, (.bool (!decide (x4 = a1))))]) ⟨rfl, rfl, trivial⟩ ?_
  exact ⟨(!decide (x4 = a1)), rfl, rfl, ((Keep.of hB3).then hB4).below, hC4⟩
 rintro _ w2 ⟨x2, rfl, rfl, hB2, hC2⟩
 try dsimp only at hF
 refine W_cond rfl (fun hc3 => ?_) (fun hc3 => ?_)
 ·replace hF := ite_t hF hc3
  refine W_seq_reg ?_
  refine WL_assign rfl rfl ?_
  refine WL_assign rfl rfl ?_
  refine WL_nil (W_ret (nrm_ret ?_))
  have hq4 := Option.some.inj hF
  subst hq4
  refine fn_ret2 rfl rfl rfl ?_
  have hC5 := hC2.triv (bool_val (false))
  have hC6 := hC5.triv (int_val (0))
  exact ⟨_, rfl, res2_of hC6⟩
 replace hF := ite_f hF hc3
 refine W_skip (nrm_normal (W_seq_reg ?_))
 refine WL_move rfl rfl ?_
 refine WL_assign rfl rfl ?_
 refine WL_assign rfl rfl ?_
 refine WL_nil (W_ret ?_)
 have hq5 := Option.some.inj hF
 subst hq5
 refine fn_ret2 rfl rfl rfl ?_
 have hC7 := hC2.triv (bool_val (true))
 have hC8 := hC7.triv (int_val (x1.1))
 exact ⟨_, rfl, res2_of hC8⟩

theorem c_Strings_TrimPrefix {w0 : World} (a1 : Str) (a2 : Str) (rr : Str) (hF : Strings.TrimPrefix a1 a2 = some rr) :
    Calls Tryz.prog 73 [(sv a1), (sv a2)].toArray w0 fun e w' => ∃ v, e = .returned v ∧ Res w0 rr v w' := trimp_calls Tryz.lays101 a1 a2 rr hF

theorem c_Strings_HasSuffix {w0 : World} (a1 : Str) (a2 : Str) (rr : Bool) (hF : Strings.HasSuffix a1 a2 = some rr) :
    Calls Tryz.prog 74 [(sv a1), (sv a2)].toArray w0 fun e w' => ∃ v, e = .returned v ∧ Res w0 rr v w' := suffix_calls Tryz.lays100 a1 a2 rr hF

theorem c_Strings_TrimSuffix {w0 : World} (a1 : Str) (a2 : Str) (rr : Str) (hF : Strings.TrimSuffix a1 a2 = some rr) :
    Calls Tryz.prog 75 [(sv a1), (sv a2)].toArray w0 fun e w' => ∃ v, e = .returned v ∧ Res w0 rr v w' := trimx_calls Tryz.lays102 a1 a2 rr hF

theorem c_Strings_Split {w0 : World} (hT : HasTab w0) (a1 : Str) (a2 : Str) (rr : (List Str)) (hF : Strings.Split a1 a2 = some rr) :
    Calls Tryz.prog 76 [(sv a1), (sv a2)].toArray w0 fun e w' => ∃ v, e = .returned v ∧ Res w0 rr v w' := split_calls Tryz.lays146 (by kernel_rfl) hT.2.1 a1 a2 rr hF

theorem c_M_readCall {w0 : World} (hT : HasTab w0) (a1 : Str) (a2 : Str) (rr : (Int × (List Str) × Bool)) (hF : M.readCall a1 a2 = some rr) :
 Calls Tryz.prog 53 [(sv a1), (sv a2)].toArray w0 fun e w' => ∃ v, e = .returned v ∧ Res3 w0 rr.1 rr.2.1 rr.2.2 v w' := by
 refine calls_of_W Tryz.func53 rfl rfl ?_
 have hC0 := Ctx.start w0
 unfold M.readCall at hF
 refine W_seq_reg ?_
 refine WL_assign rfl rfl ?_
 refine WL_assign rfl rfl ?_
 refine WL_assign rfl rfl ?_
 refine WL_nil (W_seq_reg ?_)
 refine WL_move rfl rfl ?_
 obtain ⟨x1, hr1, hF⟩ := bind_some hF
 refine WL_call Tryz.call29 rfl rfl (c_Strings_Cut (hT.keep hC0.keep) a2 (str [40]) x1 hr1) ?_
 rintro _ w1 ⟨hB1, v1, v2, v3, F1, F2, F3, rfl, hv1, hv2, hv3, hn1, hb1⟩
 obtain ⟨rfl, rfl⟩ := val_str hv1
 obtain ⟨rfl, rfl⟩ := val_str hv2
 obtain ⟨rfl, rfl⟩ := val_bool hv3
 have hC1 := hC0.grow hB1
 refine WL_move rfl rfl ?_
 refine WL_extract rfl rfl rfl ?_
 refine WL_extract rfl rfl rfl ?_
 refine WL_extract rfl rfl rfl ?_
 refine WL_assign rfl rfl ?_
 refine WL_assign rfl rfl ?_
 refine WL_assign rfl rfl ?_
 refine WL_nil (W_seq_reg ?_)
 refine WL_move rfl rfl ?_
 refine WL_move rfl rfl ?_
 obtain ⟨x2, hr2, hF⟩ := bind_some hF
 refine WL_call Tryz.call73 rfl rfl (c_Strings_TrimPrefix x1.1 a1 x2 hr2) ?_
 intro _ w2 hv4
 obtain ⟨rfl, hB2⟩ := res_str hv4
 have hC2 := hC1.grow hB2
 obtain ⟨x3, hr3, hF⟩ := bind_some hF
 refine WL_call Tryz.call31 rfl rfl (c_M_ParseInt (hT.keep hC2.keep) x2 x3 hr3) ?_
 rintro _ w3 ⟨hB3, v4, v5, F4, F5, rfl, hv5, hv6, hn2, hb2⟩
 obtain ⟨rfl, rfl⟩ := val_int hv5
 obtain ⟨rfl, rfl⟩ := val_bool hv6
 have hC3 := hC2.grow hB3
 refine WL_move rfl rfl ?_
 refine WL_extract rfl rfl rfl ?_
 refine WL_extract rfl rfl rfl ?_
 refine WL_assign rfl rfl ?_
 refine WL_assign rfl rfl ?_
 refine WL_nil (W_seq ?_)
 obtain ⟨r1, hr4, hF⟩ := bind_some hF
 refine W_cut (fun l w => ∃ x4 : Bool, x4 = r1 ∧ l = [(8, (sv x1.2.1)), (10, (.int .i64 x3.1)), (36, (.bool x4))] ∧ Below w3.heap.size w3 w ∧ Ctx [] w0 w []) ?_ ?_
 ·refine W_reg ?_
  refine WL_move rfl rfl ?_
  refine WL_not rfl rfl ?_
  refine WL_move rfl rfl ?_
  refine WL_fork (fun hc1 => ?_) (fun hc1 => ?_)
  ·replace hr4 := ite_t hr4 hc1
   refine WL_guard_skip rfl rfl (by simp) rfl ?_
   refine WL_guard_skip rfl rfl (by simp) rfl ?_
   refine WL_pick_t rfl rfl rfl ?_
   refine WL_move rfl rfl ?_
   refine WL_guard_skip rfl rfl (by simp) rfl ?_
   refine WL_guard_skip rfl rfl (by simp) rfl ?_
   refine WL_guard_skip rfl rfl (by simp) rfl ?_
   refine WL_pick_t rfl rfl rfl ?_
   refine WL_nil ?_
   have hq1 := Option.some.inj hr4
   subst hq1
   refine nrm_sub (l' := [(8, (sv x1.2.1)), (10, (.int .i64 x3.1)), (36, (.bool true))]) ⟨rfl, rfl, rfl, trivial⟩ ?_
   exact ⟨true, rfl, rfl, (Below.refl _ _), hC3⟩
  replace hr4 := ite_f hr4 hc1
  refine WL_guard rfl rfl ?_
  refine WL_move rfl rfl ?_
  refine WL_guard rfl rfl ?_
  refine WL_not rfl rfl ?_
  refine WL_pick_f rfl rfl rfl ?_
  refine WL_move rfl rfl ?_
  refine WL_fork (fun hc2 => ?_) (fun hc2 => ?_)
  ·replace hr4 := ite_t hr4 hc2
   refine WL_guard_skip rfl rfl (by simp) rfl ?_
   refine WL_guard_skip rfl rfl (by simp) rfl ?_
   refine WL_guard_skip rfl rfl (by simp) rfl ?_
   refine WL_pick_t rfl rfl rfl ?_
   refine WL_nil ?_
   have hq2 := Option.some.inj hr4
   subst hq2
   refine nrm_sub (l' := [(8, (sv x1.2.1)), (10, (.int .i64 x3.1)), (36, (.bool true))]) ⟨rfl, rfl, rfl, trivial⟩ ?_
   exact ⟨true, rfl, rfl, (Below.refl _ _), hC3⟩
  replace hr4 := ite_f hr4 hc2
  refine WL_guard rfl rfl ?_
  refine WL_move rfl rfl ?_
  obtain ⟨x5, hr5, hr4⟩ := bind_some hr4
  refine WL_guard rfl rfl ?_
  refine WL_call Tryz.call74 rfl rfl (c_Strings_HasSuffix x1.2.1 (str [41]) x5 hr5) ?_
  intro _ w5 hv7
  obtain ⟨rfl, hB5⟩ := res_bool hv7
  have hC5 := hC3.grow hB5
  refine WL_guard rfl rfl ?_
  refine WL_not rfl rfl ?_
  refine WL_pick_f rfl rfl rfl ?_
  refine WL_nil ?_
  have hq3 := Option.some.inj hr4
  subst hq3
  refine nrm_sub (l' := [(8, (sv x1.2.1)), (10, (.int .i64 x3.1)), (36, (.bool (!x5)))]) ⟨rfl, rfl, rfl, trivial⟩ ?_
  exact ⟨(!x5), rfl, rfl, (Keep.of hB5).below, hC5⟩
 rintro _ w4 ⟨x4, rfl, rfl, hB4, hC4⟩
 try dsimp only at hF
 refine W_cond rfl (fun hc3 => ?_) (fun hc3 => ?_)
 ·replace hF := ite_t hF hc3
  refine W_seq_reg ?_
  refine WL_assign rfl rfl ?_
  refine WL_assign rfl rfl ?_
  refine WL_assign rfl rfl ?_
  refine WL_nil (W_ret (nrm_ret ?_))
  have hq4 := Option.some.inj hF
  subst hq4
  refine fn_ret3 rfl rfl rfl rfl ?_
  have hC6 := hC4.triv (bool_val (false))
  have hC7 := hC6.triv (nil_val (α := Str))
  have hC8 := hC7.triv (int_val (0))
  exact ⟨_, rfl, res3_of hC8⟩
 replace hF := ite_f hF hc3
 refine W_skip (nrm_normal (W_seq_reg ?_))
 refine WL_move rfl rfl ?_
 obtain ⟨x6, hr6, hF⟩ := bind_some hF
 refine WL_call Tryz.call75 rfl rfl (c_Strings_TrimSuffix x1.2.1 (str [41]) x6 hr6) ?_
 intro _ w6 hv8
 obtain ⟨rfl, hB6⟩ := res_str hv8
 have hC9 := hC4.grow hB6
 refine WL_assign rfl rfl ?_
 refine WL_nil (W_seq (W_seq_reg ?_))
 refine WL_move rfl rfl ?_
 refine WL_str_eql rfl rfl rfl ?_
 refine WL_nil ?_
 refine W_cond rfl (fun hc4 => ?_) (fun hc4 => ?_)
 ·replace hF := ite_t hF hc4
  refine W_seq_reg ?_
  refine WL_move rfl rfl ?_
  refine WL_assign rfl rfl ?_
  refine WL_assign rfl rfl ?_
  refine WL_assign rfl rfl ?_
  refine WL_nil (W_ret (nrm_ret ?_))
  have hq5 := Option.some.inj hF
  subst hq5
  refine fn_ret3 rfl rfl rfl rfl ?_
  have hC10 := hC9.triv (bool_val (true))
  have hC11 := hC10.triv (nil_val (α := Str))
  have hC12 := hC11.triv (int_val (x3.1))
  exact ⟨_, rfl, res3_of hC12⟩
 replace hF := ite_f hF hc4
 refine W_skip (nrm_normal (W_seq_reg ?_))
 refine WL_move rfl rfl ?_
 refine WL_move rfl rfl ?_
 obtain ⟨x7, hr7, hF⟩ := bind_some hF
 refine WL_call Tryz.call76 rfl rfl (c_Strings_Split (hT.keep hC9.keep) x6 (str [44]) x7 hr7) ?_
 rintro v6 w7 ⟨hB7, F6, hv9, hn3, hb3⟩
 have hC13 := hC9.push hB7 (A := Item.own v6 x7) hv9 hn3 hb3
 refine WL_assign rfl rfl ?_
 refine WL_assign rfl rfl ?_
 refine WL_assign rfl rfl ?_
 refine WL_nil (W_ret ?_)
 have hq6 := Option.some.inj hF
 subst hq6
 refine fn_ret3 rfl rfl rfl rfl ?_
 have hC14 := hC13.triv (bool_val (true))
 have hC15 := hC14.f1
 have hC16 := hC15.triv (int_val (x3.1))
 exact ⟨_, rfl, res3_of hC16⟩

theorem c_M_readInts {w0 : World} (hT : HasTab w0) (a1 : (List Str)) (u1 : Value) (g1 : RO [] w0 u1 a1) (rr : ((List Int) × Bool)) (hF : M.readInts a1 = some rr) :
 Calls Tryz.prog 54 [u1].toArray w0 fun e w' => ∃ v, e = .returned v ∧ Res2 w0 rr.1 rr.2 v w' := by
 refine calls_of_W Tryz.func54 rfl rfl ?_
 have hC0 := Ctx.start w0
 unfold M.readInts at hF
 refine W_seq_reg ?_
 refine WL_assign rfl rfl ?_
 refine WL_assign rfl rfl ?_
 refine WL_nil (W_seq_reg ?_)
 refine WL_buildSlice (vs := []) hC0 Tryz.underlying22 ty3 rfl rfl rfl rfl (by simp) rfl rfl (fun b1 w1 hC1 hB1 => ?_)
 have hC2 := hC1.row0 (α := Int)
 have hC3 := hC2.front 1 rfl
 dsimp only [List.eraseIdx, List.cons_append, List.nil_append, List.append_nil] at hC3
 have hC4 : Ctx [] w0 w1 (Item.own (.slice (some ⟨b1, 0, none⟩) 0 0) (([] : List Int) : List Int) :: []) := hC3.rowOwn (by simp [maxLen])
 refine WL_assign rfl rfl ?_
 refine WL_nil (W_seq (W_seq_reg ?_))
 refine WL_move rfl rfl ?_
 refine WL_len Tryz.underlying51 g1 rfl rfl ?_
 refine WL_move rfl rfl ?_
 refine WL_nil ?_
 obtain ⟨r1, hr1, hF⟩ := bind_some hF
 refine W_norm (fun l w => ∃ v2 : Value, ∃ x3 : (List Int), .inl x3 = r1 ∧ l = [(4, v2)] ∧ Ctx [] w0 w [Item.own v2 (x3 : (List Int))]) ?_ ?_
 ·refine W_block ?_
  refine W.sub (l' := [(4, (.slice (some ⟨b1, 0, none⟩) 0 0)), (10, u1), (11, (.int .i64 (List.length a1 : Int))), (12, (.int .i64 0))]) ?_ ⟨rfl, rfl, rfl, rfl, trivial⟩
  refine W_loop (fun k l w => ∃ v1 : Value, ∃ x1 : (List Int), ∃ x2 : Int, l = [(4, v1), (10, u1), (11, (.int .i64 (List.length a1 : Int))), (12, (.int .i64 x2))] ∧ Ctx [] w0 w [Item.own v1 (x1 : (List Int))] ∧ M.readInts_l1 a1 k x1 x2 = some r1) FUEL ⟨(.slice (some ⟨b1, 0, none⟩) 0 0), ([] : List Int), 0, rfl, hC4, hr1⟩ ?_
  clear hr1
  rintro k1 _ w2 ⟨v1, x1, x2, rfl, hC5, hL1⟩
  cases k1 with
  | zero => rw [M.readInts_l1] at hL1; cases hL1
  | succ k1 =>
   rw [M.readInts_l1] at hL1
   refine W_seq_reg ?_
   refine WL_lss rfl rfl rfl ?_
   refine WL_nil (W_seq ?_)
   refine W_cond rfl (fun hc1 => ?_) (fun hc1 => ?_)
   ·replace hL1 := ite_t hL1 hc1
    refine W_skip (nrm_normal (W_seq (W_block (W_seq_reg ?_))))
    obtain ⟨x4, hx1, hL1⟩ := bind_some hL1
    refine WL_index Tryz.underlying51 ty9 g1 hx1 rfl rfl rfl (fun b2 o1 h1 => ?_)
    refine WL_load ty9 h1 hC5.keep rfl rfl (fun v3 h2 => ?_)
    obtain rfl := ro_str h2
    refine WL_assign rfl rfl ?_
    refine WL_nil (W_seq_reg ?_)
    refine WL_move rfl rfl ?_
    obtain ⟨x5, hr2, hL1⟩ := bind_some hL1
    refine WL_call Tryz.call31 rfl rfl (c_M_ParseInt (hT.keep hC5.keep) x4 x5 hr2) ?_
    rintro _ w3 ⟨hB3, v4, v5, F1, F2, rfl, hv1, hv2, hn1, hb1⟩
    obtain ⟨rfl, rfl⟩ := val_int hv1
    obtain ⟨rfl, rfl⟩ := val_bool hv2
    have hC6 := hC5.grow hB3
    refine WL_move rfl rfl ?_
    refine WL_extract rfl rfl rfl ?_
    refine WL_extract rfl rfl rfl ?_
    refine WL_assign rfl rfl ?_
    refine WL_assign rfl rfl ?_
    refine WL_nil (W_seq (W_seq_reg ?_))
    refine WL_move rfl rfl ?_
    refine WL_not rfl rfl ?_
    refine WL_nil ?_
    refine W_cond rfl (fun hc2 => ?_) (fun hc2 => ?_)
    ·replace hL1 := ite_t hL1 hc2
     refine W_seq_reg ?_
     refine WL_assign rfl rfl ?_
     refine WL_assign rfl rfl ?_
     refine WL_nil (W_ret (nrm_ret (blk_ret (nrm_ret (nrm_ret (blk_ret (nrm_ret (nrm_ret ?_))))))))
     have hq1 := Option.some.inj hL1
     subst hq1
     dsimp only at hF
     have hq2 := Option.some.inj hF
     subst hq2
     refine fn_ret2 rfl rfl rfl ?_
     have hC7 := hC6.triv (bool_val (false))
     have hC8 := hC7.triv (nil_val (α := Int))
     exact ⟨_, rfl, res2_of hC8⟩
    replace hL1 := ite_f hL1 hc2
    refine W_skip (nrm_normal (W_reg ?_))
    refine WL_move rfl rfl ?_
    refine WL_move rfl rfl ?_
    refine WL_buildSlice (vs := [(.int .i64 x5.1)]) hC6 Tryz.underlying22 ty3 rfl rfl rfl rfl (by intro v hv; simp only [List.mem_cons, List.not_mem_nil, or_false] at hv; rcases hv with rfl <;> rfl) rfl rfl (fun b3 w4 hC9 hB4 => ?_)
    have hC10 := hC9.row0 (α := Int)
    have hC11 := hC10.triv (int_val (x5.1))
    have hC12 := hC11.row1
    have hC13 := hC12.front 1 rfl
    dsimp only [List.eraseIdx, List.cons_append, List.nil_append, List.append_nil] at hC13
    have hC14 : Ctx [] w0 w4 (Item.own (.slice (some ⟨b3, 0, none⟩) 1 1) ([x5.1] : List Int) :: [Item.own v1 (x1 : (List Int))]) := hC13.rowOwn (by simp [maxLen])
    obtain ⟨x6, hx2, hL1⟩ := bind_some hL1
    refine WL_append_flat (α := Int) hC14 1 rfl (hC14.ro 0 rfl) (Keep.refl _ _) Tryz.underlying22 ty3 rfl hx2 rfl rfl rfl (fun v6 w5 hC15 => ?_)
    try dsimp only [List.set] at hC15
    refine WL_assign rfl rfl ?_
    refine WL_nil (blk_normal (nrm_normal (W_reg ?_)))
    refine WL_add rfl rfl rfl ?_
    refine WL_move rfl rfl ?_
    refine WL_nil ?_
    have hC16 := hC15.f1
    have hC17 := hC16.h1
    refine nrm_sub (l' := [(4, v6), (10, u1), (11, (.int .i64 (List.length a1 : Int))), (12, (.int .i64 (w64 (x2 + 1))))]) ⟨rfl, rfl, rfl, rfl, trivial⟩ ?_
    exact ⟨k1, Nat.lt_succ_self _, v6, x6, w64 (x2 + 1), rfl, hC17, hL1⟩
   replace hL1 := ite_f hL1 hc1
   refine W_exit (nrm_exit (nrm_exit (blk_exit ?_)))
   have hq3 := Option.some.inj hL1
   subst hq3
   refine nrm_sub (l' := [(4, v1)]) ⟨rfl, trivial⟩ ?_
   exact ⟨v1, x1, rfl, rfl, hC5⟩
 rintro l2 _ w6 hs2 ⟨v2, x3, rfl, rfl, hC18⟩
 try dsimp only at hF
 refine nrm_sub' hs2 ?_
 clear hs2
 refine W_seq_reg ?_
 refine WL_move rfl rfl ?_
 refine WL_assign rfl rfl ?_
 refine WL_assign rfl rfl ?_
 refine WL_nil (W_ret ?_)
 have hq4 := Option.some.inj hF
 subst hq4
 refine fn_ret2 rfl rfl rfl ?_
 have hC19 := hC18.triv (bool_val (true))
 have hC20 := hC19.f1
 exact ⟨_, rfl, res2_of hC20⟩

theorem c_M_readAccess {w0 : World} (hT : HasTab w0) (a1 : Str) (rr : ((Int × (List Int)) × Bool)) (hF : M.readAccess a1 = some rr) :
 Calls Tryz.prog 30 [(sv a1)].toArray w0 fun e w' => ∃ v, e = .returned v ∧ Res2 w0 rr.1 rr.2 v w' := by
 refine calls_of_W Tryz.func30 rfl rfl ?_
 have hC0 := Ctx.start w0
 unfold M.readAccess at hF
 refine W_seq_reg ?_
 refine WL_allocK hC0 zero24 rfl rfl (fun b1 w1 hC1 hB1 hN1 => ?_)
 refine WL_assign rfl rfl ?_
 refine WL_nil (W_seq_reg ?_)
 refine WL_move rfl rfl ?_
 obtain ⟨x1, hr1, hF⟩ := bind_some hF
 refine WL_call Tryz.call53 rfl rfl (c_M_readCall (hT.keep hC1.keep) (str [109]) a1 x1 hr1) ?_
 rintro _ w2 ⟨hB2, v1, v2, v3, F1, F2, F3, rfl, hv1, hv2, hv3, hn1, hb1⟩
 obtain ⟨rfl, rfl⟩ := val_int hv1
 obtain ⟨rfl, rfl⟩ := val_bool hv3
 have hC2 := hC1.pushL hB2 (Bs := [Item.own v2 x1.2.1]) (Fs := [F2]) ⟨F2, _, rfl, hv2, rfl⟩ (by simpa using hn1) (fun b h => hb1 b (by simpa using h))
 refine WL_move rfl rfl ?_
 refine WL_extract rfl rfl rfl ?_
 refine WL_extract rfl rfl rfl ?_
 refine WL_extract rfl rfl rfl ?_
 refine WL_assign rfl rfl ?_
 refine WL_assign rfl rfl ?_
 refine WL_assign rfl rfl ?_
 refine WL_nil (W_seq_reg ?_)
 refine WL_move rfl rfl ?_
 obtain ⟨x2, hr2, hF⟩ := bind_some hF
 refine WL_call Tryz.call54 rfl rfl (c_M_readInts (hT.keep hC2.keep) x1.2.1 v2 ((hC2.ro 0 rfl).now (Keep.refl _ _)) x2 hr2) ?_
 rintro _ w3 ⟨hB3, v4, v5, F4, F5, rfl, hv4, hv5, hn2, hb2⟩
 obtain ⟨rfl, rfl⟩ := val_bool hv5
 have hC3 := hC2.pushL hB3 (Bs := [Item.own v4 x2.1]) (Fs := [F4]) ⟨F4, _, rfl, hv4, rfl⟩ (by simpa using hn2) (fun b h => hb2 b (by simpa using h))
 refine WL_move rfl rfl ?_
 refine WL_extract rfl rfl rfl ?_
 refine WL_extract rfl rfl rfl ?_
 refine WL_assign rfl rfl ?_
 refine WL_assign rfl rfl ?_
 refine WL_nil (W_seq_reg ?_)
 refine WL_move rfl rfl ?_
 refine WL_move rfl rfl ?_
 refine WL_build (vs := [(0, (.int .i64 x1.1)), (1, v4)]) rfl rfl rfl (built24_0_1 rfl (ro_cells (hC3.ro 0 rfl))) ?_
 refine WL_allocK hC3 zero24 rfl rfl (fun b2 w4 hC4 hB4 hN2 => ?_)
 refine WL_store_box_aggK (cs' := [(.int .i64 x1.1), v4]) (new := [(.int .i64 x1.1), v4]) hC4 0 rfl rfl (by intro v hv; simp only [List.mem_cons, List.not_mem_nil, or_false] at hv; rcases hv with rfl | rfl; exact rfl; exact (ro_one (hC4.ro 1 rfl))) rfl Tryz.sizeOf24 rfl rfl (fun w5 hC5 hKp1 => ?_)
 try dsimp only [List.set] at hC5
 have hk1 := Keep.over ((((Keep.of hB1).then hB2).then hB3).then hB4) (Nat.le_trans (((Keep.of hB1).then hB2).then hB3).size hN2) hKp1
 have hk2 := Keep.over (((Keep.of hB2).then hB3).then hB4) (Nat.le_trans ((Keep.of hB2).then hB3).size hN2) hKp1
 have hk3 := Keep.over ((Keep.of hB3).then hB4) (Nat.le_trans (Keep.of hB3).size hN2) hKp1
 have hk4 := Keep.over (Keep.of hB4) hN2 hKp1
 refine WL_nil ?_
 obtain ⟨r1, hr3, hF⟩ := bind_some hF
 refine W_cut (fun l w => ∃ x3 : Int, ∃ v6 : Value, ∃ x4 : (List Int), ∃ x5 : Bool, (x3, x4, x5) = r1 ∧ l = [(2, (ptr b1 0)), (3, (.bool x5))] ∧ Ctx [] w0 w [Item.own v6 (x4 : (List Int)), Item.box b1 [(.int .i64 x3), v6]]) ?_ ?_
 ·refine W_drawn 13 rfl hmix (fun w7 hB6 => ?_)
  have hC7 := hC5.grow hB6
  refine WA_tk 1 (by kernel_rfl) rfl rfl (fl_move rfl) ?_
  refine WL_move rfl rfl ?_
  refine WL_nil ?_
  refine WA_tk 2 (by kernel_rfl) rfl rfl (fl_move rfl) ?_
  refine WL_move rfl rfl ?_
  refine WL_nil ?_
  refine WA_fork (fun hc1 => ?_) (fun hc1 => ?_)
  ·replace hr3 := ite_t hr3 hc1
   refine WA_takeG 3 rfl (by kernel_rfl) (by kernel_rfl) (by kernel_rfl) rfl rfl rfl (fl_move rfl) ?_
   refine WL_guard rfl rfl ?_
   refine WL_move rfl rfl ?_
   refine WL_nil ?_
   refine WA_tk 4 (by kernel_rfl) rfl rfl (fl_pick_t rfl rfl) ?_
   refine WL_pick_t rfl rfl rfl ?_
   refine WL_nil ?_
   refine WA_tk 5 (by kernel_rfl) rfl rfl (fl_move rfl) ?_
   refine WL_move rfl rfl ?_
   refine WL_nil ?_
   refine WA_fork (fun hc2 => ?_) (fun hc2 => ?_)
   ·replace hr3 := ite_t hr3 hc2
    refine WA_takeG 8 rfl (by kernel_rfl) (by kernel_rfl) (by kernel_rfl) rfl rfl rfl (fl_move rfl) ?_
    refine WL_guard rfl rfl ?_
    refine WL_move rfl rfl ?_
    refine WL_nil ?_
    refine WA_all2 (i := 0) (j := 6) (by kernel_rfl) rfl rfl ?_ ?_
    ·refine WL_load_box_agg [(.int .i64 x1.1), v4] hC7 0 rfl rfl rfl Tryz.isAgg24 Tryz.sizeOf24 rfl rfl ?_
     refine WL_nil ?_
     refine WA_one 6 (by kernel_rfl) rfl ?_
     refine WL_guard rfl rfl ?_
     refine WL_load_box_agg [(.int .i64 x1.1), v4] hC7 0 rfl rfl rfl Tryz.isAgg24 Tryz.sizeOf24 rfl rfl ?_
     refine WL_nil ?_
     obtain ⟨x6, hr4, hr3⟩ := bind_some hr3
     refine WA_one 7 (by kernel_rfl) rfl ?_
     refine WL_guard rfl rfl ?_
     refine WL_call Tryz.call45 rfl rfl (c_M_FormatAccess (hT.keep hC7.keep) (x1.1, x2.1) v4 ((hC7.ro 1 rfl).now (Keep.refl _ _)) x6 hr4) ?_
     intro _ w9 hv6
     obtain ⟨rfl, hB7⟩ := res_str hv6
     have hC8 := hC7.grow hB7
     refine WL_nil ?_
     refine WA_takeG 9 rfl (by kernel_rfl) (by kernel_rfl) (by kernel_rfl) rfl rfl rfl (fl_str_eql rfl rfl) ?_
     refine WL_guard rfl rfl ?_
     refine WL_str_eql rfl rfl rfl ?_
     refine WL_nil ?_
     refine WA_tk 10 (by kernel_rfl) rfl rfl (fl_pick_t rfl rfl) ?_
     refine WL_pick_t rfl rfl rfl ?_
     refine WL_nil ?_
     refine WA_one 11 (by kernel_rfl) rfl ?_
     refine WL_store_box_aggK (cs' := [(.int .i64 x1.1), v4]) (new := [(.int .i64 x1.1), v4]) hC8 3 rfl rfl (by intro v hv; simp only [List.mem_cons, List.not_mem_nil, or_false] at hv; rcases hv with rfl | rfl; exact rfl; exact (ro_one (hC8.ro 1 rfl))) rfl Tryz.sizeOf24 rfl rfl (fun w10 hC9 hKp2 => ?_)
     try dsimp only [List.set] at hC9
     have hk5 := Keep.over ((hk1.then hB6).then hB7) hN1 hKp2
     refine WL_nil ?_
     refine WA_tk 12 (by kernel_rfl) rfl rfl (fl_assign rfl) ?_
     refine WL_assign rfl rfl ?_
     refine WL_nil ?_
     refine WA_done (by kernel_rfl) ?_
     have hq1 := Option.some.inj hr3
     subst hq1
     have hC10 := hC9.f3
     have hC11 := hC10.f2
     have hC12 := hC11.h2
     refine nrm_sub (l' := [(2, (ptr b1 0)), (3, (.bool (decide (x6 = a1))))]) ⟨rfl, rfl, trivial⟩ ?_
     exact ⟨x1.1, v4, x2.1, (decide (x6 = a1)), rfl, rfl, hC12⟩
    refine WL_guard rfl rfl ?_
    refine WL_load_box_agg [(.int .i64 x1.1), v4] hC7 0 rfl rfl rfl Tryz.isAgg24 Tryz.sizeOf24 rfl rfl ?_
    refine WL_nil ?_
    refine WA_all2 (i := 0) (j := 7) (by kernel_rfl) rfl rfl ?_ ?_
    ·refine WL_load_box_agg [(.int .i64 x1.1), v4] hC7 0 rfl rfl rfl Tryz.isAgg24 Tryz.sizeOf24 rfl rfl ?_
     refine WL_nil ?_
     obtain ⟨x6, hr4, hr3⟩ := bind_some hr3
     refine WA_one 7 (by kernel_rfl) rfl ?_
     refine WL_guard rfl rfl ?_
     refine WL_call Tryz.call45 rfl rfl (c_M_FormatAccess (hT.keep hC7.keep) (x1.1, x2.1) v4 ((hC7.ro 1 rfl).now (Keep.refl _ _)) x6 hr4) ?_
     intro _ w9 hv6
     obtain ⟨rfl, hB7⟩ := res_str hv6
     have hC8 := hC7.grow hB7
     refine WL_nil ?_
     refine WA_takeG 9 rfl (by kernel_rfl) (by kernel_rfl) (by kernel_rfl) rfl rfl rfl (fl_str_eql rfl rfl) ?_
     refine WL_guard rfl rfl ?_
     refine WL_str_eql rfl rfl rfl ?_
     refine WL_nil ?_
     refine WA_tk 10 (by kernel_rfl) rfl rfl (fl_pick_t rfl rfl) ?_
     refine WL_pick_t rfl rfl rfl ?_
     refine WL_nil ?_
     refine WA_one 11 (by kernel_rfl) rfl ?_
     refine WL_store_box_aggK (cs' := [(.int .i64 x1.1), v4]) (new := [(.int .i64 x1.1), v4]) hC8 3 rfl rfl (by intro v hv; simp only [List.mem_cons, List.not_mem_nil, or_false] at hv; rcases hv with rfl | rfl; exact rfl; exact (ro_one (hC8.ro 1 rfl))) rfl Tryz.sizeOf24 rfl rfl (fun w10 hC9 hKp2 => ?_)
     try dsimp only [List.set] at hC9
     have hk5 := Keep.over ((hk1.then hB6).then hB7) hN1 hKp2
     refine WL_nil ?_
     refine WA_tk 12 (by kernel_rfl) rfl rfl (fl_assign rfl) ?_
     refine WL_assign rfl rfl ?_
     refine WL_nil ?_
     refine WA_done (by kernel_rfl) ?_
     have hq1 := Option.some.inj hr3
     subst hq1
     have hC10 := hC9.f3
     have hC11 := hC10.f2
     have hC12 := hC11.h2
     refine nrm_sub (l' := [(2, (ptr b1 0)), (3, (.bool (decide (x6 = a1))))]) ⟨rfl, rfl, trivial⟩ ?_
     exact ⟨x1.1, v4, x2.1, (decide (x6 = a1)), rfl, rfl, hC12⟩
    obtain ⟨x6, hr4, hr3⟩ := bind_some hr3
    refine WL_guard rfl rfl ?_
    refine WL_call Tryz.call45 rfl rfl (c_M_FormatAccess (hT.keep hC7.keep) (x1.1, x2.1) v4 ((hC7.ro 1 rfl).now (Keep.refl _ _)) x6 hr4) ?_
    intro _ w9 hv6
    obtain ⟨rfl, hB7⟩ := res_str hv6
    have hC8 := hC7.grow hB7
    refine WL_nil ?_
    refine WA_takeG 9 rfl (by kernel_rfl) (by kernel_rfl) (by kernel_rfl) rfl rfl rfl (fl_str_eql rfl rfl) ?_
    refine WL_guard rfl rfl ?_
    refine WL_str_eql rfl rfl rfl ?_
    refine WL_nil ?_
    refine WA_tk 10 (by kernel_rfl) rfl rfl (fl_pick_t rfl rfl) ?_
    refine WL_pick_t rfl rfl rfl ?_
    refine WL_nil ?_
    refine WA_one 0 (by kernel_rfl) rfl ?_
    refine WL_load_box_agg [(.int .i64 x1.1), v4] hC8 0 rfl rfl rfl Tryz.isAgg24 Tryz.sizeOf24 rfl rfl ?_
    refine WL_nil ?_
    refine WA_one 11 (by kernel_rfl) rfl ?_
    refine WL_store_box_aggK (cs' := [(.int .i64 x1.1), v4]) (new := [(.int .i64 x1.1), v4]) hC8 3 rfl rfl (by intro v hv; simp only [List.mem_cons, List.not_mem_nil, or_false] at hv; rcases hv with rfl | rfl; exact rfl; exact (ro_one (hC8.ro 1 rfl))) rfl Tryz.sizeOf24 rfl rfl (fun w10 hC9 hKp2 => ?_)
    try dsimp only [List.set] at hC9
    have hk5 := Keep.over ((hk1.then hB6).then hB7) hN1 hKp2
    refine WL_nil ?_
    refine WA_tk 12 (by kernel_rfl) rfl rfl (fl_assign rfl) ?_
    refine WL_assign rfl rfl ?_
    refine WL_nil ?_
    refine WA_done (by kernel_rfl) ?_
    have hq1 := Option.some.inj hr3
    subst hq1
    have hC10 := hC9.f3
    have hC11 := hC10.f2
    have hC12 := hC11.h2
    refine nrm_sub (l' := [(2, (ptr b1 0)), (3, (.bool (decide (x6 = a1))))]) ⟨rfl, rfl, trivial⟩ ?_
    exact ⟨x1.1, v4, x2.1, (decide (x6 = a1)), rfl, rfl, hC12⟩
   replace hr3 := ite_f hr3 hc2
   refine WA_sk 6 (by kernel_rfl) rfl rfl rfl rfl (by simp) rfl rfl ?_
   refine WA_sk 7 (by kernel_rfl) rfl rfl rfl rfl (by simp) rfl rfl ?_
   refine WA_sk 8 (by kernel_rfl) rfl rfl rfl rfl (by simp) rfl rfl ?_
   refine WA_sk 9 (by kernel_rfl) rfl rfl rfl rfl (by simp) rfl rfl ?_
   refine WA_tk 10 (by kernel_rfl) rfl rfl (fl_pick_f rfl rfl) ?_
   refine WL_pick_f rfl rfl rfl ?_
   refine WL_nil ?_
   refine WA_one 0 (by kernel_rfl) rfl ?_
   refine WL_load_box_agg [(.int .i64 x1.1), v4] hC7 0 rfl rfl rfl Tryz.isAgg24 Tryz.sizeOf24 rfl rfl ?_
   refine WL_nil ?_
   refine WA_one 11 (by kernel_rfl) rfl ?_
   refine WL_store_box_aggK (cs' := [(.int .i64 x1.1), v4]) (new := [(.int .i64 x1.1), v4]) hC7 3 rfl rfl (by intro v hv; simp only [List.mem_cons, List.not_mem_nil, or_false] at hv; rcases hv with rfl | rfl; exact rfl; exact (ro_one (hC7.ro 1 rfl))) rfl Tryz.sizeOf24 rfl rfl (fun w11 hC13 hKp3 => ?_)
   try dsimp only [List.set] at hC13
   have hk6 := Keep.over (hk1.then hB6) hN1 hKp3
   refine WL_nil ?_
   refine WA_tk 12 (by kernel_rfl) rfl rfl (fl_assign rfl) ?_
   refine WL_assign rfl rfl ?_
   refine WL_nil ?_
   refine WA_done (by kernel_rfl) ?_
   have hq2 := Option.some.inj hr3
   subst hq2
   have hC14 := hC13.f3
   have hC15 := hC14.f2
   have hC16 := hC15.h2
   refine nrm_sub (l' := [(2, (ptr b1 0)), (3, (.bool false))]) ⟨rfl, rfl, trivial⟩ ?_
   exact ⟨x1.1, v4, x2.1, false, rfl, rfl, hC16⟩
  replace hr3 := ite_f hr3 hc1
  refine WA_sk 3 (by kernel_rfl) rfl rfl rfl rfl (by simp) rfl rfl ?_
  refine WA_tk 4 (by kernel_rfl) rfl rfl (fl_pick_f rfl rfl) ?_
  refine WL_pick_f rfl rfl rfl ?_
  refine WL_nil ?_
  refine WA_tk 5 (by kernel_rfl) rfl rfl (fl_move rfl) ?_
  refine WL_move rfl rfl ?_
  refine WL_nil ?_
  refine WA_sk 6 (by kernel_rfl) rfl rfl rfl rfl (by simp) rfl rfl ?_
  refine WA_sk 7 (by kernel_rfl) rfl rfl rfl rfl (by simp) rfl rfl ?_
  refine WA_sk 8 (by kernel_rfl) rfl rfl rfl rfl (by simp) rfl rfl ?_
  refine WA_sk 9 (by kernel_rfl) rfl rfl rfl rfl (by simp) rfl rfl ?_
  refine WA_tk 10 (by kernel_rfl) rfl rfl (fl_pick_f rfl rfl) ?_
  refine WL_pick_f rfl rfl rfl ?_
  refine WL_nil ?_
  refine WA_one 0 (by kernel_rfl) rfl ?_
  refine WL_load_box_agg [(.int .i64 x1.1), v4] hC7 0 rfl rfl rfl Tryz.isAgg24 Tryz.sizeOf24 rfl rfl ?_
  refine WL_nil ?_
  refine WA_one 11 (by kernel_rfl) rfl ?_
  refine WL_store_box_aggK (cs' := [(.int .i64 x1.1), v4]) (new := [(.int .i64 x1.1), v4]) hC7 3 rfl rfl (by intro v hv; simp only [List.mem_cons, List.not_mem_nil, or_false] at hv; rcases hv with rfl | rfl; exact rfl; exact (ro_one (hC7.ro 1 rfl))) rfl Tryz.sizeOf24 rfl rfl (fun w12 hC17 hKp4 => ?_)
  try dsimp only [List.set] at hC17
  have hk7 := Keep.over (hk1.then hB6) hN1 hKp4
  refine WL_nil ?_
  refine WA_tk 12 (by kernel_rfl) rfl rfl (fl_assign rfl) ?_
  refine WL_assign rfl rfl ?_
  refine WL_nil ?_
  refine WA_done (by kernel_rfl) ?_
  have hq3 := Option.some.inj hr3
  subst hq3
  have hC18 := hC17.f3
  have hC19 := hC18.f2
  have hC20 := hC19.h2
  refine nrm_sub (l' := [(2, (ptr b1 0)), (3, (.bool false))]) ⟨rfl, rfl, trivial⟩ ?_
  exact ⟨x1.1, v4, x2.1, false, rfl, rfl, hC20⟩
 rintro _ w6 ⟨x3, v6, x4, x5, rfl, rfl, hC6⟩
 try dsimp only at hF
 refine W_ret ?_
 have hq4 := Option.some.inj hF
 subst hq4
 refine fn_retG2 rfl (rv_cell_agg (cs' := [(.int .i64 x3), v6]) hC6 (i := 1) rfl rfl rfl Tryz.isAgg24 Tryz.sizeOf24 rfl) (rv_tmp rfl) ?_
 have hC21 := hC6.triv (bool_val (x5))
 have hC23 := hC21.f1
 have hC22 := own_st24 x3 v6 x4 hC23
 exact ⟨_, rfl, res2_of hC22⟩

theorem c_M_ParseCursor {w0 : World} (hT : HasTab w0) (a1 : Str) (rr : (((Int × (List Int)) × Int × Int) × Bool)) (hF : M.ParseCursor a1 = some rr) :
 Calls Tryz.prog 6 [(sv a1)].toArray w0 fun e w' => ∃ v, e = .returned v ∧ Res2 w0 rr.1 rr.2 v w' := by
 refine calls_of_W Tryz.func6 rfl rfl ?_
 have hC0 := Ctx.start w0
 unfold M.ParseCursor at hF
 refine W_seq_reg ?_
 refine WL_allocK hC0 zero26 rfl rfl (fun b1 w1 hC1 hB1 hN1 => ?_)
 refine WL_assign rfl rfl ?_
 refine WL_nil (W_seq_reg ?_)
 refine WL_move rfl rfl ?_
 obtain ⟨x1, hr1, hF⟩ := bind_some hF
 refine WL_call Tryz.call29 rfl rfl (c_Strings_Cut (hT.keep hC1.keep) a1 (str [43]) x1 hr1) ?_
 rintro _ w2 ⟨hB2, v1, v2, v3, F1, F2, F3, rfl, hv1, hv2, hv3, hn1, hb1⟩
 obtain ⟨rfl, rfl⟩ := val_str hv1
 obtain ⟨rfl, rfl⟩ := val_str hv2
 obtain ⟨rfl, rfl⟩ := val_bool hv3
 have hC2 := hC1.grow hB2
 refine WL_move rfl rfl ?_
 refine WL_extract rfl rfl rfl ?_
 refine WL_extract rfl rfl rfl ?_
 refine WL_extract rfl rfl rfl ?_
 refine WL_assign rfl rfl ?_
 refine WL_assign rfl rfl ?_
 refine WL_assign rfl rfl ?_
 refine WL_nil (W_seq_reg ?_)
 refine WL_move rfl rfl ?_
 obtain ⟨x2, hr2, hF⟩ := bind_some hF
 refine WL_call Tryz.call29 rfl rfl (c_Strings_Cut (hT.keep hC2.keep) x1.2.1 (str [64]) x2 hr2) ?_
 rintro _ w3 ⟨hB3, v4, v5, v6, F4, F5, F6, rfl, hv4, hv5, hv6, hn2, hb2⟩
 obtain ⟨rfl, rfl⟩ := val_str hv4
 obtain ⟨rfl, rfl⟩ := val_str hv5
 obtain ⟨rfl, rfl⟩ := val_bool hv6
 have hC3 := hC2.grow hB3
 refine WL_move rfl rfl ?_
 refine WL_extract rfl rfl rfl ?_
 refine WL_extract rfl rfl rfl ?_
 refine WL_extract rfl rfl rfl ?_
 refine WL_assign rfl rfl ?_
 refine WL_assign rfl rfl ?_
 refine WL_assign rfl rfl ?_
 refine WL_nil (W_seq_reg ?_)
 refine WL_build (vs := []) rfl rfl rfl built26 ?_
 refine WL_allocK hC3 zero26 rfl rfl (fun b2 w4 hC4 hB4 hN2 => ?_)
 refine WL_store_box_aggK (cs' := [(.int .i64 0), (.slice none 0 0), (.int .i64 0), (.int .i64 0)]) (new := [(.int .i64 0), (.slice none 0 0), (.int .i64 0), (.int .i64 0)]) hC4 0 rfl rfl (by intro v hv; simp only [List.mem_cons, List.not_mem_nil, or_false] at hv; rcases hv with rfl | rfl | rfl | rfl; exact rfl; exact rfl; exact rfl; exact rfl) rfl Tryz.sizeOf26 rfl rfl (fun w5 hC5 hKp1 => ?_)
 try dsimp only [List.set] at hC5
 have hk1 := Keep.over ((((Keep.of hB1).then hB2).then hB3).then hB4) (Nat.le_trans (((Keep.of hB1).then hB2).then hB3).size hN2) hKp1
 have hk2 := Keep.over (((Keep.of hB2).then hB3).then hB4) (Nat.le_trans ((Keep.of hB2).then hB3).size hN2) hKp1
 have hk3 := Keep.over ((Keep.of hB3).then hB4) (Nat.le_trans (Keep.of hB3).size hN2) hKp1
 have hk4 := Keep.over (Keep.of hB4) hN2 hKp1
 refine WL_nil (W_seq_reg ?_)
 refine WL_move rfl rfl ?_
 obtain ⟨x3, hr3, hF⟩ := bind_some hF
 refine WL_call Tryz.call30 rfl rfl (c_M_readAccess (hT.keep hC5.keep) x1.1 x3 hr3) ?_
 rintro _ w6 ⟨hB5, v7, v8, F7, F8, rfl, hv7, hv8, hn3, hb3⟩
 obtain ⟨rfl, rfl⟩ := val_bool hv8
 have hC6 := hC5.pushL hB5 (Bs := [Item.own v7 x3.1]) (Fs := [F7]) ⟨F7, _, rfl, hv7, rfl⟩ (by simpa using hn3) (fun b h => hb3 b (by simpa using h))
 obtain ⟨v9, rfl, hC7⟩ := st24_own hC6
 refine WL_move rfl rfl ?_
 refine WL_extract rfl rfl rfl ?_
 refine WL_extract rfl rfl rfl ?_
 refine WL_allocK hC7 zero24 rfl rfl (fun b3 w7 hC8 hB6 hN3 => ?_)
 refine WL_store_box_aggK (cs' := [(.int .i64 x3.1.1), v9]) (new := [(.int .i64 x3.1.1), v9]) hC8 0 rfl rfl (by intro v hv; simp only [List.mem_cons, List.not_mem_nil, or_false] at hv; rcases hv with rfl | rfl; exact rfl; exact (ro_one (hC8.ro 1 rfl))) rfl Tryz.sizeOf24 rfl rfl (fun w9 hC9 hKp2 => ?_)
 try dsimp only [List.set] at hC9
 have hk5 := Keep.over ((hk1.then hB5).then hB6) (Nat.le_trans (hk1.then hB5).size hN3) hKp2
 have hk6 := Keep.over ((hk2.then hB5).then hB6) (Nat.le_trans (hk2.then hB5).size hN3) hKp2
 have hk7 := Keep.over ((hk3.then hB5).then hB6) (Nat.le_trans (hk3.then hB5).size hN3) hKp2
 have hk8 := Keep.over ((hk4.then hB5).then hB6) (Nat.le_trans (hk4.then hB5).size hN3) hKp2
 have hk9 := Keep.over ((Keep.of hB5).then hB6) (Nat.le_trans (Keep.of hB5).size hN3) hKp2
 have hk10 := Keep.over (Keep.of hB6) hN3 hKp2
 refine WL_assign rfl rfl ?_
 refine WL_nil (W_seq_reg ?_)
 refine WL_load_box_agg [(.int .i64 x3.1.1), v9] hC9 0 rfl rfl rfl Tryz.isAgg24 Tryz.sizeOf24 rfl rfl ?_
 refine WL_field Tryz.underlying26 rfl rfl (fun w => ⟨_, Tryz.sizeOf24 w⟩) rfl rfl ?_
 refine WL_store_box_aggK (cs' := [(.int .i64 x3.1.1), v9, (.int .i64 0), (.int .i64 0)]) (new := [(.int .i64 x3.1.1), v9]) hC9 2 rfl rfl (by intro v hv; simp only [List.mem_cons, List.not_mem_nil, or_false] at hv; rcases hv with rfl | rfl; exact rfl; exact (ro_one (hC9.ro 1 rfl))) rfl Tryz.sizeOf24 rfl rfl (fun w10 hC10 hKp3 => ?_)
 try dsimp only [List.set] at hC10
 have hk11 := Keep.over hk5 (Nat.le_trans (((Keep.of hB1).then hB2).then hB3).size hN2) hKp3
 have hk12 := Keep.over hk6 (Nat.le_trans ((Keep.of hB2).then hB3).size hN2) hKp3
 have hk13 := Keep.over hk7 (Nat.le_trans (Keep.of hB3).size hN2) hKp3
 have hk14 := Keep.over hk8 hN2 hKp3
 refine WL_nil (W_seq_reg ?_)
 refine WL_assign rfl rfl ?_
 refine WL_assign rfl rfl ?_
 refine WL_nil (W_seq_reg ?_)
 refine WL_move rfl rfl ?_
 obtain ⟨x4, hr4, hF⟩ := bind_some hF
 refine WL_call Tryz.call31 rfl rfl (c_M_ParseInt (hT.keep hC10.keep) x2.1 x4 hr4) ?_
 rintro _ w11 ⟨hB7, v10, v11, F9, F10, rfl, hv9, hv10, hn4, hb4⟩
 obtain ⟨rfl, rfl⟩ := val_int hv9
 obtain ⟨rfl, rfl⟩ := val_bool hv10
 have hC11 := hC10.grow hB7
 refine WL_move rfl rfl ?_
 refine WL_extract rfl rfl rfl ?_
 refine WL_extract rfl rfl rfl ?_
 refine WL_field Tryz.underlying26 rfl rfl (fun w => ⟨_, Tryz.sizeOf3 w⟩) rfl rfl ?_
 refine WL_store_boxK (cs' := [(.int .i64 x3.1.1), v9, (.int .i64 x4.1), (.int .i64 0)]) hC11 2 rfl rfl rfl rfl Tryz.sizeOf3 rfl rfl (fun w12 hC12 hKp4 => ?_)
 try dsimp only [List.set] at hC12
 have hk15 := Keep.over (hk11.then hB7) (Nat.le_trans (((Keep.of hB1).then hB2).then hB3).size hN2) hKp4
 have hk16 := Keep.over (hk12.then hB7) (Nat.le_trans ((Keep.of hB2).then hB3).size hN2) hKp4
 have hk17 := Keep.over (hk13.then hB7) (Nat.le_trans (Keep.of hB3).size hN2) hKp4
 have hk18 := Keep.over (hk14.then hB7) hN2 hKp4
 refine WL_assign rfl rfl ?_
 refine WL_nil (W_seq_reg ?_)
 refine WL_move rfl rfl ?_
 obtain ⟨x5, hr5, hF⟩ := bind_some hF
 refine WL_call Tryz.call31 rfl rfl (c_M_ParseInt (hT.keep hC12.keep) x2.2.1 x5 hr5) ?_
 rintro _ w13 ⟨hB8, v12, v13, F11, F12, rfl, hv11, hv12, hn5, hb5⟩
 obtain ⟨rfl, rfl⟩ := val_int hv11
 obtain ⟨rfl, rfl⟩ := val_bool hv12
 have hC13 := hC12.grow hB8
 refine WL_move rfl rfl ?_
 refine WL_extract rfl rfl rfl ?_
 refine WL_extract rfl rfl rfl ?_
 refine WL_field Tryz.underlying26 rfl rfl (fun w => ⟨_, Tryz.sizeOf3 w⟩) rfl rfl ?_
 refine WL_store_boxK (cs' := [(.int .i64 x3.1.1), v9, (.int .i64 x4.1), (.int .i64 x5.1)]) hC13 2 rfl rfl rfl rfl Tryz.sizeOf3 rfl rfl (fun w14 hC14 hKp5 => ?_)
 try dsimp only [List.set] at hC14
 have hk19 := Keep.over (hk15.then hB8) (Nat.le_trans (((Keep.of hB1).then hB2).then hB3).size hN2) hKp5
 have hk20 := Keep.over (hk16.then hB8) (Nat.le_trans ((Keep.of hB2).then hB3).size hN2) hKp5
 have hk21 := Keep.over (hk17.then hB8) (Nat.le_trans (Keep.of hB3).size hN2) hKp5
 have hk22 := Keep.over (hk18.then hB8) hN2 hKp5
 refine WL_assign rfl rfl ?_
 refine WL_nil (W_seq ?_)
 obtain ⟨r1, hr6, hF⟩ := bind_some hF
 refine W_cut (fun l w => ∃ x6 : Bool, x6 = r1 ∧ l = [(2, (ptr b1 0)), (10, (ptr b2 0)), (62, (.bool x6))] ∧ Below w14.heap.size w14 w ∧ Ctx [] w0 w [Item.own v9 (x3.1.2 : (List Int)), Item.box b2 [(.int .i64 x3.1.1), v9, (.int .i64 x4.1), (.int .i64 x5.1)], Item.box b1 [(.int .i64 0), (.slice none 0 0), (.int .i64 0), (.int .i64 0)]]) ?_ ?_
 ·refine W_reg ?_
  refine WL_move rfl rfl ?_
  refine WL_not rfl rfl ?_
  refine WL_move rfl rfl ?_
  refine WL_fork (fun hc1 => ?_) (fun hc1 => ?_)
  ·replace hr6 := ite_t hr6 hc1
   refine WL_guard_skip rfl rfl (by simp) rfl ?_
   refine WL_guard_skip rfl rfl (by simp) rfl ?_
   refine WL_pick_t rfl rfl rfl ?_
   refine WL_move rfl rfl ?_
   refine WL_guard_skip rfl rfl (by simp) rfl ?_
   refine WL_guard_skip rfl rfl (by simp) rfl ?_
   refine WL_pick_t rfl rfl rfl ?_
   refine WL_move rfl rfl ?_
   refine WL_guard_skip rfl rfl (by simp) rfl ?_
   refine WL_guard_skip rfl rfl (by simp) rfl ?_
   refine WL_guard_skip rfl rfl (by simp) rfl ?_
   refine WL_guard_skip rfl rfl (by simp) rfl ?_
   refine WL_pick_t rfl rfl rfl ?_
   refine WL_nil ?_
   have hq1 := Option.some.inj hr6
   subst hq1
   have hC16 := hC14.f3
   have hC17 := hC16.f3
   have hC18 := hC17.f3
   have hC19 := hC18.h3
   refine nrm_sub (l' := [(2, (ptr b1 0)), (10, (ptr b2 0)), (62, (.bool true))]) ⟨rfl, rfl, rfl, trivial⟩ ?_
   exact ⟨true, rfl, rfl, (Below.refl _ _), hC19⟩
  replace hr6 := ite_f hr6 hc1
  refine WL_guard rfl rfl ?_
  refine WL_move rfl rfl ?_
  refine WL_guard rfl rfl ?_
  refine WL_not rfl rfl ?_
  refine WL_pick_f rfl rfl rfl ?_
  refine WL_move rfl rfl ?_
  refine WL_fork (fun hc2 => ?_) (fun hc2 => ?_)
  ·replace hr6 := ite_t hr6 hc2
   refine WL_guard_skip rfl rfl (by simp) rfl ?_
   refine WL_guard_skip rfl rfl (by simp) rfl ?_
   refine WL_pick_t rfl rfl rfl ?_
   refine WL_move rfl rfl ?_
   refine WL_guard_skip rfl rfl (by simp) rfl ?_
   refine WL_guard_skip rfl rfl (by simp) rfl ?_
   refine WL_guard_skip rfl rfl (by simp) rfl ?_
   refine WL_guard_skip rfl rfl (by simp) rfl ?_
   refine WL_pick_t rfl rfl rfl ?_
   refine WL_nil ?_
   have hq2 := Option.some.inj hr6
   subst hq2
   have hC20 := hC14.f3
   have hC21 := hC20.f3
   have hC22 := hC21.f3
   have hC23 := hC22.h3
   refine nrm_sub (l' := [(2, (ptr b1 0)), (10, (ptr b2 0)), (62, (.bool true))]) ⟨rfl, rfl, rfl, trivial⟩ ?_
   exact ⟨true, rfl, rfl, (Below.refl _ _), hC23⟩
  replace hr6 := ite_f hr6 hc2
  refine WL_guard rfl rfl ?_
  refine WL_move rfl rfl ?_
  refine WL_guard rfl rfl ?_
  refine WL_not rfl rfl ?_
  refine WL_pick_f rfl rfl rfl ?_
  refine WL_move rfl rfl ?_
  refine WL_fork (fun hc3 => ?_) (fun hc3 => ?_)
  ·replace hr6 := ite_t hr6 hc3
   refine WL_guard_skip rfl rfl (by simp) rfl ?_
   refine WL_guard_skip rfl rfl (by simp) rfl ?_
   refine WL_guard_skip rfl rfl (by simp) rfl ?_
   refine WL_guard_skip rfl rfl (by simp) rfl ?_
   refine WL_pick_t rfl rfl rfl ?_
   refine WL_nil ?_
   have hq3 := Option.some.inj hr6
   subst hq3
   have hC24 := hC14.f3
   have hC25 := hC24.f3
   have hC26 := hC25.f3
   have hC27 := hC26.h3
   refine nrm_sub (l' := [(2, (ptr b1 0)), (10, (ptr b2 0)), (62, (.bool true))]) ⟨rfl, rfl, rfl, trivial⟩ ?_
   exact ⟨true, rfl, rfl, (Below.refl _ _), hC27⟩
  replace hr6 := ite_f hr6 hc3
  refine WL_guard rfl rfl ?_
  refine WL_load_box_agg [(.int .i64 x3.1.1), v9, (.int .i64 x4.1), (.int .i64 x5.1)] hC14 2 rfl rfl rfl Tryz.isAgg26 Tryz.sizeOf26 rfl rfl ?_
  obtain ⟨x7, hr7, hr6⟩ := bind_some hr6
  refine WL_guard rfl rfl ?_
  refine WL_call Tryz.call22 rfl rfl (c_M_FormatCursor (hT.keep hC14.keep) ((x3.1.1, x3.1.2), x4.1, x5.1) v9 ((hC14.ro 1 rfl).now (Keep.refl _ _)) x7 hr7) ?_
  intro _ w16 hv13
  obtain ⟨rfl, hB10⟩ := res_str hv13
  have hC28 := hC14.grow hB10
  refine WL_guard rfl rfl ?_
  refine WL_move rfl rfl ?_
  refine WL_guard rfl rfl ?_
  refine WL_str_neq rfl rfl rfl ?_
  refine WL_pick_f rfl rfl rfl ?_
  refine WL_nil ?_
  have hq4 := Option.some.inj hr6
  subst hq4
  have hC29 := hC28.f3
  have hC30 := hC29.f3
  have hC31 := hC30.f3
  have hC32 := hC31.h3
  refine nrm_sub (l' := [(2, (ptr b1 0)), (10, (ptr b2 0)), (62, (.bool (!decide (x7 = a1))))]) ⟨rfl, rfl, rfl, trivial⟩ ?_
  exact ⟨(!decide (x7 = a1)), rfl, rfl, (Keep.of hB10).below, hC32⟩
 rintro _ w15 ⟨x6, rfl, rfl, hB9, hC15⟩
 try dsimp only at hF
 refine W_cond rfl (fun hc4 => ?_) (fun hc4 => ?_)
 ·replace hF := ite_t hF hc4
  refine W_seq_reg ?_
  refine WL_build (vs := []) rfl rfl rfl built26 ?_
  refine WL_store_box_aggK (cs' := [(.int .i64 0), (.slice none 0 0), (.int .i64 0), (.int .i64 0)]) (new := [(.int .i64 0), (.slice none 0 0), (.int .i64 0), (.int .i64 0)]) hC15 2 rfl rfl (by intro v hv; simp only [List.mem_cons, List.not_mem_nil, or_false] at hv; rcases hv with rfl | rfl | rfl | rfl; exact rfl; exact rfl; exact rfl; exact rfl) rfl Tryz.sizeOf26 rfl rfl (fun w17 hC33 hKp6 => ?_)
  try dsimp only [List.set] at hC33
  have hk23 := Keep.over (hk19.then hB9) hN1 hKp6
  refine WL_assign rfl rfl ?_
  refine WL_nil (W_ret (nrm_ret ?_))
  have hq5 := Option.some.inj hF
  subst hq5
  refine fn_retG2 rfl (rv_cell_agg (cs' := [(.int .i64 0), (.slice none 0 0), (.int .i64 0), (.int .i64 0)]) hC33 (i := 2) rfl rfl rfl Tryz.isAgg26 Tryz.sizeOf26 rfl) (rv_tmp rfl) ?_
  have hC34 := hC33.triv (bool_val (false))
  have hC36 := hC34.triv (nil_val (α := Int))
  have hC35 := own_st26 0 (.slice none 0 0) ([]) 0 0 hC36
  exact ⟨_, rfl, res2_of hC35⟩
 replace hF := ite_f hF hc4
 refine W_skip (nrm_normal (W_seq_reg ?_))
 refine WL_load_box_agg [(.int .i64 x3.1.1), v9, (.int .i64 x4.1), (.int .i64 x5.1)] hC15 1 rfl rfl rfl Tryz.isAgg26 Tryz.sizeOf26 rfl rfl ?_
 refine WL_store_box_aggK (cs' := [(.int .i64 x3.1.1), v9, (.int .i64 x4.1), (.int .i64 x5.1)]) (new := [(.int .i64 x3.1.1), v9, (.int .i64 x4.1), (.int .i64 x5.1)]) hC15 2 rfl rfl (by intro v hv; simp only [List.mem_cons, List.not_mem_nil, or_false] at hv; rcases hv with rfl | rfl | rfl | rfl; exact rfl; exact (ro_one (hC15.ro 0 rfl)); exact rfl; exact rfl) rfl Tryz.sizeOf26 rfl rfl (fun w18 hC37 hKp7 => ?_)
 try dsimp only [List.set] at hC37
 have hk24 := Keep.over (hk19.then hB9) hN1 hKp7
 refine WL_assign rfl rfl ?_
 refine WL_nil (W_ret ?_)
 have hq6 := Option.some.inj hF
 subst hq6
 refine fn_retG2 rfl (rv_cell_agg (cs' := [(.int .i64 x3.1.1), v9, (.int .i64 x4.1), (.int .i64 x5.1)]) hC37 (i := 2) rfl rfl rfl Tryz.isAgg26 Tryz.sizeOf26 rfl) (rv_tmp rfl) ?_
 have hC38 := hC37.triv (bool_val (true))
 have hC40 := hC38.f1
 have hC39 := own_st26 x3.1.1 v9 x3.1.2 x4.1 x5.1 hC40
 exact ⟨_, rfl, res2_of hC39⟩

theorem c_Q_big {w0 : World} (a1 : (List UInt8)) (u1 : Value) (g1 : RO [] w0 u1 a1) (rr : Bool) (hF : Q.big a1 = some rr) :
 Calls Tryz.prog 10 [u1].toArray w0 fun e w' => ∃ v, e = .returned v ∧ Res w0 rr v w' := by
 refine calls_of_W Tryz.func10 rfl rfl ?_
 have hC0 := Ctx.start w0
 unfold Q.big at hF
 refine W_seq_reg ?_
 refine WL_assign rfl rfl ?_
 refine WL_nil (W_seq_reg ?_)
 refine WL_move rfl rfl ?_
 refine WL_len Tryz.underlying32 g1 rfl rfl ?_
 refine WL_gtr rfl rfl rfl ?_
 refine WL_assign rfl rfl ?_
 refine WL_nil (W_ret ?_)
 have hq1 := Option.some.inj hF
 subst hq1
 refine fn_ret1 rfl rfl ?_
 exact ⟨_, rfl, bool_res hC0 _⟩

theorem c_S_l1New {w0 : World} (a1 : (List UInt8)) (u1 : Value) (g1 : RO [] w0 u1 a1) (rr : ((List UInt8) × Int × Int)) (hF : S.l1New a1 = some rr) :
 Calls Tryz.prog 35 [u1].toArray w0 fun e w' => ∃ v, e = .returned v ∧ ∃ q0 : Nat, v = (ptr q0 0) ∧ Ctx [] w0 w' [Item.box q0 [u1, (.int .i64 rr.2.1), (.int .i64 rr.2.2)]] := by
 refine calls_of_W Tryz.func35 rfl rfl ?_
 have hC0 := Ctx.start w0
 unfold S.l1New at hF
 refine W_seq_reg ?_
 refine WL_assign rfl rfl ?_
 refine WL_nil (W_seq_reg ?_)
 refine WL_move rfl rfl ?_
 refine WL_len Tryz.underlying32 g1 rfl rfl ?_
 refine WL_add rfl rfl rfl ?_
 refine WL_assign rfl rfl ?_
 refine WL_nil (W_seq (W_seq_reg ?_))
 refine WL_assign rfl rfl ?_
 refine WL_nil ?_
 obtain ⟨r1, hr1, hF⟩ := bind_some hF
 refine W_norm (fun l w => ∃ x3 : Int, x3 = r1 ∧ l = [(0, u1), (3, (.int .i64 x3))] ∧ Below w0.heap.size w0 w ∧ Ctx [] w0 w []) ?_ ?_
 ·refine W_block ?_
  refine W.sub (l' := [(0, u1), (3, (.int .i64 (w64 (10101 + (List.length a1 : Int))))), (4, (.int .i64 0))]) ?_ ⟨rfl, rfl, rfl, trivial⟩
  refine W_loop (fun k l w => ∃ x1 : Int, ∃ x2 : Int, l = [(0, u1), (3, (.int .i64 x1)), (4, (.int .i64 x2))] ∧ Below w0.heap.size w0 w ∧ Ctx [] w0 w [] ∧ S.l1New_l1 a1 k x1 x2 = some r1) FUEL ⟨w64 (10101 + (List.length a1 : Int)), 0, rfl, (Below.refl _ _), hC0, hr1⟩ ?_
  clear hr1
  rintro k1 _ w1 ⟨x1, x2, rfl, hB1, hC1, hL1⟩
  cases k1 with
  | zero => rw [S.l1New_l1] at hL1; cases hL1
  | succ k1 =>
   rw [S.l1New_l1] at hL1
   refine W_seq ?_
   obtain ⟨r2, hr2, hL1⟩ := bind_some hL1
   refine W_cut (fun l w => ∃ x4 : Bool, x4 = r2 ∧ l = [(0, u1), (3, (.int .i64 x1)), (4, (.int .i64 x2)), (15, (.bool x4))] ∧ Below w1.heap.size w1 w ∧ Ctx [] w0 w []) ?_ ?_
   ·refine W_reg ?_
    refine WL_move rfl rfl ?_
    refine WL_move rfl rfl ?_
    refine WL_len Tryz.underlying32 g1 rfl rfl ?_
    refine WL_lss rfl rfl rfl ?_
    refine WL_move rfl rfl ?_
    refine WL_fork (fun hc1 => ?_) (fun hc1 => ?_)
    ·replace hr2 := ite_t hr2 hc1
     refine WL_guard rfl rfl ?_
     refine WL_move rfl rfl ?_
     refine WL_guard rfl rfl ?_
     refine WL_lss rfl rfl rfl ?_
     refine WL_pick_t rfl rfl rfl ?_
     refine WL_nil ?_
     have hq1 := Option.some.inj hr2
     subst hq1
     refine nrm_sub (l' := [(0, u1), (3, (.int .i64 x1)), (4, (.int .i64 x2)), (15, (.bool (decide (x2 < 4000))))]) ⟨rfl, rfl, rfl, rfl, trivial⟩ ?_
     exact ⟨(decide (x2 < 4000)), rfl, rfl, (Below.refl _ _), hC1⟩
    replace hr2 := ite_f hr2 hc1
    refine WL_guard_skip rfl rfl (by simp) rfl ?_
    refine WL_guard_skip rfl rfl (by simp) rfl ?_
    refine WL_pick_f rfl rfl rfl ?_
    refine WL_nil ?_
    have hq2 := Option.some.inj hr2
    subst hq2
    refine nrm_sub (l' := [(0, u1), (3, (.int .i64 x1)), (4, (.int .i64 x2)), (15, (.bool false))]) ⟨rfl, rfl, rfl, rfl, trivial⟩ ?_
    exact ⟨false, rfl, rfl, (Below.refl _ _), hC1⟩
   rintro _ w2 ⟨x4, rfl, rfl, hB2, hC2⟩
   try dsimp only at hL1
   refine W_cond rfl (fun hc2 => ?_) (fun hc2 => ?_)
   ·replace hL1 := ite_t hL1 hc2
    refine W_skip (nrm_normal (W_seq (W_block (W_reg ?_))))
    refine WL_move rfl rfl ?_
    refine WL_mul rfl rfl rfl ?_
    refine WL_move rfl rfl ?_
    refine WL_move rfl rfl ?_
    obtain ⟨x5, hx1, hL1⟩ := bind_some hL1
    refine WL_index Tryz.underlying32 ty5 g1 hx1 rfl rfl rfl (fun b1 o1 h1 => ?_)
    refine WL_load ty5 h1 hC2.keep rfl rfl (fun v1 h2 => ?_)
    obtain rfl := ro_u8 h2
    refine WL_conv_i64 Tryz.underlying5 Tryz.underlying3 rfl rfl ?_
    refine WL_add rfl rfl rfl ?_
    refine WL_add rfl rfl rfl ?_
    refine WL_band rfl rfl rfl ?_
    refine WL_assign rfl rfl ?_
    refine WL_nil (blk_normal (nrm_normal (W_reg ?_)))
    refine WL_move rfl rfl ?_
    refine WL_add rfl rfl rfl ?_
    refine WL_assign rfl rfl ?_
    refine WL_nil ?_
    refine nrm_sub (l' := [(0, u1), (3, (.int .i64 (band (w64 ((w64 ((w64 (x1 * 131)) + (w64 (UInt8.toNat x5 : Int)))) + 7)) 1073741823))), (4, (.int .i64 (w64 (x2 + 1))))]) ⟨rfl, rfl, rfl, trivial⟩ ?_
    exact ⟨k1, Nat.lt_succ_self _, band (w64 ((w64 ((w64 (x1 * 131)) + (w64 (UInt8.toNat x5 : Int)))) + 7)) 1073741823, w64 (x2 + 1), rfl, ((Keep.of hB1).then hB2).below, hC2, hL1⟩
   replace hL1 := ite_f hL1 hc2
   refine W_exit (nrm_exit (nrm_exit (blk_exit ?_)))
   have hq3 := Option.some.inj hL1
   subst hq3
   refine nrm_sub (l' := [(0, u1), (3, (.int .i64 x1))]) ⟨rfl, rfl, trivial⟩ ?_
   exact ⟨x1, rfl, rfl, ((Keep.of hB1).then hB2).below, hC2⟩
 rintro l3 _ w3 hs3 ⟨x3, rfl, rfl, hB3, hC3⟩
 try dsimp only at hF
 refine nrm_sub' hs3 ?_
 clear hs3
 refine W_seq_reg ?_
 refine WL_move rfl rfl ?_
 refine WL_move rfl rfl ?_
 refine WL_build (vs := [(0, u1), (2, (.int .i64 x3))]) rfl rfl rfl (built89_0_2 (ro_cells g1) rfl) ?_
 refine WL_boxK (cs := [u1, (.int .i64 0), (.int .i64 x3)]) hC3 rfl rfl rfl (fun b2 w4 hC4 hB4 hN1 => ?_)
 refine WL_assign rfl rfl ?_
 refine WL_nil (W_ret ?_)
 have hq4 := Option.some.inj hF
 subst hq4
 refine fn_ret1 rfl rfl ?_
 exact ⟨_, rfl, _, rfl, hC4⟩

theorem c_S_l1Byte {w0 : World} {Fs : List (List Nat)} (pb1 : Nat) (a1 : ((List UInt8) × Int × Int)) (u1 : Value) (g1 : RO Fs.flatten w0 u1 a1.1) (hH : Hold [Item.box pb1 [u1, (.int .i64 a1.2.1), (.int .i64 a1.2.2)]] w0 Fs) (hn : Fs.flatten.Nodup) (rr : (Int × ((List UInt8) × Int × Int))) (hF : S.l1Byte a1 = some rr) :
 Calls Tryz.prog 61 [(ptr pb1 0)].toArray w0 fun e w' => ∃ v, e = .returned v ∧ v = (.int .i64 rr.1) ∧ Ctx Fs.flatten w0 w' [Item.box pb1 [u1, (.int .i64 rr.2.2.1), (.int .i64 rr.2.2.2)]] := by
 refine calls_of_W Tryz.func61 rfl rfl ?_
 have hC0 := Ctx.startIn hH hn
 unfold S.l1Byte at hF
 refine W_seq_reg ?_
 refine WL_assign rfl rfl ?_
 refine WL_nil (W_seq_reg ?_)
 refine WL_move rfl rfl ?_
 refine WL_move rfl rfl ?_
 refine WL_nilCheck rfl rfl ?_
 refine WL_field Tryz.underlying89 rfl rfl (fun w => ⟨_, Tryz.sizeOf3 w⟩) rfl rfl ?_
 refine WL_load_box hC0 0 rfl rfl Tryz.isAgg3 rfl rfl ?_
 refine WL_mul rfl rfl rfl ?_
 refine WL_add rfl rfl rfl ?_
 refine WL_nilCheck rfl rfl ?_
 refine WL_field Tryz.underlying89 rfl rfl (fun w => ⟨_, Tryz.sizeOf3 w⟩) rfl rfl ?_
 refine WL_store_boxK (cs' := [u1, (.int .i64 a1.2.1), (.int .i64 (w64 ((w64 (a1.2.2 * 6364136223846793005)) + 1442695040888963407)))]) hC0 0 rfl rfl rfl rfl Tryz.sizeOf3 rfl rfl (fun w1 hC1 hKp1 => ?_)
 try dsimp only [List.set] at hC1
 refine WL_nil (W_seq ?_)
 refine W_drawn 13 rfl hmix (fun w2 hB1 => ?_)
 have hC2 := hC1.grow hB1
 refine WA_tk 0 (by kernel_rfl) rfl rfl (fl_move rfl) ?_
 refine WL_move rfl rfl ?_
 refine WL_nil ?_
 refine WA_tk 1 (by kernel_rfl) rfl rfl (fl_nilCheck rfl) ?_
 refine WL_nilCheck rfl rfl ?_
 refine WL_nil ?_
 refine WA_tk 2 (by kernel_rfl) rfl rfl (fl_field Tryz.underlying89 rfl rfl (fun w => ⟨_, Tryz.sizeOf3 w⟩) rfl) ?_
 refine WL_field Tryz.underlying89 rfl rfl (fun w => ⟨_, Tryz.sizeOf3 w⟩) rfl rfl ?_
 refine WL_nil ?_
 refine WA_tk 5 (by kernel_rfl) rfl rfl (fl_move rfl) ?_
 refine WL_move rfl rfl ?_
 refine WL_nil ?_
 refine WA_tk 6 (by kernel_rfl) rfl rfl (fl_nilCheck rfl) ?_
 refine WL_nilCheck rfl rfl ?_
 refine WL_nil ?_
 refine WA_tk 7 (by kernel_rfl) rfl rfl (fl_field Tryz.underlying89 rfl rfl (fun w => ⟨_, Tryz.sizeOf3 w⟩) rfl) ?_
 refine WL_field Tryz.underlying89 rfl rfl (fun w => ⟨_, Tryz.sizeOf3 w⟩) rfl rfl ?_
 refine WL_nil ?_
 refine WA.sub (l' := [(0, (ptr pb1 0)), (2, (.int .i64 0)), (4, (ptr pb1 0)), (5, (ptr pb1 0)), (6, (ptr pb1 0)), (7, (ptr pb1 2)), (8, (.int .i64 a1.2.2)), (9, (.int .i64 (w64 (a1.2.2 * 6364136223846793005)))), (10, (.int .i64 (w64 ((w64 (a1.2.2 * 6364136223846793005)) + 1442695040888963407)))), (11, (ptr pb1 0)), (12, (ptr pb1 2)), (13, (ptr pb1 0)), (14, (ptr pb1 0)), (15, (ptr pb1 2)), (18, (ptr pb1 0)), (19, (ptr pb1 0)), (20, (ptr pb1 2))]) ?_ ⟨rfl, rfl, rfl, rfl, rfl, rfl, rfl, rfl, rfl, rfl, rfl, rfl, rfl, rfl, rfl, rfl, rfl, trivial⟩
 refine WA_postsE [⟨3, [], fun vs => PW.val (.int .i64 (w64 ((w64 (a1.2.2 * 6364136223846793005)) + 1442695040888963407))), []⟩, ⟨4, [], fun vs => PW.val (.int .i64 (shr (w64 ((w64 (a1.2.2 * 6364136223846793005)) + 1442695040888963407)) 33)), []⟩, ⟨8, [], fun vs => PW.val (.int .i64 (w64 ((w64 (a1.2.2 * 6364136223846793005)) + 1442695040888963407))), []⟩, ⟨9, [], fun vs => PW.val (.int .i64 (shr (w64 ((w64 (a1.2.2 * 6364136223846793005)) + 1442695040888963407)) 45)), []⟩] [[], [3], [], [8]] 3 rfl (by kernel_rfl) (by kernel_rfl) rfl ?_ ?_
 ·refine StepsE_cons rfl ?_ ?_
  ·intro w3 hB2
   refine DepsE_nil ?_
   refine ⟨_, rfl, ?_⟩
   refine WL_load_box (hC2.grow hB2) 0 rfl rfl Tryz.isAgg3 rfl rfl ?_
   refine WL_nil ?_
   exact FinE_val (Below.refl _ _) rfl rfl ⟨rfl, rfl⟩
  refine StepsE_cons rfl ?_ ?_
  ·intro w3 hB2
   refine DepsE_cons rfl rfl rfl ?_
   rintro _ _ ⟨rfl, rfl⟩ _
   refine DepsE_nil ?_
   refine ⟨_, rfl, ?_⟩
   refine WL_shr (by decide) rfl rfl rfl ?_
   refine WL_nil ?_
   exact FinE_val (Below.refl _ _) rfl rfl ⟨rfl, rfl⟩
  refine StepsE_cons rfl ?_ ?_
  ·intro w3 hB2
   refine DepsE_nil ?_
   refine ⟨_, rfl, ?_⟩
   refine WL_load_box (hC2.grow hB2) 0 rfl rfl Tryz.isAgg3 rfl rfl ?_
   refine WL_nil ?_
   exact FinE_val (Below.refl _ _) rfl rfl ⟨rfl, rfl⟩
  refine StepsE_cons rfl ?_ ?_
  ·intro w3 hB2
   refine DepsE_cons rfl rfl rfl ?_
   rintro _ _ ⟨rfl, rfl⟩ _
   refine DepsE_nil ?_
   refine ⟨_, rfl, ?_⟩
   refine WL_shr (by decide) rfl rfl rfl ?_
   refine WL_nil ?_
   exact FinE_val (Below.refl _ _) rfl rfl ⟨rfl, rfl⟩
  exact StepsE_nil
 intro w4 hB3
 refine AllE_cons rfl rfl rfl ?_
 rintro _ _ ⟨rfl, rfl⟩
 refine AllE_cons rfl rfl rfl ?_
 rintro _ _ ⟨rfl, rfl⟩
 refine AllE_cons rfl rfl rfl ?_
 rintro _ _ ⟨rfl, rfl⟩
 refine AllE_cons rfl rfl rfl ?_
 rintro _ _ ⟨rfl, rfl⟩
 refine AllE_nil ?_
 intro hn1 hb1
 have hC3 := hC2.grow hB3
 refine WA_tk 10 (by kernel_rfl) rfl rfl (fl_bxor rfl rfl) ?_
 refine WL_bxor rfl rfl rfl ?_
 refine WL_nil ?_
 refine WA_tk 11 (by kernel_rfl) rfl rfl (fl_band rfl rfl) ?_
 refine WL_band rfl rfl rfl ?_
 refine WL_nil ?_
 refine WA_tk 12 (by kernel_rfl) rfl rfl (fl_assign rfl) ?_
 refine WL_assign rfl rfl ?_
 refine WL_nil ?_
 refine WA_done (by kernel_rfl) ?_
 refine nrm_normal (W_seq (W_seq ?_))
 refine W_drawn 10 rfl hmix (fun w5 hB4 => ?_)
 have hC4 := hC3.grow hB4
 refine WA_tk 0 (by kernel_rfl) rfl rfl (fl_move rfl) ?_
 refine WL_move rfl rfl ?_
 refine WL_nil ?_
 refine WA_tk 1 (by kernel_rfl) rfl rfl (fl_nilCheck rfl) ?_
 refine WL_nilCheck rfl rfl ?_
 refine WL_nil ?_
 refine WA_tk 2 (by kernel_rfl) rfl rfl (fl_field Tryz.underlying89 rfl rfl (fun w => ⟨_, Tryz.sizeOf3 w⟩) rfl) ?_
 refine WL_field Tryz.underlying89 rfl rfl (fun w => ⟨_, Tryz.sizeOf3 w⟩) rfl rfl ?_
 refine WL_nil ?_
 refine WA_tk 4 (by kernel_rfl) rfl rfl (fl_move rfl) ?_
 refine WL_move rfl rfl ?_
 refine WL_nil ?_
 refine WA_tk 5 (by kernel_rfl) rfl rfl (fl_nilCheck rfl) ?_
 refine WL_nilCheck rfl rfl ?_
 refine WL_nil ?_
 refine WA_tk 6 (by kernel_rfl) rfl rfl (fl_field Tryz.underlying89 rfl rfl (fun w => ⟨_, Tryz.sizeOf32 w⟩) rfl) ?_
 refine WL_field Tryz.underlying89 rfl rfl (fun w => ⟨_, Tryz.sizeOf32 w⟩) rfl rfl ?_
 refine WL_nil ?_
 refine WA.sub (l' := [(0, (ptr pb1 0)), (2, (.int .i64 0)), (3, (.int .i64 (band (bxor (shr (w64 ((w64 (a1.2.2 * 6364136223846793005)) + 1442695040888963407)) 33) (shr (w64 ((w64 (a1.2.2 * 6364136223846793005)) + 1442695040888963407)) 45)) 255))), (4, (ptr pb1 0)), (5, (ptr pb1 0)), (6, (ptr pb1 0)), (7, (ptr pb1 2)), (8, (.int .i64 a1.2.2)), (9, (.int .i64 (w64 (a1.2.2 * 6364136223846793005)))), (10, (.int .i64 (w64 ((w64 (a1.2.2 * 6364136223846793005)) + 1442695040888963407)))), (11, (ptr pb1 0)), (12, (ptr pb1 2)), (13, (ptr pb1 0)), (14, (ptr pb1 0)), (15, (ptr pb1 2)), (16, (.int .i64 (w64 ((w64 (a1.2.2 * 6364136223846793005)) + 1442695040888963407)))), (17, (.int .i64 (shr (w64 ((w64 (a1.2.2 * 6364136223846793005)) + 1442695040888963407)) 33))), (18, (ptr pb1 0)), (19, (ptr pb1 0)), (20, (ptr pb1 2)), (21, (.int .i64 (w64 ((w64 (a1.2.2 * 6364136223846793005)) + 1442695040888963407)))), (22, (.int .i64 (shr (w64 ((w64 (a1.2.2 * 6364136223846793005)) + 1442695040888963407)) 45))), (23, (.int .i64 (bxor (shr (w64 ((w64 (a1.2.2 * 6364136223846793005)) + 1442695040888963407)) 33) (shr (w64 ((w64 (a1.2.2 * 6364136223846793005)) + 1442695040888963407)) 45)))), (24, (.int .i64 (band (bxor (shr (w64 ((w64 (a1.2.2 * 6364136223846793005)) + 1442695040888963407)) 33) (shr (w64 ((w64 (a1.2.2 * 6364136223846793005)) + 1442695040888963407)) 45)) 255))), (25, (ptr pb1 0)), (26, (ptr pb1 0)), (27, (ptr pb1 1)), (29, (ptr pb1 0)), (30, (ptr pb1 0)), (31, (ptr pb1 0))]) ?_ ⟨rfl, rfl, rfl, rfl, rfl, rfl, rfl, rfl, rfl, rfl, rfl, rfl, rfl, rfl, rfl, rfl, rfl, rfl, rfl, rfl, rfl, rfl, rfl, rfl, rfl, rfl, rfl, rfl, rfl, rfl, trivial⟩
 refine WA_postsE [⟨3, [], fun vs => PW.val (.int .i64 a1.2.1), []⟩, ⟨7, [], fun vs => PW.val u1, []⟩, ⟨8, [], fun vs => PW.val (.int .i64 (List.length a1.1 : Int)), []⟩] [[], [], [7]] 1 rfl (by kernel_rfl) (by kernel_rfl) rfl ?_ ?_
 ·refine StepsE_cons rfl ?_ ?_
  ·intro w6 hB5
   refine DepsE_nil ?_
   refine ⟨_, rfl, ?_⟩
   refine WL_load_box (hC4.grow hB5) 0 rfl rfl Tryz.isAgg3 rfl rfl ?_
   refine WL_nil ?_
   exact FinE_val (Below.refl _ _) rfl rfl ⟨rfl, rfl⟩
  refine StepsE_cons rfl ?_ ?_
  ·intro w6 hB5
   refine DepsE_nil ?_
   refine ⟨_, rfl, ?_⟩
   refine WL_load_box (hC4.grow hB5) 0 rfl rfl Tryz.isAgg32 rfl rfl ?_
   refine WL_nil ?_
   exact FinE_val (Below.refl _ _) rfl rfl ⟨rfl, rfl⟩
  refine StepsE_cons rfl ?_ ?_
  ·intro w6 hB5
   refine DepsE_cons rfl rfl rfl ?_
   rintro _ _ ⟨rfl, rfl⟩ _
   refine DepsE_nil ?_
   refine ⟨_, rfl, ?_⟩
   refine WL_len Tryz.underlying32 g1 rfl rfl ?_
   refine WL_nil ?_
   exact FinE_val (Below.refl _ _) rfl rfl ⟨rfl, rfl⟩
  exact StepsE_nil
 intro w7 hB6
 refine AllE_cons rfl rfl rfl ?_
 rintro _ _ ⟨rfl, rfl⟩
 refine AllE_cons rfl rfl rfl ?_
 rintro _ _ ⟨rfl, rfl⟩
 refine AllE_cons rfl rfl rfl ?_
 rintro _ _ ⟨rfl, rfl⟩
 refine AllE_nil ?_
 intro hn2 hb2
 have hC5 := hC4.grow hB6
 refine WA_tk 9 (by kernel_rfl) rfl rfl (fl_lss rfl rfl) ?_
 refine WL_lss rfl rfl rfl ?_
 refine WL_nil ?_
 refine WA_done (by kernel_rfl) ?_
 refine nrm_normal ?_
 obtain ⟨r1, hr1, hF⟩ := bind_some hF
 refine W_norm (fun l w => ∃ x1 : Int, ∃ x2 : Int, ∃ x3 : Int, (x1, x2, x3) = r1 ∧ l = [(3, (.int .i64 x3))] ∧ Ctx Fs.flatten w0 w [Item.box pb1 [u1, (.int .i64 x1), (.int .i64 x2)]]) ?_ ?_
 ·refine W_cond rfl (fun hc1 => ?_) (fun hc1 => ?_)
  ·replace hr1 := ite_t hr1 hc1
   refine W_seq ?_
   refine W_drawn 15 rfl hmix (fun w10 hB8 => ?_)
   have hC7 := hC5.grow hB8
   refine WA_tk 0 (by kernel_rfl) rfl rfl (fl_move rfl) ?_
   refine WL_move rfl rfl ?_
   refine WL_nil ?_
   refine WA_tk 1 (by kernel_rfl) rfl rfl (fl_move rfl) ?_
   refine WL_move rfl rfl ?_
   refine WL_nil ?_
   refine WA_tk 2 (by kernel_rfl) rfl rfl (fl_nilCheck rfl) ?_
   refine WL_nilCheck rfl rfl ?_
   refine WL_nil ?_
   refine WA_tk 3 (by kernel_rfl) rfl rfl (fl_field Tryz.underlying89 rfl rfl (fun w => ⟨_, Tryz.sizeOf32 w⟩) rfl) ?_
   refine WL_field Tryz.underlying89 rfl rfl (fun w => ⟨_, Tryz.sizeOf32 w⟩) rfl rfl ?_
   refine WL_nil ?_
   refine WA_tk 5 (by kernel_rfl) rfl rfl (fl_move rfl) ?_
   refine WL_move rfl rfl ?_
   refine WL_nil ?_
   refine WA_tk 6 (by kernel_rfl) rfl rfl (fl_nilCheck rfl) ?_
   refine WL_nilCheck rfl rfl ?_
   refine WL_nil ?_
   refine WA_tk 7 (by kernel_rfl) rfl rfl (fl_field Tryz.underlying89 rfl rfl (fun w => ⟨_, Tryz.sizeOf3 w⟩) rfl) ?_
   refine WL_field Tryz.underlying89 rfl rfl (fun w => ⟨_, Tryz.sizeOf3 w⟩) rfl rfl ?_
   refine WL_nil ?_
   refine WA.sub (l' := [(0, (ptr pb1 0)), (2, (.int .i64 0)), (3, (.int .i64 (band (bxor (shr (w64 ((w64 (a1.2.2 * 6364136223846793005)) + 1442695040888963407)) 33) (shr (w64 ((w64 (a1.2.2 * 6364136223846793005)) + 1442695040888963407)) 45)) 255))), (4, (ptr pb1 0)), (5, (ptr pb1 0)), (6, (ptr pb1 0)), (7, (ptr pb1 2)), (8, (.int .i64 a1.2.2)), (9, (.int .i64 (w64 (a1.2.2 * 6364136223846793005)))), (10, (.int .i64 (w64 ((w64 (a1.2.2 * 6364136223846793005)) + 1442695040888963407)))), (11, (ptr pb1 0)), (12, (ptr pb1 2)), (13, (ptr pb1 0)), (14, (ptr pb1 0)), (15, (ptr pb1 2)), (16, (.int .i64 (w64 ((w64 (a1.2.2 * 6364136223846793005)) + 1442695040888963407)))), (17, (.int .i64 (shr (w64 ((w64 (a1.2.2 * 6364136223846793005)) + 1442695040888963407)) 33))), (18, (ptr pb1 0)), (19, (ptr pb1 0)), (20, (ptr pb1 2)), (21, (.int .i64 (w64 ((w64 (a1.2.2 * 6364136223846793005)) + 1442695040888963407)))), (22, (.int .i64 (shr (w64 ((w64 (a1.2.2 * 6364136223846793005)) + 1442695040888963407)) 45))), (23, (.int .i64 (bxor (shr (w64 ((w64 (a1.2.2 * 6364136223846793005)) + 1442695040888963407)) 33) (shr (w64 ((w64 (a1.2.2 * 6364136223846793005)) + 1442695040888963407)) 45)))), (24, (.int .i64 (band (bxor (shr (w64 ((w64 (a1.2.2 * 6364136223846793005)) + 1442695040888963407)) 33) (shr (w64 ((w64 (a1.2.2 * 6364136223846793005)) + 1442695040888963407)) 45)) 255))), (25, (ptr pb1 0)), (26, (ptr pb1 0)), (27, (ptr pb1 1)), (28, (.int .i64 a1.2.1)), (29, (ptr pb1 0)), (30, (ptr pb1 0)), (31, (ptr pb1 0)), (32, u1), (33, (.int .i64 (List.length a1.1 : Int))), (34, (.bool (decide (a1.2.1 < (List.length a1.1 : Int))))), (35, (.int .i64 (band (bxor (shr (w64 ((w64 (a1.2.2 * 6364136223846793005)) + 1442695040888963407)) 33) (shr (w64 ((w64 (a1.2.2 * 6364136223846793005)) + 1442695040888963407)) 45)) 255))), (36, (ptr pb1 0)), (37, (ptr pb1 0)), (38, (ptr pb1 0)), (40, (ptr pb1 0)), (41, (ptr pb1 0)), (42, (ptr pb1 1))]) ?_ ⟨rfl, rfl, rfl, rfl, rfl, rfl, rfl, rfl, rfl, rfl, rfl, rfl, rfl, rfl, rfl, rfl, rfl, rfl, rfl, rfl, rfl, rfl, rfl, rfl, rfl, rfl, rfl, rfl, rfl, rfl, rfl, rfl, rfl, rfl, rfl, rfl, rfl, rfl, rfl, rfl, rfl, trivial⟩
   refine WA_postsE [⟨4, [], fun vs => PW.val u1, []⟩, ⟨8, [], fun vs => PW.val (.int .i64 a1.2.1), []⟩] [[], []] 6 rfl (by kernel_rfl) (by kernel_rfl) rfl ?_ ?_
   ·refine StepsE_cons rfl ?_ ?_
    ·intro w11 hB9
     refine DepsE_nil ?_
     refine ⟨_, rfl, ?_⟩
     refine WL_load_box (hC7.grow hB9) 0 rfl rfl Tryz.isAgg32 rfl rfl ?_
     refine WL_nil ?_
     exact FinE_val (Below.refl _ _) rfl rfl ⟨rfl, rfl⟩
    refine StepsE_cons rfl ?_ ?_
    ·intro w11 hB9
     refine DepsE_nil ?_
     refine ⟨_, rfl, ?_⟩
     refine WL_load_box (hC7.grow hB9) 0 rfl rfl Tryz.isAgg3 rfl rfl ?_
     refine WL_nil ?_
     exact FinE_val (Below.refl _ _) rfl rfl ⟨rfl, rfl⟩
    exact StepsE_nil
   intro w12 hB10
   refine AllE_cons rfl rfl rfl ?_
   rintro _ _ ⟨rfl, rfl⟩
   refine AllE_cons rfl rfl rfl ?_
   rintro _ _ ⟨rfl, rfl⟩
   refine AllE_nil ?_
   intro hn3 hb3
   have hC8 := hC7.grow hB10
   obtain ⟨x4, hx1, hr1⟩ := bind_some hr1
   refine WA_tk 9 (by kernel_rfl) rfl rfl (fl_index Tryz.underlying32 ty5 g1 hx1 rfl rfl) ?_
   refine WL_index Tryz.underlying32 ty5 g1 hx1 rfl rfl rfl (fun b1 o1 h1 => ?_)
   refine WL_nil ?_
   refine WA_one 10 (by kernel_rfl) rfl ?_
   refine WL_load ty5 h1 hC8.keep rfl rfl (fun v1 h2 => ?_)
   obtain rfl := ro_u8 h2
   refine WL_nil ?_
   refine WA_tk 11 (by kernel_rfl) rfl rfl (fl_conv_int Tryz.underlying5 Tryz.underlying3 rfl) ?_
   refine WL_conv_i64 Tryz.underlying5 Tryz.underlying3 rfl rfl ?_
   refine WL_nil ?_
   refine WA_tk 12 (by kernel_rfl) rfl rfl (fl_add rfl rfl) ?_
   refine WL_add rfl rfl rfl ?_
   refine WL_nil ?_
   refine WA_tk 13 (by kernel_rfl) rfl rfl (fl_band rfl rfl) ?_
   refine WL_band rfl rfl rfl ?_
   refine WL_nil ?_
   refine WA_tk 14 (by kernel_rfl) rfl rfl (fl_assign rfl) ?_
   refine WL_assign rfl rfl ?_
   refine WL_nil ?_
   refine WA_done (by kernel_rfl) ?_
   refine nrm_normal (W_reg ?_)
   refine WL_move rfl rfl ?_
   refine WL_move rfl rfl ?_
   refine WL_nilCheck rfl rfl ?_
   refine WL_field Tryz.underlying89 rfl rfl (fun w => ⟨_, Tryz.sizeOf3 w⟩) rfl rfl ?_
   refine WL_load_box hC8 0 rfl rfl Tryz.isAgg3 rfl rfl ?_
   refine WL_add rfl rfl rfl ?_
   refine WL_nilCheck rfl rfl ?_
   refine WL_field Tryz.underlying89 rfl rfl (fun w => ⟨_, Tryz.sizeOf3 w⟩) rfl rfl ?_
   refine WL_store_boxK (cs' := [u1, (.int .i64 (w64 (a1.2.1 + 1))), (.int .i64 (w64 ((w64 (a1.2.2 * 6364136223846793005)) + 1442695040888963407)))]) hC8 0 rfl rfl rfl rfl Tryz.sizeOf3 rfl rfl (fun w13 hC9 hKp2 => ?_)
   try dsimp only [List.set] at hC9
   refine WL_nil ?_
   have hq1 := Option.some.inj hr1
   subst hq1
   refine nrm_sub (l' := [(3, (.int .i64 (band (w64 ((band (bxor (shr (w64 ((w64 (a1.2.2 * 6364136223846793005)) + 1442695040888963407)) 33) (shr (w64 ((w64 (a1.2.2 * 6364136223846793005)) + 1442695040888963407)) 45)) 255) + (w64 (UInt8.toNat x4 : Int)))) 255)))]) ⟨rfl, trivial⟩ ?_
   exact ⟨w64 (a1.2.1 + 1), w64 ((w64 (a1.2.2 * 6364136223846793005)) + 1442695040888963407), band (w64 ((band (bxor (shr (w64 ((w64 (a1.2.2 * 6364136223846793005)) + 1442695040888963407)) 33) (shr (w64 ((w64 (a1.2.2 * 6364136223846793005)) + 1442695040888963407)) 45)) 255) + (w64 (UInt8.toNat x4 : Int)))) 255, rfl, rfl, hC9⟩
  replace hr1 := ite_f hr1 hc1
  refine W_skip ?_
  have hq2 := Option.some.inj hr1
  subst hq2
  refine nrm_sub (l' := [(3, (.int .i64 (band (bxor (shr (w64 ((w64 (a1.2.2 * 6364136223846793005)) + 1442695040888963407)) 33) (shr (w64 ((w64 (a1.2.2 * 6364136223846793005)) + 1442695040888963407)) 45)) 255)))]) ⟨rfl, trivial⟩ ?_
  exact ⟨a1.2.1, w64 ((w64 (a1.2.2 * 6364136223846793005)) + 1442695040888963407), band (bxor (shr (w64 ((w64 (a1.2.2 * 6364136223846793005)) + 1442695040888963407)) 33) (shr (w64 ((w64 (a1.2.2 * 6364136223846793005)) + 1442695040888963407)) 45)) 255, rfl, rfl, hC5⟩
 rintro l1 _ w9 hs1 ⟨x1, x2, x3, rfl, rfl, hC6⟩
 try dsimp only at hF
 refine nrm_sub' hs1 ?_
 clear hs1
 refine W_seq_reg ?_
 refine WL_move rfl rfl ?_
 refine WL_assign rfl rfl ?_
 refine WL_nil (W_ret ?_)
 have hq3 := Option.some.inj hF
 subst hq3
 refine fn_ret1 rfl rfl ?_
 exact ⟨_, rfl, rfl, hC6⟩

theorem c_S_l1Below {w0 : World} {Fs : List (List Nat)} (pb1 : Nat) (a1 : ((List UInt8) × Int × Int)) (u1 : Value) (g1 : RO Fs.flatten w0 u1 a1.1) (a2 : Int) (hH : Hold [Item.box pb1 [u1, (.int .i64 a1.2.1), (.int .i64 a1.2.2)]] w0 Fs) (hn : Fs.flatten.Nodup) (rr : (Int × ((List UInt8) × Int × Int))) (hF : S.l1Below a1 a2 = some rr) :
 Calls Tryz.prog 37 [(ptr pb1 0), (.int .i64 a2)].toArray w0 fun e w' => ∃ v, e = .returned v ∧ v = (.int .i64 rr.1) ∧ Ctx Fs.flatten w0 w' [Item.box pb1 [u1, (.int .i64 rr.2.2.1), (.int .i64 rr.2.2.2)]] := by
 refine calls_of_W Tryz.func37 rfl rfl ?_
 have hC0 := Ctx.startIn hH hn
 unfold S.l1Below at hF
 refine W_seq_reg ?_
 refine WL_assign rfl rfl ?_
 refine WL_nil (W_seq (W_seq_reg ?_))
 refine WL_move rfl rfl ?_
 refine WL_leq rfl rfl rfl ?_
 refine WL_nil ?_
 refine W_cond rfl (fun hc1 => ?_) (fun hc1 => ?_)
 ·replace hF := ite_t hF hc1
  refine W_seq_reg ?_
  refine WL_assign rfl rfl ?_
  refine WL_nil (W_ret (nrm_ret ?_))
  have hq1 := Option.some.inj hF
  subst hq1
  refine fn_ret1 rfl rfl ?_
  exact ⟨_, rfl, rfl, hC0⟩
 replace hF := ite_f hF hc1
 refine W_skip (nrm_normal (W_seq (W_seq_reg ?_)))
 refine WL_move rfl rfl ?_
 refine WL_leq rfl rfl rfl ?_
 refine WL_nil ?_
 refine W_cond rfl (fun hc2 => ?_) (fun hc2 => ?_)
 ·replace hF := ite_t hF hc2
  refine W_seq_reg ?_
  refine WL_move rfl rfl ?_
  obtain ⟨x1, hr1, hF⟩ := bind_some hF
  obtain ⟨Fs1, hH1, hn1, hF1, hO1, hb1⟩ := Ctx.lend2 (As := []) [Item.box pb1 [u1, (.int .i64 a1.2.1), (.int .i64 a1.2.2)]] hC0
  refine WL_call Tryz.call61 rfl rfl (c_S_l1Byte pb1 (a1.1, a1.2.1, a1.2.2) u1 (RO.lent g1 hC0.keep hF1) hH1 hn1 x1 hr1) ?_
  rintro _ w1 ⟨rfl, hq2⟩
  have hC1 : Ctx Fs.flatten w0 w1 [Item.box pb1 [u1, (.int .i64 x1.2.2.1), (.int .i64 x1.2.2.2)]] := hb1 _ _ hq2
  refine WL_move rfl rfl ?_
  obtain ⟨_, hx1, hF⟩ := bind_some hF
  refine WL_rem (nz_some hx1) rfl rfl rfl ?_
  refine WL_assign rfl rfl ?_
  refine WL_nil (W_ret (nrm_ret ?_))
  have hq3 := Option.some.inj hF
  subst hq3
  refine fn_ret1 rfl rfl ?_
  exact ⟨_, rfl, rfl, hC1⟩
 replace hF := ite_f hF hc2
 refine W_skip (nrm_normal (W_seq_reg ?_))
 refine WL_move rfl rfl ?_
 obtain ⟨x2, hr2, hF⟩ := bind_some hF
 obtain ⟨Fs2, hH2, hn2, hF2, hO2, hb2⟩ := Ctx.lend2 (As := []) [Item.box pb1 [u1, (.int .i64 a1.2.1), (.int .i64 a1.2.2)]] hC0
 refine WL_call Tryz.call61 rfl rfl (c_S_l1Byte pb1 (a1.1, a1.2.1, a1.2.2) u1 (RO.lent g1 hC0.keep hF2) hH2 hn2 x2 hr2) ?_
 rintro _ w2 ⟨rfl, hq4⟩
 have hC2 : Ctx Fs.flatten w0 w2 [Item.box pb1 [u1, (.int .i64 x2.2.2.1), (.int .i64 x2.2.2.2)]] := hb2 _ _ hq4
 refine WL_assign rfl rfl ?_
 refine WL_nil (W_seq_reg ?_)
 refine WL_move rfl rfl ?_
 obtain ⟨x3, hr3, hF⟩ := bind_some hF
 obtain ⟨Fs3, hH3, hn3, hF3, hO3, hb3⟩ := Ctx.lend2 (As := []) [Item.box pb1 [u1, (.int .i64 x2.2.2.1), (.int .i64 x2.2.2.2)]] hC2
 refine WL_call Tryz.call61 rfl rfl (c_S_l1Byte pb1 (a1.1, x2.2.2.1, x2.2.2.2) u1 (RO.lent g1 hC2.keep hF3) hH3 hn3 x3 hr3) ?_
 rintro _ w3 ⟨rfl, hq5⟩
 have hC3 : Ctx Fs.flatten w0 w3 [Item.box pb1 [u1, (.int .i64 x3.2.2.1), (.int .i64 x3.2.2.2)]] := hb3 _ _ hq5
 refine WL_assign rfl rfl ?_
 refine WL_nil (W_seq_reg ?_)
 refine WL_move rfl rfl ?_
 obtain ⟨x4, hr4, hF⟩ := bind_some hF
 obtain ⟨Fs4, hH4, hn4, hF4, hO4, hb4⟩ := Ctx.lend2 (As := []) [Item.box pb1 [u1, (.int .i64 x3.2.2.1), (.int .i64 x3.2.2.2)]] hC3
 refine WL_call Tryz.call61 rfl rfl (c_S_l1Byte pb1 (a1.1, x3.2.2.1, x3.2.2.2) u1 (RO.lent g1 hC3.keep hF4) hH4 hn4 x4 hr4) ?_
 rintro _ w4 ⟨rfl, hq6⟩
 have hC4 : Ctx Fs.flatten w0 w4 [Item.box pb1 [u1, (.int .i64 x4.2.2.1), (.int .i64 x4.2.2.2)]] := hb4 _ _ hq6
 refine WL_assign rfl rfl ?_
 refine WL_nil (W_seq_reg ?_)
 refine WL_move rfl rfl ?_
 obtain ⟨x5, hr5, hF⟩ := bind_some hF
 obtain ⟨Fs5, hH5, hn5, hF5, hO5, hb5⟩ := Ctx.lend2 (As := []) [Item.box pb1 [u1, (.int .i64 x4.2.2.1), (.int .i64 x4.2.2.2)]] hC4
 refine WL_call Tryz.call61 rfl rfl (c_S_l1Byte pb1 (a1.1, x4.2.2.1, x4.2.2.2) u1 (RO.lent g1 hC4.keep hF5) hH5 hn5 x5 hr5) ?_
 rintro _ w5 ⟨rfl, hq7⟩
 have hC5 : Ctx Fs.flatten w0 w5 [Item.box pb1 [u1, (.int .i64 x5.2.2.1), (.int .i64 x5.2.2.2)]] := hb5 _ _ hq7
 refine WL_assign rfl rfl ?_
 refine WL_nil (W_seq_reg ?_)
 refine WL_move rfl rfl ?_
 refine WL_mul rfl rfl rfl ?_
 refine WL_move rfl rfl ?_
 refine WL_mul rfl rfl rfl ?_
 refine WL_add rfl rfl rfl ?_
 refine WL_move rfl rfl ?_
 refine WL_mul rfl rfl rfl ?_
 refine WL_add rfl rfl rfl ?_
 refine WL_move rfl rfl ?_
 refine WL_add rfl rfl rfl ?_
 refine WL_move rfl rfl ?_
 obtain ⟨_, hx2, hF⟩ := bind_some hF
 refine WL_rem (nz_some hx2) rfl rfl rfl ?_
 refine WL_assign rfl rfl ?_
 refine WL_nil (W_ret ?_)
 have hq8 := Option.some.inj hF
 subst hq8
 refine fn_ret1 rfl rfl ?_
 exact ⟨_, rfl, rfl, hC5⟩

theorem c_S_l1Once {w0 : World} {Fs : List (List Nat)} (pb1 : Nat) (a1 : ((List UInt8) × Int × Int)) (u1 : Value) (g1 : RO Fs.flatten w0 u1 a1.1) (a2 : Int) (hH : Hold [Item.box pb1 [u1, (.int .i64 a1.2.1), (.int .i64 a1.2.2)]] w0 Fs) (hn : Fs.flatten.Nodup) (rr : (Bool × ((List UInt8) × Int × Int))) (hF : S.l1Once a1 a2 = some rr) :
 Calls Tryz.prog 79 [(ptr pb1 0), (.int .i64 a2)].toArray w0 fun e w' => ∃ v, e = .returned v ∧ v = (.bool rr.1) ∧ Ctx Fs.flatten w0 w' [Item.box pb1 [u1, (.int .i64 rr.2.2.1), (.int .i64 rr.2.2.2)]] := by
 refine calls_of_W Tryz.func79 rfl rfl ?_
 have hC0 := Ctx.startIn hH hn
 unfold S.l1Once at hF
 refine W_seq_reg ?_
 refine WL_assign rfl rfl ?_
 refine WL_nil (W_seq_reg ?_)
 refine WL_move rfl rfl ?_
 refine WL_move rfl rfl ?_
 obtain ⟨x1, hr1, hF⟩ := bind_some hF
 obtain ⟨Fs1, hH1, hn1, hF1, hO1, hb1⟩ := Ctx.lend2 (As := []) [Item.box pb1 [u1, (.int .i64 a1.2.1), (.int .i64 a1.2.2)]] hC0
 refine WL_call Tryz.call37 rfl rfl (c_S_l1Below pb1 (a1.1, a1.2.1, a1.2.2) u1 (RO.lent g1 hC0.keep hF1) a2 hH1 hn1 x1 hr1) ?_
 rintro _ w1 ⟨rfl, hq1⟩
 have hC1 : Ctx Fs.flatten w0 w1 [Item.box pb1 [u1, (.int .i64 x1.2.2.1), (.int .i64 x1.2.2.2)]] := hb1 _ _ hq1
 refine WL_eql rfl rfl rfl ?_
 refine WL_assign rfl rfl ?_
 refine WL_nil (W_ret ?_)
 have hq2 := Option.some.inj hF
 subst hq2
 refine fn_ret1 rfl rfl ?_
 exact ⟨_, rfl, rfl, hC1⟩

end Go.Gx.Px
