/- The contracts of the Go functions against the pure functions, printed by program. Conditions: each says them. -/
import Derived.Test.YtbgcgjhbnclpdaaDoorTy
import Derived.Test.YtbgcgjhbnclpdaaDoorPure
set_option linter.unusedVariables false
set_option linter.unusedSimpArgs false
set_option maxRecDepth 100000
set_option maxHeartbeats 4000000
namespace Go.Gx.Px
open Go.Proofs Go.RowKit

theorem c_S_l1In {w0 : World} (a1 : Int) (a2 : Int) (a3 : Int) (rr : Bool) (hF : S.l1In a1 a2 a3 = some rr) :
 Calls Tryd.prog 40 [(.int .i64 a1), (.int .i64 a2), (.int .i64 a3)].toArray w0 fun e w' => ∃ v, e = .returned v ∧ Res w0 rr v w' := by
 refine calls_of_W Tryd.func40 rfl rfl ?_
 have hC0 := Ctx.start w0
 unfold S.l1In at hF
 refine W_seq_reg ?_
 refine WL_assign rfl rfl ?_
 refine WL_nil ?_
 obtain ⟨r1, hr1, hF⟩ := bind_some hF
 refine W_cut (fun l w => ∃ x1 : Bool, x1 = r1 ∧ l = [(6, (.bool x1))] ∧ Below w0.heap.size w0 w ∧ Ctx [] w0 w []) ?_ ?_
 ·refine W_reg ?_
  refine WL_move rfl rfl ?_
  refine WL_move rfl rfl ?_
  refine WL_geq rfl rfl rfl ?_
  refine WL_move rfl rfl ?_
  refine WL_fork (fun hc1 => ?_) (fun hc1 => ?_)
  ·replace hr1 := ite_t hr1 hc1
   refine WL_guard rfl rfl ?_
   refine WL_move rfl rfl ?_
   refine WL_guard rfl rfl ?_
   refine WL_move rfl rfl ?_
   refine WL_guard rfl rfl ?_
   refine WL_leq rfl rfl rfl ?_
   refine WL_pick_t rfl rfl rfl ?_
   refine WL_assign rfl rfl ?_
   refine WL_nil ?_
   have hq1 := Option.some.inj hr1
   subst hq1
   refine nrm_sub (l' := [(6, (.bool (decide (a1 ≤ a3))))]) ⟨rfl, trivial⟩ ?_
   exact ⟨(decide (a1 ≤ a3)), rfl, rfl, (Below.refl _ _), hC0⟩
  replace hr1 := ite_f hr1 hc1
  refine WL_guard_skip rfl rfl (by simp) rfl ?_
  refine WL_guard_skip rfl rfl (by simp) rfl ?_
  refine WL_guard_skip rfl rfl (by simp) rfl ?_
  refine WL_pick_f rfl rfl rfl ?_
  refine WL_assign rfl rfl ?_
  refine WL_nil ?_
  have hq2 := Option.some.inj hr1
  subst hq2
  refine nrm_sub (l' := [(6, (.bool false))]) ⟨rfl, trivial⟩ ?_
  exact ⟨false, rfl, rfl, (Below.refl _ _), hC0⟩
 rintro _ w1 ⟨x1, rfl, rfl, hB1, hC1⟩
 try dsimp only at hF
 refine W_ret ?_
 have hq3 := Option.some.inj hF
 subst hq3
 refine fn_ret1 rfl rfl ?_
 exact ⟨_, rfl, bool_res hC1 _⟩

theorem c_S_FormatInt {w0 : World} (a1 : Int) (rr : Str) (hF : S.FormatInt a1 = some rr) :
 Calls Tryd.prog 41 [(.int .i64 a1)].toArray w0 fun e w' => ∃ v, e = .returned v ∧ Res w0 rr v w' := by
 refine calls_of_W Tryd.func41 rfl rfl ?_
 have hC0 := Ctx.start w0
 unfold S.FormatInt at hF
 refine W_seq_reg ?_
 refine WL_assign rfl rfl ?_
 refine WL_nil (W_seq (W_seq_reg ?_))
 refine WL_move rfl rfl ?_
 refine WL_eql rfl rfl rfl ?_
 refine WL_nil ?_
 refine W_cond rfl (fun hc1 => ?_) (fun hc1 => ?_)
 ·replace hF := ite_t hF hc1
  refine W_seq_reg ?_
  refine WL_assign rfl rfl ?_
  refine WL_nil (W_ret (nrm_ret ?_))
  have hq1 := Option.some.inj hF
  subst hq1
  refine fn_ret1 rfl rfl ?_
  exact ⟨_, rfl, str_res hC0 _⟩
 replace hF := ite_f hF hc1
 refine W_skip (nrm_normal (W_seq_reg ?_))
 refine WL_assign rfl rfl ?_
 refine WL_nil (W_seq_reg ?_)
 refine WL_move rfl rfl ?_
 refine WL_lss rfl rfl rfl ?_
 refine WL_assign rfl rfl ?_
 refine WL_nil (W_seq ?_)
 obtain ⟨r1, hr1, hF⟩ := bind_some hF
 refine W_norm (fun l w => ∃ x3 : Str, x3 = r1 ∧ l = [(3, (sv x3)), (4, (.bool (decide (a1 < 0))))] ∧ Below w0.heap.size w0 w ∧ Ctx [] w0 w []) ?_ ?_
 ·refine W_block ?_
  refine W.sub (l' := [(0, (.int .i64 a1)), (3, (sv (str []))), (4, (.bool (decide (a1 < 0))))]) ?_ ⟨rfl, rfl, rfl, trivial⟩
  refine W_loop (fun k l w => ∃ x1 : Int, ∃ x2 : Str, l = [(0, (.int .i64 x1)), (3, (sv x2)), (4, (.bool (decide (a1 < 0))))] ∧ Below w0.heap.size w0 w ∧ Ctx [] w0 w [] ∧ S.FormatInt_l1 k x1 x2 = some r1) FUEL ⟨a1, (str []), rfl, (Below.refl _ _), hC0, hr1⟩ ?_
  clear hr1
  rintro k1 _ w1 ⟨x1, x2, rfl, hB1, hC1, hL1⟩
  cases k1 with
  | zero => rw [S.FormatInt_l1] at hL1; cases hL1
  | succ k1 =>
   rw [S.FormatInt_l1] at hL1
   refine W_seq (W_seq_reg ?_)
   refine WL_move rfl rfl ?_
   refine WL_neq rfl rfl rfl ?_
   refine WL_nil ?_
   refine W_cond rfl (fun hc2 => ?_) (fun hc2 => ?_)
   ·replace hL1 := ite_t hL1 hc2
    refine W_skip (nrm_normal (W_block (W_seq_reg ?_)))
    refine WL_move rfl rfl ?_
    refine WL_rem (by decide) rfl rfl rfl ?_
    refine WL_assign rfl rfl ?_
    refine WL_nil (W_seq (W_seq_reg ?_))
    refine WL_move rfl rfl ?_
    refine WL_lss rfl rfl rfl ?_
    refine WL_nil ?_
    obtain ⟨r2, hr2, hL1⟩ := bind_some hL1
    refine W_norm (fun l w => ∃ x4 : Int, x4 = r2 ∧ l = [(0, (.int .i64 x1)), (3, (sv x2)), (4, (.bool (decide (a1 < 0)))), (5, (.int .i64 x4))] ∧ Below w1.heap.size w1 w ∧ Ctx [] w0 w []) ?_ ?_
    ·refine W_cond rfl (fun hc3 => ?_) (fun hc3 => ?_)
     ·replace hr2 := ite_t hr2 hc3
      refine W_reg ?_
      refine WL_move rfl rfl ?_
      refine WL_neg rfl rfl ?_
      refine WL_assign rfl rfl ?_
      refine WL_nil ?_
      have hq2 := Option.some.inj hr2
      subst hq2
      refine nrm_sub (l' := [(0, (.int .i64 x1)), (3, (sv x2)), (4, (.bool (decide (a1 < 0)))), (5, (.int .i64 (w64 (0 - (x1.tmod 10)))))]) ⟨rfl, rfl, rfl, rfl, trivial⟩ ?_
      exact ⟨w64 (0 - (x1.tmod 10)), rfl, rfl, (Below.refl _ _), hC1⟩
     replace hr2 := ite_f hr2 hc3
     refine W_skip ?_
     have hq3 := Option.some.inj hr2
     subst hq3
     refine nrm_sub (l' := [(0, (.int .i64 x1)), (3, (sv x2)), (4, (.bool (decide (a1 < 0)))), (5, (.int .i64 (x1.tmod 10)))]) ⟨rfl, rfl, rfl, rfl, trivial⟩ ?_
     exact ⟨x1.tmod 10, rfl, rfl, (Below.refl _ _), hC1⟩
    rintro l2 _ w2 hs2 ⟨x4, rfl, rfl, hB2, hC2⟩
    try dsimp only at hL1
    refine nrm_sub' hs2 ?_
    clear hs2
    refine W_seq_reg ?_
    refine WL_move rfl rfl ?_
    refine WL_add rfl rfl rfl ?_
    refine WL_conv_u8 Tryd.underlying3 Tryd.underlying5 rfl rfl ?_
    refine WL_buildSlice (vs := [(.int .u8 (w8 (w64 (48 + x4))))]) hC2 Tryd.underlying54 ty5 rfl rfl rfl rfl (by intro v hv; simp only [List.mem_cons, List.not_mem_nil, or_false] at hv; rcases hv with rfl <;> rfl) rfl rfl (fun b1 w3 hC3 hB3 => ?_)
    have hC4 := hC3.row0 (α := UInt8)
    have hC5 := hC4.triv (u8_val (w64 (48 + x4)))
    have hC6 := hC5.row1
    have hC7 := hC6.front 1 rfl
    dsimp only [List.eraseIdx, List.cons_append, List.nil_append, List.append_nil] at hC7
    have hC8 : Ctx [] w0 w3 (Item.own (.slice (some ⟨b1, 0, none⟩) 1 1) ([(u8 (w64 (48 + x4)))] : List UInt8) :: []) := hC7.rowOwn (by simp [maxLen])
    refine WL_conv_bytes Tryd.underlying54 Tryd.underlying5 Tryd.underlying9 (hC8.ro 0 rfl) (Keep.refl _ _) rfl rfl ?_
    refine WL_move rfl rfl ?_
    obtain ⟨x5, hx1, hL1⟩ := bind_some hL1
    refine WL_str_add hx1 rfl rfl rfl ?_
    refine WL_assign rfl rfl ?_
    refine WL_nil (W_reg ?_)
    refine WL_move rfl rfl ?_
    refine WL_quo (by decide) rfl rfl rfl ?_
    refine WL_assign rfl rfl ?_
    refine WL_nil (blk_normal ?_)
    have hC9 := hC8.h0
    refine nrm_sub (l' := [(0, (.int .i64 (w64 (x1.tdiv 10)))), (3, (sv x5)), (4, (.bool (decide (a1 < 0))))]) ⟨rfl, rfl, rfl, trivial⟩ ?_
    exact ⟨k1, Nat.lt_succ_self _, w64 (x1.tdiv 10), x5, rfl, (((Keep.of hB1).then hB2).then hB3).below, hC9, hL1⟩
   replace hL1 := ite_f hL1 hc2
   refine W_exit (nrm_exit (nrm_exit (blk_exit ?_)))
   have hq4 := Option.some.inj hL1
   subst hq4
   refine nrm_sub (l' := [(3, (sv x2)), (4, (.bool (decide (a1 < 0))))]) ⟨rfl, rfl, trivial⟩ ?_
   exact ⟨x2, rfl, rfl, (Keep.of hB1).below, hC1⟩
 rintro l3 _ w4 hs3 ⟨x3, rfl, rfl, hB4, hC10⟩
 try dsimp only at hF
 refine nrm_sub' hs3 ?_
 clear hs3
 refine W_seq (W_seq_reg ?_)
 refine WL_move rfl rfl ?_
 refine WL_nil ?_
 refine W_cond rfl (fun hc4 => ?_) (fun hc4 => ?_)
 ·replace hF := ite_t hF hc4
  refine W_seq_reg ?_
  refine WL_move rfl rfl ?_
  obtain ⟨x6, hx2, hF⟩ := bind_some hF
  refine WL_str_add hx2 rfl rfl rfl ?_
  refine WL_assign rfl rfl ?_
  refine WL_nil (W_ret (nrm_ret ?_))
  have hq5 := Option.some.inj hF
  subst hq5
  refine fn_ret1 rfl rfl ?_
  exact ⟨_, rfl, str_res hC10 _⟩
 replace hF := ite_f hF hc4
 refine W_skip (nrm_normal (W_seq_reg ?_))
 refine WL_move rfl rfl ?_
 refine WL_assign rfl rfl ?_
 refine WL_nil (W_ret ?_)
 have hq6 := Option.some.inj hF
 subst hq6
 refine fn_ret1 rfl rfl ?_
 exact ⟨_, rfl, str_res hC10 _⟩

theorem c_S_l2List {w0 : World} (a1 : (List Int)) (u1 : Value) (g1 : RO [] w0 u1 a1) (rr : Str) (hF : S.l2List a1 = some rr) :
 Calls Tryd.prog 71 [u1].toArray w0 fun e w' => ∃ v, e = .returned v ∧ Res w0 rr v w' := by
 refine calls_of_W Tryd.func71 rfl rfl ?_
 have hC0 := Ctx.start w0
 unfold S.l2List at hF
 refine W_seq_reg ?_
 refine WL_assign rfl rfl ?_
 refine WL_nil (W_seq_reg ?_)
 refine WL_assign rfl rfl ?_
 refine WL_nil (W_seq (W_seq_reg ?_))
 refine WL_assign rfl rfl ?_
 refine WL_nil ?_
 obtain ⟨r1, hr1, hF⟩ := bind_some hF
 refine W_norm (fun l w => ∃ x3 : Str, x3 = r1 ∧ l = [(3, (sv x3))] ∧ Below w0.heap.size w0 w ∧ Ctx [] w0 w []) ?_ ?_
 ·refine W_block ?_
  refine W.sub (l' := [(0, u1), (3, (sv (str []))), (4, (.int .i64 0))]) ?_ ⟨rfl, rfl, rfl, trivial⟩
  refine W_loop (fun k l w => ∃ x1 : Str, ∃ x2 : Int, l = [(0, u1), (3, (sv x1)), (4, (.int .i64 x2))] ∧ Below w0.heap.size w0 w ∧ Ctx [] w0 w [] ∧ S.l2List_l1 a1 k x1 x2 = some r1) FUEL ⟨(str []), 0, rfl, (Below.refl _ _), hC0, hr1⟩ ?_
  clear hr1
  rintro k1 _ w1 ⟨x1, x2, rfl, hB1, hC1, hL1⟩
  cases k1 with
  | zero => rw [S.l2List_l1] at hL1; cases hL1
  | succ k1 =>
   rw [S.l2List_l1] at hL1
   refine W_seq (W_seq_reg ?_)
   refine WL_move rfl rfl ?_
   refine WL_move rfl rfl ?_
   refine WL_len Tryd.underlying22 g1 rfl rfl ?_
   refine WL_lss rfl rfl rfl ?_
   refine WL_nil ?_
   refine W_cond rfl (fun hc1 => ?_) (fun hc1 => ?_)
   ·replace hL1 := ite_t hL1 hc1
    refine W_skip (nrm_normal (W_seq (W_block (W_seq (W_seq_reg ?_)))))
    refine WL_move rfl rfl ?_
    refine WL_gtr rfl rfl rfl ?_
    refine WL_nil ?_
    obtain ⟨r2, hr2, hL1⟩ := bind_some hL1
    refine W_norm (fun l w => ∃ x4 : Str, x4 = r2 ∧ l = [(0, u1), (3, (sv x4)), (4, (.int .i64 x2))] ∧ Below w1.heap.size w1 w ∧ Ctx [] w0 w []) ?_ ?_
    ·refine W_cond rfl (fun hc2 => ?_) (fun hc2 => ?_)
     ·replace hr2 := ite_t hr2 hc2
      refine W_reg ?_
      refine WL_move rfl rfl ?_
      obtain ⟨x5, hx1, hr2⟩ := bind_some hr2
      refine WL_str_add hx1 rfl rfl rfl ?_
      refine WL_assign rfl rfl ?_
      refine WL_nil ?_
      have hq1 := Option.some.inj hr2
      subst hq1
      refine nrm_sub (l' := [(0, u1), (3, (sv x5)), (4, (.int .i64 x2))]) ⟨rfl, rfl, rfl, trivial⟩ ?_
      exact ⟨x5, rfl, rfl, (Below.refl _ _), hC1⟩
     replace hr2 := ite_f hr2 hc2
     refine W_skip ?_
     have hq2 := Option.some.inj hr2
     subst hq2
     refine nrm_sub (l' := [(0, u1), (3, (sv x1)), (4, (.int .i64 x2))]) ⟨rfl, rfl, rfl, trivial⟩ ?_
     exact ⟨x1, rfl, rfl, (Below.refl _ _), hC1⟩
    rintro l2 _ w2 hs2 ⟨x4, rfl, rfl, hB2, hC2⟩
    try dsimp only at hL1
    refine nrm_sub' hs2 ?_
    clear hs2
    refine W_reg ?_
    refine WL_move rfl rfl ?_
    refine WL_move rfl rfl ?_
    refine WL_move rfl rfl ?_
    obtain ⟨x6, hx2, hL1⟩ := bind_some hL1
    refine WL_index Tryd.underlying22 ty3 g1 hx2 rfl rfl rfl (fun b1 o1 h1 => ?_)
    refine WL_load ty3 h1 hC2.keep rfl rfl (fun v1 h2 => ?_)
    obtain rfl := ro_int h2
    obtain ⟨x7, hr3, hL1⟩ := bind_some hL1
    refine WL_call Tryd.call41 rfl rfl (c_S_FormatInt x6 x7 hr3) ?_
    intro _ w3 hv1
    obtain ⟨rfl, hB3⟩ := res_str hv1
    have hC3 := hC2.grow hB3
    obtain ⟨x8, hx3, hL1⟩ := bind_some hL1
    refine WL_str_add hx3 rfl rfl rfl ?_
    refine WL_assign rfl rfl ?_
    refine WL_nil (blk_normal (nrm_normal (W_reg ?_)))
    refine WL_move rfl rfl ?_
    refine WL_add rfl rfl rfl ?_
    refine WL_assign rfl rfl ?_
    refine WL_nil ?_
    refine nrm_sub (l' := [(0, u1), (3, (sv x8)), (4, (.int .i64 (w64 (x2 + 1))))]) ⟨rfl, rfl, rfl, trivial⟩ ?_
    exact ⟨k1, Nat.lt_succ_self _, x8, w64 (x2 + 1), rfl, (((Keep.of hB1).then hB2).then hB3).below, hC3, hL1⟩
   replace hL1 := ite_f hL1 hc1
   refine W_exit (nrm_exit (nrm_exit (blk_exit ?_)))
   have hq3 := Option.some.inj hL1
   subst hq3
   refine nrm_sub (l' := [(3, (sv x1))]) ⟨rfl, trivial⟩ ?_
   exact ⟨x1, rfl, rfl, (Keep.of hB1).below, hC1⟩
 rintro l3 _ w4 hs3 ⟨x3, rfl, rfl, hB4, hC4⟩
 try dsimp only at hF
 refine nrm_sub' hs3 ?_
 clear hs3
 refine W_seq_reg ?_
 refine WL_move rfl rfl ?_
 refine WL_assign rfl rfl ?_
 refine WL_nil (W_ret ?_)
 have hq4 := Option.some.inj hF
 subst hq4
 refine fn_ret1 rfl rfl ?_
 exact ⟨_, rfl, str_res hC4 _⟩

theorem c_S_FormatAccess {w0 : World} (a1 : (Int × (List Int))) (u1 : Value) (g1 : RO [] w0 u1 a1.2) (rr : Str) (hF : S.FormatAccess a1 = some rr) :
 Calls Tryd.prog 39 [(.agg #[(.int .i64 a1.1), u1])].toArray w0 fun e w' => ∃ v, e = .returned v ∧ Res w0 rr v w' := by
 refine calls_of_W Tryd.func39 rfl rfl ?_
 have hC0 := Ctx.start w0
 unfold S.FormatAccess at hF
 refine W_seq_reg ?_
 refine WL_boxK (cs := [(.int .i64 a1.1), u1]) hC0 rfl rfl rfl (fun b1 w1 hC1 hB1 hN1 => ?_)
 refine WL_assign rfl rfl ?_
 refine WL_nil (W_seq ?_)
 obtain ⟨r1, hr1, hF⟩ := bind_some hF
 refine W_cut (fun l w => ∃ x1 : Bool, x1 = r1 ∧ l = [(1, (ptr b1 0)), (13, (.bool x1))] ∧ Below w1.heap.size w1 w ∧ Ctx [] w0 w [Item.box b1 [(.int .i64 a1.1), u1]]) ?_ ?_
 ·refine W_reg ?_
  refine WL_field Tryd.underlying29 rfl rfl (fun w => ⟨_, Tryd.sizeOf3 w⟩) rfl rfl ?_
  refine WL_load_box hC1 0 rfl rfl Tryd.isAgg3 rfl rfl ?_
  obtain ⟨x2, hr2, hr1⟩ := bind_some hr1
  refine WL_call Tryd.call40 rfl rfl (c_S_l1In a1.1 0 4 x2 hr2) ?_
  intro _ w3 hv1
  obtain ⟨rfl, hB3⟩ := res_bool hv1
  have hC3 := hC1.grow hB3
  refine WL_not rfl rfl ?_
  refine WL_move rfl rfl ?_
  refine WL_fork (fun hc1 => ?_) (fun hc1 => ?_)
  ·replace hr1 := ite_t hr1 hc1
   refine WL_guard_skip rfl rfl (by simp) rfl ?_
   refine WL_guard_skip rfl rfl (by simp) rfl ?_
   refine WL_guard_skip rfl rfl (by simp) rfl ?_
   refine WL_guard_skip rfl rfl (by simp) rfl ?_
   refine WL_pick_t rfl rfl rfl ?_
   refine WL_nil ?_
   have hq1 := Option.some.inj hr1
   subst hq1
   refine nrm_sub (l' := [(1, (ptr b1 0)), (13, (.bool true))]) ⟨rfl, rfl, trivial⟩ ?_
   exact ⟨true, rfl, rfl, (Keep.of hB3).below, hC3⟩
  replace hr1 := ite_f hr1 hc1
  refine WL_guard rfl rfl ?_
  refine WL_field Tryd.underlying29 rfl rfl (fun w => ⟨_, Tryd.sizeOf22 w⟩) rfl rfl ?_
  refine WL_guard rfl rfl ?_
  refine WL_load_box hC3 0 rfl rfl Tryd.isAgg22 rfl rfl ?_
  refine WL_guard rfl rfl ?_
  refine WL_len Tryd.underlying22 g1 rfl rfl ?_
  refine WL_guard rfl rfl ?_
  refine WL_gtr rfl rfl rfl ?_
  refine WL_pick_f rfl rfl rfl ?_
  refine WL_nil ?_
  have hq2 := Option.some.inj hr1
  subst hq2
  refine nrm_sub (l' := [(1, (ptr b1 0)), (13, (.bool (decide (3 < (List.length a1.2 : Int)))))]) ⟨rfl, rfl, trivial⟩ ?_
  exact ⟨(decide (3 < (List.length a1.2 : Int))), rfl, rfl, (Keep.of hB3).below, hC3⟩
 rintro _ w2 ⟨x1, rfl, rfl, hB2, hC2⟩
 try dsimp only at hF
 refine W_cond rfl (fun hc2 => ?_) (fun hc2 => ?_)
 ·replace hF := ite_t hF hc2
  refine W_seq_reg ?_
  refine WL_assign rfl rfl ?_
  refine WL_nil (W_ret (nrm_ret ?_))
  have hq3 := Option.some.inj hF
  subst hq3
  refine fn_ret1 rfl rfl ?_
  exact ⟨_, rfl, str_res hC2 _⟩
 replace hF := ite_f hF hc2
 refine W_skip (nrm_normal (W_seq (W_seq_reg ?_)))
 refine WL_assign rfl rfl ?_
 refine WL_nil ?_
 obtain ⟨r2, hr3, hF⟩ := bind_some hF
 refine W_norm (fun l w => .inl () = r2 ∧ l = [(1, (ptr b1 0))] ∧ Below w2.heap.size w2 w ∧ Ctx [] w0 w [Item.box b1 [(.int .i64 a1.1), u1]]) ?_ ?_
 ·refine W_block ?_
  refine W.sub (l' := [(1, (ptr b1 0)), (3, (.int .i64 0))]) ?_ ⟨rfl, rfl, trivial⟩
  refine W_loop (fun k l w => ∃ x3 : Int, l = [(1, (ptr b1 0)), (3, (.int .i64 x3))] ∧ Below w2.heap.size w2 w ∧ Ctx [] w0 w [Item.box b1 [(.int .i64 a1.1), u1]] ∧ S.FormatAccess_l1 a1 k x3 = some r2) FUEL ⟨0, rfl, (Below.refl _ _), hC2, hr3⟩ ?_
  clear hr3
  rintro k1 _ w4 ⟨x3, rfl, hB4, hC4, hL1⟩
  cases k1 with
  | zero => rw [S.FormatAccess_l1] at hL1; cases hL1
  | succ k1 =>
   rw [S.FormatAccess_l1] at hL1
   refine W_seq (W_seq_reg ?_)
   refine WL_move rfl rfl ?_
   refine WL_field Tryd.underlying29 rfl rfl (fun w => ⟨_, Tryd.sizeOf22 w⟩) rfl rfl ?_
   refine WL_load_box hC4 0 rfl rfl Tryd.isAgg22 rfl rfl ?_
   refine WL_len Tryd.underlying22 g1 rfl rfl ?_
   refine WL_lss rfl rfl rfl ?_
   refine WL_nil ?_
   refine W_cond rfl (fun hc3 => ?_) (fun hc3 => ?_)
   ·replace hL1 := ite_t hL1 hc3
    refine W_skip (nrm_normal (W_seq (W_block (W_seq_reg ?_))))
    refine WL_field Tryd.underlying29 rfl rfl (fun w => ⟨_, Tryd.sizeOf22 w⟩) rfl rfl ?_
    refine WL_load_box hC4 0 rfl rfl Tryd.isAgg22 rfl rfl ?_
    refine WL_move rfl rfl ?_
    obtain ⟨x4, hx1, hL1⟩ := bind_some hL1
    refine WL_index Tryd.underlying22 ty3 g1 hx1 rfl rfl rfl (fun b2 o1 h1 => ?_)
    refine WL_load ty3 h1 hC4.keep rfl rfl (fun v1 h2 => ?_)
    obtain rfl := ro_int h2
    obtain ⟨x5, hr4, hL1⟩ := bind_some hL1
    refine WL_call Tryd.call40 rfl rfl (c_S_l1In x4 0 9 x5 hr4) ?_
    intro _ w5 hv2
    obtain ⟨rfl, hB5⟩ := res_bool hv2
    have hC5 := hC4.grow hB5
    refine WL_not rfl rfl ?_
    refine WL_nil ?_
    refine W_cond rfl (fun hc4 => ?_) (fun hc4 => ?_)
    ·replace hL1 := ite_t hL1 hc4
     refine W_seq_reg ?_
     refine WL_assign rfl rfl ?_
     refine WL_nil (W_ret (blk_ret (nrm_ret (nrm_ret (blk_ret (nrm_ret (nrm_ret ?_)))))))
     have hq4 := Option.some.inj hL1
     subst hq4
     dsimp only at hF
     have hq5 := Option.some.inj hF
     subst hq5
     refine fn_ret1 rfl rfl ?_
     exact ⟨_, rfl, str_res hC5 _⟩
    replace hL1 := ite_f hL1 hc4
    refine W_skip (blk_normal (nrm_normal (W_reg ?_)))
    refine WL_move rfl rfl ?_
    refine WL_add rfl rfl rfl ?_
    refine WL_assign rfl rfl ?_
    refine WL_nil ?_
    refine nrm_sub (l' := [(1, (ptr b1 0)), (3, (.int .i64 (w64 (x3 + 1))))]) ⟨rfl, rfl, trivial⟩ ?_
    exact ⟨k1, Nat.lt_succ_self _, w64 (x3 + 1), rfl, ((Keep.of hB4).then hB5).below, hC5, hL1⟩
   replace hL1 := ite_f hL1 hc3
   refine W_exit (nrm_exit (nrm_exit (blk_exit ?_)))
   have hq6 := Option.some.inj hL1
   subst hq6
   refine nrm_sub (l' := [(1, (ptr b1 0))]) ⟨rfl, trivial⟩ ?_
   exact ⟨rfl, rfl, (Keep.of hB4).below, hC4⟩
 rintro l3 _ w6 hs3 ⟨rfl, rfl, hB6, hC6⟩
 try dsimp only at hF
 refine nrm_sub' hs3 ?_
 clear hs3
 refine W_seq ?_
 refine W_drawn 11 rfl hmix (fun w7 hB7 => ?_)
 have hC7 := hC6.grow hB7
 refine WA_tk 0 (by kernel_rfl) rfl rfl (fl_field Tryd.underlying29 rfl rfl (fun w => ⟨_, Tryd.sizeOf3 w⟩) rfl) ?_
 refine WL_field Tryd.underlying29 rfl rfl (fun w => ⟨_, Tryd.sizeOf3 w⟩) rfl rfl ?_
 refine WL_nil ?_
 refine WA_tk 5 (by kernel_rfl) rfl rfl (fl_field Tryd.underlying29 rfl rfl (fun w => ⟨_, Tryd.sizeOf22 w⟩) rfl) ?_
 refine WL_field Tryd.underlying29 rfl rfl (fun w => ⟨_, Tryd.sizeOf22 w⟩) rfl rfl ?_
 refine WL_nil ?_
 obtain ⟨x6, hr5, hF⟩ := bind_some hF
 obtain ⟨x7, hx2, hF⟩ := bind_some hF
 obtain ⟨x8, hx3, hF⟩ := bind_some hF
 obtain ⟨x9, hr6, hF⟩ := bind_some hF
 refine WA.sub (l' := [(1, (ptr b1 0)), (28, (ptr b1 0)), (33, (ptr b1 1))]) ?_ ⟨rfl, rfl, rfl, trivial⟩
 refine WA_postsE [⟨1, [], fun vs => PW.val (.int .i64 a1.1), []⟩, ⟨2, [], fun vs => PW.val (sv x6), []⟩, ⟨3, [], fun vs => PW.val (sv x7), []⟩, ⟨4, [], fun vs => PW.val (sv x8), []⟩, ⟨6, [], fun vs => PW.val u1, []⟩, ⟨7, [], fun vs => PW.val (sv x9), []⟩] [[], [1], [2], [3], [], [6]] 3 rfl (by kernel_rfl) (by kernel_rfl) rfl ?_ ?_
 ·refine StepsE_cons rfl ?_ ?_
  ·intro w11 hB10
   refine DepsE_nil ?_
   refine ⟨_, rfl, ?_⟩
   refine WL_load_box (hC7.grow hB10) 0 rfl rfl Tryd.isAgg3 rfl rfl ?_
   refine WL_nil ?_
   exact FinE_val (Below.refl _ _) rfl rfl ⟨rfl, rfl⟩
  refine StepsE_cons rfl ?_ ?_
  ·intro w11 hB10
   refine DepsE_cons rfl rfl rfl ?_
   rintro _ _ ⟨rfl, rfl⟩ _
   refine DepsE_nil ?_
   refine ⟨_, rfl, ?_⟩
   refine WL_call Tryd.call41 rfl rfl (c_S_FormatInt a1.1 x6 hr5) ?_
   intro _ w9 hv3
   obtain ⟨rfl, hB8⟩ := res_str hv3
   refine WL_nil ?_
   exact FinE_val hB8 rfl rfl ⟨rfl, rfl⟩
  refine StepsE_cons rfl ?_ ?_
  ·intro w11 hB10
   refine DepsE_cons rfl rfl rfl ?_
   rintro _ _ ⟨rfl, rfl⟩ _
   refine DepsE_nil ?_
   refine ⟨_, rfl, ?_⟩
   refine WL_str_add hx2 rfl rfl rfl ?_
   refine WL_nil ?_
   exact FinE_val (Below.refl _ _) rfl rfl ⟨rfl, rfl⟩
  refine StepsE_cons rfl ?_ ?_
  ·intro w11 hB10
   refine DepsE_cons rfl rfl rfl ?_
   rintro _ _ ⟨rfl, rfl⟩ _
   refine DepsE_nil ?_
   refine ⟨_, rfl, ?_⟩
   refine WL_str_add hx3 rfl rfl rfl ?_
   refine WL_nil ?_
   exact FinE_val (Below.refl _ _) rfl rfl ⟨rfl, rfl⟩
  refine StepsE_cons rfl ?_ ?_
  ·intro w11 hB10
   refine DepsE_nil ?_
   refine ⟨_, rfl, ?_⟩
   refine WL_load_box (hC7.grow hB10) 0 rfl rfl Tryd.isAgg22 rfl rfl ?_
   refine WL_nil ?_
   exact FinE_val (Below.refl _ _) rfl rfl ⟨rfl, rfl⟩
  refine StepsE_cons rfl ?_ ?_
  ·intro w11 hB10
   refine DepsE_cons rfl rfl rfl ?_
   rintro _ _ ⟨rfl, rfl⟩ _
   refine DepsE_nil ?_
   refine ⟨_, rfl, ?_⟩
   refine WL_call Tryd.call71 rfl rfl (c_S_l2List a1.2 u1 (g1.now (hC7.keep.then hB10)) x9 hr6) ?_
   intro _ w10 hv4
   obtain ⟨rfl, hB9⟩ := res_str hv4
   refine WL_nil ?_
   exact FinE_val hB9 rfl rfl ⟨rfl, rfl⟩
  exact StepsE_nil
 intro w12 hB11
 refine AllE_cons rfl rfl rfl ?_
 rintro _ _ ⟨rfl, rfl⟩
 refine AllE_cons rfl rfl rfl ?_
 rintro _ _ ⟨rfl, rfl⟩
 refine AllE_cons rfl rfl rfl ?_
 rintro _ _ ⟨rfl, rfl⟩
 refine AllE_cons rfl rfl rfl ?_
 rintro _ _ ⟨rfl, rfl⟩
 refine AllE_cons rfl rfl rfl ?_
 rintro _ _ ⟨rfl, rfl⟩
 refine AllE_cons rfl rfl rfl ?_
 rintro _ _ ⟨rfl, rfl⟩
 refine AllE_nil ?_
 intro hn1 hb1
 have hC8 := hC7.grow hB11
 obtain ⟨x10, hx4, hF⟩ := bind_some hF
 refine WA_tk 8 (by kernel_rfl) rfl rfl (fl_str_add hx4 rfl rfl) ?_
 refine WL_str_add hx4 rfl rfl rfl ?_
 refine WL_nil ?_
 obtain ⟨x11, hx5, hF⟩ := bind_some hF
 refine WA_tk 9 (by kernel_rfl) rfl rfl (fl_str_add hx5 rfl rfl) ?_
 refine WL_str_add hx5 rfl rfl rfl ?_
 refine WL_nil ?_
 refine WA_tk 10 (by kernel_rfl) rfl rfl (fl_assign rfl) ?_
 refine WL_assign rfl rfl ?_
 refine WL_nil ?_
 refine WA_done (by kernel_rfl) ?_
 refine nrm_normal (W_ret ?_)
 have hq7 := Option.some.inj hF
 subst hq7
 refine fn_ret1 rfl rfl ?_
 exact ⟨_, rfl, str_res hC8 _⟩

theorem c_S_EncodeVarint {w0 : World} (a1 : Int) (rr : Str) (hF : S.EncodeVarint a1 = some rr) :
 Calls Tryd.prog 46 [(.int .i64 a1)].toArray w0 fun e w' => ∃ v, e = .returned v ∧ Res w0 rr v w' := by
 refine calls_of_W Tryd.func46 rfl rfl ?_
 have hC0 := Ctx.start w0
 unfold S.EncodeVarint at hF
 refine W_seq_reg ?_
 refine WL_assign rfl rfl ?_
 refine WL_nil (W_seq (W_seq_reg ?_))
 refine WL_move rfl rfl ?_
 obtain ⟨x1, hr1, hF⟩ := bind_some hF
 refine WL_call Tryd.call40 rfl rfl (c_S_l1In a1 0 562949953421311 x1 hr1) ?_
 intro _ w1 hv1
 obtain ⟨rfl, hB1⟩ := res_bool hv1
 have hC1 := hC0.grow hB1
 refine WL_not rfl rfl ?_
 refine WL_nil ?_
 refine W_cond rfl (fun hc1 => ?_) (fun hc1 => ?_)
 ·replace hF := ite_t hF hc1
  refine W_seq_reg ?_
  refine WL_assign rfl rfl ?_
  refine WL_nil (W_ret (nrm_ret ?_))
  have hq1 := Option.some.inj hF
  subst hq1
  refine fn_ret1 rfl rfl ?_
  exact ⟨_, rfl, str_res hC1 _⟩
 replace hF := ite_f hF hc1
 refine W_skip (nrm_normal (W_seq_reg ?_))
 refine WL_buildSlice (vs := []) hC1 Tryd.underlying54 ty5 rfl rfl rfl rfl (by simp) rfl rfl (fun b1 w2 hC2 hB2 => ?_)
 have hC3 := hC2.row0 (α := UInt8)
 have hC4 := hC3.front 1 rfl
 dsimp only [List.eraseIdx, List.cons_append, List.nil_append, List.append_nil] at hC4
 have hC5 : Ctx [] w0 w2 (Item.own (.slice (some ⟨b1, 0, none⟩) 0 0) (([] : List UInt8) : List UInt8) :: []) := hC4.rowOwn (by simp [maxLen])
 refine WL_assign rfl rfl ?_
 refine WL_nil (W_seq ?_)
 obtain ⟨r1, hr2, hF⟩ := bind_some hF
 refine W_norm (fun l w => ∃ x4 : Int, ∃ v2 : Value, ∃ x5 : (List UInt8), (x4, x5) = r1 ∧ l = [(0, (.int .i64 x4)), (3, v2)] ∧ Ctx [] w0 w [Item.own v2 (x5 : (List UInt8))]) ?_ ?_
 ·refine W_block ?_
  refine W.sub (l' := [(0, (.int .i64 a1)), (3, (.slice (some ⟨b1, 0, none⟩) 0 0))]) ?_ ⟨rfl, rfl, trivial⟩
  refine W_loop (fun k l w => ∃ x2 : Int, ∃ v1 : Value, ∃ x3 : (List UInt8), l = [(0, (.int .i64 x2)), (3, v1)] ∧ Ctx [] w0 w [Item.own v1 (x3 : (List UInt8))] ∧ S.EncodeVarint_l1 k x2 x3 = some r1) FUEL ⟨a1, (.slice (some ⟨b1, 0, none⟩) 0 0), ([] : List UInt8), rfl, hC5, hr2⟩ ?_
  clear hr2
  rintro k1 _ w3 ⟨x2, v1, x3, rfl, hC6, hL1⟩
  cases k1 with
  | zero => rw [S.EncodeVarint_l1] at hL1; cases hL1
  | succ k1 =>
   rw [S.EncodeVarint_l1] at hL1
   refine W_seq (W_seq_reg ?_)
   refine WL_move rfl rfl ?_
   refine WL_geq rfl rfl rfl ?_
   refine WL_nil ?_
   refine W_cond rfl (fun hc2 => ?_) (fun hc2 => ?_)
   ·replace hL1 := ite_t hL1 hc2
    refine W_skip (nrm_normal (W_block (W_seq_reg ?_)))
    refine WL_move rfl rfl ?_
    refine WL_move rfl rfl ?_
    refine WL_rem (by decide) rfl rfl rfl ?_
    refine WL_add rfl rfl rfl ?_
    refine WL_conv_u8 Tryd.underlying3 Tryd.underlying5 rfl rfl ?_
    refine WL_buildSlice (vs := [(.int .u8 (w8 (w64 (128 + (x2.tmod 128)))))]) hC6 Tryd.underlying54 ty5 rfl rfl rfl rfl (by intro v hv; simp only [List.mem_cons, List.not_mem_nil, or_false] at hv; rcases hv with rfl <;> rfl) rfl rfl (fun b2 w4 hC7 hB4 => ?_)
    have hC8 := hC7.row0 (α := UInt8)
    have hC9 := hC8.triv (u8_val (w64 (128 + (x2.tmod 128))))
    have hC10 := hC9.row1
    have hC11 := hC10.front 1 rfl
    dsimp only [List.eraseIdx, List.cons_append, List.nil_append, List.append_nil] at hC11
    have hC12 : Ctx [] w0 w4 (Item.own (.slice (some ⟨b2, 0, none⟩) 1 1) ([(u8 (w64 (128 + (x2.tmod 128))))] : List UInt8) :: [Item.own v1 (x3 : (List UInt8))]) := hC11.rowOwn (by simp [maxLen])
    obtain ⟨x6, hx1, hL1⟩ := bind_some hL1
    refine WL_append_flat (α := UInt8) hC12 1 rfl (hC12.ro 0 rfl) (Keep.refl _ _) Tryd.underlying54 ty5 rfl hx1 rfl rfl rfl (fun v3 w5 hC13 => ?_)
    try dsimp only [List.set] at hC13
    refine WL_assign rfl rfl ?_
    refine WL_nil (W_reg ?_)
    refine WL_move rfl rfl ?_
    refine WL_quo (by decide) rfl rfl rfl ?_
    refine WL_assign rfl rfl ?_
    refine WL_nil (blk_normal ?_)
    have hC14 := hC13.f1
    have hC15 := hC14.h1
    refine nrm_sub (l' := [(0, (.int .i64 (w64 (x2.tdiv 128)))), (3, v3)]) ⟨rfl, rfl, trivial⟩ ?_
    exact ⟨k1, Nat.lt_succ_self _, w64 (x2.tdiv 128), v3, x6, rfl, hC15, hL1⟩
   replace hL1 := ite_f hL1 hc2
   refine W_exit (nrm_exit (nrm_exit (blk_exit ?_)))
   have hq2 := Option.some.inj hL1
   subst hq2
   refine nrm_sub (l' := [(0, (.int .i64 x2)), (3, v1)]) ⟨rfl, rfl, trivial⟩ ?_
   exact ⟨x2, v1, x3, rfl, rfl, hC6⟩
 rintro l2 _ w6 hs2 ⟨x4, v2, x5, rfl, rfl, hC16⟩
 try dsimp only at hF
 refine nrm_sub' hs2 ?_
 clear hs2
 refine W_seq_reg ?_
 refine WL_move rfl rfl ?_
 refine WL_move rfl rfl ?_
 refine WL_conv_u8 Tryd.underlying3 Tryd.underlying5 rfl rfl ?_
 refine WL_buildSlice (vs := [(.int .u8 (w8 x4))]) hC16 Tryd.underlying54 ty5 rfl rfl rfl rfl (by intro v hv; simp only [List.mem_cons, List.not_mem_nil, or_false] at hv; rcases hv with rfl <;> rfl) rfl rfl (fun b3 w7 hC17 hB6 => ?_)
 have hC18 := hC17.row0 (α := UInt8)
 have hC19 := hC18.triv (u8_val x4)
 have hC20 := hC19.row1
 have hC21 := hC20.front 1 rfl
 dsimp only [List.eraseIdx, List.cons_append, List.nil_append, List.append_nil] at hC21
 have hC22 : Ctx [] w0 w7 (Item.own (.slice (some ⟨b3, 0, none⟩) 1 1) ([(u8 x4)] : List UInt8) :: [Item.own v2 (x5 : (List UInt8))]) := hC21.rowOwn (by simp [maxLen])
 obtain ⟨x7, hx2, hF⟩ := bind_some hF
 refine WL_append_flat (α := UInt8) hC22 1 rfl (hC22.ro 0 rfl) (Keep.refl _ _) Tryd.underlying54 ty5 rfl hx2 rfl rfl rfl (fun v4 w9 hC23 => ?_)
 try dsimp only [List.set] at hC23
 refine WL_conv_bytes Tryd.underlying54 Tryd.underlying5 Tryd.underlying9 (hC23.ro 1 rfl) (Keep.refl _ _) rfl rfl ?_
 refine WL_assign rfl rfl ?_
 refine WL_nil (W_ret ?_)
 have hq3 := Option.some.inj hF
 subst hq3
 refine fn_ret1 rfl rfl ?_
 exact ⟨_, rfl, str_res hC23 _⟩

theorem c_S_EncodeRequest {w0 : World} (a1 : (Int × (List Int))) (u1 : Value) (g1 : RO [] w0 u1 a1.2) (a2 : Int) (rr : Str) (hF : S.EncodeRequest a1 a2 = some rr) :
 Calls Tryd.prog 15 [(.agg #[(.int .i64 a1.1), u1]), (.int .i64 a2)].toArray w0 fun e w' => ∃ v, e = .returned v ∧ Res w0 rr v w' := by
 refine calls_of_W Tryd.func15 rfl rfl ?_
 have hC0 := Ctx.start w0
 unfold S.EncodeRequest at hF
 refine W_seq_reg ?_
 refine WL_boxK (cs := [(.int .i64 a1.1), u1]) hC0 rfl rfl rfl (fun b1 w1 hC1 hB1 hN1 => ?_)
 refine WL_assign rfl rfl ?_
 refine WL_nil (W_seq ?_)
 obtain ⟨r1, hr1, hF⟩ := bind_some hF
 refine W_cut (fun l w => ∃ x1 : Bool, x1 = r1 ∧ l = [(1, (.int .i64 a2)), (2, (ptr b1 0)), (14, (.bool x1))] ∧ Below w1.heap.size w1 w ∧ Ctx [] w0 w [Item.box b1 [(.int .i64 a1.1), u1]]) ?_ ?_
 ·refine W_reg ?_
  refine WL_load_box_agg [(.int .i64 a1.1), u1] hC1 0 rfl rfl rfl Tryd.isAgg29 Tryd.sizeOf29 rfl rfl ?_
  obtain ⟨x2, hr2, hr1⟩ := bind_some hr1
  refine WL_call Tryd.call39 rfl rfl (c_S_FormatAccess (a1.1, a1.2) u1 (g1.now hC1.keep) x2 hr2) ?_
  intro _ w3 hv1
  obtain ⟨rfl, hB3⟩ := res_str hv1
  have hC3 := hC1.grow hB3
  refine WL_str_eql rfl rfl rfl ?_
  refine WL_move rfl rfl ?_
  refine WL_fork (fun hc1 => ?_) (fun hc1 => ?_)
  ·replace hr1 := ite_t hr1 hc1
   refine WL_guard_skip rfl rfl (by simp) rfl ?_
   refine WL_guard_skip rfl rfl (by simp) rfl ?_
   refine WL_guard_skip rfl rfl (by simp) rfl ?_
   refine WL_pick_t rfl rfl rfl ?_
   refine WL_nil ?_
   have hq1 := Option.some.inj hr1
   subst hq1
   refine nrm_sub (l' := [(1, (.int .i64 a2)), (2, (ptr b1 0)), (14, (.bool true))]) ⟨rfl, rfl, rfl, trivial⟩ ?_
   exact ⟨true, rfl, rfl, (Keep.of hB3).below, hC3⟩
  replace hr1 := ite_f hr1 hc1
  refine WL_guard rfl rfl ?_
  refine WL_move rfl rfl ?_
  obtain ⟨x3, hr3, hr1⟩ := bind_some hr1
  refine WL_guard rfl rfl ?_
  refine WL_call Tryd.call40 rfl rfl (c_S_l1In a2 1 9 x3 hr3) ?_
  intro _ w4 hv2
  obtain ⟨rfl, hB4⟩ := res_bool hv2
  have hC4 := hC3.grow hB4
  refine WL_guard rfl rfl ?_
  refine WL_not rfl rfl ?_
  refine WL_pick_f rfl rfl rfl ?_
  refine WL_nil ?_
  have hq2 := Option.some.inj hr1
  subst hq2
  refine nrm_sub (l' := [(1, (.int .i64 a2)), (2, (ptr b1 0)), (14, (.bool (!x3)))]) ⟨rfl, rfl, rfl, trivial⟩ ?_
  exact ⟨(!x3), rfl, rfl, ((Keep.of hB3).then hB4).below, hC4⟩
 rintro _ w2 ⟨x1, rfl, rfl, hB2, hC2⟩
 try dsimp only at hF
 refine W_cond rfl (fun hc2 => ?_) (fun hc2 => ?_)
 ·replace hF := ite_t hF hc2
  refine W_seq_reg ?_
  refine WL_assign rfl rfl ?_
  refine WL_nil (W_ret (nrm_ret ?_))
  have hq3 := Option.some.inj hF
  subst hq3
  refine fn_ret1 rfl rfl ?_
  exact ⟨_, rfl, str_res hC2 _⟩
 replace hF := ite_f hF hc2
 refine W_skip (nrm_normal (W_seq ?_))
 refine W_drawn 12 rfl hmix (fun w5 hB5 => ?_)
 have hC5 := hC2.grow hB5
 refine WA_tk 0 (by kernel_rfl) rfl rfl (fl_field Tryd.underlying29 rfl rfl (fun w => ⟨_, Tryd.sizeOf3 w⟩) rfl) ?_
 refine WL_field Tryd.underlying29 rfl rfl (fun w => ⟨_, Tryd.sizeOf3 w⟩) rfl rfl ?_
 refine WL_nil ?_
 refine WA_tk 3 (by kernel_rfl) rfl rfl (fl_move rfl) ?_
 refine WL_move rfl rfl ?_
 refine WL_nil ?_
 refine WA_tk 6 (by kernel_rfl) rfl rfl (fl_field Tryd.underlying29 rfl rfl (fun w => ⟨_, Tryd.sizeOf22 w⟩) rfl) ?_
 refine WL_field Tryd.underlying29 rfl rfl (fun w => ⟨_, Tryd.sizeOf22 w⟩) rfl rfl ?_
 refine WL_nil ?_
 obtain ⟨x4, hr4, hF⟩ := bind_some hF
 obtain ⟨x5, hr5, hF⟩ := bind_some hF
 obtain ⟨x6, hx1, hF⟩ := bind_some hF
 obtain ⟨x7, hr6, hF⟩ := bind_some hF
 refine WA.sub (l' := [(1, (.int .i64 a2)), (2, (ptr b1 0)), (14, (.bool x1)), (15, (ptr b1 0)), (18, (.int .i64 a2)), (21, (ptr b1 1))]) ?_ ⟨rfl, rfl, rfl, rfl, rfl, rfl, trivial⟩
 refine WA_postsE [⟨1, [], fun vs => PW.val (.int .i64 a1.1), []⟩, ⟨2, [], fun vs => PW.val (sv x4), []⟩, ⟨4, [], fun vs => PW.val (sv x5), []⟩, ⟨5, [], fun vs => PW.val (sv x6), []⟩, ⟨7, [], fun vs => PW.val u1, []⟩, ⟨8, [], fun vs => PW.val (.int .i64 (List.length a1.2 : Int)), []⟩, ⟨9, [], fun vs => PW.val (sv x7), []⟩] [[], [1], [], [2, 4], [], [7], [8]] 2 rfl (by kernel_rfl) (by kernel_rfl) rfl ?_ ?_
 ·refine StepsE_cons rfl ?_ ?_
  ·intro w10 hB9
   refine DepsE_nil ?_
   refine ⟨_, rfl, ?_⟩
   refine WL_load_box (hC5.grow hB9) 0 rfl rfl Tryd.isAgg3 rfl rfl ?_
   refine WL_nil ?_
   exact FinE_val (Below.refl _ _) rfl rfl ⟨rfl, rfl⟩
  refine StepsE_cons rfl ?_ ?_
  ·intro w10 hB9
   refine DepsE_cons rfl rfl rfl ?_
   rintro _ _ ⟨rfl, rfl⟩ _
   refine DepsE_nil ?_
   refine ⟨_, rfl, ?_⟩
   refine WL_call Tryd.call46 rfl rfl (c_S_EncodeVarint a1.1 x4 hr4) ?_
   intro _ w6 hv3
   obtain ⟨rfl, hB6⟩ := res_str hv3
   refine WL_nil ?_
   exact FinE_val hB6 rfl rfl ⟨rfl, rfl⟩
  refine StepsE_cons rfl ?_ ?_
  ·intro w10 hB9
   refine DepsE_nil ?_
   refine ⟨_, rfl, ?_⟩
   refine WL_call Tryd.call46 rfl rfl (c_S_EncodeVarint a2 x5 hr5) ?_
   intro _ w7 hv4
   obtain ⟨rfl, hB7⟩ := res_str hv4
   refine WL_nil ?_
   exact FinE_val hB7 rfl rfl ⟨rfl, rfl⟩
  refine StepsE_cons rfl ?_ ?_
  ·intro w10 hB9
   refine DepsE_cons rfl rfl rfl ?_
   rintro _ _ ⟨rfl, rfl⟩ _
   refine DepsE_cons rfl rfl rfl ?_
   rintro _ _ ⟨rfl, rfl⟩ _
   refine DepsE_nil ?_
   refine ⟨_, rfl, ?_⟩
   refine WL_str_add hx1 rfl rfl rfl ?_
   refine WL_nil ?_
   exact FinE_val (Below.refl _ _) rfl rfl ⟨rfl, rfl⟩
  refine StepsE_cons rfl ?_ ?_
  ·intro w10 hB9
   refine DepsE_nil ?_
   refine ⟨_, rfl, ?_⟩
   refine WL_load_box (hC5.grow hB9) 0 rfl rfl Tryd.isAgg22 rfl rfl ?_
   refine WL_nil ?_
   exact FinE_val (Below.refl _ _) rfl rfl ⟨rfl, rfl⟩
  refine StepsE_cons rfl ?_ ?_
  ·intro w10 hB9
   refine DepsE_cons rfl rfl rfl ?_
   rintro _ _ ⟨rfl, rfl⟩ _
   refine DepsE_nil ?_
   refine ⟨_, rfl, ?_⟩
   refine WL_len Tryd.underlying22 g1 rfl rfl ?_
   refine WL_nil ?_
   exact FinE_val (Below.refl _ _) rfl rfl ⟨rfl, rfl⟩
  refine StepsE_cons rfl ?_ ?_
  ·intro w10 hB9
   refine DepsE_cons rfl rfl rfl ?_
   rintro _ _ ⟨rfl, rfl⟩ _
   refine DepsE_nil ?_
   refine ⟨_, rfl, ?_⟩
   refine WL_call Tryd.call46 rfl rfl (c_S_EncodeVarint (List.length a1.2 : Int) x7 hr6) ?_
   intro _ w9 hv5
   obtain ⟨rfl, hB8⟩ := res_str hv5
   refine WL_nil ?_
   exact FinE_val hB8 rfl rfl ⟨rfl, rfl⟩
  exact StepsE_nil
 intro w11 hB10
 refine AllE_cons rfl rfl rfl ?_
 rintro _ _ ⟨rfl, rfl⟩
 refine AllE_cons rfl rfl rfl ?_
 rintro _ _ ⟨rfl, rfl⟩
 refine AllE_cons rfl rfl rfl ?_
 rintro _ _ ⟨rfl, rfl⟩
 refine AllE_cons rfl rfl rfl ?_
 rintro _ _ ⟨rfl, rfl⟩
 refine AllE_cons rfl rfl rfl ?_
 rintro _ _ ⟨rfl, rfl⟩
 refine AllE_cons rfl rfl rfl ?_
 rintro _ _ ⟨rfl, rfl⟩
 refine AllE_cons rfl rfl rfl ?_
 rintro _ _ ⟨rfl, rfl⟩
 refine AllE_nil ?_
 intro hn1 hb1
 have hC6 := hC5.grow hB10
 obtain ⟨x8, hx2, hF⟩ := bind_some hF
 refine WA_tk 10 (by kernel_rfl) rfl rfl (fl_str_add hx2 rfl rfl) ?_
 refine WL_str_add hx2 rfl rfl rfl ?_
 refine WL_nil ?_
 refine WA_tk 11 (by kernel_rfl) rfl rfl (fl_assign rfl) ?_
 refine WL_assign rfl rfl ?_
 refine WL_nil ?_
 refine WA_done (by kernel_rfl) ?_
 refine nrm_normal (W_seq (W_seq_reg ?_))
 refine WL_assign rfl rfl ?_
 refine WL_nil ?_
 obtain ⟨r2, hr7, hF⟩ := bind_some hF
 refine W_norm (fun l w => ∃ x11 : Str, x11 = r2 ∧ l = [(5, (sv x11))] ∧ Below w11.heap.size w11 w ∧ Ctx [] w0 w []) ?_ ?_
 ·refine W_block ?_
  refine W.sub (l' := [(2, (ptr b1 0)), (5, (sv x8)), (6, (.int .i64 0))]) ?_ ⟨rfl, rfl, rfl, trivial⟩
  refine W_loop (fun k l w => ∃ x9 : Str, ∃ x10 : Int, l = [(2, (ptr b1 0)), (5, (sv x9)), (6, (.int .i64 x10))] ∧ Below w11.heap.size w11 w ∧ Ctx [] w0 w [Item.box b1 [(.int .i64 a1.1), u1]] ∧ S.EncodeRequest_l1 a1 k x9 x10 = some r2) FUEL ⟨x8, 0, rfl, (Below.refl _ _), hC6, hr7⟩ ?_
  clear hr7
  rintro k1 _ w12 ⟨x9, x10, rfl, hB11, hC7, hL1⟩
  cases k1 with
  | zero => rw [S.EncodeRequest_l1] at hL1; cases hL1
  | succ k1 =>
   rw [S.EncodeRequest_l1] at hL1
   refine W_seq (W_seq_reg ?_)
   refine WL_move rfl rfl ?_
   refine WL_field Tryd.underlying29 rfl rfl (fun w => ⟨_, Tryd.sizeOf22 w⟩) rfl rfl ?_
   refine WL_load_box hC7 0 rfl rfl Tryd.isAgg22 rfl rfl ?_
   refine WL_len Tryd.underlying22 g1 rfl rfl ?_
   refine WL_lss rfl rfl rfl ?_
   refine WL_nil ?_
   refine W_cond rfl (fun hc3 => ?_) (fun hc3 => ?_)
   ·replace hL1 := ite_t hL1 hc3
    refine W_skip (nrm_normal (W_seq (W_block (W_reg ?_))))
    refine WL_move rfl rfl ?_
    refine WL_field Tryd.underlying29 rfl rfl (fun w => ⟨_, Tryd.sizeOf22 w⟩) rfl rfl ?_
    refine WL_load_box hC7 0 rfl rfl Tryd.isAgg22 rfl rfl ?_
    refine WL_move rfl rfl ?_
    obtain ⟨x12, hx3, hL1⟩ := bind_some hL1
    refine WL_index Tryd.underlying22 ty3 g1 hx3 rfl rfl rfl (fun b2 o1 h1 => ?_)
    refine WL_load ty3 h1 hC7.keep rfl rfl (fun v1 h2 => ?_)
    obtain rfl := ro_int h2
    obtain ⟨x13, hr8, hL1⟩ := bind_some hL1
    refine WL_call Tryd.call46 rfl rfl (c_S_EncodeVarint x12 x13 hr8) ?_
    intro _ w13 hv6
    obtain ⟨rfl, hB12⟩ := res_str hv6
    have hC8 := hC7.grow hB12
    obtain ⟨x14, hx4, hL1⟩ := bind_some hL1
    refine WL_str_add hx4 rfl rfl rfl ?_
    refine WL_assign rfl rfl ?_
    refine WL_nil (blk_normal (nrm_normal (W_reg ?_)))
    refine WL_move rfl rfl ?_
    refine WL_add rfl rfl rfl ?_
    refine WL_assign rfl rfl ?_
    refine WL_nil ?_
    refine nrm_sub (l' := [(2, (ptr b1 0)), (5, (sv x14)), (6, (.int .i64 (w64 (x10 + 1))))]) ⟨rfl, rfl, rfl, trivial⟩ ?_
    exact ⟨k1, Nat.lt_succ_self _, x14, w64 (x10 + 1), rfl, ((Keep.of hB11).then hB12).below, hC8, hL1⟩
   replace hL1 := ite_f hL1 hc3
   refine W_exit (nrm_exit (nrm_exit (blk_exit ?_)))
   have hq4 := Option.some.inj hL1
   subst hq4
   have hC9 := hC7.h0
   refine nrm_sub (l' := [(5, (sv x9))]) ⟨rfl, trivial⟩ ?_
   exact ⟨x9, rfl, rfl, (Keep.of hB11).below, hC9⟩
 rintro l3 _ w14 hs3 ⟨x11, rfl, rfl, hB13, hC10⟩
 try dsimp only at hF
 refine nrm_sub' hs3 ?_
 clear hs3
 refine W_seq_reg ?_
 refine WL_move rfl rfl ?_
 refine WL_assign rfl rfl ?_
 refine WL_nil (W_ret ?_)
 have hq5 := Option.some.inj hF
 subst hq5
 refine fn_ret1 rfl rfl ?_
 exact ⟨_, rfl, str_res hC10 _⟩

theorem c_M_within {w0 : World} (a1 : Int) (a2 : Int) (a3 : Int) (rr : Bool) (hF : M.within a1 a2 a3 = some rr) :
 Calls Tryd.prog 43 [(.int .i64 a1), (.int .i64 a2), (.int .i64 a3)].toArray w0 fun e w' => ∃ v, e = .returned v ∧ Res w0 rr v w' := by
 refine calls_of_W Tryd.func43 rfl rfl ?_
 have hC0 := Ctx.start w0
 unfold M.within at hF
 refine W_seq_reg ?_
 refine WL_assign rfl rfl ?_
 refine WL_nil ?_
 obtain ⟨r1, hr1, hF⟩ := bind_some hF
 refine W_cut (fun l w => ∃ x1 : Bool, x1 = r1 ∧ l = [(6, (.bool x1))] ∧ Below w0.heap.size w0 w ∧ Ctx [] w0 w []) ?_ ?_
 ·refine W_reg ?_
  refine WL_move rfl rfl ?_
  refine WL_move rfl rfl ?_
  refine WL_geq rfl rfl rfl ?_
  refine WL_move rfl rfl ?_
  refine WL_fork (fun hc1 => ?_) (fun hc1 => ?_)
  ·replace hr1 := ite_t hr1 hc1
   refine WL_guard rfl rfl ?_
   refine WL_move rfl rfl ?_
   refine WL_guard rfl rfl ?_
   refine WL_move rfl rfl ?_
   refine WL_guard rfl rfl ?_
   refine WL_leq rfl rfl rfl ?_
   refine WL_pick_t rfl rfl rfl ?_
   refine WL_assign rfl rfl ?_
   refine WL_nil ?_
   have hq1 := Option.some.inj hr1
   subst hq1
   refine nrm_sub (l' := [(6, (.bool (decide (a1 ≤ a3))))]) ⟨rfl, trivial⟩ ?_
   exact ⟨(decide (a1 ≤ a3)), rfl, rfl, (Below.refl _ _), hC0⟩
  replace hr1 := ite_f hr1 hc1
  refine WL_guard_skip rfl rfl (by simp) rfl ?_
  refine WL_guard_skip rfl rfl (by simp) rfl ?_
  refine WL_guard_skip rfl rfl (by simp) rfl ?_
  refine WL_pick_f rfl rfl rfl ?_
  refine WL_assign rfl rfl ?_
  refine WL_nil ?_
  have hq2 := Option.some.inj hr1
  subst hq2
  refine nrm_sub (l' := [(6, (.bool false))]) ⟨rfl, trivial⟩ ?_
  exact ⟨false, rfl, rfl, (Below.refl _ _), hC0⟩
 rintro _ w1 ⟨x1, rfl, rfl, hB1, hC1⟩
 try dsimp only at hF
 refine W_ret ?_
 have hq3 := Option.some.inj hF
 subst hq3
 refine fn_ret1 rfl rfl ?_
 exact ⟨_, rfl, bool_res hC1 _⟩

theorem c_Strconv_Itoa {w0 : World} (a1 : Int) (rr : Str) (hF : Strconv.Itoa a1 = some rr) :
    Calls Tryd.prog 74 [(.int .i64 a1)].toArray w0 fun e w' => ∃ v, e = .returned v ∧ Res w0 rr v w' := itoa_calls Tryd.lays171 a1 rr hF

theorem c_M_FormatInt {w0 : World} (a1 : Int) (rr : Str) (hF : M.FormatInt a1 = some rr) :
 Calls Tryd.prog 44 [(.int .i64 a1)].toArray w0 fun e w' => ∃ v, e = .returned v ∧ Res w0 rr v w' := by
 refine calls_of_W Tryd.func44 rfl rfl ?_
 have hC0 := Ctx.start w0
 unfold M.FormatInt at hF
 refine W_seq_reg ?_
 refine WL_assign rfl rfl ?_
 refine WL_nil (W_seq_reg ?_)
 refine WL_move rfl rfl ?_
 obtain ⟨x1, hr1, hF⟩ := bind_some hF
 refine WL_call Tryd.call74 rfl rfl (c_Strconv_Itoa a1 x1 hr1) ?_
 intro _ w1 hv1
 obtain ⟨rfl, hB1⟩ := res_str hv1
 have hC1 := hC0.grow hB1
 refine WL_assign rfl rfl ?_
 refine WL_nil (W_ret ?_)
 have hq1 := Option.some.inj hF
 subst hq1
 refine fn_ret1 rfl rfl ?_
 exact ⟨_, rfl, str_res hC1 _⟩

theorem c_M_isValue {w0 : World} (a1 : Int) (rr : Bool) (hF : M.isValue a1 = some rr) :
 Calls Tryd.prog 90 [(.int .i64 a1)].toArray w0 fun e w' => ∃ v, e = .returned v ∧ Res w0 rr v w' := by
 refine calls_of_W Tryd.func90 rfl rfl ?_
 have hC0 := Ctx.start w0
 unfold M.isValue at hF
 refine W_seq_reg ?_
 refine WL_assign rfl rfl ?_
 refine WL_nil (W_seq_reg ?_)
 refine WL_move rfl rfl ?_
 obtain ⟨x1, hr1, hF⟩ := bind_some hF
 refine WL_call Tryd.call43 rfl rfl (c_M_within a1 0 9 x1 hr1) ?_
 intro _ w1 hv1
 obtain ⟨rfl, hB1⟩ := res_bool hv1
 have hC1 := hC0.grow hB1
 refine WL_assign rfl rfl ?_
 refine WL_nil (W_ret ?_)
 have hq1 := Option.some.inj hF
 subst hq1
 refine fn_ret1 rfl rfl ?_
 exact ⟨_, rfl, bool_res hC1 _⟩

theorem c_M_areValues_c1 {w0 : World} (a1 : Int) (rr : Bool) (hF : M.areValues_c1 a1 = some rr) :
 Calls Tryd.prog 89 [(.int .i64 a1)].toArray w0 fun e w' => ∃ v, e = .returned v ∧ Res w0 rr v w' := by
 refine calls_of_W Tryd.func89 rfl rfl ?_
 have hC0 := Ctx.start w0
 unfold M.areValues_c1 at hF
 refine W_seq_reg ?_
 refine WL_assign rfl rfl ?_
 refine WL_nil (W_seq_reg ?_)
 refine WL_move rfl rfl ?_
 obtain ⟨x1, hr1, hF⟩ := bind_some hF
 refine WL_call Tryd.call90 rfl rfl (c_M_isValue a1 x1 hr1) ?_
 intro _ w1 hv1
 obtain ⟨rfl, hB1⟩ := res_bool hv1
 have hC1 := hC0.grow hB1
 refine WL_not rfl rfl ?_
 refine WL_assign rfl rfl ?_
 refine WL_nil (W_ret ?_)
 have hq1 := Option.some.inj hF
 subst hq1
 refine fn_ret1 rfl rfl ?_
 exact ⟨_, rfl, bool_res hC1 _⟩

theorem c_Slices_IndexFunc_Lint_int_M_areValues_c1 {w0 : World} (a1 : (List Int)) (u1 : Value) (g1 : RO [] w0 u1 a1) (rr : Int) (hF : Slices.IndexFunc_Lint_int_M_areValues_c1 a1 = some rr) :
 Calls Tryd.prog 101 [u1, (.func (.func 89) #[] #[])].toArray w0 fun e w' => ∃ v, e = .returned v ∧ Res w0 rr v w' := by
 refine calls_of_W Tryd.func101 rfl rfl ?_
 have hC0 := Ctx.start w0
 unfold Slices.IndexFunc_Lint_int_M_areValues_c1 at hF
 refine W_seq_reg ?_
 refine WL_assign rfl rfl ?_
 refine WL_nil (W_seq (W_seq_reg ?_))
 refine WL_move rfl rfl ?_
 refine WL_len Tryd.underlying22 g1 rfl rfl ?_
 refine WL_move rfl rfl ?_
 refine WL_nil ?_
 obtain ⟨r1, hr1, hF⟩ := bind_some hF
 refine W_norm (fun l w => .inl () = r1 ∧ l = [] ∧ Below w0.heap.size w0 w ∧ Ctx [] w0 w []) ?_ ?_
 ·refine W_block ?_
  refine W.sub (l' := [(0, u1), (1, (.func (.func 89) #[] #[])), (7, (.int .i64 (List.length a1 : Int))), (8, (.int .i64 0))]) ?_ ⟨rfl, rfl, rfl, rfl, trivial⟩
  refine W_loop (fun k l w => ∃ x1 : Int, l = [(0, u1), (1, (.func (.func 89) #[] #[])), (7, (.int .i64 (List.length a1 : Int))), (8, (.int .i64 x1))] ∧ Below w0.heap.size w0 w ∧ Ctx [] w0 w [] ∧ Slices.IndexFunc_Lint_int_M_areValues_c1_l1 a1 k x1 = some r1) FUEL ⟨0, rfl, (Below.refl _ _), hC0, hr1⟩ ?_
  clear hr1
  rintro k1 _ w1 ⟨x1, rfl, hB1, hC1, hL1⟩
  cases k1 with
  | zero => rw [Slices.IndexFunc_Lint_int_M_areValues_c1_l1] at hL1; cases hL1
  | succ k1 =>
   rw [Slices.IndexFunc_Lint_int_M_areValues_c1_l1] at hL1
   refine W_seq_reg ?_
   refine WL_lss rfl rfl rfl ?_
   refine WL_nil (W_seq ?_)
   refine W_cond rfl (fun hc1 => ?_) (fun hc1 => ?_)
   ·replace hL1 := ite_t hL1 hc1
    refine W_skip (nrm_normal (W_seq (W_block (W_seq_reg ?_))))
    refine WL_move rfl rfl ?_
    refine WL_assign rfl rfl ?_
    refine WL_nil (W_seq_reg ?_)
    refine WL_move rfl rfl ?_
    refine WL_move rfl rfl ?_
    refine WL_move rfl rfl ?_
    obtain ⟨x2, hx1, hL1⟩ := bind_some hL1
    refine WL_index Tryd.underlying22 ty3 g1 hx1 rfl rfl rfl (fun b1 o1 h1 => ?_)
    refine WL_load ty3 h1 hC1.keep rfl rfl (fun v1 h2 => ?_)
    obtain rfl := ro_int h2
    obtain ⟨x3, hr2, hL1⟩ := bind_some hL1
    refine WL_callv (cap := []) Tryd.call89 rfl rfl rfl (c_M_areValues_c1 x2 x3 hr2) ?_
    intro _ w2 hv1
    obtain ⟨rfl, hB2⟩ := res_bool hv1
    have hC2 := hC1.grow hB2
    refine WL_nil ?_
    refine W_cond rfl (fun hc2 => ?_) (fun hc2 => ?_)
    ·replace hL1 := ite_t hL1 hc2
     refine W_seq_reg ?_
     refine WL_move rfl rfl ?_
     refine WL_assign rfl rfl ?_
     refine WL_nil (W_ret (blk_ret (nrm_ret (nrm_ret (blk_ret (nrm_ret (nrm_ret ?_)))))))
     have hq1 := Option.some.inj hL1
     subst hq1
     dsimp only at hF
     have hq2 := Option.some.inj hF
     subst hq2
     refine fn_ret1 rfl rfl ?_
     exact ⟨_, rfl, int_res hC2 _⟩
    replace hL1 := ite_f hL1 hc2
    refine W_skip (blk_normal (nrm_normal (W_reg ?_)))
    refine WL_add rfl rfl rfl ?_
    refine WL_move rfl rfl ?_
    refine WL_nil ?_
    refine nrm_sub (l' := [(0, u1), (1, (.func (.func 89) #[] #[])), (7, (.int .i64 (List.length a1 : Int))), (8, (.int .i64 (w64 (x1 + 1))))]) ⟨rfl, rfl, rfl, rfl, trivial⟩ ?_
    exact ⟨k1, Nat.lt_succ_self _, w64 (x1 + 1), rfl, ((Keep.of hB1).then hB2).below, hC2, hL1⟩
   replace hL1 := ite_f hL1 hc1
   refine W_exit (nrm_exit (nrm_exit (blk_exit ?_)))
   have hq3 := Option.some.inj hL1
   subst hq3
   refine nrm_sub (l' := []) trivial ?_
   exact ⟨rfl, rfl, (Keep.of hB1).below, hC1⟩
 rintro l2 _ w3 hs2 ⟨rfl, rfl, hB3, hC3⟩
 try dsimp only at hF
 refine nrm_sub' hs2 ?_
 clear hs2
 refine W_seq_reg ?_
 refine WL_assign rfl rfl ?_
 refine WL_nil (W_ret ?_)
 have hq4 := Option.some.inj hF
 subst hq4
 refine fn_ret1 rfl rfl ?_
 exact ⟨_, rfl, int_res hC3 _⟩

theorem c_Slices_ContainsFunc_Lint_int_M_areValues_c1 {w0 : World} (a1 : (List Int)) (u1 : Value) (g1 : RO [] w0 u1 a1) (rr : Bool) (hF : Slices.ContainsFunc_Lint_int_M_areValues_c1 a1 = some rr) :
 Calls Tryd.prog 88 [u1, (.func (.func 89) #[] #[])].toArray w0 fun e w' => ∃ v, e = .returned v ∧ Res w0 rr v w' := by
 refine calls_of_W Tryd.func88 rfl rfl ?_
 have hC0 := Ctx.start w0
 unfold Slices.ContainsFunc_Lint_int_M_areValues_c1 at hF
 refine W_seq_reg ?_
 refine WL_assign rfl rfl ?_
 refine WL_nil (W_seq_reg ?_)
 refine WL_move rfl rfl ?_
 refine WL_move rfl rfl ?_
 obtain ⟨x1, hr1, hF⟩ := bind_some hF
 refine WL_call Tryd.call101 rfl rfl (c_Slices_IndexFunc_Lint_int_M_areValues_c1 a1 u1 (g1.now hC0.keep) x1 hr1) ?_
 intro _ w1 hv1
 obtain ⟨rfl, hB1⟩ := res_int hv1
 have hC1 := hC0.grow hB1
 refine WL_geq rfl rfl rfl ?_
 refine WL_assign rfl rfl ?_
 refine WL_nil (W_ret ?_)
 have hq1 := Option.some.inj hF
 subst hq1
 refine fn_ret1 rfl rfl ?_
 exact ⟨_, rfl, bool_res hC1 _⟩

theorem c_M_areValues {w0 : World} (a1 : (List Int)) (u1 : Value) (g1 : RO [] w0 u1 a1) (rr : Bool) (hF : M.areValues a1 = some rr) :
 Calls Tryd.prog 72 [u1].toArray w0 fun e w' => ∃ v, e = .returned v ∧ Res w0 rr v w' := by
 refine calls_of_W Tryd.func72 rfl rfl ?_
 have hC0 := Ctx.start w0
 unfold M.areValues at hF
 refine W_seq_reg ?_
 refine WL_assign rfl rfl ?_
 refine WL_nil (W_seq_reg ?_)
 refine WL_move rfl rfl ?_
 obtain ⟨x1, hr1, hF⟩ := bind_some hF
 refine WL_call Tryd.call88 rfl rfl (c_Slices_ContainsFunc_Lint_int_M_areValues_c1 a1 u1 (g1.now hC0.keep) x1 hr1) ?_
 intro _ w1 hv1
 obtain ⟨rfl, hB1⟩ := res_bool hv1
 have hC1 := hC0.grow hB1
 refine WL_not rfl rfl ?_
 refine WL_assign rfl rfl ?_
 refine WL_nil (W_ret ?_)
 have hq1 := Option.some.inj hF
 subst hq1
 refine fn_ret1 rfl rfl ?_
 exact ⟨_, rfl, bool_res hC1 _⟩

theorem c_Strings_Join {w0 : World} (a1 : (List Str)) (u1 : Value) (g1 : RO [] w0 u1 a1) (a2 : Str) (rr : Str) (hF : Strings.Join a1 a2 = some rr) :
    Calls Tryd.prog 91 [u1, (sv a2)].toArray w0 fun e w' => ∃ v, e = .returned v ∧ Res w0 rr v w' := join_calls Tryd.lays156 Tryd.Builder_Extra_156 a1 u1 g1 a2 rr hF

theorem c_M_joined {w0 : World} (a1 : (List Int)) (u1 : Value) (g1 : RO [] w0 u1 a1) (a2 : Str) (rr : Str) (hF : M.joined a1 a2 = some rr) :
 Calls Tryd.prog 73 [u1, (sv a2)].toArray w0 fun e w' => ∃ v, e = .returned v ∧ Res w0 rr v w' := by
 refine calls_of_W Tryd.func73 rfl rfl ?_
 have hC0 := Ctx.start w0
 unfold M.joined at hF
 refine W_seq_reg ?_
 refine WL_assign rfl rfl ?_
 refine WL_nil (W_seq_reg ?_)
 refine WL_buildSlice (vs := []) hC0 Tryd.underlying89 ty9 rfl rfl rfl rfl (by simp) rfl rfl (fun b1 w1 hC1 hB1 => ?_)
 have hC2 := hC1.row0 (α := Str)
 have hC3 := hC2.front 1 rfl
 dsimp only [List.eraseIdx, List.cons_append, List.nil_append, List.append_nil] at hC3
 have hC4 : Ctx [] w0 w1 (Item.own (.slice (some ⟨b1, 0, none⟩) 0 0) (([] : List Str) : List Str) :: []) := hC3.rowOwn (by simp [maxLen])
 refine WL_assign rfl rfl ?_
 refine WL_nil (W_seq (W_seq_reg ?_))
 refine WL_move rfl rfl ?_
 refine WL_len Tryd.underlying22 g1 rfl rfl ?_
 refine WL_move rfl rfl ?_
 refine WL_nil ?_
 obtain ⟨r1, hr1, hF⟩ := bind_some hF
 refine W_norm (fun l w => ∃ v2 : Value, ∃ x3 : (List Str), x3 = r1 ∧ l = [(1, (sv a2)), (5, v2)] ∧ Ctx [] w0 w [Item.own v2 (x3 : (List Str))]) ?_ ?_
 ·refine W_block ?_
  refine W.sub (l' := [(1, (sv a2)), (5, (.slice (some ⟨b1, 0, none⟩) 0 0)), (9, u1), (10, (.int .i64 (List.length a1 : Int))), (11, (.int .i64 0))]) ?_ ⟨rfl, rfl, rfl, rfl, rfl, trivial⟩
  refine W_loop (fun k l w => ∃ v1 : Value, ∃ x1 : (List Str), ∃ x2 : Int, l = [(1, (sv a2)), (5, v1), (9, u1), (10, (.int .i64 (List.length a1 : Int))), (11, (.int .i64 x2))] ∧ Ctx [] w0 w [Item.own v1 (x1 : (List Str))] ∧ M.joined_l1 a1 k x1 x2 = some r1) FUEL ⟨(.slice (some ⟨b1, 0, none⟩) 0 0), ([] : List Str), 0, rfl, hC4, hr1⟩ ?_
  clear hr1
  rintro k1 _ w2 ⟨v1, x1, x2, rfl, hC5, hL1⟩
  cases k1 with
  | zero => rw [M.joined_l1] at hL1; cases hL1
  | succ k1 =>
   rw [M.joined_l1] at hL1
   refine W_seq_reg ?_
   refine WL_lss rfl rfl rfl ?_
   refine WL_nil (W_seq ?_)
   refine W_cond rfl (fun hc1 => ?_) (fun hc1 => ?_)
   ·replace hL1 := ite_t hL1 hc1
    refine W_skip (nrm_normal (W_seq (W_block (W_seq_reg ?_))))
    obtain ⟨x4, hx1, hL1⟩ := bind_some hL1
    refine WL_index Tryd.underlying22 ty3 g1 hx1 rfl rfl rfl (fun b2 o1 h1 => ?_)
    refine WL_load ty3 h1 hC5.keep rfl rfl (fun v3 h2 => ?_)
    obtain rfl := ro_int h2
    refine WL_assign rfl rfl ?_
    refine WL_nil (W_reg ?_)
    refine WL_move rfl rfl ?_
    refine WL_move rfl rfl ?_
    obtain ⟨x5, hr2, hL1⟩ := bind_some hL1
    refine WL_call Tryd.call44 rfl rfl (c_M_FormatInt x4 x5 hr2) ?_
    intro _ w3 hv1
    obtain ⟨rfl, hB3⟩ := res_str hv1
    have hC6 := hC5.grow hB3
    refine WL_buildSlice (vs := [(sv x5)]) hC6 Tryd.underlying89 ty9 rfl rfl rfl rfl (by intro v hv; simp only [List.mem_cons, List.not_mem_nil, or_false] at hv; rcases hv with rfl <;> rfl) rfl rfl (fun b3 w4 hC7 hB4 => ?_)
    have hC8 := hC7.row0 (α := Str)
    have hC9 := hC8.triv (str_val (x5))
    have hC10 := hC9.row1
    have hC11 := hC10.front 1 rfl
    dsimp only [List.eraseIdx, List.cons_append, List.nil_append, List.append_nil] at hC11
    have hC12 : Ctx [] w0 w4 (Item.own (.slice (some ⟨b3, 0, none⟩) 1 1) ([x5] : List Str) :: [Item.own v1 (x1 : (List Str))]) := hC11.rowOwn (by simp [maxLen])
    obtain ⟨x6, hx2, hL1⟩ := bind_some hL1
    refine WL_append_flat (α := Str) hC12 1 rfl (hC12.ro 0 rfl) (Keep.refl _ _) Tryd.underlying89 ty9 rfl hx2 rfl rfl rfl (fun v4 w5 hC13 => ?_)
    try dsimp only [List.set] at hC13
    refine WL_assign rfl rfl ?_
    refine WL_nil (blk_normal (nrm_normal (W_reg ?_)))
    refine WL_add rfl rfl rfl ?_
    refine WL_move rfl rfl ?_
    refine WL_nil ?_
    have hC14 := hC13.f1
    have hC15 := hC14.h1
    refine nrm_sub (l' := [(1, (sv a2)), (5, v4), (9, u1), (10, (.int .i64 (List.length a1 : Int))), (11, (.int .i64 (w64 (x2 + 1))))]) ⟨rfl, rfl, rfl, rfl, rfl, trivial⟩ ?_
    exact ⟨k1, Nat.lt_succ_self _, v4, x6, w64 (x2 + 1), rfl, hC15, hL1⟩
   replace hL1 := ite_f hL1 hc1
   refine W_exit (nrm_exit (nrm_exit (blk_exit ?_)))
   have hq1 := Option.some.inj hL1
   subst hq1
   refine nrm_sub (l' := [(1, (sv a2)), (5, v1)]) ⟨rfl, rfl, trivial⟩ ?_
   exact ⟨v1, x1, rfl, rfl, hC5⟩
 rintro l2 _ w6 hs2 ⟨v2, x3, rfl, rfl, hC16⟩
 try dsimp only at hF
 refine nrm_sub' hs2 ?_
 clear hs2
 refine W_seq_reg ?_
 refine WL_move rfl rfl ?_
 refine WL_move rfl rfl ?_
 obtain ⟨x7, hr3, hF⟩ := bind_some hF
 refine WL_call Tryd.call91 rfl rfl (c_Strings_Join x3 v2 ((hC16.ro 0 rfl).now (Keep.refl _ _)) a2 x7 hr3) ?_
 intro _ w7 hv2
 obtain ⟨rfl, hB6⟩ := res_str hv2
 have hC17 := hC16.grow hB6
 refine WL_assign rfl rfl ?_
 refine WL_nil (W_ret ?_)
 have hq2 := Option.some.inj hF
 subst hq2
 refine fn_ret1 rfl rfl ?_
 exact ⟨_, rfl, str_res hC17 _⟩

theorem c_M_FormatAccess {w0 : World} (a1 : (Int × (List Int))) (u1 : Value) (g1 : RO [] w0 u1 a1.2) (rr : Str) (hF : M.FormatAccess a1 = some rr) :
 Calls Tryd.prog 42 [(.agg #[(.int .i64 a1.1), u1])].toArray w0 fun e w' => ∃ v, e = .returned v ∧ Res w0 rr v w' := by
 refine calls_of_W Tryd.func42 rfl rfl ?_
 have hC0 := Ctx.start w0
 unfold M.FormatAccess at hF
 refine W_seq_reg ?_
 refine WL_boxK (cs := [(.int .i64 a1.1), u1]) hC0 rfl rfl rfl (fun b1 w1 hC1 hB1 hN1 => ?_)
 refine WL_assign rfl rfl ?_
 refine WL_nil (W_seq ?_)
 obtain ⟨r1, hr1, hF⟩ := bind_some hF
 refine W_cut (fun l w => ∃ x1 : Bool, x1 = r1 ∧ l = [(1, (ptr b1 0)), (18, (.bool x1))] ∧ Below w1.heap.size w1 w ∧ Ctx [] w0 w [Item.box b1 [(.int .i64 a1.1), u1]]) ?_ ?_
 ·refine W_reg ?_
  refine WL_field Tryd.underlying29 rfl rfl (fun w => ⟨_, Tryd.sizeOf3 w⟩) rfl rfl ?_
  refine WL_load_box hC1 0 rfl rfl Tryd.isAgg3 rfl rfl ?_
  obtain ⟨x2, hr2, hr1⟩ := bind_some hr1
  refine WL_call Tryd.call43 rfl rfl (c_M_within a1.1 0 4 x2 hr2) ?_
  intro _ w3 hv1
  obtain ⟨rfl, hB3⟩ := res_bool hv1
  have hC3 := hC1.grow hB3
  refine WL_not rfl rfl ?_
  refine WL_move rfl rfl ?_
  refine WL_fork (fun hc1 => ?_) (fun hc1 => ?_)
  ·replace hr1 := ite_t hr1 hc1
   refine WL_guard_skip rfl rfl (by simp) rfl ?_
   refine WL_guard_skip rfl rfl (by simp) rfl ?_
   refine WL_guard_skip rfl rfl (by simp) rfl ?_
   refine WL_guard_skip rfl rfl (by simp) rfl ?_
   refine WL_pick_t rfl rfl rfl ?_
   refine WL_move rfl rfl ?_
   refine WL_guard_skip rfl rfl (by simp) rfl ?_
   refine WL_guard_skip rfl rfl (by simp) rfl ?_
   refine WL_guard_skip rfl rfl (by simp) rfl ?_
   refine WL_guard_skip rfl rfl (by simp) rfl ?_
   refine WL_pick_t rfl rfl rfl ?_
   refine WL_nil ?_
   have hq1 := Option.some.inj hr1
   subst hq1
   refine nrm_sub (l' := [(1, (ptr b1 0)), (18, (.bool true))]) ⟨rfl, rfl, trivial⟩ ?_
   exact ⟨true, rfl, rfl, (Keep.of hB3).below, hC3⟩
  replace hr1 := ite_f hr1 hc1
  refine WL_guard rfl rfl ?_
  refine WL_field Tryd.underlying29 rfl rfl (fun w => ⟨_, Tryd.sizeOf22 w⟩) rfl rfl ?_
  refine WL_guard rfl rfl ?_
  refine WL_load_box hC3 0 rfl rfl Tryd.isAgg22 rfl rfl ?_
  refine WL_guard rfl rfl ?_
  refine WL_len Tryd.underlying22 g1 rfl rfl ?_
  refine WL_guard rfl rfl ?_
  refine WL_gtr rfl rfl rfl ?_
  refine WL_pick_f rfl rfl rfl ?_
  refine WL_move rfl rfl ?_
  refine WL_fork (fun hc2 => ?_) (fun hc2 => ?_)
  ·replace hr1 := ite_t hr1 hc2
   refine WL_guard_skip rfl rfl (by simp) rfl ?_
   refine WL_guard_skip rfl rfl (by simp) rfl ?_
   refine WL_guard_skip rfl rfl (by simp) rfl ?_
   refine WL_guard_skip rfl rfl (by simp) rfl ?_
   refine WL_pick_t rfl rfl rfl ?_
   refine WL_nil ?_
   have hq2 := Option.some.inj hr1
   subst hq2
   refine nrm_sub (l' := [(1, (ptr b1 0)), (18, (.bool true))]) ⟨rfl, rfl, trivial⟩ ?_
   exact ⟨true, rfl, rfl, (Keep.of hB3).below, hC3⟩
  replace hr1 := ite_f hr1 hc2
  refine WL_guard rfl rfl ?_
  refine WL_field Tryd.underlying29 rfl rfl (fun w => ⟨_, Tryd.sizeOf22 w⟩) rfl rfl ?_
  refine WL_guard rfl rfl ?_
  refine WL_load_box hC3 0 rfl rfl Tryd.isAgg22 rfl rfl ?_
  obtain ⟨x3, hr3, hr1⟩ := bind_some hr1
  refine WL_guard rfl rfl ?_
  refine WL_call Tryd.call72 rfl rfl (c_M_areValues a1.2 u1 (g1.now hC3.keep) x3 hr3) ?_
  intro _ w4 hv2
  obtain ⟨rfl, hB4⟩ := res_bool hv2
  have hC4 := hC3.grow hB4
  refine WL_guard rfl rfl ?_
  refine WL_not rfl rfl ?_
  refine WL_pick_f rfl rfl rfl ?_
  refine WL_nil ?_
  have hq3 := Option.some.inj hr1
  subst hq3
  refine nrm_sub (l' := [(1, (ptr b1 0)), (18, (.bool (!x3)))]) ⟨rfl, rfl, trivial⟩ ?_
  exact ⟨(!x3), rfl, rfl, ((Keep.of hB3).then hB4).below, hC4⟩
 rintro _ w2 ⟨x1, rfl, rfl, hB2, hC2⟩
 try dsimp only at hF
 refine W_cond rfl (fun hc3 => ?_) (fun hc3 => ?_)
 ·replace hF := ite_t hF hc3
  refine W_seq_reg ?_
  refine WL_assign rfl rfl ?_
  refine WL_nil (W_ret (nrm_ret ?_))
  have hq4 := Option.some.inj hF
  subst hq4
  refine fn_ret1 rfl rfl ?_
  exact ⟨_, rfl, str_res hC2 _⟩
 replace hF := ite_f hF hc3
 refine W_skip (nrm_normal (W_seq ?_))
 refine W_drawn 11 rfl hmix (fun w5 hB5 => ?_)
 have hC5 := hC2.grow hB5
 refine WA_tk 0 (by kernel_rfl) rfl rfl (fl_field Tryd.underlying29 rfl rfl (fun w => ⟨_, Tryd.sizeOf3 w⟩) rfl) ?_
 refine WL_field Tryd.underlying29 rfl rfl (fun w => ⟨_, Tryd.sizeOf3 w⟩) rfl rfl ?_
 refine WL_nil ?_
 refine WA_tk 5 (by kernel_rfl) rfl rfl (fl_field Tryd.underlying29 rfl rfl (fun w => ⟨_, Tryd.sizeOf22 w⟩) rfl) ?_
 refine WL_field Tryd.underlying29 rfl rfl (fun w => ⟨_, Tryd.sizeOf22 w⟩) rfl rfl ?_
 refine WL_nil ?_
 obtain ⟨x4, hr4, hF⟩ := bind_some hF
 obtain ⟨x5, hx1, hF⟩ := bind_some hF
 obtain ⟨x6, hx2, hF⟩ := bind_some hF
 obtain ⟨x7, hr5, hF⟩ := bind_some hF
 refine WA.sub (l' := [(1, (ptr b1 0)), (18, (.bool x1)), (19, (ptr b1 0)), (24, (ptr b1 1))]) ?_ ⟨rfl, rfl, rfl, rfl, trivial⟩
 refine WA_postsE [⟨1, [], fun vs => PW.val (.int .i64 a1.1), []⟩, ⟨2, [], fun vs => PW.val (sv x4), []⟩, ⟨3, [], fun vs => PW.val (sv x5), []⟩, ⟨4, [], fun vs => PW.val (sv x6), []⟩, ⟨6, [], fun vs => PW.val u1, []⟩, ⟨7, [], fun vs => PW.val (sv x7), []⟩] [[], [1], [2], [3], [], [6]] 3 rfl (by kernel_rfl) (by kernel_rfl) rfl ?_ ?_
 ·refine StepsE_cons rfl ?_ ?_
  ·intro w9 hB8
   refine DepsE_nil ?_
   refine ⟨_, rfl, ?_⟩
   refine WL_load_box (hC5.grow hB8) 0 rfl rfl Tryd.isAgg3 rfl rfl ?_
   refine WL_nil ?_
   exact FinE_val (Below.refl _ _) rfl rfl ⟨rfl, rfl⟩
  refine StepsE_cons rfl ?_ ?_
  ·intro w9 hB8
   refine DepsE_cons rfl rfl rfl ?_
   rintro _ _ ⟨rfl, rfl⟩ _
   refine DepsE_nil ?_
   refine ⟨_, rfl, ?_⟩
   refine WL_call Tryd.call44 rfl rfl (c_M_FormatInt a1.1 x4 hr4) ?_
   intro _ w6 hv3
   obtain ⟨rfl, hB6⟩ := res_str hv3
   refine WL_nil ?_
   exact FinE_val hB6 rfl rfl ⟨rfl, rfl⟩
  refine StepsE_cons rfl ?_ ?_
  ·intro w9 hB8
   refine DepsE_cons rfl rfl rfl ?_
   rintro _ _ ⟨rfl, rfl⟩ _
   refine DepsE_nil ?_
   refine ⟨_, rfl, ?_⟩
   refine WL_str_add hx1 rfl rfl rfl ?_
   refine WL_nil ?_
   exact FinE_val (Below.refl _ _) rfl rfl ⟨rfl, rfl⟩
  refine StepsE_cons rfl ?_ ?_
  ·intro w9 hB8
   refine DepsE_cons rfl rfl rfl ?_
   rintro _ _ ⟨rfl, rfl⟩ _
   refine DepsE_nil ?_
   refine ⟨_, rfl, ?_⟩
   refine WL_str_add hx2 rfl rfl rfl ?_
   refine WL_nil ?_
   exact FinE_val (Below.refl _ _) rfl rfl ⟨rfl, rfl⟩
  refine StepsE_cons rfl ?_ ?_
  ·intro w9 hB8
   refine DepsE_nil ?_
   refine ⟨_, rfl, ?_⟩
   refine WL_load_box (hC5.grow hB8) 0 rfl rfl Tryd.isAgg22 rfl rfl ?_
   refine WL_nil ?_
   exact FinE_val (Below.refl _ _) rfl rfl ⟨rfl, rfl⟩
  refine StepsE_cons rfl ?_ ?_
  ·intro w9 hB8
   refine DepsE_cons rfl rfl rfl ?_
   rintro _ _ ⟨rfl, rfl⟩ _
   refine DepsE_nil ?_
   refine ⟨_, rfl, ?_⟩
   refine WL_call Tryd.call73 rfl rfl (c_M_joined a1.2 u1 (g1.now (hC5.keep.then hB8)) (str [44]) x7 hr5) ?_
   intro _ w7 hv4
   obtain ⟨rfl, hB7⟩ := res_str hv4
   refine WL_nil ?_
   exact FinE_val hB7 rfl rfl ⟨rfl, rfl⟩
  exact StepsE_nil
 intro w10 hB9
 refine AllE_cons rfl rfl rfl ?_
 rintro _ _ ⟨rfl, rfl⟩
 refine AllE_cons rfl rfl rfl ?_
 rintro _ _ ⟨rfl, rfl⟩
 refine AllE_cons rfl rfl rfl ?_
 rintro _ _ ⟨rfl, rfl⟩
 refine AllE_cons rfl rfl rfl ?_
 rintro _ _ ⟨rfl, rfl⟩
 refine AllE_cons rfl rfl rfl ?_
 rintro _ _ ⟨rfl, rfl⟩
 refine AllE_cons rfl rfl rfl ?_
 rintro _ _ ⟨rfl, rfl⟩
 refine AllE_nil ?_
 intro hn1 hb1
 have hC6 := hC5.grow hB9
 obtain ⟨x8, hx3, hF⟩ := bind_some hF
 refine WA_tk 8 (by kernel_rfl) rfl rfl (fl_str_add hx3 rfl rfl) ?_
 refine WL_str_add hx3 rfl rfl rfl ?_
 refine WL_nil ?_
 obtain ⟨x9, hx4, hF⟩ := bind_some hF
 refine WA_tk 9 (by kernel_rfl) rfl rfl (fl_str_add hx4 rfl rfl) ?_
 refine WL_str_add hx4 rfl rfl rfl ?_
 refine WL_nil ?_
 refine WA_tk 10 (by kernel_rfl) rfl rfl (fl_assign rfl) ?_
 refine WL_assign rfl rfl ?_
 refine WL_nil ?_
 refine WA_done (by kernel_rfl) ?_
 refine nrm_normal (W_ret ?_)
 have hq5 := Option.some.inj hF
 subst hq5
 refine fn_ret1 rfl rfl ?_
 exact ⟨_, rfl, str_res hC6 _⟩

theorem c_M_isPage {w0 : World} (a1 : Int) (rr : Bool) (hF : M.isPage a1 = some rr) :
 Calls Tryd.prog 48 [(.int .i64 a1)].toArray w0 fun e w' => ∃ v, e = .returned v ∧ Res w0 rr v w' := by
 refine calls_of_W Tryd.func48 rfl rfl ?_
 have hC0 := Ctx.start w0
 unfold M.isPage at hF
 refine W_seq_reg ?_
 refine WL_assign rfl rfl ?_
 refine WL_nil (W_seq_reg ?_)
 refine WL_move rfl rfl ?_
 obtain ⟨x1, hr1, hF⟩ := bind_some hF
 refine WL_call Tryd.call43 rfl rfl (c_M_within a1 1 9 x1 hr1) ?_
 intro _ w1 hv1
 obtain ⟨rfl, hB1⟩ := res_bool hv1
 have hC1 := hC0.grow hB1
 refine WL_assign rfl rfl ?_
 refine WL_nil (W_ret ?_)
 have hq1 := Option.some.inj hF
 subst hq1
 refine fn_ret1 rfl rfl ?_
 exact ⟨_, rfl, bool_res hC1 _⟩

theorem c_M_EncodeVarint {w0 : World} (a1 : Int) (rr : Str) (hF : M.EncodeVarint a1 = some rr) :
 Calls Tryd.prog 76 [(.int .i64 a1)].toArray w0 fun e w' => ∃ v, e = .returned v ∧ Res w0 rr v w' := by
 refine calls_of_W Tryd.func76 rfl rfl ?_
 have hC0 := Ctx.start w0
 unfold M.EncodeVarint at hF
 refine W_seq_reg ?_
 refine WL_assign rfl rfl ?_
 refine WL_nil (W_seq (W_seq_reg ?_))
 refine WL_move rfl rfl ?_
 obtain ⟨x1, hr1, hF⟩ := bind_some hF
 refine WL_call Tryd.call43 rfl rfl (c_M_within a1 0 562949953421311 x1 hr1) ?_
 intro _ w1 hv1
 obtain ⟨rfl, hB1⟩ := res_bool hv1
 have hC1 := hC0.grow hB1
 refine WL_not rfl rfl ?_
 refine WL_nil ?_
 refine W_cond rfl (fun hc1 => ?_) (fun hc1 => ?_)
 ·replace hF := ite_t hF hc1
  refine W_seq_reg ?_
  refine WL_assign rfl rfl ?_
  refine WL_nil (W_ret (nrm_ret ?_))
  have hq1 := Option.some.inj hF
  subst hq1
  refine fn_ret1 rfl rfl ?_
  exact ⟨_, rfl, str_res hC1 _⟩
 replace hF := ite_f hF hc1
 refine W_skip (nrm_normal (W_seq_reg ?_))
 refine WL_buildSlice (vs := []) hC1 Tryd.underlying54 ty5 rfl rfl rfl rfl (by simp) rfl rfl (fun b1 w2 hC2 hB2 => ?_)
 have hC3 := hC2.row0 (α := UInt8)
 have hC4 := hC3.front 1 rfl
 dsimp only [List.eraseIdx, List.cons_append, List.nil_append, List.append_nil] at hC4
 have hC5 : Ctx [] w0 w2 (Item.own (.slice (some ⟨b1, 0, none⟩) 0 0) (([] : List UInt8) : List UInt8) :: []) := hC4.rowOwn (by simp [maxLen])
 refine WL_assign rfl rfl ?_
 refine WL_nil (W_seq ?_)
 obtain ⟨r1, hr2, hF⟩ := bind_some hF
 refine W_norm (fun l w => ∃ x4 : Int, ∃ v2 : Value, ∃ x5 : (List UInt8), (x4, x5) = r1 ∧ l = [(0, (.int .i64 x4)), (3, v2)] ∧ Ctx [] w0 w [Item.own v2 (x5 : (List UInt8))]) ?_ ?_
 ·refine W_block ?_
  refine W.sub (l' := [(0, (.int .i64 a1)), (3, (.slice (some ⟨b1, 0, none⟩) 0 0))]) ?_ ⟨rfl, rfl, trivial⟩
  refine W_loop (fun k l w => ∃ x2 : Int, ∃ v1 : Value, ∃ x3 : (List UInt8), l = [(0, (.int .i64 x2)), (3, v1)] ∧ Ctx [] w0 w [Item.own v1 (x3 : (List UInt8))] ∧ M.EncodeVarint_l1 k x2 x3 = some r1) FUEL ⟨a1, (.slice (some ⟨b1, 0, none⟩) 0 0), ([] : List UInt8), rfl, hC5, hr2⟩ ?_
  clear hr2
  rintro k1 _ w3 ⟨x2, v1, x3, rfl, hC6, hL1⟩
  cases k1 with
  | zero => rw [M.EncodeVarint_l1] at hL1; cases hL1
  | succ k1 =>
   rw [M.EncodeVarint_l1] at hL1
   refine W_seq (W_seq_reg ?_)
   refine WL_move rfl rfl ?_
   refine WL_geq rfl rfl rfl ?_
   refine WL_nil ?_
   refine W_cond rfl (fun hc2 => ?_) (fun hc2 => ?_)
   ·replace hL1 := ite_t hL1 hc2
    refine W_skip (nrm_normal (W_block (W_seq_reg ?_)))
    refine WL_move rfl rfl ?_
    refine WL_move rfl rfl ?_
    refine WL_conv_u8 Tryd.underlying3 Tryd.underlying5 rfl rfl ?_
    refine WL_bor8 rfl rfl rfl ?_
    refine WL_buildSlice (vs := [(.int .u8 (bor8 (w8 x2) 128))]) hC6 Tryd.underlying54 ty5 rfl rfl rfl rfl (by intro v hv; simp only [List.mem_cons, List.not_mem_nil, or_false] at hv; rcases hv with rfl <;> rfl) rfl rfl (fun b2 w4 hC7 hB4 => ?_)
    have hC8 := hC7.row0 (α := UInt8)
    have hC9 := hC8.triv (u8_of (e := bor8 (w8 x2) 128) (bor8_range _ _))
    have hC10 := hC9.row1
    have hC11 := hC10.front 1 rfl
    dsimp only [List.eraseIdx, List.cons_append, List.nil_append, List.append_nil] at hC11
    have hC12 : Ctx [] w0 w4 (Item.own (.slice (some ⟨b2, 0, none⟩) 1 1) ([(UInt8.ofNat (Int.toNat (bor8 (w8 x2) 128)))] : List UInt8) :: [Item.own v1 (x3 : (List UInt8))]) := hC11.rowOwn (by simp [maxLen])
    obtain ⟨x6, hx1, hL1⟩ := bind_some hL1
    refine WL_append_flat (α := UInt8) hC12 1 rfl (hC12.ro 0 rfl) (Keep.refl _ _) Tryd.underlying54 ty5 rfl hx1 rfl rfl rfl (fun v3 w5 hC13 => ?_)
    try dsimp only [List.set] at hC13
    refine WL_assign rfl rfl ?_
    refine WL_nil (W_reg ?_)
    refine WL_move rfl rfl ?_
    refine WL_shr (by decide) rfl rfl rfl ?_
    refine WL_assign rfl rfl ?_
    refine WL_nil (blk_normal ?_)
    have hC14 := hC13.f1
    have hC15 := hC14.h1
    refine nrm_sub (l' := [(0, (.int .i64 (shr x2 7))), (3, v3)]) ⟨rfl, rfl, trivial⟩ ?_
    exact ⟨k1, Nat.lt_succ_self _, shr x2 7, v3, x6, rfl, hC15, hL1⟩
   replace hL1 := ite_f hL1 hc2
   refine W_exit (nrm_exit (nrm_exit (blk_exit ?_)))
   have hq2 := Option.some.inj hL1
   subst hq2
   refine nrm_sub (l' := [(0, (.int .i64 x2)), (3, v1)]) ⟨rfl, rfl, trivial⟩ ?_
   exact ⟨x2, v1, x3, rfl, rfl, hC6⟩
 rintro l2 _ w6 hs2 ⟨x4, v2, x5, rfl, rfl, hC16⟩
 try dsimp only at hF
 refine nrm_sub' hs2 ?_
 clear hs2
 refine W_seq_reg ?_
 refine WL_move rfl rfl ?_
 refine WL_move rfl rfl ?_
 refine WL_conv_u8 Tryd.underlying3 Tryd.underlying5 rfl rfl ?_
 refine WL_buildSlice (vs := [(.int .u8 (w8 x4))]) hC16 Tryd.underlying54 ty5 rfl rfl rfl rfl (by intro v hv; simp only [List.mem_cons, List.not_mem_nil, or_false] at hv; rcases hv with rfl <;> rfl) rfl rfl (fun b3 w7 hC17 hB6 => ?_)
 have hC18 := hC17.row0 (α := UInt8)
 have hC19 := hC18.triv (u8_val x4)
 have hC20 := hC19.row1
 have hC21 := hC20.front 1 rfl
 dsimp only [List.eraseIdx, List.cons_append, List.nil_append, List.append_nil] at hC21
 have hC22 : Ctx [] w0 w7 (Item.own (.slice (some ⟨b3, 0, none⟩) 1 1) ([(u8 x4)] : List UInt8) :: [Item.own v2 (x5 : (List UInt8))]) := hC21.rowOwn (by simp [maxLen])
 obtain ⟨x7, hx2, hF⟩ := bind_some hF
 refine WL_append_flat (α := UInt8) hC22 1 rfl (hC22.ro 0 rfl) (Keep.refl _ _) Tryd.underlying54 ty5 rfl hx2 rfl rfl rfl (fun v4 w9 hC23 => ?_)
 try dsimp only [List.set] at hC23
 refine WL_conv_bytes Tryd.underlying54 Tryd.underlying5 Tryd.underlying9 (hC23.ro 1 rfl) (Keep.refl _ _) rfl rfl ?_
 refine WL_assign rfl rfl ?_
 refine WL_nil (W_ret ?_)
 have hq3 := Option.some.inj hF
 subst hq3
 refine fn_ret1 rfl rfl ?_
 exact ⟨_, rfl, str_res hC23 _⟩

theorem c_M_varints {w0 : World} (a1 : (List Int)) (u1 : Value) (g1 : RO [] w0 u1 a1) (rr : Str) (hF : M.varints a1 = some rr) :
 Calls Tryd.prog 49 [u1].toArray w0 fun e w' => ∃ v, e = .returned v ∧ Res w0 rr v w' := by
 refine calls_of_W Tryd.func49 rfl rfl ?_
 unfold M.varints at hF
 refine W_seq_reg ?_
 refine WL_assign rfl rfl ?_
 refine WL_nil (W_seq_reg ?_)
 refine WL_build (vs := []) rfl rfl rfl (show Tryd.prog.built 99 [] = some #[.pointer none, .slice none 0 0] by kernel_rfl) ?_
 refine WL_alloc_raw (z := .agg #[.pointer none, .slice none 0 0]) (cs := #[.pointer none, .slice none 0 0]) (zero_run (i := Tryd.t99) (by kernel_rfl) rfl) rfl rfl ?_
 refine WL_store_all (new := [.pointer none, .slice none 0 0]) (heap_alloc_new w0 _) rfl (by intro v hv; simp only [List.mem_cons, List.not_mem_nil, or_false] at hv; rcases hv with rfl | rfl <;> rfl) Tryd.sizeOf99 rfl rfl (fun w1 hb1 hk1 => ?_)
 refine WL_nil ?_
 have hI1 : Lib.IsBuilder (Tryd.lays156_ren.t 72) (Tryd.lays156_ren.t 5) w0.heap.size w0.heap.size (Lib.byteCells []) w1 := .inl ⟨Nat.le_refl _, .slice none 0 0, hb1, World.ownsRow_nil _ _ _ _, by simp [Value.ownBlock]⟩
 have hB1 : Below w0.heap.size w0 w1 := ⟨hk1.os, hk1.tape, hk1.output, Nat.le_trans (by simp) hk1.size, fun k hk => (hk1.block k (by simp; omega) (by simp; omega)).trans (heap_alloc_old w0 _ hk)⟩
 clear hb1 hk1
 refine W_seq (W_seq_reg ?_)
 refine WL_move rfl rfl ?_
 refine WL_len Tryd.underlying22 g1 rfl rfl ?_
 refine WL_move rfl rfl ?_
 refine WL_nil ?_
 refine W_norm (fun l w => l = [(3, ptr w0.heap.size 0)] ∧ Below w0.heap.size w0 w ∧ Lib.IsBuilder (Tryd.lays156_ren.t 72) (Tryd.lays156_ren.t 5) w0.heap.size w0.heap.size (Lib.byteCells rr) w) ?_ ?_
 ·refine W_block ?_
  refine W.sub (l' := [(3, ptr w0.heap.size 0), (7, u1), (8, .int .i64 (a1.length : Int)), (9, .int .i64 ((0 : Nat) : Int))]) ?_ ⟨rfl, rfl, rfl, rfl, trivial⟩
  refine W_loop (fun k l w => ∃ o : Str, ∃ i : Nat, i + k = a1.length ∧ l = [(3, ptr w0.heap.size 0), (7, u1), (8, .int .i64 (a1.length : Int)), (9, .int .i64 ((i : Nat) : Int))] ∧ Below w0.heap.size w0 w ∧ Lib.IsBuilder (Tryd.lays156_ren.t 72) (Tryd.lays156_ren.t 5) w0.heap.size w0.heap.size (Lib.byteCells o) w ∧ M.varints_l o (a1.drop i) = some rr) a1.length ⟨str [], 0, by omega, rfl, hB1, hI1, hF⟩ ?_
  clear hF hI1 hB1
  rintro k1 _ w2 ⟨o, i, hk, rfl, hB2, hI2, hL⟩
  refine W_seq_reg ?_
  refine WL_lss rfl rfl rfl ?_
  refine WL_nil (W_seq ?_)
  refine W_cond rfl (fun hc => ?_) (fun hc => ?_)
  ·have hi : i < a1.length := by have := of_decide_eq_true hc; omega
   rw [List.drop_eq_getElem_cons hi] at hL
   obtain ⟨x, hx, hL⟩ := bind_some (show (M.EncodeVarint a1[i]).bind (fun x => if List.length o + List.length x ≤ 1000000 then M.varints_l (List.append o x) (a1.drop (i + 1)) else none) = some rr from hL)
   have hlen : List.length o + List.length x ≤ 1000000 := Classical.byContradiction fun h => by rw [if_neg h] at hL; cases hL
   rw [if_pos hlen] at hL
   refine W_skip (nrm_normal (W_seq (W_block (W_seq_reg ?_))))
   refine WL_index Tryd.underlying22 ty3 g1 (idx_at a1 hi) rfl rfl rfl (fun b1 o1 h1 => ?_)
   refine WL_load ty3 h1 (Keep.of hB2) rfl rfl (fun v1 h2 => ?_)
   obtain rfl := ro_int h2
   refine WL_assign rfl rfl ?_
   refine WL_nil (W_reg ?_)
   refine WL_move rfl rfl ?_
   refine WL_call Tryd.call76 rfl rfl (c_M_EncodeVarint a1[i] x hx) ?_
   intro _ w3 hv1
   obtain ⟨rfl, hB3⟩ := res_str hv1
   have hB23 : Below w0.heap.size w0 w3 := ((Keep.of hB2).then hB3).below
   refine WL_call Tryd.call75 rfl rfl (bld_write (ρ := Tryd.lays156_ren) { Tryd.lays156 with } Tryd.Builder_Extra_156 (bld_below hI2 hB3) (by omega) hB23.size) ?_
   intro v2 w4 hv2
   obtain ⟨hI4, hB4⟩ := hv2
   refine WL_nil (blk_normal (nrm_normal (W_reg ?_)))
   refine WL_add rfl rfl rfl ?_
   rw [show w64 (((i : Nat) : Int) + 1) = ((i + 1 : Nat) : Int) by have := g1.lt; simp only [maxLen] at this; rw [w64_id (by omega) (by omega)]; omega]
   refine WL_move rfl rfl ?_
   refine WL_nil ?_
   refine nrm_sub (l' := [(3, ptr w0.heap.size 0), (7, u1), (8, .int .i64 (a1.length : Int)), (9, .int .i64 ((i + 1 : Nat) : Int))]) ⟨rfl, rfl, rfl, rfl, trivial⟩ ?_
   exact ⟨k1 - 1, by omega, List.append o x, i + 1, by omega, rfl, hB23.trans hB4, hI4, hL⟩
  have hi : a1.length ≤ i := by have := of_decide_eq_false hc; omega
  rw [List.drop_of_length_le hi] at hL
  obtain rfl := Option.some.inj (show some o = some rr from hL)
  refine W_exit (nrm_exit (nrm_exit (blk_exit ?_)))
  refine nrm_sub (l' := [(3, ptr w0.heap.size 0)]) ⟨rfl, trivial⟩ ?_
  exact ⟨rfl, hB2, hI2⟩
 rintro l2 _ w8 hs2 ⟨rfl, hB8, hI8⟩
 refine nrm_sub' hs2 ?_
 clear hs2
 refine W_seq_reg ?_
 refine WL_call Tryd.call77 rfl rfl (bld_text (ρ := Tryd.lays156_ren) { Tryd.lays156 with } Tryd.Builder_Extra_156 hI8 hB8.size) ?_
 intro v9 w9 hv9
 obtain ⟨rfl, hB9⟩ := hv9
 refine WL_assign rfl rfl ?_
 refine WL_nil (W_ret ?_)
 refine fn_ret1 rfl rfl ?_
 exact ⟨_, rfl, str_done (hB8.trans hB9) _⟩

theorem c_M_EncodeRequest {w0 : World} (a1 : (Int × (List Int))) (u1 : Value) (g1 : RO [] w0 u1 a1.2) (a2 : Int) (rr : Str) (hF : M.EncodeRequest a1 a2 = some rr) :
 Calls Tryd.prog 17 [(.agg #[(.int .i64 a1.1), u1]), (.int .i64 a2)].toArray w0 fun e w' => ∃ v, e = .returned v ∧ Res w0 rr v w' := by
 refine calls_of_W Tryd.func17 rfl rfl ?_
 have hC0 := Ctx.start w0
 unfold M.EncodeRequest at hF
 refine W_seq_reg ?_
 refine WL_boxK (cs := [(.int .i64 a1.1), u1]) hC0 rfl rfl rfl (fun b1 w1 hC1 hB1 hN1 => ?_)
 refine WL_assign rfl rfl ?_
 refine WL_nil (W_seq ?_)
 obtain ⟨r1, hr1, hF⟩ := bind_some hF
 refine W_cut (fun l w => ∃ x1 : Bool, x1 = r1 ∧ l = [(1, (.int .i64 a2)), (2, (ptr b1 0)), (12, (.bool x1))] ∧ Below w1.heap.size w1 w ∧ Ctx [] w0 w [Item.box b1 [(.int .i64 a1.1), u1]]) ?_ ?_
 ·refine W_reg ?_
  refine WL_load_box_agg [(.int .i64 a1.1), u1] hC1 0 rfl rfl rfl Tryd.isAgg29 Tryd.sizeOf29 rfl rfl ?_
  obtain ⟨x2, hr2, hr1⟩ := bind_some hr1
  refine WL_call Tryd.call42 rfl rfl (c_M_FormatAccess (a1.1, a1.2) u1 (g1.now hC1.keep) x2 hr2) ?_
  intro _ w3 hv1
  obtain ⟨rfl, hB3⟩ := res_str hv1
  have hC3 := hC1.grow hB3
  refine WL_str_eql rfl rfl rfl ?_
  refine WL_move rfl rfl ?_
  refine WL_fork (fun hc1 => ?_) (fun hc1 => ?_)
  ·replace hr1 := ite_t hr1 hc1
   refine WL_guard_skip rfl rfl (by simp) rfl ?_
   refine WL_guard_skip rfl rfl (by simp) rfl ?_
   refine WL_guard_skip rfl rfl (by simp) rfl ?_
   refine WL_pick_t rfl rfl rfl ?_
   refine WL_nil ?_
   have hq1 := Option.some.inj hr1
   subst hq1
   refine nrm_sub (l' := [(1, (.int .i64 a2)), (2, (ptr b1 0)), (12, (.bool true))]) ⟨rfl, rfl, rfl, trivial⟩ ?_
   exact ⟨true, rfl, rfl, (Keep.of hB3).below, hC3⟩
  replace hr1 := ite_f hr1 hc1
  refine WL_guard rfl rfl ?_
  refine WL_move rfl rfl ?_
  obtain ⟨x3, hr3, hr1⟩ := bind_some hr1
  refine WL_guard rfl rfl ?_
  refine WL_call Tryd.call48 rfl rfl (c_M_isPage a2 x3 hr3) ?_
  intro _ w4 hv2
  obtain ⟨rfl, hB4⟩ := res_bool hv2
  have hC4 := hC3.grow hB4
  refine WL_guard rfl rfl ?_
  refine WL_not rfl rfl ?_
  refine WL_pick_f rfl rfl rfl ?_
  refine WL_nil ?_
  have hq2 := Option.some.inj hr1
  subst hq2
  refine nrm_sub (l' := [(1, (.int .i64 a2)), (2, (ptr b1 0)), (12, (.bool (!x3)))]) ⟨rfl, rfl, rfl, trivial⟩ ?_
  exact ⟨(!x3), rfl, rfl, ((Keep.of hB3).then hB4).below, hC4⟩
 rintro _ w2 ⟨x1, rfl, rfl, hB2, hC2⟩
 try dsimp only at hF
 refine W_cond rfl (fun hc2 => ?_) (fun hc2 => ?_)
 ·replace hF := ite_t hF hc2
  refine W_seq_reg ?_
  refine WL_assign rfl rfl ?_
  refine WL_nil (W_ret (nrm_ret ?_))
  have hq3 := Option.some.inj hF
  subst hq3
  refine fn_ret1 rfl rfl ?_
  exact ⟨_, rfl, str_res hC2 _⟩
 replace hF := ite_f hF hc2
 refine W_skip (nrm_normal (W_seq ?_))
 refine W_drawn 13 rfl hmix (fun w5 hB5 => ?_)
 have hC5 := hC2.grow hB5
 refine WA_tk 0 (by kernel_rfl) rfl rfl (fl_field Tryd.underlying29 rfl rfl (fun w => ⟨_, Tryd.sizeOf3 w⟩) rfl) ?_
 refine WL_field Tryd.underlying29 rfl rfl (fun w => ⟨_, Tryd.sizeOf3 w⟩) rfl rfl ?_
 refine WL_nil ?_
 refine WA_tk 2 (by kernel_rfl) rfl rfl (fl_move rfl) ?_
 refine WL_move rfl rfl ?_
 refine WL_nil ?_
 refine WA_tk 3 (by kernel_rfl) rfl rfl (fl_field Tryd.underlying29 rfl rfl (fun w => ⟨_, Tryd.sizeOf22 w⟩) rfl) ?_
 refine WL_field Tryd.underlying29 rfl rfl (fun w => ⟨_, Tryd.sizeOf22 w⟩) rfl rfl ?_
 refine WL_nil ?_
 refine WA_tk 8 (by kernel_rfl) rfl rfl (fl_field Tryd.underlying29 rfl rfl (fun w => ⟨_, Tryd.sizeOf22 w⟩) rfl) ?_
 refine WL_field Tryd.underlying29 rfl rfl (fun w => ⟨_, Tryd.sizeOf22 w⟩) rfl rfl ?_
 refine WL_nil ?_
 obtain ⟨x4, hr4, hF⟩ := bind_some hF
 refine WA.sub (l' := [(1, (.int .i64 a2)), (2, (ptr b1 0)), (12, (.bool x1)), (13, (ptr b1 0)), (15, (.int .i64 a2)), (16, (ptr b1 1)), (21, (ptr b1 1))]) ?_ ⟨rfl, rfl, rfl, rfl, rfl, rfl, rfl, trivial⟩
 refine WA_postsE [⟨1, [], fun vs => PW.val (.int .i64 a1.1), []⟩, ⟨4, [], fun vs => PW.val u1, []⟩, ⟨5, [], fun vs => PW.val (.int .i64 (List.length a1.2 : Int)), []⟩, ⟨6, [], fun vs => PW.own ([a1.1, a2, (List.length a1.2 : Int)] : (List Int)), []⟩, ⟨7, [], fun vs => PW.val (sv x4), []⟩, ⟨9, [], fun vs => PW.val u1, []⟩] [[], [], [4], [1, 5], [6], []] 3 rfl (by kernel_rfl) (by kernel_rfl) rfl ?_ ?_
 ·refine StepsE_cons rfl ?_ ?_
  ·intro w9 hB8
   refine DepsE_nil ?_
   refine ⟨_, rfl, ?_⟩
   refine WL_load_box (hC5.grow hB8) 0 rfl rfl Tryd.isAgg3 rfl rfl ?_
   refine WL_nil ?_
   exact FinE_val (Below.refl _ _) rfl rfl ⟨rfl, rfl⟩
  refine StepsE_cons rfl ?_ ?_
  ·intro w9 hB8
   refine DepsE_nil ?_
   refine ⟨_, rfl, ?_⟩
   refine WL_load_box (hC5.grow hB8) 0 rfl rfl Tryd.isAgg22 rfl rfl ?_
   refine WL_nil ?_
   exact FinE_val (Below.refl _ _) rfl rfl ⟨rfl, rfl⟩
  refine StepsE_cons rfl ?_ ?_
  ·intro w9 hB8
   refine DepsE_cons rfl rfl rfl ?_
   rintro _ _ ⟨rfl, rfl⟩ _
   refine DepsE_nil ?_
   refine ⟨_, rfl, ?_⟩
   refine WL_len Tryd.underlying22 g1 rfl rfl ?_
   refine WL_nil ?_
   exact FinE_val (Below.refl _ _) rfl rfl ⟨rfl, rfl⟩
  refine StepsE_cons rfl ?_ ?_
  ·intro w9 hB8
   refine DepsE_cons rfl rfl rfl ?_
   rintro _ _ ⟨rfl, rfl⟩ _
   refine DepsE_cons rfl rfl rfl ?_
   rintro _ _ ⟨rfl, rfl⟩ _
   refine DepsE_nil ?_
   refine ⟨_, rfl, ?_⟩
   refine WL_buildSlice (vs := [(.int .i64 a1.1), (.int .i64 a2), (.int .i64 (List.length a1.2 : Int))]) (Ctx.start w9) Tryd.underlying22 ty3 rfl rfl rfl rfl (by intro v hv; simp only [List.mem_cons, List.not_mem_nil, or_false] at hv; rcases hv with rfl | rfl | rfl <;> rfl) rfl rfl (fun b2 w6 hC6 hB6 => ?_)
   have hC7 := hC6.row0 (α := Int)
   have hC8 := hC7.triv (int_val ((List.length a1.2 : Int)))
   have hC9 := hC8.row1
   have hC10 := hC9.triv (int_val (a2))
   have hC11 := hC10.row1
   have hC12 := hC11.triv (int_val (a1.1))
   have hC13 := hC12.row1
   have hC14 := hC13.front 1 rfl
   dsimp only [List.eraseIdx, List.cons_append, List.nil_append, List.append_nil] at hC14
   have hC15 : Ctx [] w9 w6 (Item.own (.slice (some ⟨b2, 0, none⟩) 3 3) ([a1.1, a2, (List.length a1.2 : Int)] : List Int) :: []) := hC14.rowOwn (by simp [maxLen])
   refine WL_nil ?_
   exact FinE_ctx hC15 rfl rfl (fun F h => h)
  refine StepsE_cons rfl ?_ ?_
  ·intro w9 hB8
   refine DepsE_cons rfl rfl rfl ?_
   intro v1 F1 hv3 _
   refine DepsE_nil ?_
   refine ⟨_, rfl, ?_⟩
   refine WL_call Tryd.call49 rfl rfl (c_M_varints ([a1.1, a2, (List.length a1.2 : Int)]) v1 (ro_of_own hv3) x4 hr4) ?_
   intro _ w7 hv4
   obtain ⟨rfl, hB7⟩ := res_str hv4
   refine WL_nil ?_
   exact FinE_val hB7 rfl rfl ⟨rfl, rfl⟩
  refine StepsE_cons rfl ?_ ?_
  ·intro w9 hB8
   refine DepsE_nil ?_
   refine ⟨_, rfl, ?_⟩
   refine WL_load_box (hC5.grow hB8) 0 rfl rfl Tryd.isAgg22 rfl rfl ?_
   refine WL_nil ?_
   exact FinE_val (Below.refl _ _) rfl rfl ⟨rfl, rfl⟩
  exact StepsE_nil
 intro w10 hB9
 refine AllE_cons rfl rfl rfl ?_
 rintro _ _ ⟨rfl, rfl⟩
 refine AllE_cons rfl rfl rfl ?_
 rintro _ _ ⟨rfl, rfl⟩
 refine AllE_cons rfl rfl rfl ?_
 rintro _ _ ⟨rfl, rfl⟩
 refine AllE_cons rfl rfl rfl ?_
 intro v1 F1 hv3
 refine AllE_cons rfl rfl rfl ?_
 rintro _ _ ⟨rfl, rfl⟩
 refine AllE_cons rfl rfl rfl ?_
 rintro _ _ ⟨rfl, rfl⟩
 refine AllE_nil ?_
 intro hn1 hb1
 have hC16 := hC5.pushL hB9 (Bs := [Item.own v1 ([a1.1, a2, (List.length a1.2 : Int)] : (List Int))]) (Fs := [F1]) ⟨F1, _, rfl, hv3, rfl⟩ (by simpa using hn1) (fun b h => (hb1 b (by simpa using h)).1)
 obtain ⟨x5, hr5, hF⟩ := bind_some hF
 refine WA_one 10 (by kernel_rfl) rfl ?_
 refine WL_call Tryd.call49 rfl rfl (c_M_varints a1.2 u1 (g1.now hC16.keep) x5 hr5) ?_
 intro _ w11 hv5
 obtain ⟨rfl, hB10⟩ := res_str hv5
 have hC17 := hC16.grow hB10
 refine WL_nil ?_
 obtain ⟨x6, hx1, hF⟩ := bind_some hF
 refine WA_tk 11 (by kernel_rfl) rfl rfl (fl_str_add hx1 rfl rfl) ?_
 refine WL_str_add hx1 rfl rfl rfl ?_
 refine WL_nil ?_
 refine WA_tk 12 (by kernel_rfl) rfl rfl (fl_assign rfl) ?_
 refine WL_assign rfl rfl ?_
 refine WL_nil ?_
 refine WA_done (by kernel_rfl) ?_
 refine nrm_normal (W_ret ?_)
 have hq4 := Option.some.inj hF
 subst hq4
 refine fn_ret1 rfl rfl ?_
 exact ⟨_, rfl, str_res hC17 _⟩

theorem c_S_FormatFact {w0 : World} (a1 : (Int × (List Int))) (u1 : Value) (g1 : RO [] w0 u1 a1.2) (rr : Str) (hF : S.FormatFact a1 = some rr) :
 Calls Tryd.prog 52 [(.agg #[(.int .i64 a1.1), u1])].toArray w0 fun e w' => ∃ v, e = .returned v ∧ Res w0 rr v w' := by
 refine calls_of_W Tryd.func52 rfl rfl ?_
 have hC0 := Ctx.start w0
 unfold S.FormatFact at hF
 refine W_seq_reg ?_
 refine WL_boxK (cs := [(.int .i64 a1.1), u1]) hC0 rfl rfl rfl (fun b1 w1 hC1 hB1 hN1 => ?_)
 refine WL_assign rfl rfl ?_
 refine WL_nil (W_seq ?_)
 obtain ⟨r1, hr1, hF⟩ := bind_some hF
 refine W_cut (fun l w => ∃ x1 : Bool, x1 = r1 ∧ l = [(1, (ptr b1 0)), (14, (.bool x1))] ∧ Below w1.heap.size w1 w ∧ Ctx [] w0 w [Item.box b1 [(.int .i64 a1.1), u1]]) ?_ ?_
 ·refine W_reg ?_
  refine WL_field Tryd.underlying72 rfl rfl (fun w => ⟨_, Tryd.sizeOf3 w⟩) rfl rfl ?_
  refine WL_load_box hC1 0 rfl rfl Tryd.isAgg3 rfl rfl ?_
  obtain ⟨x2, hr2, hr1⟩ := bind_some hr1
  refine WL_call Tryd.call40 rfl rfl (c_S_l1In a1.1 0 2 x2 hr2) ?_
  intro _ w3 hv1
  obtain ⟨rfl, hB3⟩ := res_bool hv1
  have hC3 := hC1.grow hB3
  refine WL_not rfl rfl ?_
  refine WL_move rfl rfl ?_
  refine WL_fork (fun hc1 => ?_) (fun hc1 => ?_)
  ·replace hr1 := ite_t hr1 hc1
   refine WL_guard_skip rfl rfl (by simp) rfl ?_
   refine WL_guard_skip rfl rfl (by simp) rfl ?_
   refine WL_guard_skip rfl rfl (by simp) rfl ?_
   refine WL_guard_skip rfl rfl (by simp) rfl ?_
   refine WL_guard_skip rfl rfl (by simp) rfl ?_
   refine WL_pick_t rfl rfl rfl ?_
   refine WL_nil ?_
   have hq1 := Option.some.inj hr1
   subst hq1
   refine nrm_sub (l' := [(1, (ptr b1 0)), (14, (.bool true))]) ⟨rfl, rfl, trivial⟩ ?_
   exact ⟨true, rfl, rfl, (Keep.of hB3).below, hC3⟩
  replace hr1 := ite_f hr1 hc1
  refine WL_guard rfl rfl ?_
  refine WL_field Tryd.underlying72 rfl rfl (fun w => ⟨_, Tryd.sizeOf22 w⟩) rfl rfl ?_
  refine WL_guard rfl rfl ?_
  refine WL_load_box hC3 0 rfl rfl Tryd.isAgg22 rfl rfl ?_
  refine WL_guard rfl rfl ?_
  refine WL_len Tryd.underlying22 g1 rfl rfl ?_
  obtain ⟨x3, hr3, hr1⟩ := bind_some hr1
  refine WL_guard rfl rfl ?_
  refine WL_call Tryd.call40 rfl rfl (c_S_l1In (List.length a1.2 : Int) 1 3 x3 hr3) ?_
  intro _ w4 hv2
  obtain ⟨rfl, hB4⟩ := res_bool hv2
  have hC4 := hC3.grow hB4
  refine WL_guard rfl rfl ?_
  refine WL_not rfl rfl ?_
  refine WL_pick_f rfl rfl rfl ?_
  refine WL_nil ?_
  have hq2 := Option.some.inj hr1
  subst hq2
  refine nrm_sub (l' := [(1, (ptr b1 0)), (14, (.bool (!x3)))]) ⟨rfl, rfl, trivial⟩ ?_
  exact ⟨(!x3), rfl, rfl, ((Keep.of hB3).then hB4).below, hC4⟩
 rintro _ w2 ⟨x1, rfl, rfl, hB2, hC2⟩
 try dsimp only at hF
 refine W_cond rfl (fun hc2 => ?_) (fun hc2 => ?_)
 ·replace hF := ite_t hF hc2
  refine W_seq_reg ?_
  refine WL_assign rfl rfl ?_
  refine WL_nil (W_ret (nrm_ret ?_))
  have hq3 := Option.some.inj hF
  subst hq3
  refine fn_ret1 rfl rfl ?_
  exact ⟨_, rfl, str_res hC2 _⟩
 replace hF := ite_f hF hc2
 refine W_skip (nrm_normal (W_seq (W_seq_reg ?_)))
 refine WL_assign rfl rfl ?_
 refine WL_nil ?_
 obtain ⟨r2, hr4, hF⟩ := bind_some hF
 refine W_norm (fun l w => .inl () = r2 ∧ l = [(1, (ptr b1 0))] ∧ Below w2.heap.size w2 w ∧ Ctx [] w0 w [Item.box b1 [(.int .i64 a1.1), u1]]) ?_ ?_
 ·refine W_block ?_
  refine W.sub (l' := [(1, (ptr b1 0)), (3, (.int .i64 0))]) ?_ ⟨rfl, rfl, trivial⟩
  refine W_loop (fun k l w => ∃ x4 : Int, l = [(1, (ptr b1 0)), (3, (.int .i64 x4))] ∧ Below w2.heap.size w2 w ∧ Ctx [] w0 w [Item.box b1 [(.int .i64 a1.1), u1]] ∧ S.FormatFact_l1 a1 k x4 = some r2) FUEL ⟨0, rfl, (Below.refl _ _), hC2, hr4⟩ ?_
  clear hr4
  rintro k1 _ w5 ⟨x4, rfl, hB5, hC5, hL1⟩
  cases k1 with
  | zero => rw [S.FormatFact_l1] at hL1; cases hL1
  | succ k1 =>
   rw [S.FormatFact_l1] at hL1
   refine W_seq (W_seq_reg ?_)
   refine WL_move rfl rfl ?_
   refine WL_field Tryd.underlying72 rfl rfl (fun w => ⟨_, Tryd.sizeOf22 w⟩) rfl rfl ?_
   refine WL_load_box hC5 0 rfl rfl Tryd.isAgg22 rfl rfl ?_
   refine WL_len Tryd.underlying22 g1 rfl rfl ?_
   refine WL_lss rfl rfl rfl ?_
   refine WL_nil ?_
   refine W_cond rfl (fun hc3 => ?_) (fun hc3 => ?_)
   ·replace hL1 := ite_t hL1 hc3
    refine W_skip (nrm_normal (W_seq (W_block (W_seq_reg ?_))))
    refine WL_field Tryd.underlying72 rfl rfl (fun w => ⟨_, Tryd.sizeOf22 w⟩) rfl rfl ?_
    refine WL_load_box hC5 0 rfl rfl Tryd.isAgg22 rfl rfl ?_
    refine WL_move rfl rfl ?_
    obtain ⟨x5, hx1, hL1⟩ := bind_some hL1
    refine WL_index Tryd.underlying22 ty3 g1 hx1 rfl rfl rfl (fun b2 o1 h1 => ?_)
    refine WL_load ty3 h1 hC5.keep rfl rfl (fun v1 h2 => ?_)
    obtain rfl := ro_int h2
    obtain ⟨x6, hr5, hL1⟩ := bind_some hL1
    refine WL_call Tryd.call40 rfl rfl (c_S_l1In x5 0 9 x6 hr5) ?_
    intro _ w6 hv3
    obtain ⟨rfl, hB6⟩ := res_bool hv3
    have hC6 := hC5.grow hB6
    refine WL_not rfl rfl ?_
    refine WL_nil ?_
    refine W_cond rfl (fun hc4 => ?_) (fun hc4 => ?_)
    ·replace hL1 := ite_t hL1 hc4
     refine W_seq_reg ?_
     refine WL_assign rfl rfl ?_
     refine WL_nil (W_ret (blk_ret (nrm_ret (nrm_ret (blk_ret (nrm_ret (nrm_ret ?_)))))))
     have hq4 := Option.some.inj hL1
     subst hq4
     dsimp only at hF
     have hq5 := Option.some.inj hF
     subst hq5
     refine fn_ret1 rfl rfl ?_
     exact ⟨_, rfl, str_res hC6 _⟩
    replace hL1 := ite_f hL1 hc4
    refine W_skip (blk_normal (nrm_normal (W_reg ?_)))
    refine WL_move rfl rfl ?_
    refine WL_add rfl rfl rfl ?_
    refine WL_assign rfl rfl ?_
    refine WL_nil ?_
    refine nrm_sub (l' := [(1, (ptr b1 0)), (3, (.int .i64 (w64 (x4 + 1))))]) ⟨rfl, rfl, trivial⟩ ?_
    exact ⟨k1, Nat.lt_succ_self _, w64 (x4 + 1), rfl, ((Keep.of hB5).then hB6).below, hC6, hL1⟩
   replace hL1 := ite_f hL1 hc3
   refine W_exit (nrm_exit (nrm_exit (blk_exit ?_)))
   have hq6 := Option.some.inj hL1
   subst hq6
   refine nrm_sub (l' := [(1, (ptr b1 0))]) ⟨rfl, trivial⟩ ?_
   exact ⟨rfl, rfl, (Keep.of hB5).below, hC5⟩
 rintro l3 _ w7 hs3 ⟨rfl, rfl, hB7, hC7⟩
 try dsimp only at hF
 refine nrm_sub' hs3 ?_
 clear hs3
 refine W_seq ?_
 refine W_drawn 11 rfl hmix (fun w9 hB8 => ?_)
 have hC8 := hC7.grow hB8
 refine WA_tk 0 (by kernel_rfl) rfl rfl (fl_field Tryd.underlying72 rfl rfl (fun w => ⟨_, Tryd.sizeOf3 w⟩) rfl) ?_
 refine WL_field Tryd.underlying72 rfl rfl (fun w => ⟨_, Tryd.sizeOf3 w⟩) rfl rfl ?_
 refine WL_nil ?_
 refine WA_tk 5 (by kernel_rfl) rfl rfl (fl_field Tryd.underlying72 rfl rfl (fun w => ⟨_, Tryd.sizeOf22 w⟩) rfl) ?_
 refine WL_field Tryd.underlying72 rfl rfl (fun w => ⟨_, Tryd.sizeOf22 w⟩) rfl rfl ?_
 refine WL_nil ?_
 obtain ⟨x7, hr6, hF⟩ := bind_some hF
 obtain ⟨x8, hx2, hF⟩ := bind_some hF
 obtain ⟨x9, hx3, hF⟩ := bind_some hF
 obtain ⟨x10, hr7, hF⟩ := bind_some hF
 refine WA.sub (l' := [(1, (ptr b1 0)), (29, (ptr b1 0)), (34, (ptr b1 1))]) ?_ ⟨rfl, rfl, rfl, trivial⟩
 refine WA_postsE [⟨1, [], fun vs => PW.val (.int .i64 a1.1), []⟩, ⟨2, [], fun vs => PW.val (sv x7), []⟩, ⟨3, [], fun vs => PW.val (sv x8), []⟩, ⟨4, [], fun vs => PW.val (sv x9), []⟩, ⟨6, [], fun vs => PW.val u1, []⟩, ⟨7, [], fun vs => PW.val (sv x10), []⟩] [[], [1], [2], [3], [], [6]] 3 rfl (by kernel_rfl) (by kernel_rfl) rfl ?_ ?_
 ·refine StepsE_cons rfl ?_ ?_
  ·intro w12 hB11
   refine DepsE_nil ?_
   refine ⟨_, rfl, ?_⟩
   refine WL_load_box (hC8.grow hB11) 0 rfl rfl Tryd.isAgg3 rfl rfl ?_
   refine WL_nil ?_
   exact FinE_val (Below.refl _ _) rfl rfl ⟨rfl, rfl⟩
  refine StepsE_cons rfl ?_ ?_
  ·intro w12 hB11
   refine DepsE_cons rfl rfl rfl ?_
   rintro _ _ ⟨rfl, rfl⟩ _
   refine DepsE_nil ?_
   refine ⟨_, rfl, ?_⟩
   refine WL_call Tryd.call41 rfl rfl (c_S_FormatInt a1.1 x7 hr6) ?_
   intro _ w10 hv4
   obtain ⟨rfl, hB9⟩ := res_str hv4
   refine WL_nil ?_
   exact FinE_val hB9 rfl rfl ⟨rfl, rfl⟩
  refine StepsE_cons rfl ?_ ?_
  ·intro w12 hB11
   refine DepsE_cons rfl rfl rfl ?_
   rintro _ _ ⟨rfl, rfl⟩ _
   refine DepsE_nil ?_
   refine ⟨_, rfl, ?_⟩
   refine WL_str_add hx2 rfl rfl rfl ?_
   refine WL_nil ?_
   exact FinE_val (Below.refl _ _) rfl rfl ⟨rfl, rfl⟩
  refine StepsE_cons rfl ?_ ?_
  ·intro w12 hB11
   refine DepsE_cons rfl rfl rfl ?_
   rintro _ _ ⟨rfl, rfl⟩ _
   refine DepsE_nil ?_
   refine ⟨_, rfl, ?_⟩
   refine WL_str_add hx3 rfl rfl rfl ?_
   refine WL_nil ?_
   exact FinE_val (Below.refl _ _) rfl rfl ⟨rfl, rfl⟩
  refine StepsE_cons rfl ?_ ?_
  ·intro w12 hB11
   refine DepsE_nil ?_
   refine ⟨_, rfl, ?_⟩
   refine WL_load_box (hC8.grow hB11) 0 rfl rfl Tryd.isAgg22 rfl rfl ?_
   refine WL_nil ?_
   exact FinE_val (Below.refl _ _) rfl rfl ⟨rfl, rfl⟩
  refine StepsE_cons rfl ?_ ?_
  ·intro w12 hB11
   refine DepsE_cons rfl rfl rfl ?_
   rintro _ _ ⟨rfl, rfl⟩ _
   refine DepsE_nil ?_
   refine ⟨_, rfl, ?_⟩
   refine WL_call Tryd.call71 rfl rfl (c_S_l2List a1.2 u1 (g1.now (hC8.keep.then hB11)) x10 hr7) ?_
   intro _ w11 hv5
   obtain ⟨rfl, hB10⟩ := res_str hv5
   refine WL_nil ?_
   exact FinE_val hB10 rfl rfl ⟨rfl, rfl⟩
  exact StepsE_nil
 intro w13 hB12
 refine AllE_cons rfl rfl rfl ?_
 rintro _ _ ⟨rfl, rfl⟩
 refine AllE_cons rfl rfl rfl ?_
 rintro _ _ ⟨rfl, rfl⟩
 refine AllE_cons rfl rfl rfl ?_
 rintro _ _ ⟨rfl, rfl⟩
 refine AllE_cons rfl rfl rfl ?_
 rintro _ _ ⟨rfl, rfl⟩
 refine AllE_cons rfl rfl rfl ?_
 rintro _ _ ⟨rfl, rfl⟩
 refine AllE_cons rfl rfl rfl ?_
 rintro _ _ ⟨rfl, rfl⟩
 refine AllE_nil ?_
 intro hn1 hb1
 have hC9 := hC8.grow hB12
 obtain ⟨x11, hx4, hF⟩ := bind_some hF
 refine WA_tk 8 (by kernel_rfl) rfl rfl (fl_str_add hx4 rfl rfl) ?_
 refine WL_str_add hx4 rfl rfl rfl ?_
 refine WL_nil ?_
 obtain ⟨x12, hx5, hF⟩ := bind_some hF
 refine WA_tk 9 (by kernel_rfl) rfl rfl (fl_str_add hx5 rfl rfl) ?_
 refine WL_str_add hx5 rfl rfl rfl ?_
 refine WL_nil ?_
 refine WA_tk 10 (by kernel_rfl) rfl rfl (fl_assign rfl) ?_
 refine WL_assign rfl rfl ?_
 refine WL_nil ?_
 refine WA_done (by kernel_rfl) ?_
 refine nrm_normal (W_ret ?_)
 have hq7 := Option.some.inj hF
 subst hq7
 refine fn_ret1 rfl rfl ?_
 exact ⟨_, rfl, str_res hC9 _⟩

theorem c_S_EncodeReply {w0 : World} (a1 : (List (Int × (List Int)))) (u1 : Value) (g1 : RO [] w0 u1 a1) (rr : Str) (hF : S.EncodeReply a1 = some rr) :
 Calls Tryd.prog 20 [u1].toArray w0 fun e w' => ∃ v, e = .returned v ∧ Res w0 rr v w' := by
 refine calls_of_W Tryd.func20 rfl rfl ?_
 have hC0 := Ctx.start w0
 unfold S.EncodeReply at hF
 refine W_seq_reg ?_
 refine WL_assign rfl rfl ?_
 refine WL_nil (W_seq (W_seq_reg ?_))
 refine WL_move rfl rfl ?_
 refine WL_len Tryd.underlying43 g1 rfl rfl ?_
 refine WL_gtr rfl rfl rfl ?_
 refine WL_nil ?_
 refine W_cond rfl (fun hc1 => ?_) (fun hc1 => ?_)
 ·replace hF := ite_t hF hc1
  refine W_seq_reg ?_
  refine WL_assign rfl rfl ?_
  refine WL_nil (W_ret (nrm_ret ?_))
  have hq1 := Option.some.inj hF
  subst hq1
  refine fn_ret1 rfl rfl ?_
  exact ⟨_, rfl, str_res hC0 _⟩
 replace hF := ite_f hF hc1
 refine W_skip (nrm_normal (W_seq_reg ?_))
 refine WL_move rfl rfl ?_
 refine WL_len Tryd.underlying43 g1 rfl rfl ?_
 obtain ⟨x1, hr1, hF⟩ := bind_some hF
 refine WL_call Tryd.call46 rfl rfl (c_S_EncodeVarint (List.length a1 : Int) x1 hr1) ?_
 intro _ w1 hv1
 obtain ⟨rfl, hB1⟩ := res_str hv1
 have hC1 := hC0.grow hB1
 refine WL_assign rfl rfl ?_
 refine WL_nil (W_seq (W_seq_reg ?_))
 refine WL_assign rfl rfl ?_
 refine WL_nil ?_
 obtain ⟨r1, hr2, hF⟩ := bind_some hF
 refine W_norm (fun l w => ∃ x4 : Str, .inl x4 = r1 ∧ l = [(3, (sv x4))] ∧ Below w1.heap.size w1 w ∧ Ctx [] w0 w []) ?_ ?_
 ·refine W_block ?_
  refine W.sub (l' := [(0, u1), (3, (sv x1)), (4, (.int .i64 0))]) ?_ ⟨rfl, rfl, rfl, trivial⟩
  refine W_loop (fun k l w => ∃ x2 : Str, ∃ x3 : Int, l = [(0, u1), (3, (sv x2)), (4, (.int .i64 x3))] ∧ Below w1.heap.size w1 w ∧ Ctx [] w0 w [] ∧ S.EncodeReply_l1 a1 k x2 x3 = some r1) FUEL ⟨x1, 0, rfl, (Below.refl _ _), hC1, hr2⟩ ?_
  clear hr2
  rintro k1 _ w2 ⟨x2, x3, rfl, hB2, hC2, hL1⟩
  cases k1 with
  | zero => rw [S.EncodeReply_l1] at hL1; cases hL1
  | succ k1 =>
   rw [S.EncodeReply_l1] at hL1
   refine W_seq (W_seq_reg ?_)
   refine WL_move rfl rfl ?_
   refine WL_move rfl rfl ?_
   refine WL_len Tryd.underlying43 g1 rfl rfl ?_
   refine WL_lss rfl rfl rfl ?_
   refine WL_nil ?_
   refine W_cond rfl (fun hc2 => ?_) (fun hc2 => ?_)
   ·replace hL1 := ite_t hL1 hc2
    refine W_skip (nrm_normal (W_seq (W_block (W_seq (W_seq_reg ?_)))))
    refine WL_move rfl rfl ?_
    refine WL_move rfl rfl ?_
    obtain ⟨x5, hx1, hL1⟩ := bind_some hL1
    refine WL_index Tryd.underlying43 ty72 g1 hx1 rfl rfl rfl (fun b1 o1 h1 => ?_)
    refine WL_load ty72 h1 hC2.keep rfl rfl (fun v1 h2 => ?_)
    obtain ⟨v2, rfl, h3⟩ := ro_st72 h2
    obtain ⟨x6, hr3, hL1⟩ := bind_some hL1
    refine WL_call Tryd.call52 rfl rfl (c_S_FormatFact x5 v2 (h3.now hC2.keep) x6 hr3) ?_
    intro _ w3 hv2
    obtain ⟨rfl, hB3⟩ := res_str hv2
    have hC3 := hC2.grow hB3
    refine WL_str_eql rfl rfl rfl ?_
    refine WL_nil ?_
    refine W_cond rfl (fun hc3 => ?_) (fun hc3 => ?_)
    ·replace hL1 := ite_t hL1 hc3
     refine W_seq_reg ?_
     refine WL_assign rfl rfl ?_
     refine WL_nil (W_ret (nrm_ret (blk_ret (nrm_ret (nrm_ret (blk_ret (nrm_ret (nrm_ret ?_))))))))
     have hq2 := Option.some.inj hL1
     subst hq2
     dsimp only at hF
     have hq3 := Option.some.inj hF
     subst hq3
     refine fn_ret1 rfl rfl ?_
     exact ⟨_, rfl, str_res hC3 _⟩
    replace hL1 := ite_f hL1 hc3
    refine W_skip (nrm_normal (W_seq ?_))
    refine W_drawn 17 rfl hmix (fun w4 hB4 => ?_)
    have hC4 := hC3.grow hB4
    refine WA_tk 0 (by kernel_rfl) rfl rfl (fl_move rfl) ?_
    refine WL_move rfl rfl ?_
    refine WL_nil ?_
    refine WA_tk 1 (by kernel_rfl) rfl rfl (fl_move rfl) ?_
    refine WL_move rfl rfl ?_
    refine WL_nil ?_
    refine WA_tk 2 (by kernel_rfl) rfl rfl (fl_move rfl) ?_
    refine WL_move rfl rfl ?_
    refine WL_nil ?_
    obtain ⟨x7, hx2, hL1⟩ := bind_some hL1
    refine WA_tk 3 (by kernel_rfl) rfl rfl (fl_index Tryd.underlying43 ty72 g1 hx2 rfl rfl) ?_
    refine WL_index Tryd.underlying43 ty72 g1 hx2 rfl rfl rfl (fun b2 o2 h4 => ?_)
    refine WL_nil ?_
    refine WA_tk 4 (by kernel_rfl) rfl rfl (fl_field Tryd.underlying72 rfl rfl (fun w => ⟨_, Tryd.sizeOf3 w⟩) rfl) ?_
    refine WL_field Tryd.underlying72 rfl rfl (fun w => ⟨_, Tryd.sizeOf3 w⟩) rfl rfl ?_
    refine WL_nil ?_
    refine WA_tk 8 (by kernel_rfl) rfl rfl (fl_move rfl) ?_
    refine WL_move rfl rfl ?_
    refine WL_nil ?_
    refine WA_tk 9 (by kernel_rfl) rfl rfl (fl_move rfl) ?_
    refine WL_move rfl rfl ?_
    refine WL_nil ?_
    obtain ⟨x8, hx3, hL1⟩ := bind_some hL1
    refine WA_tk 10 (by kernel_rfl) rfl rfl (fl_index Tryd.underlying43 ty72 g1 hx3 rfl rfl) ?_
    refine WL_index Tryd.underlying43 ty72 g1 hx3 rfl rfl rfl (fun b3 o3 h5 => ?_)
    refine WL_nil ?_
    refine WA_tk 11 (by kernel_rfl) rfl rfl (fl_field Tryd.underlying72 rfl rfl (fun w => ⟨_, Tryd.sizeOf22 w⟩) rfl) ?_
    refine WL_field Tryd.underlying72 rfl rfl (fun w => ⟨_, Tryd.sizeOf22 w⟩) rfl rfl ?_
    refine WL_nil ?_
    obtain ⟨x9, hr4, hL1⟩ := bind_some hL1
    obtain ⟨x10, hx4, hL1⟩ := bind_some hL1
    obtain ⟨x11, hr5, hL1⟩ := bind_some hL1
    refine WA.sub (l' := [(0, u1), (3, (sv x2)), (4, (.int .i64 x3)), (12, (.int .i64 x3)), (13, u1), (14, (.int .i64 (List.length a1 : Int))), (15, (.bool (decide (x3 < (List.length a1 : Int))))), (18, u1), (19, (.int .i64 x3)), (20, (ptr b1 o1)), (21, (.agg #[(.int .i64 x5.1), v2])), (22, (sv x6)), (23, (.bool (decide (x6 = (str []))))), (24, (sv x2)), (25, u1), (26, (.int .i64 x3)), (27, (ptr b2 o2)), (28, (ptr b2 (o2 + 0))), (32, u1), (33, (.int .i64 x3)), (34, (ptr b3 o3)), (35, (ptr b3 (o3 + 1)))]) ?_ ⟨rfl, rfl, rfl, rfl, rfl, rfl, rfl, rfl, rfl, rfl, rfl, rfl, rfl, rfl, rfl, rfl, rfl, rfl, rfl, rfl, rfl, rfl, trivial⟩
    refine WA_postsE [⟨5, [], fun vs => PW.val (.int .i64 x7.1), []⟩, ⟨6, [], fun vs => PW.val (sv x9), []⟩, ⟨7, [], fun vs => PW.val (sv x10), []⟩, ⟨12, [], fun vs => PW.ro [] w0 x8.2, []⟩, ⟨13, [], fun vs => PW.val (.int .i64 (List.length x8.2 : Int)), []⟩, ⟨14, [], fun vs => PW.val (sv x11), []⟩] [[], [5], [6], [], [12], [13]] 2 rfl (by kernel_rfl) (by kernel_rfl) rfl ?_ ?_
    ·refine StepsE_cons rfl ?_ ?_
     ·intro w7 hB7
      refine DepsE_nil ?_
      refine ⟨_, rfl, ?_⟩
      refine WL_load ty3 h4.fst (hC4.keep.then hB7) rfl rfl (fun v3 h6 => ?_)
      obtain rfl := ro_int h6
      refine WL_nil ?_
      exact FinE_val (Below.refl _ _) rfl rfl ⟨rfl, rfl⟩
     refine StepsE_cons rfl ?_ ?_
     ·intro w7 hB7
      refine DepsE_cons rfl rfl rfl ?_
      rintro _ _ ⟨rfl, rfl⟩ _
      refine DepsE_nil ?_
      refine ⟨_, rfl, ?_⟩
      refine WL_call Tryd.call46 rfl rfl (c_S_EncodeVarint x7.1 x9 hr4) ?_
      intro _ w5 hv3
      obtain ⟨rfl, hB5⟩ := res_str hv3
      refine WL_nil ?_
      exact FinE_val hB5 rfl rfl ⟨rfl, rfl⟩
     refine StepsE_cons rfl ?_ ?_
     ·intro w7 hB7
      refine DepsE_cons rfl rfl rfl ?_
      rintro _ _ ⟨rfl, rfl⟩ _
      refine DepsE_nil ?_
      refine ⟨_, rfl, ?_⟩
      refine WL_str_add hx4 rfl rfl rfl ?_
      refine WL_nil ?_
      exact FinE_val (Below.refl _ _) rfl rfl ⟨rfl, rfl⟩
     refine StepsE_cons rfl ?_ ?_
     ·intro w7 hB7
      refine DepsE_nil ?_
      refine ⟨_, rfl, ?_⟩
      refine WL_load ty22 h5.snd (hC4.keep.then hB7) rfl rfl (fun v4 h7 => ?_)
      refine WL_nil ?_
      exact FinE_val (Below.refl _ _) rfl rfl ⟨rfl, h7⟩
     refine StepsE_cons rfl ?_ ?_
     ·intro w7 hB7
      refine DepsE_cons rfl rfl rfl ?_
      rintro v4 _ ⟨rfl, h7⟩ _
      refine DepsE_nil ?_
      refine ⟨_, rfl, ?_⟩
      refine WL_len Tryd.underlying22 h7 rfl rfl ?_
      refine WL_nil ?_
      exact FinE_val (Below.refl _ _) rfl rfl ⟨rfl, rfl⟩
     refine StepsE_cons rfl ?_ ?_
     ·intro w7 hB7
      refine DepsE_cons rfl rfl rfl ?_
      rintro _ _ ⟨rfl, rfl⟩ _
      refine DepsE_nil ?_
      refine ⟨_, rfl, ?_⟩
      refine WL_call Tryd.call46 rfl rfl (c_S_EncodeVarint (List.length x8.2 : Int) x11 hr5) ?_
      intro _ w6 hv4
      obtain ⟨rfl, hB6⟩ := res_str hv4
      refine WL_nil ?_
      exact FinE_val hB6 rfl rfl ⟨rfl, rfl⟩
     exact StepsE_nil
    intro w9 hB8
    refine AllE_cons rfl rfl rfl ?_
    rintro _ _ ⟨rfl, rfl⟩
    refine AllE_cons rfl rfl rfl ?_
    rintro _ _ ⟨rfl, rfl⟩
    refine AllE_cons rfl rfl rfl ?_
    rintro _ _ ⟨rfl, rfl⟩
    refine AllE_cons rfl rfl rfl ?_
    rintro v4 _ ⟨rfl, h7⟩
    refine AllE_cons rfl rfl rfl ?_
    rintro _ _ ⟨rfl, rfl⟩
    refine AllE_cons rfl rfl rfl ?_
    rintro _ _ ⟨rfl, rfl⟩
    refine AllE_nil ?_
    intro hn1 hb1
    have hC5 := hC4.grow hB8
    obtain ⟨x12, hx5, hL1⟩ := bind_some hL1
    refine WA_tk 15 (by kernel_rfl) rfl rfl (fl_str_add hx5 rfl rfl) ?_
    refine WL_str_add hx5 rfl rfl rfl ?_
    refine WL_nil ?_
    refine WA_tk 16 (by kernel_rfl) rfl rfl (fl_assign rfl) ?_
    refine WL_assign rfl rfl ?_
    refine WL_nil ?_
    refine WA_done (by kernel_rfl) ?_
    refine nrm_normal (W_seq_reg ?_)
    refine WL_assign rfl rfl ?_
    refine WL_nil ?_
    obtain ⟨r2, hr6, hL1⟩ := bind_some hL1
    refine W_norm (fun l w => ∃ x15 : Str, x15 = r2 ∧ l = [(0, u1), (3, (sv x15)), (4, (.int .i64 x3))] ∧ Below w9.heap.size w9 w ∧ Ctx [] w0 w []) ?_ ?_
    ·refine W_block ?_
     refine W.sub (l' := [(0, u1), (3, (sv x12)), (4, (.int .i64 x3)), (5, (.int .i64 0))]) ?_ ⟨rfl, rfl, rfl, rfl, trivial⟩
     refine W_loop (fun k l w => ∃ x13 : Str, ∃ x14 : Int, l = [(0, u1), (3, (sv x13)), (4, (.int .i64 x3)), (5, (.int .i64 x14))] ∧ Below w9.heap.size w9 w ∧ Ctx [] w0 w [] ∧ S.EncodeReply_l2 a1 x3 k x13 x14 = some r2) FUEL ⟨x12, 0, rfl, (Below.refl _ _), hC5, hr6⟩ ?_
     clear hr6
     rintro k2 _ w10 ⟨x13, x14, rfl, hB9, hC6, hL2⟩
     cases k2 with
     | zero => rw [S.EncodeReply_l2] at hL2; cases hL2
     | succ k2 =>
      rw [S.EncodeReply_l2] at hL2
      refine W_seq (W_seq_reg ?_)
      refine WL_move rfl rfl ?_
      refine WL_move rfl rfl ?_
      refine WL_move rfl rfl ?_
      obtain ⟨x16, hx6, hL2⟩ := bind_some hL2
      refine WL_index Tryd.underlying43 ty72 g1 hx6 rfl rfl rfl (fun b4 o4 h8 => ?_)
      refine WL_field Tryd.underlying72 rfl rfl (fun w => ⟨_, Tryd.sizeOf22 w⟩) rfl rfl ?_
      refine WL_load ty22 h8.snd hC6.keep rfl rfl (fun v5 h9 => ?_)
      refine WL_len Tryd.underlying22 h9 rfl rfl ?_
      refine WL_lss rfl rfl rfl ?_
      refine WL_nil ?_
      refine W_cond rfl (fun hc4 => ?_) (fun hc4 => ?_)
      ·replace hL2 := ite_t hL2 hc4
       refine W_skip (nrm_normal (W_seq (W_block (W_reg ?_))))
       refine WL_move rfl rfl ?_
       refine WL_move rfl rfl ?_
       refine WL_move rfl rfl ?_
       obtain ⟨x17, hx7, hL2⟩ := bind_some hL2
       refine WL_index Tryd.underlying43 ty72 g1 hx7 rfl rfl rfl (fun b5 o5 h10 => ?_)
       refine WL_field Tryd.underlying72 rfl rfl (fun w => ⟨_, Tryd.sizeOf22 w⟩) rfl rfl ?_
       refine WL_load ty22 h10.snd hC6.keep rfl rfl (fun v6 h11 => ?_)
       refine WL_move rfl rfl ?_
       obtain ⟨x18, hx8, hL2⟩ := bind_some hL2
       refine WL_index Tryd.underlying22 ty3 h11 hx8 rfl rfl rfl (fun b6 o6 h12 => ?_)
       refine WL_load ty3 h12 hC6.keep rfl rfl (fun v7 h13 => ?_)
       obtain rfl := ro_int h13
       obtain ⟨x19, hr7, hL2⟩ := bind_some hL2
       refine WL_call Tryd.call46 rfl rfl (c_S_EncodeVarint x18 x19 hr7) ?_
       intro _ w11 hv5
       obtain ⟨rfl, hB10⟩ := res_str hv5
       have hC7 := hC6.grow hB10
       obtain ⟨x20, hx9, hL2⟩ := bind_some hL2
       refine WL_str_add hx9 rfl rfl rfl ?_
       refine WL_assign rfl rfl ?_
       refine WL_nil (blk_normal (nrm_normal (W_reg ?_)))
       refine WL_move rfl rfl ?_
       refine WL_add rfl rfl rfl ?_
       refine WL_assign rfl rfl ?_
       refine WL_nil ?_
       refine nrm_sub (l' := [(0, u1), (3, (sv x20)), (4, (.int .i64 x3)), (5, (.int .i64 (w64 (x14 + 1))))]) ⟨rfl, rfl, rfl, rfl, trivial⟩ ?_
       exact ⟨k2, Nat.lt_succ_self _, x20, w64 (x14 + 1), rfl, ((Keep.of hB9).then hB10).below, hC7, hL2⟩
      replace hL2 := ite_f hL2 hc4
      refine W_exit (nrm_exit (nrm_exit (blk_exit ?_)))
      have hq4 := Option.some.inj hL2
      subst hq4
      refine nrm_sub (l' := [(0, u1), (3, (sv x13)), (4, (.int .i64 x3))]) ⟨rfl, rfl, rfl, trivial⟩ ?_
      exact ⟨x13, rfl, rfl, (Keep.of hB9).below, hC6⟩
    rintro l3 _ w12 hs3 ⟨x15, rfl, rfl, hB11, hC8⟩
    try dsimp only at hL1
    refine blk_normal ?_
    refine nrm_sub' hs3 ?_
    clear hs3
    refine W_reg ?_
    refine WL_move rfl rfl ?_
    refine WL_add rfl rfl rfl ?_
    refine WL_assign rfl rfl ?_
    refine WL_nil ?_
    refine nrm_sub (l' := [(0, u1), (3, (sv x15)), (4, (.int .i64 (w64 (x3 + 1))))]) ⟨rfl, rfl, rfl, trivial⟩ ?_
    exact ⟨k1, Nat.lt_succ_self _, x15, w64 (x3 + 1), rfl, (((((Keep.of hB2).then hB3).then hB4).then hB8).then hB11).below, hC8, hL1⟩
   replace hL1 := ite_f hL1 hc2
   refine W_exit (nrm_exit (nrm_exit (blk_exit ?_)))
   have hq5 := Option.some.inj hL1
   subst hq5
   refine nrm_sub (l' := [(3, (sv x2))]) ⟨rfl, trivial⟩ ?_
   exact ⟨x2, rfl, rfl, (Keep.of hB2).below, hC2⟩
 rintro l4 _ w13 hs4 ⟨x4, rfl, rfl, hB12, hC9⟩
 try dsimp only at hF
 refine nrm_sub' hs4 ?_
 clear hs4
 refine W_seq_reg ?_
 refine WL_move rfl rfl ?_
 refine WL_assign rfl rfl ?_
 refine WL_nil (W_ret ?_)
 have hq6 := Option.some.inj hF
 subst hq6
 refine fn_ret1 rfl rfl ?_
 exact ⟨_, rfl, str_res hC9 _⟩

theorem c_M_isRel {w0 : World} (a1 : Int) (rr : Bool) (hF : M.isRel a1 = some rr) :
 Calls Tryd.prog 78 [(.int .i64 a1)].toArray w0 fun e w' => ∃ v, e = .returned v ∧ Res w0 rr v w' := by
 refine calls_of_W Tryd.func78 rfl rfl ?_
 have hC0 := Ctx.start w0
 unfold M.isRel at hF
 refine W_seq_reg ?_
 refine WL_assign rfl rfl ?_
 refine WL_nil (W_seq_reg ?_)
 refine WL_move rfl rfl ?_
 obtain ⟨x1, hr1, hF⟩ := bind_some hF
 refine WL_call Tryd.call43 rfl rfl (c_M_within a1 0 2 x1 hr1) ?_
 intro _ w1 hv1
 obtain ⟨rfl, hB1⟩ := res_bool hv1
 have hC1 := hC0.grow hB1
 refine WL_assign rfl rfl ?_
 refine WL_nil (W_ret ?_)
 have hq1 := Option.some.inj hF
 subst hq1
 refine fn_ret1 rfl rfl ?_
 exact ⟨_, rfl, bool_res hC1 _⟩

theorem c_M_FormatFact {w0 : World} (a1 : (Int × (List Int))) (u1 : Value) (g1 : RO [] w0 u1 a1.2) (rr : Str) (hF : M.FormatFact a1 = some rr) :
 Calls Tryd.prog 54 [(.agg #[(.int .i64 a1.1), u1])].toArray w0 fun e w' => ∃ v, e = .returned v ∧ Res w0 rr v w' := by
 refine calls_of_W Tryd.func54 rfl rfl ?_
 have hC0 := Ctx.start w0
 unfold M.FormatFact at hF
 refine W_seq_reg ?_
 refine WL_boxK (cs := [(.int .i64 a1.1), u1]) hC0 rfl rfl rfl (fun b1 w1 hC1 hB1 hN1 => ?_)
 refine WL_assign rfl rfl ?_
 refine WL_nil (W_seq ?_)
 obtain ⟨r1, hr1, hF⟩ := bind_some hF
 refine W_cut (fun l w => ∃ x1 : Bool, x1 = r1 ∧ l = [(1, (ptr b1 0)), (19, (.bool x1))] ∧ Below w1.heap.size w1 w ∧ Ctx [] w0 w [Item.box b1 [(.int .i64 a1.1), u1]]) ?_ ?_
 ·refine W_reg ?_
  refine WL_field Tryd.underlying72 rfl rfl (fun w => ⟨_, Tryd.sizeOf3 w⟩) rfl rfl ?_
  refine WL_load_box hC1 0 rfl rfl Tryd.isAgg3 rfl rfl ?_
  obtain ⟨x2, hr2, hr1⟩ := bind_some hr1
  refine WL_call Tryd.call78 rfl rfl (c_M_isRel a1.1 x2 hr2) ?_
  intro _ w3 hv1
  obtain ⟨rfl, hB3⟩ := res_bool hv1
  have hC3 := hC1.grow hB3
  refine WL_not rfl rfl ?_
  refine WL_move rfl rfl ?_
  refine WL_fork (fun hc1 => ?_) (fun hc1 => ?_)
  ·replace hr1 := ite_t hr1 hc1
   refine WL_guard_skip rfl rfl (by simp) rfl ?_
   refine WL_guard_skip rfl rfl (by simp) rfl ?_
   refine WL_guard_skip rfl rfl (by simp) rfl ?_
   refine WL_guard_skip rfl rfl (by simp) rfl ?_
   refine WL_guard_skip rfl rfl (by simp) rfl ?_
   refine WL_pick_t rfl rfl rfl ?_
   refine WL_move rfl rfl ?_
   refine WL_guard_skip rfl rfl (by simp) rfl ?_
   refine WL_guard_skip rfl rfl (by simp) rfl ?_
   refine WL_guard_skip rfl rfl (by simp) rfl ?_
   refine WL_guard_skip rfl rfl (by simp) rfl ?_
   refine WL_pick_t rfl rfl rfl ?_
   refine WL_nil ?_
   have hq1 := Option.some.inj hr1
   subst hq1
   refine nrm_sub (l' := [(1, (ptr b1 0)), (19, (.bool true))]) ⟨rfl, rfl, trivial⟩ ?_
   exact ⟨true, rfl, rfl, (Keep.of hB3).below, hC3⟩
  replace hr1 := ite_f hr1 hc1
  refine WL_guard rfl rfl ?_
  refine WL_field Tryd.underlying72 rfl rfl (fun w => ⟨_, Tryd.sizeOf22 w⟩) rfl rfl ?_
  refine WL_guard rfl rfl ?_
  refine WL_load_box hC3 0 rfl rfl Tryd.isAgg22 rfl rfl ?_
  refine WL_guard rfl rfl ?_
  refine WL_len Tryd.underlying22 g1 rfl rfl ?_
  obtain ⟨x3, hr3, hr1⟩ := bind_some hr1
  refine WL_guard rfl rfl ?_
  refine WL_call Tryd.call43 rfl rfl (c_M_within (List.length a1.2 : Int) 1 3 x3 hr3) ?_
  intro _ w4 hv2
  obtain ⟨rfl, hB4⟩ := res_bool hv2
  have hC4 := hC3.grow hB4
  refine WL_guard rfl rfl ?_
  refine WL_not rfl rfl ?_
  refine WL_pick_f rfl rfl rfl ?_
  refine WL_move rfl rfl ?_
  refine WL_fork (fun hc2 => ?_) (fun hc2 => ?_)
  ·replace hr1 := ite_t hr1 hc2
   refine WL_guard_skip rfl rfl (by simp) rfl ?_
   refine WL_guard_skip rfl rfl (by simp) rfl ?_
   refine WL_guard_skip rfl rfl (by simp) rfl ?_
   refine WL_guard_skip rfl rfl (by simp) rfl ?_
   refine WL_pick_t rfl rfl rfl ?_
   refine WL_nil ?_
   have hq2 := Option.some.inj hr1
   subst hq2
   refine nrm_sub (l' := [(1, (ptr b1 0)), (19, (.bool true))]) ⟨rfl, rfl, trivial⟩ ?_
   exact ⟨true, rfl, rfl, ((Keep.of hB3).then hB4).below, hC4⟩
  replace hr1 := ite_f hr1 hc2
  refine WL_guard rfl rfl ?_
  refine WL_field Tryd.underlying72 rfl rfl (fun w => ⟨_, Tryd.sizeOf22 w⟩) rfl rfl ?_
  refine WL_guard rfl rfl ?_
  refine WL_load_box hC4 0 rfl rfl Tryd.isAgg22 rfl rfl ?_
  obtain ⟨x4, hr4, hr1⟩ := bind_some hr1
  refine WL_guard rfl rfl ?_
  refine WL_call Tryd.call72 rfl rfl (c_M_areValues a1.2 u1 (g1.now hC4.keep) x4 hr4) ?_
  intro _ w5 hv3
  obtain ⟨rfl, hB5⟩ := res_bool hv3
  have hC5 := hC4.grow hB5
  refine WL_guard rfl rfl ?_
  refine WL_not rfl rfl ?_
  refine WL_pick_f rfl rfl rfl ?_
  refine WL_nil ?_
  have hq3 := Option.some.inj hr1
  subst hq3
  refine nrm_sub (l' := [(1, (ptr b1 0)), (19, (.bool (!x4)))]) ⟨rfl, rfl, trivial⟩ ?_
  exact ⟨(!x4), rfl, rfl, (((Keep.of hB3).then hB4).then hB5).below, hC5⟩
 rintro _ w2 ⟨x1, rfl, rfl, hB2, hC2⟩
 try dsimp only at hF
 refine W_cond rfl (fun hc3 => ?_) (fun hc3 => ?_)
 ·replace hF := ite_t hF hc3
  refine W_seq_reg ?_
  refine WL_assign rfl rfl ?_
  refine WL_nil (W_ret (nrm_ret ?_))
  have hq4 := Option.some.inj hF
  subst hq4
  refine fn_ret1 rfl rfl ?_
  exact ⟨_, rfl, str_res hC2 _⟩
 replace hF := ite_f hF hc3
 refine W_skip (nrm_normal (W_seq ?_))
 refine W_drawn 11 rfl hmix (fun w6 hB6 => ?_)
 have hC6 := hC2.grow hB6
 refine WA_tk 0 (by kernel_rfl) rfl rfl (fl_field Tryd.underlying72 rfl rfl (fun w => ⟨_, Tryd.sizeOf3 w⟩) rfl) ?_
 refine WL_field Tryd.underlying72 rfl rfl (fun w => ⟨_, Tryd.sizeOf3 w⟩) rfl rfl ?_
 refine WL_nil ?_
 refine WA_tk 5 (by kernel_rfl) rfl rfl (fl_field Tryd.underlying72 rfl rfl (fun w => ⟨_, Tryd.sizeOf22 w⟩) rfl) ?_
 refine WL_field Tryd.underlying72 rfl rfl (fun w => ⟨_, Tryd.sizeOf22 w⟩) rfl rfl ?_
 refine WL_nil ?_
 obtain ⟨x5, hr5, hF⟩ := bind_some hF
 obtain ⟨x6, hx1, hF⟩ := bind_some hF
 obtain ⟨x7, hx2, hF⟩ := bind_some hF
 obtain ⟨x8, hr6, hF⟩ := bind_some hF
 refine WA.sub (l' := [(1, (ptr b1 0)), (19, (.bool x1)), (20, (ptr b1 0)), (25, (ptr b1 1))]) ?_ ⟨rfl, rfl, rfl, rfl, trivial⟩
 refine WA_postsE [⟨1, [], fun vs => PW.val (.int .i64 a1.1), []⟩, ⟨2, [], fun vs => PW.val (sv x5), []⟩, ⟨3, [], fun vs => PW.val (sv x6), []⟩, ⟨4, [], fun vs => PW.val (sv x7), []⟩, ⟨6, [], fun vs => PW.val u1, []⟩, ⟨7, [], fun vs => PW.val (sv x8), []⟩] [[], [1], [2], [3], [], [6]] 3 rfl (by kernel_rfl) (by kernel_rfl) rfl ?_ ?_
 ·refine StepsE_cons rfl ?_ ?_
  ·intro w10 hB9
   refine DepsE_nil ?_
   refine ⟨_, rfl, ?_⟩
   refine WL_load_box (hC6.grow hB9) 0 rfl rfl Tryd.isAgg3 rfl rfl ?_
   refine WL_nil ?_
   exact FinE_val (Below.refl _ _) rfl rfl ⟨rfl, rfl⟩
  refine StepsE_cons rfl ?_ ?_
  ·intro w10 hB9
   refine DepsE_cons rfl rfl rfl ?_
   rintro _ _ ⟨rfl, rfl⟩ _
   refine DepsE_nil ?_
   refine ⟨_, rfl, ?_⟩
   refine WL_call Tryd.call44 rfl rfl (c_M_FormatInt a1.1 x5 hr5) ?_
   intro _ w7 hv4
   obtain ⟨rfl, hB7⟩ := res_str hv4
   refine WL_nil ?_
   exact FinE_val hB7 rfl rfl ⟨rfl, rfl⟩
  refine StepsE_cons rfl ?_ ?_
  ·intro w10 hB9
   refine DepsE_cons rfl rfl rfl ?_
   rintro _ _ ⟨rfl, rfl⟩ _
   refine DepsE_nil ?_
   refine ⟨_, rfl, ?_⟩
   refine WL_str_add hx1 rfl rfl rfl ?_
   refine WL_nil ?_
   exact FinE_val (Below.refl _ _) rfl rfl ⟨rfl, rfl⟩
  refine StepsE_cons rfl ?_ ?_
  ·intro w10 hB9
   refine DepsE_cons rfl rfl rfl ?_
   rintro _ _ ⟨rfl, rfl⟩ _
   refine DepsE_nil ?_
   refine ⟨_, rfl, ?_⟩
   refine WL_str_add hx2 rfl rfl rfl ?_
   refine WL_nil ?_
   exact FinE_val (Below.refl _ _) rfl rfl ⟨rfl, rfl⟩
  refine StepsE_cons rfl ?_ ?_
  ·intro w10 hB9
   refine DepsE_nil ?_
   refine ⟨_, rfl, ?_⟩
   refine WL_load_box (hC6.grow hB9) 0 rfl rfl Tryd.isAgg22 rfl rfl ?_
   refine WL_nil ?_
   exact FinE_val (Below.refl _ _) rfl rfl ⟨rfl, rfl⟩
  refine StepsE_cons rfl ?_ ?_
  ·intro w10 hB9
   refine DepsE_cons rfl rfl rfl ?_
   rintro _ _ ⟨rfl, rfl⟩ _
   refine DepsE_nil ?_
   refine ⟨_, rfl, ?_⟩
   refine WL_call Tryd.call73 rfl rfl (c_M_joined a1.2 u1 (g1.now (hC6.keep.then hB9)) (str [44]) x8 hr6) ?_
   intro _ w9 hv5
   obtain ⟨rfl, hB8⟩ := res_str hv5
   refine WL_nil ?_
   exact FinE_val hB8 rfl rfl ⟨rfl, rfl⟩
  exact StepsE_nil
 intro w11 hB10
 refine AllE_cons rfl rfl rfl ?_
 rintro _ _ ⟨rfl, rfl⟩
 refine AllE_cons rfl rfl rfl ?_
 rintro _ _ ⟨rfl, rfl⟩
 refine AllE_cons rfl rfl rfl ?_
 rintro _ _ ⟨rfl, rfl⟩
 refine AllE_cons rfl rfl rfl ?_
 rintro _ _ ⟨rfl, rfl⟩
 refine AllE_cons rfl rfl rfl ?_
 rintro _ _ ⟨rfl, rfl⟩
 refine AllE_cons rfl rfl rfl ?_
 rintro _ _ ⟨rfl, rfl⟩
 refine AllE_nil ?_
 intro hn1 hb1
 have hC7 := hC6.grow hB10
 obtain ⟨x9, hx3, hF⟩ := bind_some hF
 refine WA_tk 8 (by kernel_rfl) rfl rfl (fl_str_add hx3 rfl rfl) ?_
 refine WL_str_add hx3 rfl rfl rfl ?_
 refine WL_nil ?_
 obtain ⟨x10, hx4, hF⟩ := bind_some hF
 refine WA_tk 9 (by kernel_rfl) rfl rfl (fl_str_add hx4 rfl rfl) ?_
 refine WL_str_add hx4 rfl rfl rfl ?_
 refine WL_nil ?_
 refine WA_tk 10 (by kernel_rfl) rfl rfl (fl_assign rfl) ?_
 refine WL_assign rfl rfl ?_
 refine WL_nil ?_
 refine WA_done (by kernel_rfl) ?_
 refine nrm_normal (W_ret ?_)
 have hq5 := Option.some.inj hF
 subst hq5
 refine fn_ret1 rfl rfl ?_
 exact ⟨_, rfl, str_res hC7 _⟩

theorem c_M_EncodeReply {w0 : World} (a1 : (List (Int × (List Int)))) (u1 : Value) (g1 : RO [] w0 u1 a1) (rr : Str) (hF : M.EncodeReply a1 = some rr) :
 Calls Tryd.prog 22 [u1].toArray w0 fun e w' => ∃ v, e = .returned v ∧ Res w0 rr v w' := by
 refine calls_of_W Tryd.func22 rfl rfl ?_
 have hC0 := Ctx.start w0
 unfold M.EncodeReply at hF
 refine W_seq_reg ?_
 refine WL_assign rfl rfl ?_
 refine WL_nil (W_seq (W_seq_reg ?_))
 refine WL_move rfl rfl ?_
 refine WL_len Tryd.underlying43 g1 rfl rfl ?_
 refine WL_gtr rfl rfl rfl ?_
 refine WL_nil ?_
 refine W_cond rfl (fun hc1 => ?_) (fun hc1 => ?_)
 ·replace hF := ite_t hF hc1
  refine W_seq_reg ?_
  refine WL_assign rfl rfl ?_
  refine WL_nil (W_ret (nrm_ret ?_))
  have hq1 := Option.some.inj hF
  subst hq1
  refine fn_ret1 rfl rfl ?_
  exact ⟨_, rfl, str_res hC0 _⟩
 replace hF := ite_f hF hc1
 refine W_skip (nrm_normal (W_seq_reg ?_))
 refine WL_move rfl rfl ?_
 refine WL_len Tryd.underlying43 g1 rfl rfl ?_
 refine WL_buildSlice (vs := [(.int .i64 (List.length a1 : Int))]) hC0 Tryd.underlying22 ty3 rfl rfl rfl rfl (by intro v hv; simp only [List.mem_cons, List.not_mem_nil, or_false] at hv; rcases hv with rfl <;> rfl) rfl rfl (fun b1 w1 hC1 hB1 => ?_)
 have hC2 := hC1.row0 (α := Int)
 have hC3 := hC2.triv (int_val ((List.length a1 : Int)))
 have hC4 := hC3.row1
 have hC5 := hC4.front 1 rfl
 dsimp only [List.eraseIdx, List.cons_append, List.nil_append, List.append_nil] at hC5
 have hC6 : Ctx [] w0 w1 (Item.own (.slice (some ⟨b1, 0, none⟩) 1 1) ([(List.length a1 : Int)] : List Int) :: []) := hC5.rowOwn (by simp [maxLen])
 obtain ⟨x1, hr1, hF⟩ := bind_some hF
 refine WL_call Tryd.call49 rfl rfl (c_M_varints ([(List.length a1 : Int)]) (.slice (some ⟨b1, 0, none⟩) 1 1) ((hC6.ro 0 rfl).now (Keep.refl _ _)) x1 hr1) ?_
 intro _ w2 hv1
 obtain ⟨rfl, hB2⟩ := res_str hv1
 have hC7 := hC6.grow hB2
 refine WL_assign rfl rfl ?_
 refine WL_nil (W_seq (W_seq_reg ?_))
 refine WL_move rfl rfl ?_
 refine WL_len Tryd.underlying43 g1 rfl rfl ?_
 refine WL_move rfl rfl ?_
 refine WL_nil ?_
 obtain ⟨r1, hr2, hF⟩ := bind_some hF
 refine W_norm (fun l w => ∃ x4 : Str, .inl x4 = r1 ∧ l = [(3, (sv x4))] ∧ Ctx [] w0 w []) ?_ ?_
 ·refine W_block ?_
  have hC24 := hC7.h0
  refine W.sub (l' := [(3, (sv x1)), (13, u1), (14, (.int .i64 (List.length a1 : Int))), (15, (.int .i64 0))]) ?_ ⟨rfl, rfl, rfl, rfl, trivial⟩
  refine W_loop (fun k l w => ∃ x2 : Str, ∃ x3 : Int, l = [(3, (sv x2)), (13, u1), (14, (.int .i64 (List.length a1 : Int))), (15, (.int .i64 x3))] ∧ Ctx [] w0 w [] ∧ M.EncodeReply_l1 a1 k x2 x3 = some r1) FUEL ⟨x1, 0, rfl, hC24, hr2⟩ ?_
  clear hr2
  rintro k1 _ w3 ⟨x2, x3, rfl, hC8, hL1⟩
  cases k1 with
  | zero => rw [M.EncodeReply_l1] at hL1; cases hL1
  | succ k1 =>
   rw [M.EncodeReply_l1] at hL1
   refine W_seq_reg ?_
   refine WL_lss rfl rfl rfl ?_
   refine WL_nil (W_seq ?_)
   refine W_cond rfl (fun hc2 => ?_) (fun hc2 => ?_)
   ·replace hL1 := ite_t hL1 hc2
    refine W_skip (nrm_normal (W_seq (W_block (W_seq_reg ?_))))
    obtain ⟨x5, hx1, hL1⟩ := bind_some hL1
    refine WL_index Tryd.underlying43 ty72 g1 hx1 rfl rfl rfl (fun b2 o1 h1 => ?_)
    refine WL_load ty72 h1 hC8.keep rfl rfl (fun v1 h2 => ?_)
    obtain ⟨v2, rfl, h3⟩ := ro_st72 h2
    refine WL_allocK hC8 zero72 rfl rfl (fun b3 w4 hC9 hB4 hN1 => ?_)
    refine WL_store_box_aggK (cs' := [(.int .i64 x5.1), v2]) (new := [(.int .i64 x5.1), v2]) hC9 0 rfl rfl (by intro v hv; simp only [List.mem_cons, List.not_mem_nil, or_false] at hv; rcases hv with rfl | rfl; exact rfl; exact (ro_one h3)) rfl Tryd.sizeOf72 rfl rfl (fun w5 hC10 hKp1 => ?_)
    try dsimp only [List.set] at hC10
    have hk1 := Keep.over (Keep.of hB4) hN1 hKp1
    refine WL_nil (W_seq (W_seq_reg ?_))
    refine WL_load_box_agg [(.int .i64 x5.1), v2] hC10 0 rfl rfl rfl Tryd.isAgg72 Tryd.sizeOf72 rfl rfl ?_
    obtain ⟨x6, hr3, hL1⟩ := bind_some hL1
    refine WL_call Tryd.call54 rfl rfl (c_M_FormatFact (x5.1, x5.2) v2 (h3.now hC10.keep) x6 hr3) ?_
    intro _ w6 hv2
    obtain ⟨rfl, hB5⟩ := res_str hv2
    have hC11 := hC10.grow hB5
    refine WL_str_eql rfl rfl rfl ?_
    refine WL_nil ?_
    refine W_cond rfl (fun hc3 => ?_) (fun hc3 => ?_)
    ·replace hL1 := ite_t hL1 hc3
     refine W_seq_reg ?_
     refine WL_assign rfl rfl ?_
     refine WL_nil (W_ret (nrm_ret (blk_ret (nrm_ret (nrm_ret (blk_ret (nrm_ret (nrm_ret ?_))))))))
     have hq2 := Option.some.inj hL1
     subst hq2
     dsimp only at hF
     have hq3 := Option.some.inj hF
     subst hq3
     refine fn_ret1 rfl rfl ?_
     exact ⟨_, rfl, str_res hC11 _⟩
    replace hL1 := ite_f hL1 hc3
    refine W_skip (nrm_normal ?_)
    refine W_drawn 14 rfl hmix (fun w7 hB6 => ?_)
    have hC12 := hC11.grow hB6
    refine WA_tk 0 (by kernel_rfl) rfl rfl (fl_move rfl) ?_
    refine WL_move rfl rfl ?_
    refine WL_nil ?_
    refine WA_tk 1 (by kernel_rfl) rfl rfl (fl_field Tryd.underlying72 rfl rfl (fun w => ⟨_, Tryd.sizeOf3 w⟩) rfl) ?_
    refine WL_field Tryd.underlying72 rfl rfl (fun w => ⟨_, Tryd.sizeOf3 w⟩) rfl rfl ?_
    refine WL_nil ?_
    refine WA_tk 3 (by kernel_rfl) rfl rfl (fl_field Tryd.underlying72 rfl rfl (fun w => ⟨_, Tryd.sizeOf22 w⟩) rfl) ?_
    refine WL_field Tryd.underlying72 rfl rfl (fun w => ⟨_, Tryd.sizeOf22 w⟩) rfl rfl ?_
    refine WL_nil ?_
    refine WA_tk 8 (by kernel_rfl) rfl rfl (fl_field Tryd.underlying72 rfl rfl (fun w => ⟨_, Tryd.sizeOf22 w⟩) rfl) ?_
    refine WL_field Tryd.underlying72 rfl rfl (fun w => ⟨_, Tryd.sizeOf22 w⟩) rfl rfl ?_
    refine WL_nil ?_
    obtain ⟨x7, hr4, hL1⟩ := bind_some hL1
    refine WA.sub (l' := [(3, (sv x2)), (5, (ptr b3 0)), (13, u1), (14, (.int .i64 (List.length a1 : Int))), (15, (.int .i64 x3)), (16, (.bool (decide (x3 < (List.length a1 : Int))))), (17, (ptr b2 o1)), (18, (.agg #[(.int .i64 x5.1), v2])), (19, (.agg #[(.int .i64 x5.1), v2])), (20, (sv x6)), (21, (.bool (decide (x6 = (str []))))), (22, (sv x2)), (23, (ptr b3 0)), (25, (ptr b3 1)), (30, (ptr b3 1))]) ?_ ⟨rfl, rfl, rfl, rfl, rfl, rfl, rfl, rfl, rfl, rfl, rfl, rfl, rfl, rfl, rfl, trivial⟩
    refine WA_postsE [⟨2, [], fun vs => PW.val (.int .i64 x5.1), []⟩, ⟨4, [], fun vs => PW.val v2, []⟩, ⟨5, [], fun vs => PW.val (.int .i64 (List.length x5.2 : Int)), []⟩, ⟨6, [], fun vs => PW.own ([x5.1, (List.length x5.2 : Int)] : (List Int)), []⟩, ⟨7, [], fun vs => PW.val (sv x7), []⟩, ⟨9, [], fun vs => PW.val v2, []⟩] [[], [], [4], [2, 5], [6], []] 4 rfl (by kernel_rfl) (by kernel_rfl) rfl ?_ ?_
    ·refine StepsE_cons rfl ?_ ?_
     ·intro w11 hB9
      refine DepsE_nil ?_
      refine ⟨_, rfl, ?_⟩
      refine WL_load_box (hC12.grow hB9) 0 rfl rfl Tryd.isAgg3 rfl rfl ?_
      refine WL_nil ?_
      exact FinE_val (Below.refl _ _) rfl rfl ⟨rfl, rfl⟩
     refine StepsE_cons rfl ?_ ?_
     ·intro w11 hB9
      refine DepsE_nil ?_
      refine ⟨_, rfl, ?_⟩
      refine WL_load_box (hC12.grow hB9) 0 rfl rfl Tryd.isAgg22 rfl rfl ?_
      refine WL_nil ?_
      exact FinE_val (Below.refl _ _) rfl rfl ⟨rfl, rfl⟩
     refine StepsE_cons rfl ?_ ?_
     ·intro w11 hB9
      refine DepsE_cons rfl rfl rfl ?_
      rintro _ _ ⟨rfl, rfl⟩ _
      refine DepsE_nil ?_
      refine ⟨_, rfl, ?_⟩
      refine WL_len Tryd.underlying22 h3 rfl rfl ?_
      refine WL_nil ?_
      exact FinE_val (Below.refl _ _) rfl rfl ⟨rfl, rfl⟩
     refine StepsE_cons rfl ?_ ?_
     ·intro w11 hB9
      refine DepsE_cons rfl rfl rfl ?_
      rintro _ _ ⟨rfl, rfl⟩ _
      refine DepsE_cons rfl rfl rfl ?_
      rintro _ _ ⟨rfl, rfl⟩ _
      refine DepsE_nil ?_
      refine ⟨_, rfl, ?_⟩
      refine WL_buildSlice (vs := [(.int .i64 x5.1), (.int .i64 (List.length x5.2 : Int))]) (Ctx.start w11) Tryd.underlying22 ty3 rfl rfl rfl rfl (by intro v hv; simp only [List.mem_cons, List.not_mem_nil, or_false] at hv; rcases hv with rfl | rfl <;> rfl) rfl rfl (fun b4 w9 hC13 hB7 => ?_)
      have hC14 := hC13.row0 (α := Int)
      have hC15 := hC14.triv (int_val ((List.length x5.2 : Int)))
      have hC16 := hC15.row1
      have hC17 := hC16.triv (int_val (x5.1))
      have hC18 := hC17.row1
      have hC19 := hC18.front 1 rfl
      dsimp only [List.eraseIdx, List.cons_append, List.nil_append, List.append_nil] at hC19
      have hC20 : Ctx [] w11 w9 (Item.own (.slice (some ⟨b4, 0, none⟩) 2 2) ([x5.1, (List.length x5.2 : Int)] : List Int) :: []) := hC19.rowOwn (by simp [maxLen])
      refine WL_nil ?_
      exact FinE_ctx hC20 rfl rfl (fun F h => h)
     refine StepsE_cons rfl ?_ ?_
     ·intro w11 hB9
      refine DepsE_cons rfl rfl rfl ?_
      intro v3 F1 hv3 _
      refine DepsE_nil ?_
      refine ⟨_, rfl, ?_⟩
      refine WL_call Tryd.call49 rfl rfl (c_M_varints ([x5.1, (List.length x5.2 : Int)]) v3 (ro_of_own hv3) x7 hr4) ?_
      intro _ w10 hv4
      obtain ⟨rfl, hB8⟩ := res_str hv4
      refine WL_nil ?_
      exact FinE_val hB8 rfl rfl ⟨rfl, rfl⟩
     refine StepsE_cons rfl ?_ ?_
     ·intro w11 hB9
      refine DepsE_nil ?_
      refine ⟨_, rfl, ?_⟩
      refine WL_load_box (hC12.grow hB9) 0 rfl rfl Tryd.isAgg22 rfl rfl ?_
      refine WL_nil ?_
      exact FinE_val (Below.refl _ _) rfl rfl ⟨rfl, rfl⟩
     exact StepsE_nil
    intro w12 hB10
    refine AllE_cons rfl rfl rfl ?_
    rintro _ _ ⟨rfl, rfl⟩
    refine AllE_cons rfl rfl rfl ?_
    rintro _ _ ⟨rfl, rfl⟩
    refine AllE_cons rfl rfl rfl ?_
    rintro _ _ ⟨rfl, rfl⟩
    refine AllE_cons rfl rfl rfl ?_
    intro v3 F1 hv3
    refine AllE_cons rfl rfl rfl ?_
    rintro _ _ ⟨rfl, rfl⟩
    refine AllE_cons rfl rfl rfl ?_
    rintro _ _ ⟨rfl, rfl⟩
    refine AllE_nil ?_
    intro hn1 hb1
    have hC21 := hC12.pushL hB10 (Bs := [Item.own v3 ([x5.1, (List.length x5.2 : Int)] : (List Int))]) (Fs := [F1]) ⟨F1, _, rfl, hv3, rfl⟩ (by simpa using hn1) (fun b h => (hb1 b (by simpa using h)).1)
    obtain ⟨x8, hr5, hL1⟩ := bind_some hL1
    refine WA_one 10 (by kernel_rfl) rfl ?_
    refine WL_call Tryd.call49 rfl rfl (c_M_varints x5.2 v2 (h3.now hC21.keep) x8 hr5) ?_
    intro _ w13 hv5
    obtain ⟨rfl, hB11⟩ := res_str hv5
    have hC22 := hC21.grow hB11
    refine WL_nil ?_
    obtain ⟨x9, hx2, hL1⟩ := bind_some hL1
    refine WA_tk 11 (by kernel_rfl) rfl rfl (fl_str_add hx2 rfl rfl) ?_
    refine WL_str_add hx2 rfl rfl rfl ?_
    refine WL_nil ?_
    obtain ⟨x10, hx3, hL1⟩ := bind_some hL1
    refine WA_tk 12 (by kernel_rfl) rfl rfl (fl_str_add hx3 rfl rfl) ?_
    refine WL_str_add hx3 rfl rfl rfl ?_
    refine WL_nil ?_
    refine WA_tk 13 (by kernel_rfl) rfl rfl (fl_assign rfl) ?_
    refine WL_assign rfl rfl ?_
    refine WL_nil ?_
    refine WA_done (by kernel_rfl) ?_
    refine blk_normal (nrm_normal (W_reg ?_))
    refine WL_add rfl rfl rfl ?_
    refine WL_move rfl rfl ?_
    refine WL_nil ?_
    have hC23 := hC22.h0
    refine nrm_sub (l' := [(3, (sv x10)), (13, u1), (14, (.int .i64 (List.length a1 : Int))), (15, (.int .i64 (w64 (x3 + 1))))]) ⟨rfl, rfl, rfl, rfl, trivial⟩ ?_
    exact ⟨k1, Nat.lt_succ_self _, x10, w64 (x3 + 1), rfl, hC23, hL1⟩
   replace hL1 := ite_f hL1 hc2
   refine W_exit (nrm_exit (nrm_exit (blk_exit ?_)))
   have hq4 := Option.some.inj hL1
   subst hq4
   refine nrm_sub (l' := [(3, (sv x2))]) ⟨rfl, trivial⟩ ?_
   exact ⟨x2, rfl, rfl, hC8⟩
 rintro l2 _ w14 hs2 ⟨x4, rfl, rfl, hC25⟩
 try dsimp only at hF
 refine nrm_sub' hs2 ?_
 clear hs2
 refine W_seq_reg ?_
 refine WL_move rfl rfl ?_
 refine WL_assign rfl rfl ?_
 refine WL_nil (W_ret ?_)
 have hq5 := Option.some.inj hF
 subst hq5
 refine fn_ret1 rfl rfl ?_
 exact ⟨_, rfl, str_res hC25 _⟩

theorem c_S_DecodeVarint {w0 : World} (a1 : Str) (rr : (Int × Int)) (hF : S.DecodeVarint a1 = some rr) :
 Calls Tryd.prog 79 [(sv a1)].toArray w0 fun e w' => ∃ v, e = .returned v ∧ Res2 w0 rr.1 rr.2 v w' := by
 refine calls_of_W Tryd.func79 rfl rfl ?_
 have hC0 := Ctx.start w0
 unfold S.DecodeVarint at hF
 refine W_seq_reg ?_
 refine WL_assign rfl rfl ?_
 refine WL_assign rfl rfl ?_
 refine WL_nil (W_seq (W_seq_reg ?_))
 refine WL_assign rfl rfl ?_
 refine WL_nil ?_
 obtain ⟨r1, hr1, hF⟩ := bind_some hF
 refine W_norm (fun l w => .inl () = r1 ∧ l = [] ∧ Below w0.heap.size w0 w ∧ Ctx [] w0 w []) ?_ ?_
 ·refine W_block ?_
  refine W.sub (l' := [(0, (sv a1)), (4, (.int .i64 1))]) ?_ ⟨rfl, rfl, trivial⟩
  refine W_loop (fun k l w => ∃ x1 : Int, l = [(0, (sv a1)), (4, (.int .i64 x1))] ∧ Below w0.heap.size w0 w ∧ Ctx [] w0 w [] ∧ S.DecodeVarint_l1 a1 k x1 = some r1) FUEL ⟨1, rfl, (Below.refl _ _), hC0, hr1⟩ ?_
  clear hr1
  rintro k1 _ w1 ⟨x1, rfl, hB1, hC1, hL1⟩
  cases k1 with
  | zero => rw [S.DecodeVarint_l1] at hL1; cases hL1
  | succ k1 =>
   rw [S.DecodeVarint_l1] at hL1
   refine W_seq ?_
   obtain ⟨r2, hr2, hL1⟩ := bind_some hL1
   refine W_cut (fun l w => ∃ x2 : Bool, x2 = r2 ∧ l = [(0, (sv a1)), (4, (.int .i64 x1)), (14, (.bool x2))] ∧ Below w1.heap.size w1 w ∧ Ctx [] w0 w []) ?_ ?_
   ·refine W_reg ?_
    refine WL_move rfl rfl ?_
    refine WL_leq rfl rfl rfl ?_
    refine WL_move rfl rfl ?_
    refine WL_fork (fun hc1 => ?_) (fun hc1 => ?_)
    ·replace hr2 := ite_t hr2 hc1
     refine WL_guard rfl rfl ?_
     refine WL_move rfl rfl ?_
     refine WL_guard rfl rfl ?_
     refine WL_move rfl rfl ?_
     refine WL_guard rfl rfl ?_
     refine WL_len_str Tryd.underlying9 rfl rfl ?_
     refine WL_guard rfl rfl ?_
     refine WL_leq rfl rfl rfl ?_
     refine WL_pick_t rfl rfl rfl ?_
     refine WL_nil ?_
     have hq1 := Option.some.inj hr2
     subst hq1
     refine nrm_sub (l' := [(0, (sv a1)), (4, (.int .i64 x1)), (14, (.bool (decide (x1 ≤ (List.length a1 : Int)))))]) ⟨rfl, rfl, rfl, trivial⟩ ?_
     exact ⟨(decide (x1 ≤ (List.length a1 : Int))), rfl, rfl, (Below.refl _ _), hC1⟩
    replace hr2 := ite_f hr2 hc1
    refine WL_guard_skip rfl rfl (by simp) rfl ?_
    refine WL_guard_skip rfl rfl (by simp) rfl ?_
    refine WL_guard_skip rfl rfl (by simp) rfl ?_
    refine WL_guard_skip rfl rfl (by simp) rfl ?_
    refine WL_pick_f rfl rfl rfl ?_
    refine WL_nil ?_
    have hq2 := Option.some.inj hr2
    subst hq2
    refine nrm_sub (l' := [(0, (sv a1)), (4, (.int .i64 x1)), (14, (.bool false))]) ⟨rfl, rfl, rfl, trivial⟩ ?_
    exact ⟨false, rfl, rfl, (Below.refl _ _), hC1⟩
   rintro _ w2 ⟨x2, rfl, rfl, hB2, hC2⟩
   try dsimp only at hL1
   refine W_cond rfl (fun hc2 => ?_) (fun hc2 => ?_)
   ·replace hL1 := ite_t hL1 hc2
    refine W_skip (nrm_normal (W_seq (W_block (W_seq_reg ?_))))
    refine WL_assign rfl rfl ?_
    refine WL_nil (W_seq (W_seq_reg ?_))
    refine WL_move rfl rfl ?_
    refine WL_sub rfl rfl rfl ?_
    refine WL_assign rfl rfl ?_
    refine WL_nil ?_
    obtain ⟨r3, hr3, hL1⟩ := bind_some hL1
    refine W_norm (fun l w => ∃ x5 : Int, x5 = r3 ∧ l = [(0, (sv a1)), (4, (.int .i64 x1)), (5, (.int .i64 x5))] ∧ Below w2.heap.size w2 w ∧ Ctx [] w0 w []) ?_ ?_
    ·refine W_block ?_
     refine W.sub (l' := [(0, (sv a1)), (4, (.int .i64 x1)), (5, (.int .i64 0)), (6, (.int .i64 (w64 (x1 - 1))))]) ?_ ⟨rfl, rfl, rfl, rfl, trivial⟩
     refine W_loop (fun k l w => ∃ x3 : Int, ∃ x4 : Int, l = [(0, (sv a1)), (4, (.int .i64 x1)), (5, (.int .i64 x3)), (6, (.int .i64 x4))] ∧ Below w2.heap.size w2 w ∧ Ctx [] w0 w [] ∧ S.DecodeVarint_l2 a1 k x3 x4 = some r3) FUEL ⟨0, w64 (x1 - 1), rfl, (Below.refl _ _), hC2, hr3⟩ ?_
     clear hr3
     rintro k2 _ w3 ⟨x3, x4, rfl, hB3, hC3, hL2⟩
     cases k2 with
     | zero => rw [S.DecodeVarint_l2] at hL2; cases hL2
     | succ k2 =>
      rw [S.DecodeVarint_l2] at hL2
      refine W_seq (W_seq_reg ?_)
      refine WL_move rfl rfl ?_
      refine WL_geq rfl rfl rfl ?_
      refine WL_nil ?_
      refine W_cond rfl (fun hc3 => ?_) (fun hc3 => ?_)
      ·replace hL2 := ite_t hL2 hc3
       refine W_skip (nrm_normal (W_seq (W_block (W_reg ?_))))
       refine WL_move rfl rfl ?_
       refine WL_mul rfl rfl rfl ?_
       refine WL_move rfl rfl ?_
       refine WL_move rfl rfl ?_
       obtain ⟨x6, hx1, hL2⟩ := bind_some hL2
       refine WL_index_str Tryd.underlying9 hx1 rfl rfl rfl ?_
       refine WL_conv_i64 Tryd.underlying5 Tryd.underlying3 rfl rfl ?_
       refine WL_rem (by decide) rfl rfl rfl ?_
       refine WL_add rfl rfl rfl ?_
       refine WL_assign rfl rfl ?_
       refine WL_nil (blk_normal (nrm_normal (W_reg ?_)))
       refine WL_move rfl rfl ?_
       refine WL_sub rfl rfl rfl ?_
       refine WL_assign rfl rfl ?_
       refine WL_nil ?_
       refine nrm_sub (l' := [(0, (sv a1)), (4, (.int .i64 x1)), (5, (.int .i64 (w64 ((w64 (x3 * 128)) + ((w64 (UInt8.toNat x6 : Int)).tmod 128))))), (6, (.int .i64 (w64 (x4 - 1))))]) ⟨rfl, rfl, rfl, rfl, trivial⟩ ?_
       exact ⟨k2, Nat.lt_succ_self _, w64 ((w64 (x3 * 128)) + ((w64 (UInt8.toNat x6 : Int)).tmod 128)), w64 (x4 - 1), rfl, (Keep.of hB3).below, hC3, hL2⟩
      replace hL2 := ite_f hL2 hc3
      refine W_exit (nrm_exit (nrm_exit (blk_exit ?_)))
      have hq3 := Option.some.inj hL2
      subst hq3
      refine nrm_sub (l' := [(0, (sv a1)), (4, (.int .i64 x1)), (5, (.int .i64 x3))]) ⟨rfl, rfl, rfl, trivial⟩ ?_
      exact ⟨x3, rfl, rfl, (Keep.of hB3).below, hC3⟩
    rintro l4 _ w4 hs4 ⟨x5, rfl, rfl, hB4, hC4⟩
    try dsimp only at hL1
    refine nrm_sub' hs4 ?_
    clear hs4
    refine W_seq ?_
    refine W_drawn 6 rfl hmix (fun w5 hB5 => ?_)
    have hC5 := hC4.grow hB5
    refine WA_tk 0 (by kernel_rfl) rfl rfl (fl_move rfl) ?_
    refine WL_move rfl rfl ?_
    refine WL_nil ?_
    refine WA_tk 2 (by kernel_rfl) rfl rfl (fl_move rfl) ?_
    refine WL_move rfl rfl ?_
    refine WL_nil ?_
    refine WA_tk 3 (by kernel_rfl) rfl rfl (fl_move rfl) ?_
    refine WL_move rfl rfl ?_
    refine WL_nil ?_
    obtain ⟨x7, hx2, hL1⟩ := bind_some hL1
    refine WA_tk 4 (by kernel_rfl) rfl rfl (fl_slice_str_h Tryd.underlying9 hx2 rfl rfl) ?_
    refine WL_slice_str_h Tryd.underlying9 hx2 rfl rfl rfl ?_
    refine WL_nil ?_
    obtain ⟨x8, hr4, hL1⟩ := bind_some hL1
    refine WA_one 1 (by kernel_rfl) rfl ?_
    refine WL_call Tryd.call46 rfl rfl (c_S_EncodeVarint x5 x8 hr4) ?_
    intro _ w6 hv1
    obtain ⟨rfl, hB6⟩ := res_str hv1
    have hC6 := hC5.grow hB6
    refine WL_nil ?_
    refine WA_tk 5 (by kernel_rfl) rfl rfl (fl_str_eql rfl rfl) ?_
    refine WL_str_eql rfl rfl rfl ?_
    refine WL_nil ?_
    refine WA_done (by kernel_rfl) ?_
    refine nrm_normal ?_
    refine W_cond rfl (fun hc4 => ?_) (fun hc4 => ?_)
    ·replace hL1 := ite_t hL1 hc4
     refine W_seq_reg ?_
     refine WL_move rfl rfl ?_
     refine WL_move rfl rfl ?_
     refine WL_assign rfl rfl ?_
     refine WL_assign rfl rfl ?_
     refine WL_nil (W_ret (blk_ret (nrm_ret (nrm_ret (blk_ret (nrm_ret (nrm_ret ?_)))))))
     have hq4 := Option.some.inj hL1
     subst hq4
     dsimp only at hF
     have hq5 := Option.some.inj hF
     subst hq5
     refine fn_ret2 rfl rfl rfl ?_
     have hC7 := hC6.triv (int_val (x1))
     have hC8 := hC7.triv (int_val (x5))
     exact ⟨_, rfl, res2_of hC8⟩
    replace hL1 := ite_f hL1 hc4
    refine W_skip (blk_normal (nrm_normal (W_reg ?_)))
    refine WL_move rfl rfl ?_
    refine WL_add rfl rfl rfl ?_
    refine WL_assign rfl rfl ?_
    refine WL_nil ?_
    refine nrm_sub (l' := [(0, (sv a1)), (4, (.int .i64 (w64 (x1 + 1))))]) ⟨rfl, rfl, trivial⟩ ?_
    exact ⟨k1, Nat.lt_succ_self _, w64 (x1 + 1), rfl, (((((Keep.of hB1).then hB2).then hB4).then hB5).then hB6).below, hC6, hL1⟩
   replace hL1 := ite_f hL1 hc2
   refine W_exit (nrm_exit (nrm_exit (blk_exit ?_)))
   have hq6 := Option.some.inj hL1
   subst hq6
   refine nrm_sub (l' := []) trivial ?_
   exact ⟨rfl, rfl, ((Keep.of hB1).then hB2).below, hC2⟩
 rintro l5 _ w7 hs5 ⟨rfl, rfl, hB7, hC9⟩
 try dsimp only at hF
 refine nrm_sub' hs5 ?_
 clear hs5
 refine W_seq_reg ?_
 refine WL_assign rfl rfl ?_
 refine WL_assign rfl rfl ?_
 refine WL_nil (W_ret ?_)
 have hq7 := Option.some.inj hF
 subst hq7
 refine fn_ret2 rfl rfl rfl ?_
 have hC10 := hC9.triv (int_val (0))
 have hC11 := hC10.triv (int_val (0))
 exact ⟨_, rfl, res2_of hC11⟩

theorem c_S_l26Numbers {w0 : World} (a1 : Str) (rr : ((List Int) × Bool)) (hF : S.l26Numbers a1 = some rr) :
 Calls Tryd.prog 56 [(sv a1)].toArray w0 fun e w' => ∃ v, e = .returned v ∧ Res2 w0 rr.1 rr.2 v w' := by
 refine calls_of_W Tryd.func56 rfl rfl ?_
 have hC0 := Ctx.start w0
 unfold S.l26Numbers at hF
 refine W_seq_reg ?_
 refine WL_assign rfl rfl ?_
 refine WL_assign rfl rfl ?_
 refine WL_nil (W_seq_reg ?_)
 refine WL_buildSlice (vs := []) hC0 Tryd.underlying22 ty3 rfl rfl rfl rfl (by simp) rfl rfl (fun b1 w1 hC1 hB1 => ?_)
 have hC2 := hC1.row0 (α := Int)
 have hC3 := hC2.front 1 rfl
 dsimp only [List.eraseIdx, List.cons_append, List.nil_append, List.append_nil] at hC3
 have hC4 : Ctx [] w0 w1 (Item.own (.slice (some ⟨b1, 0, none⟩) 0 0) (([] : List Int) : List Int) :: []) := hC3.rowOwn (by simp [maxLen])
 refine WL_assign rfl rfl ?_
 refine WL_nil (W_seq ?_)
 obtain ⟨r1, hr1, hF⟩ := bind_some hF
 refine W_norm (fun l w => ∃ v2 : Value, ∃ x3 : (List Int), .inl x3 = r1 ∧ l = [(4, v2)] ∧ Ctx [] w0 w [Item.own v2 (x3 : (List Int))]) ?_ ?_
 ·refine W_block ?_
  refine W.sub (l' := [(0, (sv a1)), (4, (.slice (some ⟨b1, 0, none⟩) 0 0))]) ?_ ⟨rfl, rfl, trivial⟩
  refine W_loop (fun k l w => ∃ x1 : Str, ∃ v1 : Value, ∃ x2 : (List Int), l = [(0, (sv x1)), (4, v1)] ∧ Ctx [] w0 w [Item.own v1 (x2 : (List Int))] ∧ S.l26Numbers_l1 k x1 x2 = some r1) FUEL ⟨a1, (.slice (some ⟨b1, 0, none⟩) 0 0), ([] : List Int), rfl, hC4, hr1⟩ ?_
  clear hr1
  rintro k1 _ w2 ⟨x1, v1, x2, rfl, hC5, hL1⟩
  cases k1 with
  | zero => rw [S.l26Numbers_l1] at hL1; cases hL1
  | succ k1 =>
   rw [S.l26Numbers_l1] at hL1
   refine W_seq (W_seq_reg ?_)
   refine WL_move rfl rfl ?_
   refine WL_len_str Tryd.underlying9 rfl rfl ?_
   refine WL_gtr rfl rfl rfl ?_
   refine WL_nil ?_
   refine W_cond rfl (fun hc1 => ?_) (fun hc1 => ?_)
   ·replace hL1 := ite_t hL1 hc1
    refine W_skip (nrm_normal (W_block (W_seq_reg ?_)))
    refine WL_move rfl rfl ?_
    obtain ⟨x4, hr2, hL1⟩ := bind_some hL1
    refine WL_call Tryd.call79 rfl rfl (c_S_DecodeVarint x1 x4 hr2) ?_
    rintro _ w3 ⟨hB3, v3, v4, F1, F2, rfl, hv1, hv2, hn1, hb1⟩
    obtain ⟨rfl, rfl⟩ := val_int hv1
    obtain ⟨rfl, rfl⟩ := val_int hv2
    have hC6 := hC5.grow hB3
    refine WL_move rfl rfl ?_
    refine WL_extract rfl rfl rfl ?_
    refine WL_extract rfl rfl rfl ?_
    refine WL_assign rfl rfl ?_
    refine WL_assign rfl rfl ?_
    refine WL_nil (W_seq (W_seq_reg ?_))
    refine WL_move rfl rfl ?_
    refine WL_eql rfl rfl rfl ?_
    refine WL_nil ?_
    refine W_cond rfl (fun hc2 => ?_) (fun hc2 => ?_)
    ·replace hL1 := ite_t hL1 hc2
     refine W_seq_reg ?_
     refine WL_buildSlice (vs := []) hC6 Tryd.underlying22 ty3 rfl rfl rfl rfl (by simp) rfl rfl (fun b2 w4 hC7 hB4 => ?_)
     have hC8 := hC7.row0 (α := Int)
     have hC9 := hC8.front 1 rfl
     dsimp only [List.eraseIdx, List.cons_append, List.nil_append, List.append_nil] at hC9
     have hC10 : Ctx [] w0 w4 (Item.own (.slice (some ⟨b2, 0, none⟩) 0 0) (([] : List Int) : List Int) :: [Item.own v1 (x2 : (List Int))]) := hC9.rowOwn (by simp [maxLen])
     refine WL_assign rfl rfl ?_
     refine WL_assign rfl rfl ?_
     refine WL_nil (W_ret (nrm_ret (blk_ret (nrm_ret (blk_ret (nrm_ret (nrm_ret ?_)))))))
     have hq1 := Option.some.inj hL1
     subst hq1
     dsimp only at hF
     have hq2 := Option.some.inj hF
     subst hq2
     refine fn_ret2 rfl rfl rfl ?_
     have hC11 := hC10.triv (bool_val (false))
     have hC12 := hC11.f1
     exact ⟨_, rfl, res2_of hC12⟩
    replace hL1 := ite_f hL1 hc2
    refine W_skip (nrm_normal (W_seq_reg ?_))
    refine WL_move rfl rfl ?_
    refine WL_move rfl rfl ?_
    refine WL_buildSlice (vs := [(.int .i64 x4.1)]) hC6 Tryd.underlying22 ty3 rfl rfl rfl rfl (by intro v hv; simp only [List.mem_cons, List.not_mem_nil, or_false] at hv; rcases hv with rfl <;> rfl) rfl rfl (fun b3 w5 hC13 hB5 => ?_)
    have hC14 := hC13.row0 (α := Int)
    have hC15 := hC14.triv (int_val (x4.1))
    have hC16 := hC15.row1
    have hC17 := hC16.front 1 rfl
    dsimp only [List.eraseIdx, List.cons_append, List.nil_append, List.append_nil] at hC17
    have hC18 : Ctx [] w0 w5 (Item.own (.slice (some ⟨b3, 0, none⟩) 1 1) ([x4.1] : List Int) :: [Item.own v1 (x2 : (List Int))]) := hC17.rowOwn (by simp [maxLen])
    obtain ⟨x5, hx1, hL1⟩ := bind_some hL1
    refine WL_append_flat (α := Int) hC18 1 rfl (hC18.ro 0 rfl) (Keep.refl _ _) Tryd.underlying22 ty3 rfl hx1 rfl rfl rfl (fun v5 w6 hC19 => ?_)
    try dsimp only [List.set] at hC19
    refine WL_assign rfl rfl ?_
    refine WL_nil (W_reg ?_)
    refine WL_move rfl rfl ?_
    refine WL_move rfl rfl ?_
    obtain ⟨x6, hx2, hL1⟩ := bind_some hL1
    refine WL_slice_str_l Tryd.underlying9 hx2 rfl rfl rfl ?_
    refine WL_assign rfl rfl ?_
    refine WL_nil (blk_normal ?_)
    have hC20 := hC19.f1
    have hC21 := hC20.h1
    refine nrm_sub (l' := [(0, (sv x6)), (4, v5)]) ⟨rfl, rfl, trivial⟩ ?_
    exact ⟨k1, Nat.lt_succ_self _, x6, v5, x5, rfl, hC21, hL1⟩
   replace hL1 := ite_f hL1 hc1
   refine W_exit (nrm_exit (nrm_exit (blk_exit ?_)))
   have hq3 := Option.some.inj hL1
   subst hq3
   refine nrm_sub (l' := [(4, v1)]) ⟨rfl, trivial⟩ ?_
   exact ⟨v1, x2, rfl, rfl, hC5⟩
 rintro l2 _ w7 hs2 ⟨v2, x3, rfl, rfl, hC22⟩
 try dsimp only at hF
 refine nrm_sub' hs2 ?_
 clear hs2
 refine W_seq_reg ?_
 refine WL_move rfl rfl ?_
 refine WL_assign rfl rfl ?_
 refine WL_assign rfl rfl ?_
 refine WL_nil (W_ret ?_)
 have hq4 := Option.some.inj hF
 subst hq4
 refine fn_ret2 rfl rfl rfl ?_
 have hC23 := hC22.triv (bool_val (true))
 have hC24 := hC23.f1
 exact ⟨_, rfl, res2_of hC24⟩

theorem c_S_DecodeRequest {w0 : World} (a1 : Str) (rr : ((Int × (List Int)) × Int × Bool)) (hF : S.DecodeRequest a1 = some rr) :
 Calls Tryd.prog 24 [(sv a1)].toArray w0 fun e w' => ∃ v, e = .returned v ∧ Res3 w0 rr.1 rr.2.1 rr.2.2 v w' := by
 refine calls_of_W Tryd.func24 rfl rfl ?_
 have hC0 := Ctx.start w0
 unfold S.DecodeRequest at hF
 refine W_seq_reg ?_
 refine WL_allocK hC0 zero29 rfl rfl (fun b1 w1 hC1 hB1 hN1 => ?_)
 refine WL_assign rfl rfl ?_
 refine WL_assign rfl rfl ?_
 refine WL_nil (W_seq_reg ?_)
 refine WL_move rfl rfl ?_
 obtain ⟨x1, hr1, hF⟩ := bind_some hF
 refine WL_call Tryd.call56 rfl rfl (c_S_l26Numbers a1 x1 hr1) ?_
 rintro _ w2 ⟨hB2, v1, v2, F1, F2, rfl, hv1, hv2, hn1, hb1⟩
 obtain ⟨rfl, rfl⟩ := val_bool hv2
 have hC2 := hC1.pushL hB2 (Bs := [Item.own v1 x1.1]) (Fs := [F1]) ⟨F1, _, rfl, hv1, rfl⟩ (by simpa using hn1) (fun b h => hb1 b (by simpa using h))
 refine WL_move rfl rfl ?_
 refine WL_extract rfl rfl rfl ?_
 refine WL_extract rfl rfl rfl ?_
 refine WL_assign rfl rfl ?_
 refine WL_assign rfl rfl ?_
 refine WL_nil (W_seq ?_)
 obtain ⟨r1, hr2, hF⟩ := bind_some hF
 refine W_cut (fun l w => ∃ x2 : Bool, x2 = r1 ∧ l = [(0, (sv a1)), (2, (ptr b1 0)), (5, v1), (28, (.bool x2))] ∧ Below w2.heap.size w2 w ∧ Ctx [] w0 w [Item.own v1 (x1.1 : (List Int)), Item.box b1 [(.int .i64 0), (.slice none 0 0)]]) ?_ ?_
 ·refine W_reg ?_
  refine WL_move rfl rfl ?_
  refine WL_not rfl rfl ?_
  refine WL_move rfl rfl ?_
  refine WL_fork (fun hc1 => ?_) (fun hc1 => ?_)
  ·replace hr2 := ite_t hr2 hc1
   refine WL_guard_skip rfl rfl (by simp) rfl ?_
   refine WL_guard_skip rfl rfl (by simp) rfl ?_
   refine WL_guard_skip rfl rfl (by simp) rfl ?_
   refine WL_pick_t rfl rfl rfl ?_
   refine WL_move rfl rfl ?_
   refine WL_guard_skip rfl rfl (by simp) rfl ?_
   refine WL_guard_skip rfl rfl (by simp) rfl ?_
   refine WL_guard_skip rfl rfl (by simp) rfl ?_
   refine WL_guard_skip rfl rfl (by simp) rfl ?_
   refine WL_guard_skip rfl rfl (by simp) rfl ?_
   refine WL_guard_skip rfl rfl (by simp) rfl ?_
   refine WL_guard_skip rfl rfl (by simp) rfl ?_
   refine WL_pick_t rfl rfl rfl ?_
   refine WL_nil ?_
   have hq1 := Option.some.inj hr2
   subst hq1
   refine nrm_sub (l' := [(0, (sv a1)), (2, (ptr b1 0)), (5, v1), (28, (.bool true))]) ⟨rfl, rfl, rfl, rfl, trivial⟩ ?_
   exact ⟨true, rfl, rfl, (Below.refl _ _), hC2⟩
  replace hr2 := ite_f hr2 hc1
  refine WL_guard rfl rfl ?_
  refine WL_move rfl rfl ?_
  refine WL_guard rfl rfl ?_
  refine WL_len Tryd.underlying22 (hC2.ro 0 rfl) rfl rfl ?_
  refine WL_guard rfl rfl ?_
  refine WL_lss rfl rfl rfl ?_
  refine WL_pick_f rfl rfl rfl ?_
  refine WL_move rfl rfl ?_
  refine WL_fork (fun hc2 => ?_) (fun hc2 => ?_)
  ·replace hr2 := ite_t hr2 hc2
   refine WL_guard_skip rfl rfl (by simp) rfl ?_
   refine WL_guard_skip rfl rfl (by simp) rfl ?_
   refine WL_guard_skip rfl rfl (by simp) rfl ?_
   refine WL_guard_skip rfl rfl (by simp) rfl ?_
   refine WL_guard_skip rfl rfl (by simp) rfl ?_
   refine WL_guard_skip rfl rfl (by simp) rfl ?_
   refine WL_guard_skip rfl rfl (by simp) rfl ?_
   refine WL_pick_t rfl rfl rfl ?_
   refine WL_nil ?_
   have hq2 := Option.some.inj hr2
   subst hq2
   refine nrm_sub (l' := [(0, (sv a1)), (2, (ptr b1 0)), (5, v1), (28, (.bool true))]) ⟨rfl, rfl, rfl, rfl, trivial⟩ ?_
   exact ⟨true, rfl, rfl, (Below.refl _ _), hC2⟩
  replace hr2 := ite_f hr2 hc2
  refine WL_guard rfl rfl ?_
  refine WL_move rfl rfl ?_
  refine WL_guard rfl rfl ?_
  refine WL_len Tryd.underlying22 (hC2.ro 0 rfl) rfl rfl ?_
  refine WL_guard rfl rfl ?_
  refine WL_move rfl rfl ?_
  obtain ⟨x3, hx1, hr2⟩ := bind_some hr2
  refine WL_guard rfl rfl ?_
  refine WL_index Tryd.underlying22 ty3 (hC2.ro 0 rfl) hx1 rfl rfl rfl (fun b2 o1 h1 => ?_)
  refine WL_guard rfl rfl ?_
  refine WL_load ty3 h1 (Keep.refl _ _) rfl rfl (fun v3 h2 => ?_)
  obtain rfl := ro_int h2
  refine WL_guard rfl rfl ?_
  refine WL_add rfl rfl rfl ?_
  refine WL_guard rfl rfl ?_
  refine WL_neq rfl rfl rfl ?_
  refine WL_pick_f rfl rfl rfl ?_
  refine WL_nil ?_
  have hq3 := Option.some.inj hr2
  subst hq3
  refine nrm_sub (l' := [(0, (sv a1)), (2, (ptr b1 0)), (5, v1), (28, (.bool (!decide ((List.length x1.1 : Int) = (w64 (3 + x3))))))]) ⟨rfl, rfl, rfl, rfl, trivial⟩ ?_
  exact ⟨(!decide ((List.length x1.1 : Int) = (w64 (3 + x3)))), rfl, rfl, (Below.refl _ _), hC2⟩
 rintro _ w3 ⟨x2, rfl, rfl, hB3, hC3⟩
 try dsimp only at hF
 refine W_cond rfl (fun hc3 => ?_) (fun hc3 => ?_)
 ·replace hF := ite_t hF hc3
  refine W_seq_reg ?_
  refine WL_build (vs := []) rfl rfl rfl built29 ?_
  refine WL_store_box_aggK (cs' := [(.int .i64 0), (.slice none 0 0)]) (new := [(.int .i64 0), (.slice none 0 0)]) hC3 1 rfl rfl (by intro v hv; simp only [List.mem_cons, List.not_mem_nil, or_false] at hv; rcases hv with rfl | rfl; exact rfl; exact rfl) rfl Tryd.sizeOf29 rfl rfl (fun w4 hC4 hKp1 => ?_)
  try dsimp only [List.set] at hC4
  have hk1 := Keep.over (((Keep.of hB1).then hB2).then hB3) hN1 hKp1
  refine WL_assign rfl rfl ?_
  refine WL_assign rfl rfl ?_
  refine WL_nil (W_ret (nrm_ret ?_))
  have hq4 := Option.some.inj hF
  subst hq4
  refine fn_retG3 rfl (rv_cell_agg (cs' := [(.int .i64 0), (.slice none 0 0)]) hC4 (i := 1) rfl rfl rfl Tryd.isAgg29 Tryd.sizeOf29 rfl) (rv_tmp rfl) (rv_tmp rfl) ?_
  have hC5 := hC4.triv (bool_val (false))
  have hC6 := hC5.triv (int_val (0))
  have hC8 := hC6.triv (nil_val (α := Int))
  have hC7 := own_st29 0 (.slice none 0 0) ([]) hC8
  exact ⟨_, rfl, res3_of hC7⟩
 replace hF := ite_f hF hc3
 refine W_skip (nrm_normal ?_)
 obtain ⟨r2, hr3, hF⟩ := bind_some hF
 refine W_cut (fun l w => ∃ b3 : Nat, ∃ x4 : Int, ∃ v4 : Value, ∃ x5 : (List Int), (x4, x5) = r2 ∧ l = [(0, (sv a1)), (2, (ptr b1 0)), (5, v1), (7, (ptr b3 0))] ∧ Ctx [] w0 w [Item.box b3 [(.int .i64 x4), v4], Item.own v4 (x5 : (List Int)), Item.own v1 (x1.1 : (List Int)), Item.box b1 [(.int .i64 0), (.slice none 0 0)]]) ?_ ?_
 ·refine W_drawn 10 rfl hmix (fun w6 hB5 => ?_)
  have hC10 := hC3.grow hB5
  refine WA_tk 0 (by kernel_rfl) rfl rfl (fl_move rfl) ?_
  refine WL_move rfl rfl ?_
  refine WL_nil ?_
  obtain ⟨x6, hx2, hr3⟩ := bind_some hr3
  refine WA_tk 1 (by kernel_rfl) rfl rfl (fl_index_own hC10 0 rfl Tryd.underlying22 ty3 hx2 rfl rfl) ?_
  refine WL_index_own hC10 0 rfl Tryd.underlying22 ty3 hx2 rfl rfl rfl (fun b4 hE1 => ?_)
  refine WL_nil ?_
  refine WA_tk 4 (by kernel_rfl) rfl rfl (fl_move rfl) ?_
  refine WL_move rfl rfl ?_
  refine WL_nil ?_
  obtain ⟨x7, hx3, hr3⟩ := bind_some hr3
  refine WA_tk 5 (by kernel_rfl) rfl rfl (fl_slice_l Tryd.underlying22 ty3 (hC10.ro 0 rfl) hx3 rfl rfl) ?_
  refine WL_slice_lV Tryd.underlying22 ty3 (hC10.ro 0 rfl) hx3 rfl rfl rfl (fun v5 h3 => ?_)
  refine WL_nil ?_
  refine WA_all3 (i := 2) (j := 3) (m := 8) (by kernel_rfl) rfl rfl rfl ?_ ?_ ?_
  ·refine WL_load ty3 (hC10.at 0 rfl hE1 hx2) (Keep.refl _ _) rfl rfl (fun v6 h4 => ?_)
   obtain rfl := ro_int h4
   refine WL_nil ?_
   refine WA_all2 (i := 3) (j := 8) (by kernel_rfl) rfl rfl ?_ ?_
   ·refine WL_buildSlice (vs := []) hC10 Tryd.underlying22 ty3 rfl rfl rfl rfl (by simp) rfl rfl (fun b5 w7 hC11 hB6 => ?_)
    have hC12 := hC11.row0 (α := Int)
    have hC13 := hC12.front 1 rfl
    dsimp only [List.eraseIdx, List.cons_append, List.nil_append, List.append_nil] at hC13
    have hC14 : Ctx [] w0 w7 (Item.own (.slice (some ⟨b5, 0, none⟩) 0 0) (([] : List Int) : List Int) :: [Item.own v1 (x1.1 : (List Int)), Item.box b1 [(.int .i64 0), (.slice none 0 0)]]) := hC13.rowOwn (by simp [maxLen])
    refine WL_nil ?_
    refine WA_all2 (i := 6) (j := 8) (by kernel_rfl) rfl rfl ?_ ?_
    ·obtain ⟨x8, hx4, hr3⟩ := bind_some hr3
     refine WL_append_flat (α := Int) hC14 0 rfl (h3 (hC14.ro 1 rfl)) (Keep.refl _ _) Tryd.underlying22 ty3 rfl hx4 rfl rfl rfl (fun v7 w9 hC15 => ?_)
     try dsimp only [List.set] at hC15
     refine WL_nil ?_
     refine WA_tk 7 (by kernel_rfl) rfl rfl (fl_build (vs := [(0, (.int .i64 x6)), (1, v7)]) rfl rfl (built29_0_1 rfl (ro_cells (hC15.ro 0 rfl)))) ?_
     refine WL_build (vs := [(0, (.int .i64 x6)), (1, v7)]) rfl rfl rfl (built29_0_1 rfl (ro_cells (hC15.ro 0 rfl))) ?_
     refine WL_nil ?_
     refine WA_one 8 (by kernel_rfl) rfl ?_
     refine WL_allocK hC15 zero29 rfl rfl (fun b6 w10 hC16 hB7 hN2 => ?_)
     refine WL_nil ?_
     refine WA_one 9 (by kernel_rfl) rfl ?_
     refine WL_store_box_aggK (cs' := [(.int .i64 x6), v7]) (new := [(.int .i64 x6), v7]) hC16 0 rfl rfl (by intro v hv; simp only [List.mem_cons, List.not_mem_nil, or_false] at hv; rcases hv with rfl | rfl; exact rfl; exact (ro_one (hC16.ro 1 rfl))) rfl Tryd.sizeOf29 rfl rfl (fun w11 hC17 hKp2 => ?_)
     try dsimp only [List.set] at hC17
     have hk2 := Keep.over (Keep.of hB7) hN2 hKp2
     refine WL_nil ?_
     refine WA_done (by kernel_rfl) ?_
     have hq5 := Option.some.inj hr3
     subst hq5
     refine nrm_sub (l' := [(0, (sv a1)), (2, (ptr b1 0)), (5, v1), (7, (ptr b6 0))]) ⟨rfl, rfl, rfl, rfl, trivial⟩ ?_
     exact ⟨b6, x6, v7, x8, rfl, rfl, hC17⟩
    refine WL_allocK hC14 zero29 rfl rfl (fun b6 w9 hC15 hB7 hN2 => ?_)
    refine WL_nil ?_
    obtain ⟨x8, hx4, hr3⟩ := bind_some hr3
    refine WA_one 6 (by kernel_rfl) rfl ?_
    refine WL_append_flat (α := Int) hC15 1 rfl (h3 (hC15.ro 2 rfl)) (Keep.refl _ _) Tryd.underlying22 ty3 rfl hx4 rfl rfl rfl (fun v7 w10 hC16 => ?_)
    try dsimp only [List.set] at hC16
    refine WL_nil ?_
    refine WA_tk 7 (by kernel_rfl) rfl rfl (fl_build (vs := [(0, (.int .i64 x6)), (1, v7)]) rfl rfl (built29_0_1 rfl (ro_cells (hC16.ro 1 rfl)))) ?_
    refine WL_build (vs := [(0, (.int .i64 x6)), (1, v7)]) rfl rfl rfl (built29_0_1 rfl (ro_cells (hC16.ro 1 rfl))) ?_
    refine WL_nil ?_
    refine WA_one 9 (by kernel_rfl) rfl ?_
    refine WL_store_box_aggK (cs' := [(.int .i64 x6), v7]) (new := [(.int .i64 x6), v7]) hC16 0 rfl rfl (by intro v hv; simp only [List.mem_cons, List.not_mem_nil, or_false] at hv; rcases hv with rfl | rfl; exact rfl; exact (ro_one (hC16.ro 1 rfl))) rfl Tryd.sizeOf29 rfl rfl (fun w11 hC17 hKp2 => ?_)
    try dsimp only [List.set] at hC17
    refine WL_nil ?_
    refine WA_done (by kernel_rfl) ?_
    have hq5 := Option.some.inj hr3
    subst hq5
    refine nrm_sub (l' := [(0, (sv a1)), (2, (ptr b1 0)), (5, v1), (7, (ptr b6 0))]) ⟨rfl, rfl, rfl, rfl, trivial⟩ ?_
    exact ⟨b6, x6, v7, x8, rfl, rfl, hC17⟩
   refine WL_allocK hC10 zero29 rfl rfl (fun b5 w7 hC11 hB6 hN2 => ?_)
   refine WL_nil ?_
   refine WA_one 3 (by kernel_rfl) rfl ?_
   refine WL_buildSlice (vs := []) hC11 Tryd.underlying22 ty3 rfl rfl rfl rfl (by simp) rfl rfl (fun b6 w9 hC12 hB7 => ?_)
   have hC13 := hC12.row0 (α := Int)
   have hC14 := hC13.front 1 rfl
   dsimp only [List.eraseIdx, List.cons_append, List.nil_append, List.append_nil] at hC14
   have hC15 : Ctx [] w0 w9 (Item.own (.slice (some ⟨b6, 0, none⟩) 0 0) (([] : List Int) : List Int) :: [Item.box b5 [(.int .i64 0), (.slice none 0 0)], Item.own v1 (x1.1 : (List Int)), Item.box b1 [(.int .i64 0), (.slice none 0 0)]]) := hC14.rowOwn (by simp [maxLen])
   refine WL_nil ?_
   obtain ⟨x8, hx4, hr3⟩ := bind_some hr3
   refine WA_one 6 (by kernel_rfl) rfl ?_
   refine WL_append_flat (α := Int) hC15 0 rfl (h3 (hC15.ro 2 rfl)) (Keep.refl _ _) Tryd.underlying22 ty3 rfl hx4 rfl rfl rfl (fun v7 w10 hC16 => ?_)
   try dsimp only [List.set] at hC16
   refine WL_nil ?_
   refine WA_tk 7 (by kernel_rfl) rfl rfl (fl_build (vs := [(0, (.int .i64 x6)), (1, v7)]) rfl rfl (built29_0_1 rfl (ro_cells (hC16.ro 0 rfl)))) ?_
   refine WL_build (vs := [(0, (.int .i64 x6)), (1, v7)]) rfl rfl rfl (built29_0_1 rfl (ro_cells (hC16.ro 0 rfl))) ?_
   refine WL_nil ?_
   refine WA_one 9 (by kernel_rfl) rfl ?_
   refine WL_store_box_aggK (cs' := [(.int .i64 x6), v7]) (new := [(.int .i64 x6), v7]) hC16 1 rfl rfl (by intro v hv; simp only [List.mem_cons, List.not_mem_nil, or_false] at hv; rcases hv with rfl | rfl; exact rfl; exact (ro_one (hC16.ro 0 rfl))) rfl Tryd.sizeOf29 rfl rfl (fun w11 hC17 hKp2 => ?_)
   try dsimp only [List.set] at hC17
   refine WL_nil ?_
   refine WA_done (by kernel_rfl) ?_
   have hq5 := Option.some.inj hr3
   subst hq5
   have hC18 := hC17.f3
   have hC19 := hC18.f3
   have hC20 := hC19.f2
   have hC21 := hC20.f3
   refine nrm_sub (l' := [(0, (sv a1)), (2, (ptr b1 0)), (5, v1), (7, (ptr b5 0))]) ⟨rfl, rfl, rfl, rfl, trivial⟩ ?_
   exact ⟨b5, x6, v7, x8, rfl, rfl, hC21⟩
  ·refine WL_buildSlice (vs := []) hC10 Tryd.underlying22 ty3 rfl rfl rfl rfl (by simp) rfl rfl (fun b5 w7 hC11 hB6 => ?_)
   have hC12 := hC11.row0 (α := Int)
   have hC13 := hC12.front 1 rfl
   dsimp only [List.eraseIdx, List.cons_append, List.nil_append, List.append_nil] at hC13
   have hC14 : Ctx [] w0 w7 (Item.own (.slice (some ⟨b5, 0, none⟩) 0 0) (([] : List Int) : List Int) :: [Item.own v1 (x1.1 : (List Int)), Item.box b1 [(.int .i64 0), (.slice none 0 0)]]) := hC13.rowOwn (by simp [maxLen])
   refine WL_nil ?_
   refine WA_all3 (i := 2) (j := 6) (m := 8) (by kernel_rfl) rfl rfl rfl ?_ ?_ ?_
   ·refine WL_load ty3 (hC10.at 0 rfl hE1 hx2) (Keep.of hB6) rfl rfl (fun v6 h4 => ?_)
    obtain rfl := ro_int h4
    refine WL_nil ?_
    refine WA_all2 (i := 6) (j := 8) (by kernel_rfl) rfl rfl ?_ ?_
    ·obtain ⟨x8, hx4, hr3⟩ := bind_some hr3
     refine WL_append_flat (α := Int) hC14 0 rfl (h3 (hC14.ro 1 rfl)) (Keep.refl _ _) Tryd.underlying22 ty3 rfl hx4 rfl rfl rfl (fun v7 w9 hC15 => ?_)
     try dsimp only [List.set] at hC15
     refine WL_nil ?_
     refine WA_tk 7 (by kernel_rfl) rfl rfl (fl_build (vs := [(0, (.int .i64 x6)), (1, v7)]) rfl rfl (built29_0_1 rfl (ro_cells (hC15.ro 0 rfl)))) ?_
     refine WL_build (vs := [(0, (.int .i64 x6)), (1, v7)]) rfl rfl rfl (built29_0_1 rfl (ro_cells (hC15.ro 0 rfl))) ?_
     refine WL_nil ?_
     refine WA_one 8 (by kernel_rfl) rfl ?_
     refine WL_allocK hC15 zero29 rfl rfl (fun b6 w10 hC16 hB7 hN2 => ?_)
     refine WL_nil ?_
     refine WA_one 9 (by kernel_rfl) rfl ?_
     refine WL_store_box_aggK (cs' := [(.int .i64 x6), v7]) (new := [(.int .i64 x6), v7]) hC16 0 rfl rfl (by intro v hv; simp only [List.mem_cons, List.not_mem_nil, or_false] at hv; rcases hv with rfl | rfl; exact rfl; exact (ro_one (hC16.ro 1 rfl))) rfl Tryd.sizeOf29 rfl rfl (fun w11 hC17 hKp2 => ?_)
     try dsimp only [List.set] at hC17
     have hk2 := Keep.over (Keep.of hB7) hN2 hKp2
     refine WL_nil ?_
     refine WA_done (by kernel_rfl) ?_
     have hq5 := Option.some.inj hr3
     subst hq5
     refine nrm_sub (l' := [(0, (sv a1)), (2, (ptr b1 0)), (5, v1), (7, (ptr b6 0))]) ⟨rfl, rfl, rfl, rfl, trivial⟩ ?_
     exact ⟨b6, x6, v7, x8, rfl, rfl, hC17⟩
    refine WL_allocK hC14 zero29 rfl rfl (fun b6 w9 hC15 hB7 hN2 => ?_)
    refine WL_nil ?_
    obtain ⟨x8, hx4, hr3⟩ := bind_some hr3
    refine WA_one 6 (by kernel_rfl) rfl ?_
    refine WL_append_flat (α := Int) hC15 1 rfl (h3 (hC15.ro 2 rfl)) (Keep.refl _ _) Tryd.underlying22 ty3 rfl hx4 rfl rfl rfl (fun v7 w10 hC16 => ?_)
    try dsimp only [List.set] at hC16
    refine WL_nil ?_
    refine WA_tk 7 (by kernel_rfl) rfl rfl (fl_build (vs := [(0, (.int .i64 x6)), (1, v7)]) rfl rfl (built29_0_1 rfl (ro_cells (hC16.ro 1 rfl)))) ?_
    refine WL_build (vs := [(0, (.int .i64 x6)), (1, v7)]) rfl rfl rfl (built29_0_1 rfl (ro_cells (hC16.ro 1 rfl))) ?_
    refine WL_nil ?_
    refine WA_one 9 (by kernel_rfl) rfl ?_
    refine WL_store_box_aggK (cs' := [(.int .i64 x6), v7]) (new := [(.int .i64 x6), v7]) hC16 0 rfl rfl (by intro v hv; simp only [List.mem_cons, List.not_mem_nil, or_false] at hv; rcases hv with rfl | rfl; exact rfl; exact (ro_one (hC16.ro 1 rfl))) rfl Tryd.sizeOf29 rfl rfl (fun w11 hC17 hKp2 => ?_)
    try dsimp only [List.set] at hC17
    refine WL_nil ?_
    refine WA_done (by kernel_rfl) ?_
    have hq5 := Option.some.inj hr3
    subst hq5
    refine nrm_sub (l' := [(0, (sv a1)), (2, (ptr b1 0)), (5, v1), (7, (ptr b6 0))]) ⟨rfl, rfl, rfl, rfl, trivial⟩ ?_
    exact ⟨b6, x6, v7, x8, rfl, rfl, hC17⟩
   ·obtain ⟨x8, hx4, hr3⟩ := bind_some hr3
    refine WL_append_flat (α := Int) hC14 0 rfl (h3 (hC14.ro 1 rfl)) (Keep.refl _ _) Tryd.underlying22 ty3 rfl hx4 rfl rfl rfl (fun v6 w9 hC15 => ?_)
    try dsimp only [List.set] at hC15
    refine WL_nil ?_
    refine WA.sub (l' := [(0, (sv a1)), (2, (ptr b1 0)), (5, v1), (28, (.bool x2)), (30, v1), (31, (ptr b4 (Int.toNat 0 * Rep.sz Int))), (33, (.slice (some ⟨b5, 0, none⟩) 0 0)), (34, v1), (35, v5), (36, v6)]) ?_ ⟨rfl, rfl, rfl, rfl, rfl, rfl, rfl, rfl, rfl, rfl, trivial⟩
    refine WA_postsE [⟨2, [], fun vs => PW.val (.int .i64 x6), []⟩, ⟨7, [], fun vs => PW.val (.agg #[(.int .i64 x6), v6]), []⟩, ⟨8, [], fun vs => PW.box [(.int .i64 0), (.slice none 0 0)], []⟩] [[], [2], []] 1 rfl (by kernel_rfl) (by kernel_rfl) rfl ?_ ?_
    ·refine StepsE_cons rfl ?_ ?_
     ·intro w11 hB8
      refine DepsE_nil ?_
      refine ⟨_, rfl, ?_⟩
      refine WL_load ty3 (hC15.at 1 rfl hE1 hx2) (Keep.of hB8) rfl rfl (fun v7 h4 => ?_)
      obtain rfl := ro_int h4
      refine WL_nil ?_
      exact FinE_val (Below.refl _ _) rfl rfl ⟨rfl, rfl⟩
     refine StepsE_cons rfl ?_ ?_
     ·intro w11 hB8
      refine DepsE_cons rfl rfl rfl ?_
      rintro _ _ ⟨rfl, rfl⟩ _
      refine DepsE_nil ?_
      refine ⟨_, rfl, ?_⟩
      refine WL_build (vs := [(0, (.int .i64 x6)), (1, v6)]) rfl rfl rfl (built29_0_1 rfl (ro_cells (hC15.ro 0 rfl))) ?_
      refine WL_nil ?_
      exact FinE_val (Below.refl _ _) rfl rfl ⟨rfl, rfl⟩
     refine StepsE_cons rfl ?_ ?_
     ·intro w11 hB8
      refine DepsE_nil ?_
      refine ⟨_, rfl, ?_⟩
      refine WL_alloc (Ctx.start _) zero29 rfl rfl (fun b6 w10 hC16 hB7 => ?_)
      refine WL_nil ?_
      exact FinE_ctx hC16 rfl rfl (fun F h => ⟨b6, rfl, h⟩)
     exact StepsE_nil
    intro w12 hB9
    refine AllE_cons rfl rfl rfl ?_
    rintro _ _ ⟨rfl, rfl⟩
    refine AllE_cons rfl rfl rfl ?_
    rintro _ _ ⟨rfl, rfl⟩
    refine AllE_cons rfl rfl rfl ?_
    rintro _ F3 ⟨b6, rfl, hv3⟩
    refine AllE_nil ?_
    intro hn2 hb2
    have hC17 := hC15.pushL hB9 (Bs := [Item.box b6 [(.int .i64 0), (.slice none 0 0)]]) (Fs := [F3]) ⟨F3, _, rfl, hv3, rfl⟩ (by simpa using hn2) (fun b h => (hb2 b (by simpa using h)).1)
    refine WA_one 9 (by kernel_rfl) rfl ?_
    refine WL_store_box_aggK (cs' := [(.int .i64 x6), v6]) (new := [(.int .i64 x6), v6]) hC17 0 rfl rfl (by intro v hv; simp only [List.mem_cons, List.not_mem_nil, or_false] at hv; rcases hv with rfl | rfl; exact rfl; exact (ro_one (hC17.ro 1 rfl))) rfl Tryd.sizeOf29 rfl rfl (fun w13 hC18 hKp2 => ?_)
    try dsimp only [List.set] at hC18
    refine WL_nil ?_
    refine WA_done (by kernel_rfl) ?_
    have hq5 := Option.some.inj hr3
    subst hq5
    refine nrm_sub (l' := [(0, (sv a1)), (2, (ptr b1 0)), (5, v1), (7, (ptr b6 0))]) ⟨rfl, rfl, rfl, rfl, trivial⟩ ?_
    exact ⟨b6, x6, v6, x8, rfl, rfl, hC18⟩
   refine WL_allocK hC14 zero29 rfl rfl (fun b6 w9 hC15 hB7 hN2 => ?_)
   refine WL_nil ?_
   refine WA_all2 (i := 2) (j := 6) (by kernel_rfl) rfl rfl ?_ ?_
   ·refine WL_load ty3 (hC10.at 0 rfl hE1 hx2) ((Keep.of hB6).then hB7) rfl rfl (fun v6 h4 => ?_)
    obtain rfl := ro_int h4
    refine WL_nil ?_
    obtain ⟨x8, hx4, hr3⟩ := bind_some hr3
    refine WA_one 6 (by kernel_rfl) rfl ?_
    refine WL_append_flat (α := Int) hC15 1 rfl (h3 (hC15.ro 2 rfl)) (Keep.refl _ _) Tryd.underlying22 ty3 rfl hx4 rfl rfl rfl (fun v7 w10 hC16 => ?_)
    try dsimp only [List.set] at hC16
    refine WL_nil ?_
    refine WA_tk 7 (by kernel_rfl) rfl rfl (fl_build (vs := [(0, (.int .i64 x6)), (1, v7)]) rfl rfl (built29_0_1 rfl (ro_cells (hC16.ro 1 rfl)))) ?_
    refine WL_build (vs := [(0, (.int .i64 x6)), (1, v7)]) rfl rfl rfl (built29_0_1 rfl (ro_cells (hC16.ro 1 rfl))) ?_
    refine WL_nil ?_
    refine WA_one 9 (by kernel_rfl) rfl ?_
    refine WL_store_box_aggK (cs' := [(.int .i64 x6), v7]) (new := [(.int .i64 x6), v7]) hC16 0 rfl rfl (by intro v hv; simp only [List.mem_cons, List.not_mem_nil, or_false] at hv; rcases hv with rfl | rfl; exact rfl; exact (ro_one (hC16.ro 1 rfl))) rfl Tryd.sizeOf29 rfl rfl (fun w11 hC17 hKp2 => ?_)
    try dsimp only [List.set] at hC17
    refine WL_nil ?_
    refine WA_done (by kernel_rfl) ?_
    have hq5 := Option.some.inj hr3
    subst hq5
    refine nrm_sub (l' := [(0, (sv a1)), (2, (ptr b1 0)), (5, v1), (7, (ptr b6 0))]) ⟨rfl, rfl, rfl, rfl, trivial⟩ ?_
    exact ⟨b6, x6, v7, x8, rfl, rfl, hC17⟩
   obtain ⟨x8, hx4, hr3⟩ := bind_some hr3
   refine WL_append_flat (α := Int) hC15 1 rfl (h3 (hC15.ro 2 rfl)) (Keep.refl _ _) Tryd.underlying22 ty3 rfl hx4 rfl rfl rfl (fun v6 w10 hC16 => ?_)
   try dsimp only [List.set] at hC16
   refine WL_nil ?_
   refine WA_one 2 (by kernel_rfl) rfl ?_
   refine WL_load ty3 (hC16.at 2 rfl hE1 hx2) (Keep.refl _ _) rfl rfl (fun v7 h4 => ?_)
   obtain rfl := ro_int h4
   refine WL_nil ?_
   refine WA_tk 7 (by kernel_rfl) rfl rfl (fl_build (vs := [(0, (.int .i64 x6)), (1, v6)]) rfl rfl (built29_0_1 rfl (ro_cells (hC16.ro 1 rfl)))) ?_
   refine WL_build (vs := [(0, (.int .i64 x6)), (1, v6)]) rfl rfl rfl (built29_0_1 rfl (ro_cells (hC16.ro 1 rfl))) ?_
   refine WL_nil ?_
   refine WA_one 9 (by kernel_rfl) rfl ?_
   refine WL_store_box_aggK (cs' := [(.int .i64 x6), v6]) (new := [(.int .i64 x6), v6]) hC16 0 rfl rfl (by intro v hv; simp only [List.mem_cons, List.not_mem_nil, or_false] at hv; rcases hv with rfl | rfl; exact rfl; exact (ro_one (hC16.ro 1 rfl))) rfl Tryd.sizeOf29 rfl rfl (fun w11 hC17 hKp2 => ?_)
   try dsimp only [List.set] at hC17
   refine WL_nil ?_
   refine WA_done (by kernel_rfl) ?_
   have hq5 := Option.some.inj hr3
   subst hq5
   refine nrm_sub (l' := [(0, (sv a1)), (2, (ptr b1 0)), (5, v1), (7, (ptr b6 0))]) ⟨rfl, rfl, rfl, rfl, trivial⟩ ?_
   exact ⟨b6, x6, v6, x8, rfl, rfl, hC17⟩
  refine WL_allocK hC10 zero29 rfl rfl (fun b5 w7 hC11 hB6 hN2 => ?_)
  refine WL_nil ?_
  refine WA_all2 (i := 2) (j := 3) (by kernel_rfl) rfl rfl ?_ ?_
  ·refine WL_load ty3 (hC10.at 0 rfl hE1 hx2) (Keep.of hB6) rfl rfl (fun v6 h4 => ?_)
   obtain rfl := ro_int h4
   refine WL_nil ?_
   refine WA_one 3 (by kernel_rfl) rfl ?_
   refine WL_buildSlice (vs := []) hC11 Tryd.underlying22 ty3 rfl rfl rfl rfl (by simp) rfl rfl (fun b6 w9 hC12 hB7 => ?_)
   have hC13 := hC12.row0 (α := Int)
   have hC14 := hC13.front 1 rfl
   dsimp only [List.eraseIdx, List.cons_append, List.nil_append, List.append_nil] at hC14
   have hC15 : Ctx [] w0 w9 (Item.own (.slice (some ⟨b6, 0, none⟩) 0 0) (([] : List Int) : List Int) :: [Item.box b5 [(.int .i64 0), (.slice none 0 0)], Item.own v1 (x1.1 : (List Int)), Item.box b1 [(.int .i64 0), (.slice none 0 0)]]) := hC14.rowOwn (by simp [maxLen])
   refine WL_nil ?_
   obtain ⟨x8, hx4, hr3⟩ := bind_some hr3
   refine WA_one 6 (by kernel_rfl) rfl ?_
   refine WL_append_flat (α := Int) hC15 0 rfl (h3 (hC15.ro 2 rfl)) (Keep.refl _ _) Tryd.underlying22 ty3 rfl hx4 rfl rfl rfl (fun v7 w10 hC16 => ?_)
   try dsimp only [List.set] at hC16
   refine WL_nil ?_
   refine WA_tk 7 (by kernel_rfl) rfl rfl (fl_build (vs := [(0, (.int .i64 x6)), (1, v7)]) rfl rfl (built29_0_1 rfl (ro_cells (hC16.ro 0 rfl)))) ?_
   refine WL_build (vs := [(0, (.int .i64 x6)), (1, v7)]) rfl rfl rfl (built29_0_1 rfl (ro_cells (hC16.ro 0 rfl))) ?_
   refine WL_nil ?_
   refine WA_one 9 (by kernel_rfl) rfl ?_
   refine WL_store_box_aggK (cs' := [(.int .i64 x6), v7]) (new := [(.int .i64 x6), v7]) hC16 1 rfl rfl (by intro v hv; simp only [List.mem_cons, List.not_mem_nil, or_false] at hv; rcases hv with rfl | rfl; exact rfl; exact (ro_one (hC16.ro 0 rfl))) rfl Tryd.sizeOf29 rfl rfl (fun w11 hC17 hKp2 => ?_)
   try dsimp only [List.set] at hC17
   refine WL_nil ?_
   refine WA_done (by kernel_rfl) ?_
   have hq5 := Option.some.inj hr3
   subst hq5
   have hC18 := hC17.f3
   have hC19 := hC18.f3
   have hC20 := hC19.f2
   have hC21 := hC20.f3
   refine nrm_sub (l' := [(0, (sv a1)), (2, (ptr b1 0)), (5, v1), (7, (ptr b5 0))]) ⟨rfl, rfl, rfl, rfl, trivial⟩ ?_
   exact ⟨b5, x6, v7, x8, rfl, rfl, hC21⟩
  refine WL_buildSlice (vs := []) hC11 Tryd.underlying22 ty3 rfl rfl rfl rfl (by simp) rfl rfl (fun b6 w9 hC12 hB7 => ?_)
  have hC13 := hC12.row0 (α := Int)
  have hC14 := hC13.front 1 rfl
  dsimp only [List.eraseIdx, List.cons_append, List.nil_append, List.append_nil] at hC14
  have hC15 : Ctx [] w0 w9 (Item.own (.slice (some ⟨b6, 0, none⟩) 0 0) (([] : List Int) : List Int) :: [Item.box b5 [(.int .i64 0), (.slice none 0 0)], Item.own v1 (x1.1 : (List Int)), Item.box b1 [(.int .i64 0), (.slice none 0 0)]]) := hC14.rowOwn (by simp [maxLen])
  refine WL_nil ?_
  refine WA_all2 (i := 2) (j := 6) (by kernel_rfl) rfl rfl ?_ ?_
  ·refine WL_load ty3 (hC10.at 0 rfl hE1 hx2) ((Keep.of hB6).then hB7) rfl rfl (fun v6 h4 => ?_)
   obtain rfl := ro_int h4
   refine WL_nil ?_
   obtain ⟨x8, hx4, hr3⟩ := bind_some hr3
   refine WA_one 6 (by kernel_rfl) rfl ?_
   refine WL_append_flat (α := Int) hC15 0 rfl (h3 (hC15.ro 2 rfl)) (Keep.refl _ _) Tryd.underlying22 ty3 rfl hx4 rfl rfl rfl (fun v7 w10 hC16 => ?_)
   try dsimp only [List.set] at hC16
   refine WL_nil ?_
   refine WA_tk 7 (by kernel_rfl) rfl rfl (fl_build (vs := [(0, (.int .i64 x6)), (1, v7)]) rfl rfl (built29_0_1 rfl (ro_cells (hC16.ro 0 rfl)))) ?_
   refine WL_build (vs := [(0, (.int .i64 x6)), (1, v7)]) rfl rfl rfl (built29_0_1 rfl (ro_cells (hC16.ro 0 rfl))) ?_
   refine WL_nil ?_
   refine WA_one 9 (by kernel_rfl) rfl ?_
   refine WL_store_box_aggK (cs' := [(.int .i64 x6), v7]) (new := [(.int .i64 x6), v7]) hC16 1 rfl rfl (by intro v hv; simp only [List.mem_cons, List.not_mem_nil, or_false] at hv; rcases hv with rfl | rfl; exact rfl; exact (ro_one (hC16.ro 0 rfl))) rfl Tryd.sizeOf29 rfl rfl (fun w11 hC17 hKp2 => ?_)
   try dsimp only [List.set] at hC17
   refine WL_nil ?_
   refine WA_done (by kernel_rfl) ?_
   have hq5 := Option.some.inj hr3
   subst hq5
   have hC18 := hC17.f3
   have hC19 := hC18.f3
   have hC20 := hC19.f2
   have hC21 := hC20.f3
   refine nrm_sub (l' := [(0, (sv a1)), (2, (ptr b1 0)), (5, v1), (7, (ptr b5 0))]) ⟨rfl, rfl, rfl, rfl, trivial⟩ ?_
   exact ⟨b5, x6, v7, x8, rfl, rfl, hC21⟩
  obtain ⟨x8, hx4, hr3⟩ := bind_some hr3
  refine WL_append_flat (α := Int) hC15 0 rfl (h3 (hC15.ro 2 rfl)) (Keep.refl _ _) Tryd.underlying22 ty3 rfl hx4 rfl rfl rfl (fun v6 w10 hC16 => ?_)
  try dsimp only [List.set] at hC16
  refine WL_nil ?_
  refine WA_one 2 (by kernel_rfl) rfl ?_
  refine WL_load ty3 (hC16.at 2 rfl hE1 hx2) (Keep.refl _ _) rfl rfl (fun v7 h4 => ?_)
  obtain rfl := ro_int h4
  refine WL_nil ?_
  refine WA_tk 7 (by kernel_rfl) rfl rfl (fl_build (vs := [(0, (.int .i64 x6)), (1, v6)]) rfl rfl (built29_0_1 rfl (ro_cells (hC16.ro 0 rfl)))) ?_
  refine WL_build (vs := [(0, (.int .i64 x6)), (1, v6)]) rfl rfl rfl (built29_0_1 rfl (ro_cells (hC16.ro 0 rfl))) ?_
  refine WL_nil ?_
  refine WA_one 9 (by kernel_rfl) rfl ?_
  refine WL_store_box_aggK (cs' := [(.int .i64 x6), v6]) (new := [(.int .i64 x6), v6]) hC16 1 rfl rfl (by intro v hv; simp only [List.mem_cons, List.not_mem_nil, or_false] at hv; rcases hv with rfl | rfl; exact rfl; exact (ro_one (hC16.ro 0 rfl))) rfl Tryd.sizeOf29 rfl rfl (fun w11 hC17 hKp2 => ?_)
  try dsimp only [List.set] at hC17
  refine WL_nil ?_
  refine WA_done (by kernel_rfl) ?_
  have hq5 := Option.some.inj hr3
  subst hq5
  have hC18 := hC17.f3
  have hC19 := hC18.f3
  have hC20 := hC19.f2
  have hC21 := hC20.f3
  refine nrm_sub (l' := [(0, (sv a1)), (2, (ptr b1 0)), (5, v1), (7, (ptr b5 0))]) ⟨rfl, rfl, rfl, rfl, trivial⟩ ?_
  exact ⟨b5, x6, v6, x8, rfl, rfl, hC21⟩
 rintro _ w5 ⟨b3, x4, v4, x5, rfl, rfl, hC9⟩
 try dsimp only at hF
 refine W_seq (W_seq ?_)
 refine W_drawn 7 rfl hmix (fun w14 hB10 => ?_)
 have hC22 := hC9.grow hB10
 refine WA_tk 1 (by kernel_rfl) rfl rfl (fl_move rfl) ?_
 refine WL_move rfl rfl ?_
 refine WL_nil ?_
 obtain ⟨x9, hx5, hF⟩ := bind_some hF
 refine WA_tk 2 (by kernel_rfl) rfl rfl (fl_index_own hC22 2 rfl Tryd.underlying22 ty3 hx5 rfl rfl) ?_
 refine WL_index_own hC22 2 rfl Tryd.underlying22 ty3 hx5 rfl rfl rfl (fun b7 hE2 => ?_)
 refine WL_nil ?_
 refine WA_tk 5 (by kernel_rfl) rfl rfl (fl_move rfl) ?_
 refine WL_move rfl rfl ?_
 refine WL_nil ?_
 refine WA.sub (l' := [(0, (sv a1)), (2, (ptr b1 0)), (5, v1), (7, (ptr b3 0)), (39, v1), (40, (ptr b7 (Int.toNat 1 * Rep.sz Int))), (43, (sv a1))]) ?_ ⟨rfl, rfl, rfl, rfl, rfl, rfl, rfl, trivial⟩
 refine WA_postsE [⟨0, [], fun vs => PW.val (.agg #[(.int .i64 x4), v4]), []⟩, ⟨3, [], fun vs => PW.val (.int .i64 x9), []⟩] [[], []] 2 rfl (by kernel_rfl) (by kernel_rfl) rfl ?_ ?_
 ·refine StepsE_cons rfl ?_ ?_
  ·intro w15 hB11
   refine DepsE_nil ?_
   refine ⟨_, rfl, ?_⟩
   refine WL_load_box_agg [(.int .i64 x4), v4] (hC22.grow hB11) 0 rfl rfl rfl Tryd.isAgg29 Tryd.sizeOf29 rfl rfl ?_
   refine WL_nil ?_
   exact FinE_val (Below.refl _ _) rfl rfl ⟨rfl, rfl⟩
  refine StepsE_cons rfl ?_ ?_
  ·intro w15 hB11
   refine DepsE_nil ?_
   refine ⟨_, rfl, ?_⟩
   refine WL_load ty3 (hC22.at 2 rfl hE2 hx5) (Keep.of hB11) rfl rfl (fun v8 h5 => ?_)
   obtain rfl := ro_int h5
   refine WL_nil ?_
   exact FinE_val (Below.refl _ _) rfl rfl ⟨rfl, rfl⟩
  exact StepsE_nil
 intro w16 hB12
 refine AllE_cons rfl rfl rfl ?_
 rintro _ _ ⟨rfl, rfl⟩
 refine AllE_cons rfl rfl rfl ?_
 rintro _ _ ⟨rfl, rfl⟩
 refine AllE_nil ?_
 intro hn3 hb3
 have hC23 := hC22.grow hB12
 obtain ⟨x10, hr4, hF⟩ := bind_some hF
 refine WA_one 4 (by kernel_rfl) rfl ?_
 refine WL_call Tryd.call15 rfl rfl (c_S_EncodeRequest (x4, x5) v4 ((hC23.ro 1 rfl).now (Keep.refl _ _)) x9 x10 hr4) ?_
 intro _ w17 hv4
 obtain ⟨rfl, hB13⟩ := res_str hv4
 have hC24 := hC23.grow hB13
 refine WL_nil ?_
 refine WA_tk 6 (by kernel_rfl) rfl rfl (fl_str_neq rfl rfl) ?_
 refine WL_str_neq rfl rfl rfl ?_
 refine WL_nil ?_
 refine WA_done (by kernel_rfl) ?_
 refine nrm_normal ?_
 refine W_cond rfl (fun hc4 => ?_) (fun hc4 => ?_)
 ·replace hF := ite_t hF hc4
  refine W_seq_reg ?_
  refine WL_build (vs := []) rfl rfl rfl built29 ?_
  refine WL_store_box_aggK (cs' := [(.int .i64 0), (.slice none 0 0)]) (new := [(.int .i64 0), (.slice none 0 0)]) hC24 3 rfl rfl (by intro v hv; simp only [List.mem_cons, List.not_mem_nil, or_false] at hv; rcases hv with rfl | rfl; exact rfl; exact rfl) rfl Tryd.sizeOf29 rfl rfl (fun w18 hC25 hKp3 => ?_)
  try dsimp only [List.set] at hC25
  refine WL_assign rfl rfl ?_
  refine WL_assign rfl rfl ?_
  refine WL_nil (W_ret (nrm_ret ?_))
  have hq6 := Option.some.inj hF
  subst hq6
  refine fn_retG3 rfl (rv_cell_agg (cs' := [(.int .i64 0), (.slice none 0 0)]) hC25 (i := 3) rfl rfl rfl Tryd.isAgg29 Tryd.sizeOf29 rfl) (rv_tmp rfl) (rv_tmp rfl) ?_
  have hC26 := hC25.triv (bool_val (false))
  have hC27 := hC26.triv (int_val (0))
  have hC29 := hC27.triv (nil_val (α := Int))
  have hC28 := own_st29 0 (.slice none 0 0) ([]) hC29
  exact ⟨_, rfl, res3_of hC28⟩
 replace hF := ite_f hF hc4
 refine W_skip (nrm_normal ?_)
 obtain ⟨r3, hr5, hF⟩ := bind_some hF
 refine W_cut (fun l w => ∃ x11 : Int, ∃ v9 : Value, ∃ x12 : (List Int), ∃ x13 : Int, ∃ x14 : Bool, (x11, x12, x13, x14) = r3 ∧ l = [(2, (ptr b1 0)), (3, (.int .i64 x13)), (4, (.bool x14))] ∧ Ctx [] w0 w [Item.own v9 (x12 : (List Int)), Item.box b1 [(.int .i64 x11), v9]]) ?_ ?_
 ·refine W_drawn 7 rfl hmix (fun w20 hB15 => ?_)
  have hC31 := hC24.grow hB15
  refine WA_tk 1 (by kernel_rfl) rfl rfl (fl_move rfl) ?_
  refine WL_move rfl rfl ?_
  refine WL_nil ?_
  obtain ⟨x15, hx6, hr5⟩ := bind_some hr5
  refine WA_tk 2 (by kernel_rfl) rfl rfl (fl_index_own hC31 2 rfl Tryd.underlying22 ty3 hx6 rfl rfl) ?_
  refine WL_index_own hC31 2 rfl Tryd.underlying22 ty3 hx6 rfl rfl rfl (fun b8 hE3 => ?_)
  refine WL_nil ?_
  refine WA.sub (l' := [(0, (sv a1)), (2, (ptr b1 0)), (5, v1), (7, (ptr b3 0)), (38, (.agg #[(.int .i64 x4), v4])), (39, v1), (40, (ptr b7 (Int.toNat 1 * Rep.sz Int))), (41, (.int .i64 x9)), (42, (sv x10)), (43, (sv a1)), (44, (.bool (!decide (x10 = a1)))), (47, v1), (48, (ptr b8 (Int.toNat 1 * Rep.sz Int)))]) ?_ ⟨rfl, rfl, rfl, rfl, rfl, rfl, rfl, rfl, rfl, rfl, rfl, rfl, rfl, trivial⟩
  refine WA_postsO [⟨0, [], fun vs => PW.val (.agg #[(.int .i64 x4), v4]), []⟩, ⟨3, [], fun vs => PW.val (.int .i64 x15), []⟩] [[], []] [3] 3 rfl (by kernel_rfl) (by kernel_rfl) ?_ ⟨?_, ?_, trivial⟩
  ·refine StepsE_cons rfl ?_ ?_
   ·intro w21 hB16
    refine DepsE_nil ?_
    refine ⟨_, rfl, ?_⟩
    refine WL_load_box_agg [(.int .i64 x4), v4] (hC31.grow hB16) 0 rfl rfl rfl Tryd.isAgg29 Tryd.sizeOf29 rfl rfl ?_
    refine WL_nil ?_
    exact FinE_val (Below.refl _ _) rfl rfl ⟨rfl, rfl⟩
   refine StepsE_cons rfl ?_ ?_
   ·intro w21 hB16
    refine DepsE_nil ?_
    refine ⟨_, rfl, ?_⟩
    refine WL_load ty3 (hC31.at 2 rfl hE3 hx6) (Keep.of hB16) rfl rfl (fun v10 h6 => ?_)
    obtain rfl := ro_int h6
    refine WL_nil ?_
    exact FinE_val (Below.refl _ _) rfl rfl ⟨rfl, rfl⟩
   exact StepsE_nil
  ·intro g' hg'
   obtain rfl : g' = 3 := hg'
   intro w22 hB17
   refine AllE_cons rfl rfl rfl ?_
   rintro _ _ ⟨rfl, rfl⟩
   refine AllE_cons rfl rfl rfl ?_
   rintro _ _ ⟨rfl, rfl⟩
   refine AllE_nil ?_
   intro hn4 hb4
   have hC32 := hC31.grow hB17
   refine WA_one 4 (by kernel_rfl) rfl ?_
   refine WL_store_box_aggK (cs' := [(.int .i64 x4), v4]) (new := [(.int .i64 x4), v4]) hC32 3 rfl rfl (by intro v hv; simp only [List.mem_cons, List.not_mem_nil, or_false] at hv; rcases hv with rfl | rfl; exact rfl; exact (ro_one (hC32.ro 1 rfl))) rfl Tryd.sizeOf29 rfl rfl (fun w23 hC33 hKp4 => ?_)
   try dsimp only [List.set] at hC33
   refine WL_nil ?_
   refine WA_tk 5 (by kernel_rfl) rfl rfl (fl_assign rfl) ?_
   refine WL_assign rfl rfl ?_
   refine WL_nil ?_
   refine WA_tk 6 (by kernel_rfl) rfl rfl (fl_assign rfl) ?_
   refine WL_assign rfl rfl ?_
   refine WL_nil ?_
   refine WA_done (by kernel_rfl) ?_
   have hq7 := Option.some.inj hr5
   subst hq7
   have hC34 := hC33.f3
   have hC35 := hC34.f2
   have hC36 := hC35.h2
   refine nrm_sub (l' := [(2, (ptr b1 0)), (3, (.int .i64 x15)), (4, (.bool true))]) ⟨rfl, rfl, rfl, trivial⟩ ?_
   exact ⟨x4, v4, x5, x15, true, rfl, rfl, hC36⟩
  intro g' hg'
  obtain rfl : g' = 4 := hg'
  intro w22 hB17
  refine AllE_cons rfl rfl rfl ?_
  rintro _ _ ⟨rfl, rfl⟩
  refine AllE_nil ?_
  intro hn4 hb4
  have hC32 := hC31.grow hB17
  refine WA_all2 (i := 3) (j := 4) (by kernel_rfl) rfl rfl ?_ ?_
  ·refine WL_load ty3 (hC31.at 2 rfl hE3 hx6) (Keep.of hB17) rfl rfl (fun v11 h7 => ?_)
   obtain rfl := ro_int h7
   refine WL_nil ?_
   refine WA_one 4 (by kernel_rfl) rfl ?_
   refine WL_store_box_aggK (cs' := [(.int .i64 x4), v4]) (new := [(.int .i64 x4), v4]) hC32 3 rfl rfl (by intro v hv; simp only [List.mem_cons, List.not_mem_nil, or_false] at hv; rcases hv with rfl | rfl; exact rfl; exact (ro_one (hC32.ro 1 rfl))) rfl Tryd.sizeOf29 rfl rfl (fun w23 hC33 hKp4 => ?_)
   try dsimp only [List.set] at hC33
   refine WL_nil ?_
   refine WA_tk 5 (by kernel_rfl) rfl rfl (fl_assign rfl) ?_
   refine WL_assign rfl rfl ?_
   refine WL_nil ?_
   refine WA_tk 6 (by kernel_rfl) rfl rfl (fl_assign rfl) ?_
   refine WL_assign rfl rfl ?_
   refine WL_nil ?_
   refine WA_done (by kernel_rfl) ?_
   have hq7 := Option.some.inj hr5
   subst hq7
   have hC34 := hC33.f3
   have hC35 := hC34.f2
   have hC36 := hC35.h2
   refine nrm_sub (l' := [(2, (ptr b1 0)), (3, (.int .i64 x15)), (4, (.bool true))]) ⟨rfl, rfl, rfl, trivial⟩ ?_
   exact ⟨x4, v4, x5, x15, true, rfl, rfl, hC36⟩
  refine WL_store_box_aggK (cs' := [(.int .i64 x4), v4]) (new := [(.int .i64 x4), v4]) hC32 3 rfl rfl (by intro v hv; simp only [List.mem_cons, List.not_mem_nil, or_false] at hv; rcases hv with rfl | rfl; exact rfl; exact (ro_one (hC32.ro 1 rfl))) rfl Tryd.sizeOf29 rfl rfl (fun w23 hC33 hKp4 => ?_)
  try dsimp only [List.set] at hC33
  refine WL_nil ?_
  refine WA_one 3 (by kernel_rfl) rfl ?_
  refine WL_load ty3 (hC33.at 2 rfl hE3 hx6) (Keep.refl _ _) rfl rfl (fun v11 h7 => ?_)
  obtain rfl := ro_int h7
  refine WL_nil ?_
  refine WA_tk 5 (by kernel_rfl) rfl rfl (fl_assign rfl) ?_
  refine WL_assign rfl rfl ?_
  refine WL_nil ?_
  refine WA_tk 6 (by kernel_rfl) rfl rfl (fl_assign rfl) ?_
  refine WL_assign rfl rfl ?_
  refine WL_nil ?_
  refine WA_done (by kernel_rfl) ?_
  have hq7 := Option.some.inj hr5
  subst hq7
  have hC34 := hC33.f3
  have hC35 := hC34.f2
  have hC36 := hC35.h2
  refine nrm_sub (l' := [(2, (ptr b1 0)), (3, (.int .i64 x15)), (4, (.bool true))]) ⟨rfl, rfl, rfl, trivial⟩ ?_
  exact ⟨x4, v4, x5, x15, true, rfl, rfl, hC36⟩
 rintro _ w19 ⟨x11, v9, x12, x13, x14, rfl, rfl, hC30⟩
 try dsimp only at hF
 refine W_ret ?_
 have hq8 := Option.some.inj hF
 subst hq8
 refine fn_retG3 rfl (rv_cell_agg (cs' := [(.int .i64 x11), v9]) hC30 (i := 1) rfl rfl rfl Tryd.isAgg29 Tryd.sizeOf29 rfl) (rv_tmp rfl) (rv_tmp rfl) ?_
 have hC37 := hC30.triv (bool_val (x14))
 have hC38 := hC37.triv (int_val (x13))
 have hC40 := hC38.f2
 have hC39 := own_st29 x11 v9 x12 hC40
 exact ⟨_, rfl, res3_of hC39⟩

theorem c_M_DecodeVarint {w0 : World} (a1 : Str) (rr : (Int × Int)) (hF : M.DecodeVarint a1 = some rr) :
 Calls Tryd.prog 80 [(sv a1)].toArray w0 fun e w' => ∃ v, e = .returned v ∧ Res2 w0 rr.1 rr.2 v w' := by
 refine calls_of_W Tryd.func80 rfl rfl ?_
 have hC0 := Ctx.start w0
 unfold M.DecodeVarint at hF
 refine W_seq_reg ?_
 refine WL_assign rfl rfl ?_
 refine WL_assign rfl rfl ?_
 refine WL_nil (W_seq_reg ?_)
 refine WL_assign rfl rfl ?_
 refine WL_nil (W_seq (W_seq_reg ?_))
 refine WL_move rfl rfl ?_
 refine WL_len_str Tryd.underlying9 rfl rfl ?_
 refine WL_min rfl rfl rfl ?_
 refine WL_move rfl rfl ?_
 refine WL_nil ?_
 obtain ⟨r1, hr1, hF⟩ := bind_some hF
 refine W_norm (fun l w => .inl () = r1 ∧ l = [] ∧ Below w0.heap.size w0 w ∧ Ctx [] w0 w []) ?_ ?_
 ·refine W_block ?_
  refine W.sub (l' := [(0, (sv a1)), (4, (.int .i64 0)), (8, (.int .i64 (if (List.length a1 : Int) < 7 then (List.length a1 : Int) else 7))), (9, (.int .i64 0))]) ?_ ⟨rfl, rfl, rfl, rfl, trivial⟩
  refine W_loop (fun k l w => ∃ x1 : Int, ∃ x2 : Int, l = [(0, (sv a1)), (4, (.int .i64 x1)), (8, (.int .i64 (if (List.length a1 : Int) < 7 then (List.length a1 : Int) else 7))), (9, (.int .i64 x2))] ∧ Below w0.heap.size w0 w ∧ Ctx [] w0 w [] ∧ M.DecodeVarint_l1 a1 k x1 x2 = some r1) FUEL ⟨0, 0, rfl, (Below.refl _ _), hC0, hr1⟩ ?_
  clear hr1
  rintro k1 _ w1 ⟨x1, x2, rfl, hB1, hC1, hL1⟩
  cases k1 with
  | zero => rw [M.DecodeVarint_l1] at hL1; cases hL1
  | succ k1 =>
   rw [M.DecodeVarint_l1] at hL1
   refine W_seq_reg ?_
   refine WL_lss rfl rfl rfl ?_
   refine WL_nil (W_seq ?_)
   refine W_cond rfl (fun hc1 => ?_) (fun hc1 => ?_)
   ·replace hL1 := ite_t hL1 hc1
    refine W_skip (nrm_normal (W_seq (W_block (W_seq_reg ?_))))
    refine WL_move rfl rfl ?_
    refine WL_assign rfl rfl ?_
    refine WL_nil (W_seq_reg ?_)
    refine WL_move rfl rfl ?_
    refine WL_move rfl rfl ?_
    refine WL_move rfl rfl ?_
    obtain ⟨x3, hx1, hL1⟩ := bind_some hL1
    refine WL_index_str Tryd.underlying9 hx1 rfl rfl rfl ?_
    refine WL_band8 rfl rfl rfl ?_
    refine WL_conv_i64 Tryd.underlying5 Tryd.underlying3 rfl rfl ?_
    refine WL_move rfl rfl ?_
    refine WL_mul rfl rfl rfl ?_
    obtain ⟨_, hx2, hL1⟩ := bind_some hL1
    refine WL_shl (nn_some hx2) rfl rfl rfl ?_
    refine WL_bor rfl rfl rfl ?_
    refine WL_assign rfl rfl ?_
    refine WL_nil (W_seq (W_seq_reg ?_))
    refine WL_move rfl rfl ?_
    refine WL_move rfl rfl ?_
    obtain ⟨x4, hx3, hL1⟩ := bind_some hL1
    refine WL_index_str Tryd.underlying9 hx3 rfl rfl rfl ?_
    refine WL_geq rfl rfl rfl ?_
    refine WL_nil ?_
    refine W_cond rfl (fun hc2 => ?_) (fun hc2 => ?_)
    ·replace hL1 := ite_t hL1 hc2
     refine W_exit (nrm_exit (blk_exit (nrm_normal (W_reg ?_))))
     refine WL_add rfl rfl rfl ?_
     refine WL_move rfl rfl ?_
     refine WL_nil ?_
     refine nrm_sub (l' := [(0, (sv a1)), (4, (.int .i64 (bor x1 (shl (w64 (band8 (UInt8.toNat x3 : Int) 127)) (w64 (7 * x2)))))), (8, (.int .i64 (if (List.length a1 : Int) < 7 then (List.length a1 : Int) else 7))), (9, (.int .i64 (w64 (x2 + 1))))]) ⟨rfl, rfl, rfl, rfl, trivial⟩ ?_
     exact ⟨k1, Nat.lt_succ_self _, bor x1 (shl (w64 (band8 (UInt8.toNat x3 : Int) 127)) (w64 (7 * x2))), w64 (x2 + 1), rfl, (Keep.of hB1).below, hC1, hL1⟩
    replace hL1 := ite_f hL1 hc2
    refine W_skip (nrm_normal (W_seq ?_))
    obtain ⟨r2, hr2, hL1⟩ := bind_some hL1
    refine W_cut (fun l w => ∃ x5 : Bool, x5 = r2 ∧ l = [(4, (.int .i64 (bor x1 (shl (w64 (band8 (UInt8.toNat x3 : Int) 127)) (w64 (7 * x2)))))), (5, (.int .i64 x2)), (33, (.bool x5))] ∧ Below w1.heap.size w1 w ∧ Ctx [] w0 w []) ?_ ?_
    ·refine W_reg ?_
     refine WL_move rfl rfl ?_
     refine WL_gtr rfl rfl rfl ?_
     refine WL_move rfl rfl ?_
     refine WL_fork (fun hc3 => ?_) (fun hc3 => ?_)
     ·replace hr2 := ite_t hr2 hc3
      refine WL_guard rfl rfl ?_
      refine WL_move rfl rfl ?_
      refine WL_guard rfl rfl ?_
      refine WL_move rfl rfl ?_
      obtain ⟨x6, hx4, hr2⟩ := bind_some hr2
      refine WL_guard rfl rfl ?_
      refine WL_index_str Tryd.underlying9 hx4 rfl rfl rfl ?_
      refine WL_guard rfl rfl ?_
      refine WL_eql rfl rfl rfl ?_
      refine WL_pick_t rfl rfl rfl ?_
      refine WL_nil ?_
      have hq1 := Option.some.inj hr2
      subst hq1
      refine nrm_sub (l' := [(4, (.int .i64 (bor x1 (shl (w64 (band8 (UInt8.toNat x3 : Int) 127)) (w64 (7 * x2)))))), (5, (.int .i64 x2)), (33, (.bool (decide ((UInt8.toNat x6 : Int) = 0))))]) ⟨rfl, rfl, rfl, trivial⟩ ?_
      exact ⟨(decide ((UInt8.toNat x6 : Int) = 0)), rfl, rfl, (Below.refl _ _), hC1⟩
     replace hr2 := ite_f hr2 hc3
     refine WL_guard_skip rfl rfl (by simp) rfl ?_
     refine WL_guard_skip rfl rfl (by simp) rfl ?_
     refine WL_guard_skip rfl rfl (by simp) rfl ?_
     refine WL_guard_skip rfl rfl (by simp) rfl ?_
     refine WL_pick_f rfl rfl rfl ?_
     refine WL_nil ?_
     have hq2 := Option.some.inj hr2
     subst hq2
     refine nrm_sub (l' := [(4, (.int .i64 (bor x1 (shl (w64 (band8 (UInt8.toNat x3 : Int) 127)) (w64 (7 * x2)))))), (5, (.int .i64 x2)), (33, (.bool false))]) ⟨rfl, rfl, rfl, trivial⟩ ?_
     exact ⟨false, rfl, rfl, (Below.refl _ _), hC1⟩
    rintro _ w2 ⟨x5, rfl, rfl, hB2, hC2⟩
    try dsimp only at hL1
    refine W_cond rfl (fun hc4 => ?_) (fun hc4 => ?_)
    ·replace hL1 := ite_t hL1 hc4
     refine W_seq_reg ?_
     refine WL_assign rfl rfl ?_
     refine WL_assign rfl rfl ?_
     refine WL_nil (W_ret (nrm_ret (blk_ret (nrm_ret (nrm_ret (blk_ret (nrm_ret (nrm_ret ?_))))))))
     have hq3 := Option.some.inj hL1
     subst hq3
     dsimp only at hF
     have hq4 := Option.some.inj hF
     subst hq4
     refine fn_ret2 rfl rfl rfl ?_
     have hC3 := hC2.triv (int_val (0))
     have hC4 := hC3.triv (int_val (0))
     exact ⟨_, rfl, res2_of hC4⟩
    replace hL1 := ite_f hL1 hc4
    refine W_skip (nrm_normal (W_seq_reg ?_))
    refine WL_move rfl rfl ?_
    refine WL_move rfl rfl ?_
    refine WL_add rfl rfl rfl ?_
    refine WL_assign rfl rfl ?_
    refine WL_assign rfl rfl ?_
    refine WL_nil (W_ret (blk_ret (nrm_ret (nrm_ret (blk_ret (nrm_ret (nrm_ret ?_)))))))
    have hq5 := Option.some.inj hL1
    subst hq5
    dsimp only at hF
    have hq6 := Option.some.inj hF
    subst hq6
    refine fn_ret2 rfl rfl rfl ?_
    have hC5 := hC2.triv (int_val (w64 (x2 + 1)))
    have hC6 := hC5.triv (int_val (bor x1 (shl (w64 (band8 (UInt8.toNat x3 : Int) 127)) (w64 (7 * x2)))))
    exact ⟨_, rfl, res2_of hC6⟩
   replace hL1 := ite_f hL1 hc1
   refine W_exit (nrm_exit (nrm_exit (blk_exit ?_)))
   have hq7 := Option.some.inj hL1
   subst hq7
   refine nrm_sub (l' := []) trivial ?_
   exact ⟨rfl, rfl, (Keep.of hB1).below, hC1⟩
 rintro l3 _ w3 hs3 ⟨rfl, rfl, hB3, hC7⟩
 try dsimp only at hF
 refine nrm_sub' hs3 ?_
 clear hs3
 refine W_seq_reg ?_
 refine WL_assign rfl rfl ?_
 refine WL_assign rfl rfl ?_
 refine WL_nil (W_ret ?_)
 have hq8 := Option.some.inj hF
 subst hq8
 refine fn_ret2 rfl rfl rfl ?_
 have hC8 := hC7.triv (int_val (0))
 have hC9 := hC8.triv (int_val (0))
 exact ⟨_, rfl, res2_of hC9⟩

theorem c_M_varintReader_next {w0 : World} {Fs : List (List Nat)} (pb1 : Nat) (a1 : (Str × Bool)) (hH : Hold [Item.box pb1 [(sv a1.1), (.bool a1.2)]] w0 Fs) (hn : Fs.flatten.Nodup) (rr : (Int × (Str × Bool))) (hF : M.varintReader_next a1 = some rr) :
 Calls Tryd.prog 61 [(ptr pb1 0)].toArray w0 fun e w' => ∃ v, e = .returned v ∧ v = (.int .i64 rr.1) ∧ Ctx Fs.flatten w0 w' [Item.box pb1 [(sv rr.2.1), (.bool rr.2.2)]] := by
 refine calls_of_W Tryd.func61 rfl rfl ?_
 have hC0 := Ctx.startIn hH hn
 unfold M.varintReader_next at hF
 refine W_seq_reg ?_
 refine WL_assign rfl rfl ?_
 refine WL_nil (W_seq_reg ?_)
 refine WL_move rfl rfl ?_
 refine WL_nilCheck rfl rfl ?_
 refine WL_field Tryd.underlying79 rfl rfl (fun w => ⟨_, Tryd.sizeOf9 w⟩) rfl rfl ?_
 refine WL_load_box hC0 0 rfl rfl Tryd.isAgg9 rfl rfl ?_
 obtain ⟨x1, hr1, hF⟩ := bind_some hF
 refine WL_call Tryd.call80 rfl rfl (c_M_DecodeVarint a1.1 x1 hr1) ?_
 rintro _ w1 ⟨hB1, v1, v2, F1, F2, rfl, hv1, hv2, hn1, hb1⟩
 obtain ⟨rfl, rfl⟩ := val_int hv1
 obtain ⟨rfl, rfl⟩ := val_int hv2
 have hC1 := hC0.grow hB1
 refine WL_move rfl rfl ?_
 refine WL_extract rfl rfl rfl ?_
 refine WL_extract rfl rfl rfl ?_
 refine WL_assign rfl rfl ?_
 refine WL_assign rfl rfl ?_
 refine WL_nil ?_
 obtain ⟨r1, hr2, hF⟩ := bind_some hF
 refine W_cut (fun l w => ∃ x2 : Str, ∃ x3 : Bool, (x2, x3) = r1 ∧ l = [(0, (ptr pb1 0)), (3, (.int .i64 x1.1)), (4, (.int .i64 x1.2))] ∧ Ctx Fs.flatten w0 w [Item.box pb1 [(sv x2), (.bool x3)]]) ?_ ?_
 ·refine W_reg ?_
  refine WL_move rfl rfl ?_
  refine WL_move rfl rfl ?_
  refine WL_nilCheck rfl rfl ?_
  refine WL_field Tryd.underlying79 rfl rfl (fun w => ⟨_, Tryd.sizeOf4 w⟩) rfl rfl ?_
  refine WL_load_box hC1 0 rfl rfl Tryd.isAgg4 rfl rfl ?_
  refine WL_move rfl rfl ?_
  refine WL_fork (fun hc1 => ?_) (fun hc1 => ?_)
  ·replace hr2 := ite_t hr2 hc1
   refine WL_guard_skip rfl rfl (by simp) rfl ?_
   refine WL_guard_skip rfl rfl (by simp) rfl ?_
   refine WL_pick_t rfl rfl rfl ?_
   refine WL_nilCheck rfl rfl ?_
   refine WL_field Tryd.underlying79 rfl rfl (fun w => ⟨_, Tryd.sizeOf4 w⟩) rfl rfl ?_
   refine WL_store_boxK (cs' := [(sv a1.1), (.bool true)]) hC1 0 rfl rfl rfl rfl Tryd.sizeOf4 rfl rfl (fun w3 hC3 hKp1 => ?_)
   try dsimp only [List.set] at hC3
   refine WL_nil ?_
   have hq1 := Option.some.inj hr2
   subst hq1
   refine nrm_sub (l' := [(0, (ptr pb1 0)), (3, (.int .i64 x1.1)), (4, (.int .i64 x1.2))]) ⟨rfl, rfl, rfl, trivial⟩ ?_
   exact ⟨a1.1, true, rfl, rfl, hC3⟩
  replace hr2 := ite_f hr2 hc1
  refine WL_guard rfl rfl ?_
  refine WL_move rfl rfl ?_
  refine WL_guard rfl rfl ?_
  refine WL_eql rfl rfl rfl ?_
  refine WL_pick_f rfl rfl rfl ?_
  refine WL_nilCheck rfl rfl ?_
  refine WL_field Tryd.underlying79 rfl rfl (fun w => ⟨_, Tryd.sizeOf4 w⟩) rfl rfl ?_
  refine WL_store_boxK (cs' := [(sv a1.1), (.bool (decide (x1.2 = 0)))]) hC1 0 rfl rfl rfl rfl Tryd.sizeOf4 rfl rfl (fun w4 hC4 hKp2 => ?_)
  try dsimp only [List.set] at hC4
  refine WL_nil ?_
  have hq2 := Option.some.inj hr2
  subst hq2
  refine nrm_sub (l' := [(0, (ptr pb1 0)), (3, (.int .i64 x1.1)), (4, (.int .i64 x1.2))]) ⟨rfl, rfl, rfl, trivial⟩ ?_
  exact ⟨a1.1, (decide (x1.2 = 0)), rfl, rfl, hC4⟩
 rintro _ w2 ⟨x2, x3, rfl, rfl, hC2⟩
 try dsimp only at hF
 refine W_seq_reg ?_
 refine WL_move rfl rfl ?_
 refine WL_move rfl rfl ?_
 refine WL_nilCheck rfl rfl ?_
 refine WL_field Tryd.underlying79 rfl rfl (fun w => ⟨_, Tryd.sizeOf9 w⟩) rfl rfl ?_
 refine WL_load_box hC2 0 rfl rfl Tryd.isAgg9 rfl rfl ?_
 refine WL_move rfl rfl ?_
 obtain ⟨x4, hx1, hF⟩ := bind_some hF
 refine WL_slice_str_l Tryd.underlying9 hx1 rfl rfl rfl ?_
 refine WL_nilCheck rfl rfl ?_
 refine WL_field Tryd.underlying79 rfl rfl (fun w => ⟨_, Tryd.sizeOf9 w⟩) rfl rfl ?_
 refine WL_store_boxK (cs' := [(sv x4), (.bool x3)]) hC2 0 rfl rfl rfl rfl Tryd.sizeOf9 rfl rfl (fun w5 hC5 hKp3 => ?_)
 try dsimp only [List.set] at hC5
 refine WL_nil (W_seq_reg ?_)
 refine WL_move rfl rfl ?_
 refine WL_assign rfl rfl ?_
 refine WL_nil (W_ret ?_)
 have hq3 := Option.some.inj hF
 subst hq3
 refine fn_ret1 rfl rfl ?_
 exact ⟨_, rfl, rfl, hC5⟩

theorem c_M_varintReader_list {w0 : World} {Fs : List (List Nat)} (pb1 : Nat) (a1 : (Str × Bool)) (a2 : Int) (hH : Hold [Item.box pb1 [(sv a1.1), (.bool a1.2)]] w0 Fs) (hn : Fs.flatten.Nodup) (rr : ((List Int) × (Str × Bool))) (hF : M.varintReader_list a1 a2 = some rr) :
 Calls Tryd.prog 57 [(ptr pb1 0), (.int .i64 a2)].toArray w0 fun e w' => ∃ v, e = .returned v ∧ ∃ q0 : Value, v = q0 ∧ Ctx Fs.flatten w0 w' [Item.own q0 (rr.1 : (List Int)), Item.box pb1 [(sv rr.2.1), (.bool rr.2.2)]] := by
 refine calls_of_W Tryd.func57 rfl rfl ?_
 have hC0 := Ctx.startIn hH hn
 unfold M.varintReader_list at hF
 refine W_seq_reg ?_
 refine WL_assign rfl rfl ?_
 refine WL_nil (W_seq_reg ?_)
 refine WL_buildSlice (vs := []) hC0 Tryd.underlying22 ty3 rfl rfl rfl rfl (by simp) rfl rfl (fun b1 w1 hC1 hB1 => ?_)
 have hC2 := hC1.row0 (α := Int)
 have hC3 := hC2.front 1 rfl
 dsimp only [List.eraseIdx, List.cons_append, List.nil_append, List.append_nil] at hC3
 have hC4 : Ctx Fs.flatten w0 w1 (Item.own (.slice (some ⟨b1, 0, none⟩) 0 0) (([] : List Int) : List Int) :: [Item.box pb1 [(sv a1.1), (.bool a1.2)]]) := hC3.rowOwn (by simp [maxLen])
 refine WL_assign rfl rfl ?_
 refine WL_nil (W_seq (W_seq_reg ?_))
 refine WL_move rfl rfl ?_
 refine WL_move rfl rfl ?_
 refine WL_nil ?_
 obtain ⟨r1, hr1, hF⟩ := bind_some hF
 refine W_norm (fun l w => ∃ x5 : Str, ∃ x6 : Bool, ∃ v2 : Value, ∃ x7 : (List Int), (x5, x6, x7) = r1 ∧ l = [(5, v2)] ∧ Ctx Fs.flatten w0 w [Item.own v2 (x7 : (List Int)), Item.box pb1 [(sv x5), (.bool x6)]]) ?_ ?_
 ·refine W_block ?_
  refine W.sub (l' := [(0, (ptr pb1 0)), (5, (.slice (some ⟨b1, 0, none⟩) 0 0)), (7, (.int .i64 a2)), (8, (.int .i64 0))]) ?_ ⟨rfl, rfl, rfl, rfl, trivial⟩
  refine W_loop (fun k l w => ∃ x1 : Str, ∃ x2 : Bool, ∃ v1 : Value, ∃ x3 : (List Int), ∃ x4 : Int, l = [(0, (ptr pb1 0)), (5, v1), (7, (.int .i64 a2)), (8, (.int .i64 x4))] ∧ Ctx Fs.flatten w0 w [Item.own v1 (x3 : (List Int)), Item.box pb1 [(sv x1), (.bool x2)]] ∧ M.varintReader_list_l1 a2 k x1 x2 x3 x4 = some r1) FUEL ⟨a1.1, a1.2, (.slice (some ⟨b1, 0, none⟩) 0 0), ([] : List Int), 0, rfl, hC4, hr1⟩ ?_
  clear hr1
  rintro k1 _ w2 ⟨x1, x2, v1, x3, x4, rfl, hC5, hL1⟩
  cases k1 with
  | zero => rw [M.varintReader_list_l1] at hL1; cases hL1
  | succ k1 =>
   rw [M.varintReader_list_l1] at hL1
   refine W_seq_reg ?_
   refine WL_lss rfl rfl rfl ?_
   refine WL_nil (W_seq ?_)
   refine W_cond rfl (fun hc1 => ?_) (fun hc1 => ?_)
   ·replace hL1 := ite_t hL1 hc1
    refine W_skip (nrm_normal (W_seq (W_block (W_seq (W_seq_reg ?_)))))
    refine WL_move rfl rfl ?_
    refine WL_nilCheck rfl rfl ?_
    refine WL_field Tryd.underlying79 rfl rfl (fun w => ⟨_, Tryd.sizeOf4 w⟩) rfl rfl ?_
    refine WL_load_box hC5 1 rfl rfl Tryd.isAgg4 rfl rfl ?_
    refine WL_nil ?_
    refine W_cond rfl (fun hc2 => ?_) (fun hc2 => ?_)
    ·replace hL1 := ite_t hL1 hc2
     refine W_exit (nrm_exit ?_)
     refine blk_exit_other rfl ?_
     refine nrm_exit (nrm_exit (blk_exit ?_))
     have hq1 := Option.some.inj hL1
     subst hq1
     refine nrm_sub (l' := [(5, v1)]) ⟨rfl, trivial⟩ ?_
     exact ⟨x1, x2, v1, x3, rfl, rfl, hC5⟩
    replace hL1 := ite_f hL1 hc2
    refine W_skip (nrm_normal (W_reg ?_))
    refine WL_move rfl rfl ?_
    refine WL_move rfl rfl ?_
    obtain ⟨x8, hr2, hL1⟩ := bind_some hL1
    have hC6 := hC5.f1
    obtain ⟨Fs1, hH1, hn1, hF1, hO1, hb1⟩ := Ctx.lend2 (As := [Item.own v1 (x3 : (List Int))]) [Item.box pb1 [(sv x1), (.bool x2)]] hC6
    refine WL_call Tryd.call61 rfl rfl (c_M_varintReader_next pb1 (x1, x2) hH1 hn1 x8 hr2) ?_
    rintro _ w3 ⟨rfl, hq2⟩
    have hC7 : Ctx Fs.flatten w0 w3 [Item.box pb1 [(sv x8.2.1), (.bool x8.2.2)], Item.own v1 (x3 : (List Int))] := hb1 _ _ hq2
    refine WL_buildSlice (vs := [(.int .i64 x8.1)]) hC7 Tryd.underlying22 ty3 rfl rfl rfl rfl (by intro v hv; simp only [List.mem_cons, List.not_mem_nil, or_false] at hv; rcases hv with rfl <;> rfl) rfl rfl (fun b2 w4 hC8 hB3 => ?_)
    have hC9 := hC8.row0 (α := Int)
    have hC10 := hC9.triv (int_val (x8.1))
    have hC11 := hC10.row1
    have hC12 := hC11.front 1 rfl
    dsimp only [List.eraseIdx, List.cons_append, List.nil_append, List.append_nil] at hC12
    have hC13 : Ctx Fs.flatten w0 w4 (Item.own (.slice (some ⟨b2, 0, none⟩) 1 1) ([x8.1] : List Int) :: [Item.box pb1 [(sv x8.2.1), (.bool x8.2.2)], Item.own v1 (x3 : (List Int))]) := hC12.rowOwn (by simp [maxLen])
    obtain ⟨x9, hx1, hL1⟩ := bind_some hL1
    refine WL_append_flat (α := Int) hC13 2 rfl (hC13.ro 0 rfl) (Keep.refl _ _) Tryd.underlying22 ty3 rfl hx1 rfl rfl rfl (fun v3 w5 hC14 => ?_)
    try dsimp only [List.set] at hC14
    refine WL_assign rfl rfl ?_
    refine WL_nil (blk_normal (nrm_normal (W_reg ?_)))
    refine WL_add rfl rfl rfl ?_
    refine WL_move rfl rfl ?_
    refine WL_nil ?_
    have hC15 := hC14.f1
    have hC16 := hC15.f2
    have hC17 := hC16.h2
    refine nrm_sub (l' := [(0, (ptr pb1 0)), (5, v3), (7, (.int .i64 a2)), (8, (.int .i64 (w64 (x4 + 1))))]) ⟨rfl, rfl, rfl, rfl, trivial⟩ ?_
    exact ⟨k1, Nat.lt_succ_self _, x8.2.1, x8.2.2, v3, x9, w64 (x4 + 1), rfl, hC17, hL1⟩
   replace hL1 := ite_f hL1 hc1
   refine W_exit (nrm_exit (nrm_exit (blk_exit ?_)))
   have hq3 := Option.some.inj hL1
   subst hq3
   refine nrm_sub (l' := [(5, v1)]) ⟨rfl, trivial⟩ ?_
   exact ⟨x1, x2, v1, x3, rfl, rfl, hC5⟩
 rintro l2 _ w6 hs2 ⟨x5, x6, v2, x7, rfl, rfl, hC18⟩
 try dsimp only at hF
 refine nrm_sub' hs2 ?_
 clear hs2
 refine W_seq_reg ?_
 refine WL_move rfl rfl ?_
 refine WL_assign rfl rfl ?_
 refine WL_nil (W_ret ?_)
 have hq4 := Option.some.inj hF
 subst hq4
 refine fn_ret1 rfl rfl ?_
 have hC19 := hC18.f1
 have hC20 := hC19.f1
 exact ⟨_, rfl, _, rfl, hC20⟩

end Go.Gx.Px
