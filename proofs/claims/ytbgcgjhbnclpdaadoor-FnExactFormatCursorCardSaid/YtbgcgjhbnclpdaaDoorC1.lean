/- The contracts of the Go functions against the pure functions, printed by program. Conditions: each says them. -/
import Derived.Test.YtbgcgjhbnclpdaaDoorTy
import Derived.Test.YtbgcgjhbnclpdaaDoorPure
set_option linter.unusedVariables false
set_option linter.unusedSimpArgs false
set_option maxRecDepth 100000
set_option maxHeartbeats 4000000
namespace Go.Gx.Px
open Go.Proofs Go.RowKit

theorem c_Q_szIntS {w0 : World} (a1 : (List Int)) (u1 : Value) (g1 : RO [] w0 u1 a1) (a2 : Int) (rr : Int) (hF : Q.szIntS a1 a2 = some rr) :
 Calls Tryd.prog 45 [u1, (.int .i64 a2)].toArray w0 fun e w' => ∃ v, e = .returned v ∧ Res w0 rr v w' := by
 refine calls_of_W Tryd.func45 rfl rfl ?_
 have hC0 := Ctx.start w0
 unfold Q.szIntS at hF
 refine W_seq_reg ?_
 refine WL_assign rfl rfl ?_
 refine WL_nil (W_seq_reg ?_)
 refine WL_move rfl rfl ?_
 refine WL_move rfl rfl ?_
 refine WL_len Tryd.underlying22 g1 rfl rfl ?_
 refine WL_sub rfl rfl rfl ?_
 refine WL_assign rfl rfl ?_
 refine WL_nil (W_seq (W_seq_reg ?_))
 refine WL_move rfl rfl ?_
 refine WL_lss rfl rfl rfl ?_
 refine WL_nil ?_
 refine W_cond rfl (fun hc1 => ?_) (fun hc1 => ?_)
 ·replace hF := ite_t hF hc1
  refine W_seq_reg ?_
  refine WL_assign rfl rfl ?_
  refine WL_nil (W_ret (nrm_ret ?_))
  have hq1 := Option.some.inj hF
  subst hq1
  refine fn_ret1 rfl rfl ?_
  exact ⟨_, rfl, int_res hC0 _⟩
 replace hF := ite_f hF hc1
 refine W_skip (nrm_normal (W_seq_reg ?_))
 refine WL_move rfl rfl ?_
 refine WL_assign rfl rfl ?_
 refine WL_nil (W_ret ?_)
 have hq2 := Option.some.inj hF
 subst hq2
 refine fn_ret1 rfl rfl ?_
 exact ⟨_, rfl, int_res hC0 _⟩

theorem c_Q_szAccess {w0 : World} (a1 : (Int × (List Int))) (u1 : Value) (g1 : RO [] w0 u1 a1.2) (a2 : Int) (rr : Int) (hF : Q.szAccess a1 a2 = some rr) :
 Calls Tryd.prog 14 [(.agg #[(.int .i64 a1.1), u1]), (.int .i64 a2)].toArray w0 fun e w' => ∃ v, e = .returned v ∧ Res w0 rr v w' := by
 refine calls_of_W Tryd.func14 rfl rfl ?_
 have hC0 := Ctx.start w0
 unfold Q.szAccess at hF
 refine W_seq_reg ?_
 refine WL_boxK (cs := [(.int .i64 a1.1), u1]) hC0 rfl rfl rfl (fun b1 w1 hC1 hB1 hN1 => ?_)
 refine WL_assign rfl rfl ?_
 refine WL_nil (W_seq_reg ?_)
 refine WL_field Tryd.underlying24 rfl rfl (fun w => ⟨_, Tryd.sizeOf22 w⟩) rfl rfl ?_
 refine WL_load_box hC1 0 rfl rfl Tryd.isAgg22 rfl rfl ?_
 refine WL_move rfl rfl ?_
 obtain ⟨x1, hr1, hF⟩ := bind_some hF
 refine WL_call Tryd.call45 rfl rfl (c_Q_szIntS a1.2 u1 (g1.now hC1.keep) a2 x1 hr1) ?_
 intro _ w2 hv1
 obtain ⟨rfl, hB2⟩ := res_int hv1
 have hC2 := hC1.grow hB2
 refine WL_assign rfl rfl ?_
 refine WL_nil (W_seq (W_seq_reg ?_))
 refine WL_move rfl rfl ?_
 refine WL_lss rfl rfl rfl ?_
 refine WL_nil ?_
 refine W_cond rfl (fun hc1 => ?_) (fun hc1 => ?_)
 ·replace hF := ite_t hF hc1
  refine W_seq_reg ?_
  refine WL_assign rfl rfl ?_
  refine WL_nil (W_ret (nrm_ret ?_))
  have hq1 := Option.some.inj hF
  subst hq1
  refine fn_ret1 rfl rfl ?_
  exact ⟨_, rfl, int_res hC2 _⟩
 replace hF := ite_f hF hc1
 refine W_skip (nrm_normal (W_seq_reg ?_))
 refine WL_move rfl rfl ?_
 refine WL_assign rfl rfl ?_
 refine WL_nil (W_ret ?_)
 have hq2 := Option.some.inj hF
 subst hq2
 refine fn_ret1 rfl rfl ?_
 exact ⟨_, rfl, int_res hC2 _⟩

theorem c_Q_szCursor {w0 : World} (a1 : ((Int × (List Int)) × Int × Int)) (u1 : Value) (g1 : RO [] w0 u1 a1.1.2) (a2 : Int) (rr : Int) (hF : Q.szCursor a1 a2 = some rr) :
 Calls Tryd.prog 9 [(.agg #[(.int .i64 a1.1.1), u1, (.int .i64 a1.2.1), (.int .i64 a1.2.2)]), (.int .i64 a2)].toArray w0 fun e w' => ∃ v, e = .returned v ∧ Res w0 rr v w' := by
 refine calls_of_W Tryd.func9 rfl rfl ?_
 have hC0 := Ctx.start w0
 unfold Q.szCursor at hF
 refine W_seq_reg ?_
 refine WL_boxK (cs := [(.int .i64 a1.1.1), u1, (.int .i64 a1.2.1), (.int .i64 a1.2.2)]) hC0 rfl rfl rfl (fun b1 w1 hC1 hB1 hN1 => ?_)
 refine WL_assign rfl rfl ?_
 refine WL_nil (W_seq_reg ?_)
 refine WL_field Tryd.underlying26 rfl rfl (fun w => ⟨_, Tryd.sizeOf24 w⟩) rfl rfl ?_
 refine WL_load_box_agg [(.int .i64 a1.1.1), u1] hC1 0 rfl rfl rfl Tryd.isAgg24 Tryd.sizeOf24 rfl rfl ?_
 refine WL_move rfl rfl ?_
 obtain ⟨x1, hr1, hF⟩ := bind_some hF
 refine WL_call Tryd.call14 rfl rfl (c_Q_szAccess (a1.1.1, a1.1.2) u1 (g1.now hC1.keep) a2 x1 hr1) ?_
 intro _ w2 hv1
 obtain ⟨rfl, hB2⟩ := res_int hv1
 have hC2 := hC1.grow hB2
 refine WL_assign rfl rfl ?_
 refine WL_nil (W_seq (W_seq_reg ?_))
 refine WL_move rfl rfl ?_
 refine WL_lss rfl rfl rfl ?_
 refine WL_nil ?_
 refine W_cond rfl (fun hc1 => ?_) (fun hc1 => ?_)
 ·replace hF := ite_t hF hc1
  refine W_seq_reg ?_
  refine WL_assign rfl rfl ?_
  refine WL_nil (W_ret (nrm_ret ?_))
  have hq1 := Option.some.inj hF
  subst hq1
  refine fn_ret1 rfl rfl ?_
  exact ⟨_, rfl, int_res hC2 _⟩
 replace hF := ite_f hF hc1
 refine W_skip (nrm_normal (W_seq_reg ?_))
 refine WL_move rfl rfl ?_
 refine WL_assign rfl rfl ?_
 refine WL_nil (W_ret ?_)
 have hq2 := Option.some.inj hF
 subst hq2
 refine fn_ret1 rfl rfl ?_
 exact ⟨_, rfl, int_res hC2 _⟩

theorem c_S_l1In {w0 : World} (a1 : Int) (a2 : Int) (a3 : Int) (rr : Bool) (hF : S.l1In a1 a2 a3 = some rr) :
 Calls Tryd.prog 40 [(.int .i64 a1), (.int .i64 a2), (.int .i64 a3)].toArray w0 fun e w' => ∃ v, e = .returned v ∧ Res w0 rr v w' := by
 refine calls_of_W Tryd.func40 rfl rfl ?_
 have hC0 := Ctx.start w0
 unfold S.l1In at hF
 refine W_seq_reg ?_
 refine WL_assign rfl rfl ?_
 refine WL_nil ?_
 obtain ⟨r1, hr1, hF⟩ := bind_some hF
 refine W_cut (fun l w => ∃ x1 : Bool, x1 = r1 ∧ l = [(6, (.bool x1))] ∧ Below w0.heap.size w0 w ∧ Ctx [] w0 w []) ?_ ?_
 ·refine W_reg ?_
  refine WL_move rfl rfl ?_
  refine WL_move rfl rfl ?_
  refine WL_geq rfl rfl rfl ?_
  refine WL_move rfl rfl ?_
  refine WL_fork (fun hc1 => ?_) (fun hc1 => ?_)
  ·replace hr1 := ite_t hr1 hc1
   refine WL_guard rfl rfl ?_
   refine WL_move rfl rfl ?_
   refine WL_guard rfl rfl ?_
   refine WL_move rfl rfl ?_
   refine WL_guard rfl rfl ?_
   refine WL_leq rfl rfl rfl ?_
   refine WL_pick_t rfl rfl rfl ?_
   refine WL_assign rfl rfl ?_
   refine WL_nil ?_
   have hq1 := Option.some.inj hr1
   subst hq1
   refine nrm_sub (l' := [(6, (.bool (decide (a1 ≤ a3))))]) ⟨rfl, trivial⟩ ?_
   exact ⟨(decide (a1 ≤ a3)), rfl, rfl, (Below.refl _ _), hC0⟩
  replace hr1 := ite_f hr1 hc1
  refine WL_guard_skip rfl rfl (by simp) rfl ?_
  refine WL_guard_skip rfl rfl (by simp) rfl ?_
  refine WL_guard_skip rfl rfl (by simp) rfl ?_
  refine WL_pick_f rfl rfl rfl ?_
  refine WL_assign rfl rfl ?_
  refine WL_nil ?_
  have hq2 := Option.some.inj hr1
  subst hq2
  refine nrm_sub (l' := [(6, (.bool false))]) ⟨rfl, trivial⟩ ?_
  exact ⟨false, rfl, rfl, (Below.refl _ _), hC0⟩
 rintro _ w1 ⟨x1, rfl, rfl, hB1, hC1⟩
 try dsimp only at hF
 refine W_ret ?_
 have hq3 := Option.some.inj hF
 subst hq3
 refine fn_ret1 rfl rfl ?_
 exact ⟨_, rfl, bool_res hC1 _⟩

theorem c_S_FormatInt {w0 : World} (a1 : Int) (rr : Str) (hF : S.FormatInt a1 = some rr) :
 Calls Tryd.prog 41 [(.int .i64 a1)].toArray w0 fun e w' => ∃ v, e = .returned v ∧ Res w0 rr v w' := by
 refine calls_of_W Tryd.func41 rfl rfl ?_
 have hC0 := Ctx.start w0
 unfold S.FormatInt at hF
 refine W_seq_reg ?_
 refine WL_assign rfl rfl ?_
 refine WL_nil (W_seq (W_seq_reg ?_))
 refine WL_move rfl rfl ?_
 refine WL_eql rfl rfl rfl ?_
 refine WL_nil ?_
 refine W_cond rfl (fun hc1 => ?_) (fun hc1 => ?_)
 ·replace hF := ite_t hF hc1
  refine W_seq_reg ?_
  refine WL_assign rfl rfl ?_
  refine WL_nil (W_ret (nrm_ret ?_))
  have hq1 := Option.some.inj hF
  subst hq1
  refine fn_ret1 rfl rfl ?_
  exact ⟨_, rfl, str_res hC0 _⟩
 replace hF := ite_f hF hc1
 refine W_skip (nrm_normal (W_seq_reg ?_))
 refine WL_assign rfl rfl ?_
 refine WL_nil (W_seq_reg ?_)
 refine WL_move rfl rfl ?_
 refine WL_lss rfl rfl rfl ?_
 refine WL_assign rfl rfl ?_
 refine WL_nil (W_seq ?_)
 obtain ⟨r1, hr1, hF⟩ := bind_some hF
 refine W_norm (fun l w => ∃ x3 : Str, x3 = r1 ∧ l = [(3, (sv x3)), (4, (.bool (decide (a1 < 0))))] ∧ Below w0.heap.size w0 w ∧ Ctx [] w0 w []) ?_ ?_
 ·refine W_block ?_
  refine W.sub (l' := [(0, (.int .i64 a1)), (3, (sv (str []))), (4, (.bool (decide (a1 < 0))))]) ?_ ⟨rfl, rfl, rfl, trivial⟩
  refine W_loop (fun k l w => ∃ x1 : Int, ∃ x2 : Str, l = [(0, (.int .i64 x1)), (3, (sv x2)), (4, (.bool (decide (a1 < 0))))] ∧ Below w0.heap.size w0 w ∧ Ctx [] w0 w [] ∧ S.FormatInt_l1 k x1 x2 = some r1) FUEL ⟨a1, (str []), rfl, (Below.refl _ _), hC0, hr1⟩ ?_
  clear hr1
  rintro k1 _ w1 ⟨x1, x2, rfl, hB1, hC1, hL1⟩
  cases k1 with
  | zero => rw [S.FormatInt_l1] at hL1; cases hL1
  | succ k1 =>
   rw [S.FormatInt_l1] at hL1
   refine W_seq (W_seq_reg ?_)
   refine WL_move rfl rfl ?_
   refine WL_neq rfl rfl rfl ?_
   refine WL_nil ?_
   refine W_cond rfl (fun hc2 => ?_) (fun hc2 => ?_)
   ·replace hL1 := ite_t hL1 hc2
    refine W_skip (nrm_normal (W_block (W_seq_reg ?_)))
    refine WL_move rfl rfl ?_
    refine WL_rem (by decide) rfl rfl rfl ?_
    refine WL_assign rfl rfl ?_
    refine WL_nil (W_seq (W_seq_reg ?_))
    refine WL_move rfl rfl ?_
    refine WL_lss rfl rfl rfl ?_
    refine WL_nil ?_
    obtain ⟨r2, hr2, hL1⟩ := bind_some hL1
    refine W_norm (fun l w => ∃ x4 : Int, x4 = r2 ∧ l = [(0, (.int .i64 x1)), (3, (sv x2)), (4, (.bool (decide (a1 < 0)))), (5, (.int .i64 x4))] ∧ Below w1.heap.size w1 w ∧ Ctx [] w0 w []) ?_ ?_
    ·refine W_cond rfl (fun hc3 => ?_) (fun hc3 => ?_)
     ·replace hr2 := ite_t hr2 hc3
      refine W_reg ?_
      refine WL_move rfl rfl ?_
      refine WL_neg rfl rfl ?_
      refine WL_assign rfl rfl ?_
      refine WL_nil ?_
      have hq2 := Option.some.inj hr2
      subst hq2
      refine nrm_sub (l' := [(0, (.int .i64 x1)), (3, (sv x2)), (4, (.bool (decide (a1 < 0)))), (5, (.int .i64 (w64 (0 - (x1.tmod 10)))))]) ⟨rfl, rfl, rfl, rfl, trivial⟩ ?_
      exact ⟨w64 (0 - (x1.tmod 10)), rfl, rfl, (Below.refl _ _), hC1⟩
     replace hr2 := ite_f hr2 hc3
     refine W_skip ?_
     have hq3 := Option.some.inj hr2
     subst hq3
     refine nrm_sub (l' := [(0, (.int .i64 x1)), (3, (sv x2)), (4, (.bool (decide (a1 < 0)))), (5, (.int .i64 (x1.tmod 10)))]) ⟨rfl, rfl, rfl, rfl, trivial⟩ ?_
     exact ⟨x1.tmod 10, rfl, rfl, (Below.refl _ _), hC1⟩
    rintro l2 _ w2 hs2 ⟨x4, rfl, rfl, hB2, hC2⟩
    try dsimp only at hL1
    refine nrm_sub' hs2 ?_
    clear hs2
    refine W_seq_reg ?_
    refine WL_move rfl rfl ?_
    refine WL_add rfl rfl rfl ?_
    refine WL_conv_u8 Tryd.underlying3 Tryd.underlying5 rfl rfl ?_
    refine WL_buildSlice (vs := [(.int .u8 (w8 (w64 (48 + x4))))]) hC2 Tryd.underlying54 ty5 rfl rfl rfl rfl (by intro v hv; simp only [List.mem_cons, List.not_mem_nil, or_false] at hv; rcases hv with rfl <;> rfl) rfl rfl (fun b1 w3 hC3 hB3 => ?_)
    have hC4 := hC3.row0 (α := UInt8)
    have hC5 := hC4.triv (u8_val (w64 (48 + x4)))
    have hC6 := hC5.row1
    have hC7 := hC6.front 1 rfl
    dsimp only [List.eraseIdx, List.cons_append, List.nil_append, List.append_nil] at hC7
    have hC8 : Ctx [] w0 w3 (Item.own (.slice (some ⟨b1, 0, none⟩) 1 1) ([(u8 (w64 (48 + x4)))] : List UInt8) :: []) := hC7.rowOwn (by simp [maxLen])
    refine WL_conv_bytes Tryd.underlying54 Tryd.underlying5 Tryd.underlying9 (hC8.ro 0 rfl) (Keep.refl _ _) rfl rfl ?_
    refine WL_move rfl rfl ?_
    obtain ⟨x5, hx1, hL1⟩ := bind_some hL1
    refine WL_str_add hx1 rfl rfl rfl ?_
    refine WL_assign rfl rfl ?_
    refine WL_nil (W_reg ?_)
    refine WL_move rfl rfl ?_
    refine WL_quo (by decide) rfl rfl rfl ?_
    refine WL_assign rfl rfl ?_
    refine WL_nil (blk_normal ?_)
    have hC9 := hC8.h0
    refine nrm_sub (l' := [(0, (.int .i64 (w64 (x1.tdiv 10)))), (3, (sv x5)), (4, (.bool (decide (a1 < 0))))]) ⟨rfl, rfl, rfl, trivial⟩ ?_
    exact ⟨k1, Nat.lt_succ_self _, w64 (x1.tdiv 10), x5, rfl, (((Keep.of hB1).then hB2).then hB3).below, hC9, hL1⟩
   replace hL1 := ite_f hL1 hc2
   refine W_exit (nrm_exit (nrm_exit (blk_exit ?_)))
   have hq4 := Option.some.inj hL1
   subst hq4
   refine nrm_sub (l' := [(3, (sv x2)), (4, (.bool (decide (a1 < 0))))]) ⟨rfl, rfl, trivial⟩ ?_
   exact ⟨x2, rfl, rfl, (Keep.of hB1).below, hC1⟩
 rintro l3 _ w4 hs3 ⟨x3, rfl, rfl, hB4, hC10⟩
 try dsimp only at hF
 refine nrm_sub' hs3 ?_
 clear hs3
 refine W_seq (W_seq_reg ?_)
 refine WL_move rfl rfl ?_
 refine WL_nil ?_
 refine W_cond rfl (fun hc4 => ?_) (fun hc4 => ?_)
 ·replace hF := ite_t hF hc4
  refine W_seq_reg ?_
  refine WL_move rfl rfl ?_
  obtain ⟨x6, hx2, hF⟩ := bind_some hF
  refine WL_str_add hx2 rfl rfl rfl ?_
  refine WL_assign rfl rfl ?_
  refine WL_nil (W_ret (nrm_ret ?_))
  have hq5 := Option.some.inj hF
  subst hq5
  refine fn_ret1 rfl rfl ?_
  exact ⟨_, rfl, str_res hC10 _⟩
 replace hF := ite_f hF hc4
 refine W_skip (nrm_normal (W_seq_reg ?_))
 refine WL_move rfl rfl ?_
 refine WL_assign rfl rfl ?_
 refine WL_nil (W_ret ?_)
 have hq6 := Option.some.inj hF
 subst hq6
 refine fn_ret1 rfl rfl ?_
 exact ⟨_, rfl, str_res hC10 _⟩

theorem c_S_l2List {w0 : World} (a1 : (List Int)) (u1 : Value) (g1 : RO [] w0 u1 a1) (rr : Str) (hF : S.l2List a1 = some rr) :
 Calls Tryd.prog 71 [u1].toArray w0 fun e w' => ∃ v, e = .returned v ∧ Res w0 rr v w' := by
 refine calls_of_W Tryd.func71 rfl rfl ?_
 have hC0 := Ctx.start w0
 unfold S.l2List at hF
 refine W_seq_reg ?_
 refine WL_assign rfl rfl ?_
 refine WL_nil (W_seq_reg ?_)
 refine WL_assign rfl rfl ?_
 refine WL_nil (W_seq (W_seq_reg ?_))
 refine WL_assign rfl rfl ?_
 refine WL_nil ?_
 obtain ⟨r1, hr1, hF⟩ := bind_some hF
 refine W_norm (fun l w => ∃ x3 : Str, x3 = r1 ∧ l = [(3, (sv x3))] ∧ Below w0.heap.size w0 w ∧ Ctx [] w0 w []) ?_ ?_
 ·refine W_block ?_
  refine W.sub (l' := [(0, u1), (3, (sv (str []))), (4, (.int .i64 0))]) ?_ ⟨rfl, rfl, rfl, trivial⟩
  refine W_loop (fun k l w => ∃ x1 : Str, ∃ x2 : Int, l = [(0, u1), (3, (sv x1)), (4, (.int .i64 x2))] ∧ Below w0.heap.size w0 w ∧ Ctx [] w0 w [] ∧ S.l2List_l1 a1 k x1 x2 = some r1) FUEL ⟨(str []), 0, rfl, (Below.refl _ _), hC0, hr1⟩ ?_
  clear hr1
  rintro k1 _ w1 ⟨x1, x2, rfl, hB1, hC1, hL1⟩
  cases k1 with
  | zero => rw [S.l2List_l1] at hL1; cases hL1
  | succ k1 =>
   rw [S.l2List_l1] at hL1
   refine W_seq (W_seq_reg ?_)
   refine WL_move rfl rfl ?_
   refine WL_move rfl rfl ?_
   refine WL_len Tryd.underlying22 g1 rfl rfl ?_
   refine WL_lss rfl rfl rfl ?_
   refine WL_nil ?_
   refine W_cond rfl (fun hc1 => ?_) (fun hc1 => ?_)
   ·replace hL1 := ite_t hL1 hc1
    refine W_skip (nrm_normal (W_seq (W_block (W_seq (W_seq_reg ?_)))))
    refine WL_move rfl rfl ?_
    refine WL_gtr rfl rfl rfl ?_
    refine WL_nil ?_
    obtain ⟨r2, hr2, hL1⟩ := bind_some hL1
    refine W_norm (fun l w => ∃ x4 : Str, x4 = r2 ∧ l = [(0, u1), (3, (sv x4)), (4, (.int .i64 x2))] ∧ Below w1.heap.size w1 w ∧ Ctx [] w0 w []) ?_ ?_
    ·refine W_cond rfl (fun hc2 => ?_) (fun hc2 => ?_)
     ·replace hr2 := ite_t hr2 hc2
      refine W_reg ?_
      refine WL_move rfl rfl ?_
      obtain ⟨x5, hx1, hr2⟩ := bind_some hr2
      refine WL_str_add hx1 rfl rfl rfl ?_
      refine WL_assign rfl rfl ?_
      refine WL_nil ?_
      have hq1 := Option.some.inj hr2
      subst hq1
      refine nrm_sub (l' := [(0, u1), (3, (sv x5)), (4, (.int .i64 x2))]) ⟨rfl, rfl, rfl, trivial⟩ ?_
      exact ⟨x5, rfl, rfl, (Below.refl _ _), hC1⟩
     replace hr2 := ite_f hr2 hc2
     refine W_skip ?_
     have hq2 := Option.some.inj hr2
     subst hq2
     refine nrm_sub (l' := [(0, u1), (3, (sv x1)), (4, (.int .i64 x2))]) ⟨rfl, rfl, rfl, trivial⟩ ?_
     exact ⟨x1, rfl, rfl, (Below.refl _ _), hC1⟩
    rintro l2 _ w2 hs2 ⟨x4, rfl, rfl, hB2, hC2⟩
    try dsimp only at hL1
    refine nrm_sub' hs2 ?_
    clear hs2
    refine W_reg ?_
    refine WL_move rfl rfl ?_
    refine WL_move rfl rfl ?_
    refine WL_move rfl rfl ?_
    obtain ⟨x6, hx2, hL1⟩ := bind_some hL1
    refine WL_index Tryd.underlying22 ty3 g1 hx2 rfl rfl rfl (fun b1 o1 h1 => ?_)
    refine WL_load ty3 h1 hC2.keep rfl rfl (fun v1 h2 => ?_)
    obtain rfl := ro_int h2
    obtain ⟨x7, hr3, hL1⟩ := bind_some hL1
    refine WL_call Tryd.call41 rfl rfl (c_S_FormatInt x6 x7 hr3) ?_
    intro _ w3 hv1
    obtain ⟨rfl, hB3⟩ := res_str hv1
    have hC3 := hC2.grow hB3
    obtain ⟨x8, hx3, hL1⟩ := bind_some hL1
    refine WL_str_add hx3 rfl rfl rfl ?_
    refine WL_assign rfl rfl ?_
    refine WL_nil (blk_normal (nrm_normal (W_reg ?_)))
    refine WL_move rfl rfl ?_
    refine WL_add rfl rfl rfl ?_
    refine WL_assign rfl rfl ?_
    refine WL_nil ?_
    refine nrm_sub (l' := [(0, u1), (3, (sv x8)), (4, (.int .i64 (w64 (x2 + 1))))]) ⟨rfl, rfl, rfl, trivial⟩ ?_
    exact ⟨k1, Nat.lt_succ_self _, x8, w64 (x2 + 1), rfl, (((Keep.of hB1).then hB2).then hB3).below, hC3, hL1⟩
   replace hL1 := ite_f hL1 hc1
   refine W_exit (nrm_exit (nrm_exit (blk_exit ?_)))
   have hq3 := Option.some.inj hL1
   subst hq3
   refine nrm_sub (l' := [(3, (sv x1))]) ⟨rfl, trivial⟩ ?_
   exact ⟨x1, rfl, rfl, (Keep.of hB1).below, hC1⟩
 rintro l3 _ w4 hs3 ⟨x3, rfl, rfl, hB4, hC4⟩
 try dsimp only at hF
 refine nrm_sub' hs3 ?_
 clear hs3
 refine W_seq_reg ?_
 refine WL_move rfl rfl ?_
 refine WL_assign rfl rfl ?_
 refine WL_nil (W_ret ?_)
 have hq4 := Option.some.inj hF
 subst hq4
 refine fn_ret1 rfl rfl ?_
 exact ⟨_, rfl, str_res hC4 _⟩

theorem c_S_FormatAccess {w0 : World} (a1 : (Int × (List Int))) (u1 : Value) (g1 : RO [] w0 u1 a1.2) (rr : Str) (hF : S.FormatAccess a1 = some rr) :
 Calls Tryd.prog 39 [(.agg #[(.int .i64 a1.1), u1])].toArray w0 fun e w' => ∃ v, e = .returned v ∧ Res w0 rr v w' := by
 refine calls_of_W Tryd.func39 rfl rfl ?_
 have hC0 := Ctx.start w0
 unfold S.FormatAccess at hF
 refine W_seq_reg ?_
 refine WL_boxK (cs := [(.int .i64 a1.1), u1]) hC0 rfl rfl rfl (fun b1 w1 hC1 hB1 hN1 => ?_)
 refine WL_assign rfl rfl ?_
 refine WL_nil (W_seq ?_)
 obtain ⟨r1, hr1, hF⟩ := bind_some hF
 refine W_cut (fun l w => ∃ x1 : Bool, x1 = r1 ∧ l = [(1, (ptr b1 0)), (13, (.bool x1))] ∧ Below w1.heap.size w1 w ∧ Ctx [] w0 w [Item.box b1 [(.int .i64 a1.1), u1]]) ?_ ?_
 ·refine W_reg ?_
  refine WL_field Tryd.underlying29 rfl rfl (fun w => ⟨_, Tryd.sizeOf3 w⟩) rfl rfl ?_
  refine WL_load_box hC1 0 rfl rfl Tryd.isAgg3 rfl rfl ?_
  obtain ⟨x2, hr2, hr1⟩ := bind_some hr1
  refine WL_call Tryd.call40 rfl rfl (c_S_l1In a1.1 0 4 x2 hr2) ?_
  intro _ w3 hv1
  obtain ⟨rfl, hB3⟩ := res_bool hv1
  have hC3 := hC1.grow hB3
  refine WL_not rfl rfl ?_
  refine WL_move rfl rfl ?_
  refine WL_fork (fun hc1 => ?_) (fun hc1 => ?_)
  ·replace hr1 := ite_t hr1 hc1
   refine WL_guard_skip rfl rfl (by simp) rfl ?_
   refine WL_guard_skip rfl rfl (by simp) rfl ?_
   refine WL_guard_skip rfl rfl (by simp) rfl ?_
   refine WL_guard_skip rfl rfl (by simp) rfl ?_
   refine WL_pick_t rfl rfl rfl ?_
   refine WL_nil ?_
   have hq1 := Option.some.inj hr1
   subst hq1
   refine nrm_sub (l' := [(1, (ptr b1 0)), (13, (.bool true))]) ⟨rfl, rfl, trivial⟩ ?_
   exact ⟨true, rfl, rfl, (Keep.of hB3).below, hC3⟩
  replace hr1 := ite_f hr1 hc1
  refine WL_guard rfl rfl ?_
  refine WL_field Tryd.underlying29 rfl rfl (fun w => ⟨_, Tryd.sizeOf22 w⟩) rfl rfl ?_
  refine WL_guard rfl rfl ?_
  refine WL_load_box hC3 0 rfl rfl Tryd.isAgg22 rfl rfl ?_
  refine WL_guard rfl rfl ?_
  refine WL_len Tryd.underlying22 g1 rfl rfl ?_
  refine WL_guard rfl rfl ?_
  refine WL_gtr rfl rfl rfl ?_
  refine WL_pick_f rfl rfl rfl ?_
  refine WL_nil ?_
  have hq2 := Option.some.inj hr1
  subst hq2
  refine nrm_sub (l' := [(1, (ptr b1 0)), (13, (.bool (decide (3 < (List.length a1.2 : Int)))))]) ⟨rfl, rfl, trivial⟩ ?_
  exact ⟨(decide (3 < (List.length a1.2 : Int))), rfl, rfl, (Keep.of hB3).below, hC3⟩
 rintro _ w2 ⟨x1, rfl, rfl, hB2, hC2⟩
 try dsimp only at hF
 refine W_cond rfl (fun hc2 => ?_) (fun hc2 => ?_)
 ·replace hF := ite_t hF hc2
  refine W_seq_reg ?_
  refine WL_assign rfl rfl ?_
  refine WL_nil (W_ret (nrm_ret ?_))
  have hq3 := Option.some.inj hF
  subst hq3
  refine fn_ret1 rfl rfl ?_
  exact ⟨_, rfl, str_res hC2 _⟩
 replace hF := ite_f hF hc2
 refine W_skip (nrm_normal (W_seq (W_seq_reg ?_)))
 refine WL_assign rfl rfl ?_
 refine WL_nil ?_
 obtain ⟨r2, hr3, hF⟩ := bind_some hF
 refine W_norm (fun l w => .inl () = r2 ∧ l = [(1, (ptr b1 0))] ∧ Below w2.heap.size w2 w ∧ Ctx [] w0 w [Item.box b1 [(.int .i64 a1.1), u1]]) ?_ ?_
 ·refine W_block ?_
  refine W.sub (l' := [(1, (ptr b1 0)), (3, (.int .i64 0))]) ?_ ⟨rfl, rfl, trivial⟩
  refine W_loop (fun k l w => ∃ x3 : Int, l = [(1, (ptr b1 0)), (3, (.int .i64 x3))] ∧ Below w2.heap.size w2 w ∧ Ctx [] w0 w [Item.box b1 [(.int .i64 a1.1), u1]] ∧ S.FormatAccess_l1 a1 k x3 = some r2) FUEL ⟨0, rfl, (Below.refl _ _), hC2, hr3⟩ ?_
  clear hr3
  rintro k1 _ w4 ⟨x3, rfl, hB4, hC4, hL1⟩
  cases k1 with
  | zero => rw [S.FormatAccess_l1] at hL1; cases hL1
  | succ k1 =>
   rw [S.FormatAccess_l1] at hL1
   refine W_seq (W_seq_reg ?_)
   refine WL_move rfl rfl ?_
   refine WL_field Tryd.underlying29 rfl rfl (fun w => ⟨_, Tryd.sizeOf22 w⟩) rfl rfl ?_
   refine WL_load_box hC4 0 rfl rfl Tryd.isAgg22 rfl rfl ?_
   refine WL_len Tryd.underlying22 g1 rfl rfl ?_
   refine WL_lss rfl rfl rfl ?_
   refine WL_nil ?_
   refine W_cond rfl (fun hc3 => ?_) (fun hc3 => ?_)
   ·replace hL1 := ite_t hL1 hc3
    refine W_skip (nrm_normal (W_seq (W_block (W_seq_reg ?_))))
    refine WL_field Tryd.underlying29 rfl rfl (fun w => ⟨_, Tryd.sizeOf22 w⟩) rfl rfl ?_
    refine WL_load_box hC4 0 rfl rfl Tryd.isAgg22 rfl rfl ?_
    refine WL_move rfl rfl ?_
    obtain ⟨x4, hx1, hL1⟩ := bind_some hL1
    refine WL_index Tryd.underlying22 ty3 g1 hx1 rfl rfl rfl (fun b2 o1 h1 => ?_)
    refine WL_load ty3 h1 hC4.keep rfl rfl (fun v1 h2 => ?_)
    obtain rfl := ro_int h2
    obtain ⟨x5, hr4, hL1⟩ := bind_some hL1
    refine WL_call Tryd.call40 rfl rfl (c_S_l1In x4 0 9 x5 hr4) ?_
    intro _ w5 hv2
    obtain ⟨rfl, hB5⟩ := res_bool hv2
    have hC5 := hC4.grow hB5
    refine WL_not rfl rfl ?_
    refine WL_nil ?_
    refine W_cond rfl (fun hc4 => ?_) (fun hc4 => ?_)
    ·replace hL1 := ite_t hL1 hc4
     refine W_seq_reg ?_
     refine WL_assign rfl rfl ?_
     refine WL_nil (W_ret (blk_ret (nrm_ret (nrm_ret (blk_ret (nrm_ret (nrm_ret ?_)))))))
     have hq4 := Option.some.inj hL1
     subst hq4
     dsimp only at hF
     have hq5 := Option.some.inj hF
     subst hq5
     refine fn_ret1 rfl rfl ?_
     exact ⟨_, rfl, str_res hC5 _⟩
    replace hL1 := ite_f hL1 hc4
    refine W_skip (blk_normal (nrm_normal (W_reg ?_)))
    refine WL_move rfl rfl ?_
    refine WL_add rfl rfl rfl ?_
    refine WL_assign rfl rfl ?_
    refine WL_nil ?_
    refine nrm_sub (l' := [(1, (ptr b1 0)), (3, (.int .i64 (w64 (x3 + 1))))]) ⟨rfl, rfl, trivial⟩ ?_
    exact ⟨k1, Nat.lt_succ_self _, w64 (x3 + 1), rfl, ((Keep.of hB4).then hB5).below, hC5, hL1⟩
   replace hL1 := ite_f hL1 hc3
   refine W_exit (nrm_exit (nrm_exit (blk_exit ?_)))
   have hq6 := Option.some.inj hL1
   subst hq6
   refine nrm_sub (l' := [(1, (ptr b1 0))]) ⟨rfl, trivial⟩ ?_
   exact ⟨rfl, rfl, (Keep.of hB4).below, hC4⟩
 rintro l3 _ w6 hs3 ⟨rfl, rfl, hB6, hC6⟩
 try dsimp only at hF
 refine nrm_sub' hs3 ?_
 clear hs3
 refine W_seq ?_
 refine W_drawn 11 rfl hmix (fun w7 hB7 => ?_)
 have hC7 := hC6.grow hB7
 refine WA_tk 0 (by kernel_rfl) rfl rfl (fl_field Tryd.underlying29 rfl rfl (fun w => ⟨_, Tryd.sizeOf3 w⟩) rfl) ?_
 refine WL_field Tryd.underlying29 rfl rfl (fun w => ⟨_, Tryd.sizeOf3 w⟩) rfl rfl ?_
 refine WL_nil ?_
 refine WA_tk 5 (by kernel_rfl) rfl rfl (fl_field Tryd.underlying29 rfl rfl (fun w => ⟨_, Tryd.sizeOf22 w⟩) rfl) ?_
 refine WL_field Tryd.underlying29 rfl rfl (fun w => ⟨_, Tryd.sizeOf22 w⟩) rfl rfl ?_
 refine WL_nil ?_
 obtain ⟨x6, hr5, hF⟩ := bind_some hF
 obtain ⟨x7, hx2, hF⟩ := bind_some hF
 obtain ⟨x8, hx3, hF⟩ := bind_some hF
 obtain ⟨x9, hr6, hF⟩ := bind_some hF
 refine WA.sub (l' := [(1, (ptr b1 0)), (28, (ptr b1 0)), (33, (ptr b1 1))]) ?_ ⟨rfl, rfl, rfl, trivial⟩
 refine WA_postsE [⟨1, [], fun vs => PW.val (.int .i64 a1.1), []⟩, ⟨2, [], fun vs => PW.val (sv x6), []⟩, ⟨3, [], fun vs => PW.val (sv x7), []⟩, ⟨4, [], fun vs => PW.val (sv x8), []⟩, ⟨6, [], fun vs => PW.val u1, []⟩, ⟨7, [], fun vs => PW.val (sv x9), []⟩] [[], [1], [2], [3], [], [6]] 3 rfl (by kernel_rfl) (by kernel_rfl) rfl ?_ ?_
 ·refine StepsE_cons rfl ?_ ?_
  ·intro w11 hB10
   refine DepsE_nil ?_
   refine ⟨_, rfl, ?_⟩
   refine WL_load_box (hC7.grow hB10) 0 rfl rfl Tryd.isAgg3 rfl rfl ?_
   refine WL_nil ?_
   exact FinE_val (Below.refl _ _) rfl rfl ⟨rfl, rfl⟩
  refine StepsE_cons rfl ?_ ?_
  ·intro w11 hB10
   refine DepsE_cons rfl rfl rfl ?_
   rintro _ _ ⟨rfl, rfl⟩ _
   refine DepsE_nil ?_
   refine ⟨_, rfl, ?_⟩
   refine WL_call Tryd.call41 rfl rfl (c_S_FormatInt a1.1 x6 hr5) ?_
   intro _ w9 hv3
   obtain ⟨rfl, hB8⟩ := res_str hv3
   refine WL_nil ?_
   exact FinE_val hB8 rfl rfl ⟨rfl, rfl⟩
  refine StepsE_cons rfl ?_ ?_
  ·intro w11 hB10
   refine DepsE_cons rfl rfl rfl ?_
   rintro _ _ ⟨rfl, rfl⟩ _
   refine DepsE_nil ?_
   refine ⟨_, rfl, ?_⟩
   refine WL_str_add hx2 rfl rfl rfl ?_
   refine WL_nil ?_
   exact FinE_val (Below.refl _ _) rfl rfl ⟨rfl, rfl⟩
  refine StepsE_cons rfl ?_ ?_
  ·intro w11 hB10
   refine DepsE_cons rfl rfl rfl ?_
   rintro _ _ ⟨rfl, rfl⟩ _
   refine DepsE_nil ?_
   refine ⟨_, rfl, ?_⟩
   refine WL_str_add hx3 rfl rfl rfl ?_
   refine WL_nil ?_
   exact FinE_val (Below.refl _ _) rfl rfl ⟨rfl, rfl⟩
  refine StepsE_cons rfl ?_ ?_
  ·intro w11 hB10
   refine DepsE_nil ?_
   refine ⟨_, rfl, ?_⟩
   refine WL_load_box (hC7.grow hB10) 0 rfl rfl Tryd.isAgg22 rfl rfl ?_
   refine WL_nil ?_
   exact FinE_val (Below.refl _ _) rfl rfl ⟨rfl, rfl⟩
  refine StepsE_cons rfl ?_ ?_
  ·intro w11 hB10
   refine DepsE_cons rfl rfl rfl ?_
   rintro _ _ ⟨rfl, rfl⟩ _
   refine DepsE_nil ?_
   refine ⟨_, rfl, ?_⟩
   refine WL_call Tryd.call71 rfl rfl (c_S_l2List a1.2 u1 (g1.now (hC7.keep.then hB10)) x9 hr6) ?_
   intro _ w10 hv4
   obtain ⟨rfl, hB9⟩ := res_str hv4
   refine WL_nil ?_
   exact FinE_val hB9 rfl rfl ⟨rfl, rfl⟩
  exact StepsE_nil
 intro w12 hB11
 refine AllE_cons rfl rfl rfl ?_
 rintro _ _ ⟨rfl, rfl⟩
 refine AllE_cons rfl rfl rfl ?_
 rintro _ _ ⟨rfl, rfl⟩
 refine AllE_cons rfl rfl rfl ?_
 rintro _ _ ⟨rfl, rfl⟩
 refine AllE_cons rfl rfl rfl ?_
 rintro _ _ ⟨rfl, rfl⟩
 refine AllE_cons rfl rfl rfl ?_
 rintro _ _ ⟨rfl, rfl⟩
 refine AllE_cons rfl rfl rfl ?_
 rintro _ _ ⟨rfl, rfl⟩
 refine AllE_nil ?_
 intro hn1 hb1
 have hC8 := hC7.grow hB11
 obtain ⟨x10, hx4, hF⟩ := bind_some hF
 refine WA_tk 8 (by kernel_rfl) rfl rfl (fl_str_add hx4 rfl rfl) ?_
 refine WL_str_add hx4 rfl rfl rfl ?_
 refine WL_nil ?_
 obtain ⟨x11, hx5, hF⟩ := bind_some hF
 refine WA_tk 9 (by kernel_rfl) rfl rfl (fl_str_add hx5 rfl rfl) ?_
 refine WL_str_add hx5 rfl rfl rfl ?_
 refine WL_nil ?_
 refine WA_tk 10 (by kernel_rfl) rfl rfl (fl_assign rfl) ?_
 refine WL_assign rfl rfl ?_
 refine WL_nil ?_
 refine WA_done (by kernel_rfl) ?_
 refine nrm_normal (W_ret ?_)
 have hq7 := Option.some.inj hF
 subst hq7
 refine fn_ret1 rfl rfl ?_
 exact ⟨_, rfl, str_res hC8 _⟩

theorem c_S_FormatCursor {w0 : World} (a1 : ((Int × (List Int)) × Int × Int)) (u1 : Value) (g1 : RO [] w0 u1 a1.1.2) (rr : Str) (hF : S.FormatCursor a1 = some rr) :
 Calls Tryd.prog 10 [(.agg #[(.int .i64 a1.1.1), u1, (.int .i64 a1.2.1), (.int .i64 a1.2.2)])].toArray w0 fun e w' => ∃ v, e = .returned v ∧ Res w0 rr v w' := by
 refine calls_of_W Tryd.func10 rfl rfl ?_
 have hC0 := Ctx.start w0
 unfold S.FormatCursor at hF
 refine W_seq_reg ?_
 refine WL_boxK (cs := [(.int .i64 a1.1.1), u1, (.int .i64 a1.2.1), (.int .i64 a1.2.2)]) hC0 rfl rfl rfl (fun b1 w1 hC1 hB1 hN1 => ?_)
 refine WL_assign rfl rfl ?_
 refine WL_nil (W_seq_reg ?_)
 refine WL_field Tryd.underlying31 rfl rfl (fun w => ⟨_, Tryd.sizeOf29 w⟩) rfl rfl ?_
 refine WL_load_box_agg [(.int .i64 a1.1.1), u1] hC1 0 rfl rfl rfl Tryd.isAgg29 Tryd.sizeOf29 rfl rfl ?_
 obtain ⟨x1, hr1, hF⟩ := bind_some hF
 refine WL_call Tryd.call39 rfl rfl (c_S_FormatAccess (a1.1.1, a1.1.2) u1 (g1.now hC1.keep) x1 hr1) ?_
 intro _ w2 hv1
 obtain ⟨rfl, hB2⟩ := res_str hv1
 have hC2 := hC1.grow hB2
 refine WL_assign rfl rfl ?_
 refine WL_nil (W_seq ?_)
 obtain ⟨r1, hr2, hF⟩ := bind_some hF
 refine W_cut (fun l w => ∃ x2 : Bool, x2 = r1 ∧ l = [(1, (ptr b1 0)), (3, (sv x1)), (20, (.bool x2))] ∧ Below w2.heap.size w2 w ∧ Ctx [] w0 w [Item.box b1 [(.int .i64 a1.1.1), u1, (.int .i64 a1.2.1), (.int .i64 a1.2.2)]]) ?_ ?_
 ·refine W_reg ?_
  refine WL_move rfl rfl ?_
  refine WL_str_eql rfl rfl rfl ?_
  refine WL_move rfl rfl ?_
  refine WL_fork (fun hc1 => ?_) (fun hc1 => ?_)
  ·replace hr2 := ite_t hr2 hc1
   refine WL_guard_skip rfl rfl (by simp) rfl ?_
   refine WL_guard_skip rfl rfl (by simp) rfl ?_
   refine WL_guard_skip rfl rfl (by simp) rfl ?_
   refine WL_guard_skip rfl rfl (by simp) rfl ?_
   refine WL_pick_t rfl rfl rfl ?_
   refine WL_move rfl rfl ?_
   refine WL_guard_skip rfl rfl (by simp) rfl ?_
   refine WL_guard_skip rfl rfl (by simp) rfl ?_
   refine WL_guard_skip rfl rfl (by simp) rfl ?_
   refine WL_guard_skip rfl rfl (by simp) rfl ?_
   refine WL_pick_t rfl rfl rfl ?_
   refine WL_nil ?_
   have hq1 := Option.some.inj hr2
   subst hq1
   refine nrm_sub (l' := [(1, (ptr b1 0)), (3, (sv x1)), (20, (.bool true))]) ⟨rfl, rfl, rfl, trivial⟩ ?_
   exact ⟨true, rfl, rfl, (Below.refl _ _), hC2⟩
  replace hr2 := ite_f hr2 hc1
  refine WL_guard rfl rfl ?_
  refine WL_field Tryd.underlying31 rfl rfl (fun w => ⟨_, Tryd.sizeOf3 w⟩) rfl rfl ?_
  refine WL_guard rfl rfl ?_
  refine WL_load_box hC2 0 rfl rfl Tryd.isAgg3 rfl rfl ?_
  obtain ⟨x3, hr3, hr2⟩ := bind_some hr2
  refine WL_guard rfl rfl ?_
  refine WL_call Tryd.call40 rfl rfl (c_S_l1In a1.2.1 0 1000 x3 hr3) ?_
  intro _ w4 hv2
  obtain ⟨rfl, hB4⟩ := res_bool hv2
  have hC4 := hC2.grow hB4
  refine WL_guard rfl rfl ?_
  refine WL_not rfl rfl ?_
  refine WL_pick_f rfl rfl rfl ?_
  refine WL_move rfl rfl ?_
  refine WL_fork (fun hc2 => ?_) (fun hc2 => ?_)
  ·replace hr2 := ite_t hr2 hc2
   refine WL_guard_skip rfl rfl (by simp) rfl ?_
   refine WL_guard_skip rfl rfl (by simp) rfl ?_
   refine WL_guard_skip rfl rfl (by simp) rfl ?_
   refine WL_guard_skip rfl rfl (by simp) rfl ?_
   refine WL_pick_t rfl rfl rfl ?_
   refine WL_nil ?_
   have hq2 := Option.some.inj hr2
   subst hq2
   refine nrm_sub (l' := [(1, (ptr b1 0)), (3, (sv x1)), (20, (.bool true))]) ⟨rfl, rfl, rfl, trivial⟩ ?_
   exact ⟨true, rfl, rfl, (Keep.of hB4).below, hC4⟩
  replace hr2 := ite_f hr2 hc2
  refine WL_guard rfl rfl ?_
  refine WL_field Tryd.underlying31 rfl rfl (fun w => ⟨_, Tryd.sizeOf3 w⟩) rfl rfl ?_
  refine WL_guard rfl rfl ?_
  refine WL_load_box hC4 0 rfl rfl Tryd.isAgg3 rfl rfl ?_
  obtain ⟨x4, hr4, hr2⟩ := bind_some hr2
  refine WL_guard rfl rfl ?_
  refine WL_call Tryd.call40 rfl rfl (c_S_l1In a1.2.2 0 1000 x4 hr4) ?_
  intro _ w5 hv3
  obtain ⟨rfl, hB5⟩ := res_bool hv3
  have hC5 := hC4.grow hB5
  refine WL_guard rfl rfl ?_
  refine WL_not rfl rfl ?_
  refine WL_pick_f rfl rfl rfl ?_
  refine WL_nil ?_
  have hq3 := Option.some.inj hr2
  subst hq3
  refine nrm_sub (l' := [(1, (ptr b1 0)), (3, (sv x1)), (20, (.bool (!x4)))]) ⟨rfl, rfl, rfl, trivial⟩ ?_
  exact ⟨(!x4), rfl, rfl, ((Keep.of hB4).then hB5).below, hC5⟩
 rintro _ w3 ⟨x2, rfl, rfl, hB3, hC3⟩
 try dsimp only at hF
 refine W_cond rfl (fun hc3 => ?_) (fun hc3 => ?_)
 ·replace hF := ite_t hF hc3
  refine W_seq_reg ?_
  refine WL_assign rfl rfl ?_
  refine WL_nil (W_ret (nrm_ret ?_))
  have hq4 := Option.some.inj hF
  subst hq4
  refine fn_ret1 rfl rfl ?_
  exact ⟨_, rfl, str_res hC3 _⟩
 replace hF := ite_f hF hc3
 refine W_skip (nrm_normal (W_seq ?_))
 refine W_drawn 12 rfl hmix (fun w6 hB6 => ?_)
 have hC6 := hC3.grow hB6
 refine WA_tk 0 (by kernel_rfl) rfl rfl (fl_move rfl) ?_
 refine WL_move rfl rfl ?_
 refine WL_nil ?_
 obtain ⟨x5, hx1, hF⟩ := bind_some hF
 refine WA_tk 1 (by kernel_rfl) rfl rfl (fl_str_add hx1 rfl rfl) ?_
 refine WL_str_add hx1 rfl rfl rfl ?_
 refine WL_nil ?_
 refine WA_tk 2 (by kernel_rfl) rfl rfl (fl_field Tryd.underlying31 rfl rfl (fun w => ⟨_, Tryd.sizeOf3 w⟩) rfl) ?_
 refine WL_field Tryd.underlying31 rfl rfl (fun w => ⟨_, Tryd.sizeOf3 w⟩) rfl rfl ?_
 refine WL_nil ?_
 refine WA_tk 7 (by kernel_rfl) rfl rfl (fl_field Tryd.underlying31 rfl rfl (fun w => ⟨_, Tryd.sizeOf3 w⟩) rfl) ?_
 refine WL_field Tryd.underlying31 rfl rfl (fun w => ⟨_, Tryd.sizeOf3 w⟩) rfl rfl ?_
 refine WL_nil ?_
 obtain ⟨x6, hr5, hF⟩ := bind_some hF
 obtain ⟨x7, hx2, hF⟩ := bind_some hF
 obtain ⟨x8, hx3, hF⟩ := bind_some hF
 obtain ⟨x9, hr6, hF⟩ := bind_some hF
 refine WA.sub (l' := [(1, (ptr b1 0)), (3, (sv x1)), (20, (.bool x2)), (21, (sv x1)), (22, (sv x5)), (23, (ptr b1 2)), (28, (ptr b1 3))]) ?_ ⟨rfl, rfl, rfl, rfl, rfl, rfl, rfl, trivial⟩
 refine WA_postsE [⟨3, [], fun vs => PW.val (.int .i64 a1.2.1), []⟩, ⟨4, [], fun vs => PW.val (sv x6), []⟩, ⟨5, [], fun vs => PW.val (sv x7), []⟩, ⟨6, [], fun vs => PW.val (sv x8), []⟩, ⟨8, [], fun vs => PW.val (.int .i64 a1.2.2), []⟩, ⟨9, [], fun vs => PW.val (sv x9), []⟩] [[], [3], [4], [5], [], [8]] 2 rfl (by kernel_rfl) (by kernel_rfl) rfl ?_ ?_
 ·refine StepsE_cons rfl ?_ ?_
  ·intro w10 hB9
   refine DepsE_nil ?_
   refine ⟨_, rfl, ?_⟩
   refine WL_load_box (hC6.grow hB9) 0 rfl rfl Tryd.isAgg3 rfl rfl ?_
   refine WL_nil ?_
   exact FinE_val (Below.refl _ _) rfl rfl ⟨rfl, rfl⟩
  refine StepsE_cons rfl ?_ ?_
  ·intro w10 hB9
   refine DepsE_cons rfl rfl rfl ?_
   rintro _ _ ⟨rfl, rfl⟩ _
   refine DepsE_nil ?_
   refine ⟨_, rfl, ?_⟩
   refine WL_call Tryd.call41 rfl rfl (c_S_FormatInt a1.2.1 x6 hr5) ?_
   intro _ w7 hv4
   obtain ⟨rfl, hB7⟩ := res_str hv4
   refine WL_nil ?_
   exact FinE_val hB7 rfl rfl ⟨rfl, rfl⟩
  refine StepsE_cons rfl ?_ ?_
  ·intro w10 hB9
   refine DepsE_cons rfl rfl rfl ?_
   rintro _ _ ⟨rfl, rfl⟩ _
   refine DepsE_nil ?_
   refine ⟨_, rfl, ?_⟩
   refine WL_str_add hx2 rfl rfl rfl ?_
   refine WL_nil ?_
   exact FinE_val (Below.refl _ _) rfl rfl ⟨rfl, rfl⟩
  refine StepsE_cons rfl ?_ ?_
  ·intro w10 hB9
   refine DepsE_cons rfl rfl rfl ?_
   rintro _ _ ⟨rfl, rfl⟩ _
   refine DepsE_nil ?_
   refine ⟨_, rfl, ?_⟩
   refine WL_str_add hx3 rfl rfl rfl ?_
   refine WL_nil ?_
   exact FinE_val (Below.refl _ _) rfl rfl ⟨rfl, rfl⟩
  refine StepsE_cons rfl ?_ ?_
  ·intro w10 hB9
   refine DepsE_nil ?_
   refine ⟨_, rfl, ?_⟩
   refine WL_load_box (hC6.grow hB9) 0 rfl rfl Tryd.isAgg3 rfl rfl ?_
   refine WL_nil ?_
   exact FinE_val (Below.refl _ _) rfl rfl ⟨rfl, rfl⟩
  refine StepsE_cons rfl ?_ ?_
  ·intro w10 hB9
   refine DepsE_cons rfl rfl rfl ?_
   rintro _ _ ⟨rfl, rfl⟩ _
   refine DepsE_nil ?_
   refine ⟨_, rfl, ?_⟩
   refine WL_call Tryd.call41 rfl rfl (c_S_FormatInt a1.2.2 x9 hr6) ?_
   intro _ w9 hv5
   obtain ⟨rfl, hB8⟩ := res_str hv5
   refine WL_nil ?_
   exact FinE_val hB8 rfl rfl ⟨rfl, rfl⟩
  exact StepsE_nil
 intro w11 hB10
 refine AllE_cons rfl rfl rfl ?_
 rintro _ _ ⟨rfl, rfl⟩
 refine AllE_cons rfl rfl rfl ?_
 rintro _ _ ⟨rfl, rfl⟩
 refine AllE_cons rfl rfl rfl ?_
 rintro _ _ ⟨rfl, rfl⟩
 refine AllE_cons rfl rfl rfl ?_
 rintro _ _ ⟨rfl, rfl⟩
 refine AllE_cons rfl rfl rfl ?_
 rintro _ _ ⟨rfl, rfl⟩
 refine AllE_cons rfl rfl rfl ?_
 rintro _ _ ⟨rfl, rfl⟩
 refine AllE_nil ?_
 intro hn1 hb1
 have hC7 := hC6.grow hB10
 obtain ⟨x10, hx4, hF⟩ := bind_some hF
 refine WA_tk 10 (by kernel_rfl) rfl rfl (fl_str_add hx4 rfl rfl) ?_
 refine WL_str_add hx4 rfl rfl rfl ?_
 refine WL_nil ?_
 refine WA_tk 11 (by kernel_rfl) rfl rfl (fl_assign rfl) ?_
 refine WL_assign rfl rfl ?_
 refine WL_nil ?_
 refine WA_done (by kernel_rfl) ?_
 refine nrm_normal (W_ret ?_)
 have hq5 := Option.some.inj hF
 subst hq5
 refine fn_ret1 rfl rfl ?_
 exact ⟨_, rfl, str_res hC7 _⟩

theorem c_Q_toIntS {w0 : World} (a1 : (List Int)) (u1 : Value) (g1 : RO [] w0 u1 a1) (rr : (List Int)) (hF : Q.toIntS a1 = some rr) :
 Calls Tryd.prog 47 [u1].toArray w0 fun e w' => ∃ v, e = .returned v ∧ Res w0 rr v w' := by
 refine calls_of_W Tryd.func47 rfl rfl ?_
 have hC0 := Ctx.start w0
 unfold Q.toIntS at hF
 refine W_seq_reg ?_
 refine WL_assign rfl rfl ?_
 refine WL_nil (W_seq_reg ?_)
 refine WL_move rfl rfl ?_
 refine WL_len Tryd.underlying22 g1 rfl rfl ?_
 obtain ⟨x1, hx1, hF⟩ := bind_some hF
 refine WL_makeSlice hC0 Tryd.underlying22 ty3 rfl zc3 zr3 hx1 rfl rfl rfl (fun b1 w1 hC1 hB1 => ?_)
 refine WL_assign rfl rfl ?_
 refine WL_nil (W_seq (W_seq_reg ?_))
 refine WL_assign rfl rfl ?_
 refine WL_nil ?_
 obtain ⟨r1, hr1, hF⟩ := bind_some hF
 refine W_norm (fun l w => ∃ x4 : (List Int), x4 = r1 ∧ l = [(3, (.slice (some ⟨b1, 0, none⟩) (Int.toNat (List.length a1 : Int)) (Int.toNat (List.length a1 : Int))))] ∧ Ctx [] w0 w [Item.own (.slice (some ⟨b1, 0, none⟩) (Int.toNat (List.length a1 : Int)) (Int.toNat (List.length a1 : Int))) (x4 : (List Int))]) ?_ ?_
 ·refine W_block ?_
  refine W.sub (l' := [(0, u1), (3, (.slice (some ⟨b1, 0, none⟩) (Int.toNat (List.length a1 : Int)) (Int.toNat (List.length a1 : Int)))), (4, (.int .i64 0))]) ?_ ⟨rfl, rfl, rfl, trivial⟩
  refine W_loop (fun k l w => ∃ x2 : (List Int), ∃ x3 : Int, l = [(0, u1), (3, (.slice (some ⟨b1, 0, none⟩) (Int.toNat (List.length a1 : Int)) (Int.toNat (List.length a1 : Int)))), (4, (.int .i64 x3))] ∧ Ctx [] w0 w [Item.own (.slice (some ⟨b1, 0, none⟩) (Int.toNat (List.length a1 : Int)) (Int.toNat (List.length a1 : Int))) (x2 : (List Int))] ∧ Q.toIntS_l1 a1 k x2 x3 = some r1) FUEL ⟨x1, 0, rfl, hC1, hr1⟩ ?_
  clear hr1
  rintro k1 _ w2 ⟨x2, x3, rfl, hC2, hL1⟩
  cases k1 with
  | zero => rw [Q.toIntS_l1] at hL1; cases hL1
  | succ k1 =>
   rw [Q.toIntS_l1] at hL1
   refine W_seq (W_seq_reg ?_)
   refine WL_move rfl rfl ?_
   refine WL_move rfl rfl ?_
   refine WL_len Tryd.underlying22 g1 rfl rfl ?_
   refine WL_lss rfl rfl rfl ?_
   refine WL_nil ?_
   refine W_cond rfl (fun hc1 => ?_) (fun hc1 => ?_)
   ·replace hL1 := ite_t hL1 hc1
    refine W_skip (nrm_normal (W_seq (W_block (W_reg ?_))))
    refine WL_move rfl rfl ?_
    refine WL_move rfl rfl ?_
    refine WL_move rfl rfl ?_
    refine WL_move rfl rfl ?_
    obtain ⟨x5, hx2, hL1⟩ := bind_some hL1
    refine WL_index Tryd.underlying22 ty3 g1 hx2 rfl rfl rfl (fun b2 o1 h1 => ?_)
    refine WL_load ty3 h1 hC2.keep rfl rfl (fun v1 h2 => ?_)
    obtain rfl := ro_int h2
    obtain ⟨x6, hx3, hL1⟩ := bind_some hL1
    refine WL_index_own hC2 0 rfl Tryd.underlying22 ty3 hx3 rfl rfl rfl (fun b3 hE1 => ?_)
    have hC4 := hC2.triv (int_val (x5))
    refine WL_store_elem hC4 0 rfl ty3 hE1 hx3 rfl rfl rfl (fun w3 hC3 => ?_)
    try dsimp only [List.set] at hC3
    refine WL_nil (blk_normal (nrm_normal (W_reg ?_)))
    refine WL_move rfl rfl ?_
    refine WL_add rfl rfl rfl ?_
    refine WL_assign rfl rfl ?_
    refine WL_nil ?_
    refine nrm_sub (l' := [(0, u1), (3, (.slice (some ⟨b1, 0, none⟩) (Int.toNat (List.length a1 : Int)) (Int.toNat (List.length a1 : Int)))), (4, (.int .i64 (w64 (x3 + 1))))]) ⟨rfl, rfl, rfl, trivial⟩ ?_
    exact ⟨k1, Nat.lt_succ_self _, (List.set x2 (Int.toNat x3) x5), w64 (x3 + 1), rfl, hC3, hL1⟩
   replace hL1 := ite_f hL1 hc1
   refine W_exit (nrm_exit (nrm_exit (blk_exit ?_)))
   have hq1 := Option.some.inj hL1
   subst hq1
   refine nrm_sub (l' := [(3, (.slice (some ⟨b1, 0, none⟩) (Int.toNat (List.length a1 : Int)) (Int.toNat (List.length a1 : Int))))]) ⟨rfl, trivial⟩ ?_
   exact ⟨x2, rfl, rfl, hC2⟩
 rintro l2 _ w4 hs2 ⟨x4, rfl, rfl, hC5⟩
 try dsimp only at hF
 refine nrm_sub' hs2 ?_
 clear hs2
 refine W_seq_reg ?_
 refine WL_move rfl rfl ?_
 refine WL_assign rfl rfl ?_
 refine WL_nil (W_ret ?_)
 have hq2 := Option.some.inj hF
 subst hq2
 refine fn_ret1 rfl rfl ?_
 exact ⟨_, rfl, own_res hC5 0 rfl⟩

theorem c_Q_toAccess {w0 : World} (a1 : (Int × (List Int))) (u1 : Value) (g1 : RO [] w0 u1 a1.2) (rr : (Int × (List Int))) (hF : Q.toAccess a1 = some rr) :
 Calls Tryd.prog 16 [(.agg #[(.int .i64 a1.1), u1])].toArray w0 fun e w' => ∃ v, e = .returned v ∧ Res w0 rr v w' := by
 refine calls_of_W Tryd.func16 rfl rfl ?_
 have hC0 := Ctx.start w0
 unfold Q.toAccess at hF
 refine W_seq_reg ?_
 refine WL_boxK (cs := [(.int .i64 a1.1), u1]) hC0 rfl rfl rfl (fun b1 w1 hC1 hB1 hN1 => ?_)
 refine WL_allocK hC1 zero29 rfl rfl (fun b2 w2 hC2 hB2 hN2 => ?_)
 refine WL_nil (W_seq_reg ?_)
 refine WL_allocK hC2 zero29 rfl rfl (fun b3 w3 hC3 hB3 hN3 => ?_)
 refine WL_nil (W_seq_reg ?_)
 refine WL_field Tryd.underlying24 rfl rfl (fun w => ⟨_, Tryd.sizeOf3 w⟩) rfl rfl ?_
 refine WL_load_box hC3 2 rfl rfl Tryd.isAgg3 rfl rfl ?_
 refine WL_field Tryd.underlying29 rfl rfl (fun w => ⟨_, Tryd.sizeOf3 w⟩) rfl rfl ?_
 refine WL_store_boxK (cs' := [(.int .i64 a1.1), (.slice none 0 0)]) hC3 0 rfl rfl rfl rfl Tryd.sizeOf3 rfl rfl (fun w4 hC4 hKp1 => ?_)
 try dsimp only [List.set] at hC4
 have hk1 := Keep.over (((Keep.of hB1).then hB2).then hB3) (Nat.le_trans ((Keep.of hB1).then hB2).size hN3) hKp1
 have hk2 := Keep.over ((Keep.of hB2).then hB3) (Nat.le_trans (Keep.of hB2).size hN3) hKp1
 have hk3 := Keep.over (Keep.of hB3) hN3 hKp1
 refine WL_nil (W_seq_reg ?_)
 refine WL_field Tryd.underlying24 rfl rfl (fun w => ⟨_, Tryd.sizeOf22 w⟩) rfl rfl ?_
 refine WL_load_box hC4 2 rfl rfl Tryd.isAgg22 rfl rfl ?_
 obtain ⟨x1, hr1, hF⟩ := bind_some hF
 refine WL_call Tryd.call47 rfl rfl (c_Q_toIntS a1.2 u1 (g1.now hC4.keep) x1 hr1) ?_
 rintro v1 w5 ⟨hB4, F1, hv1, hn1, hb1⟩
 have hC5 := hC4.push hB4 (A := Item.own v1 x1) hv1 hn1 hb1
 refine WL_field Tryd.underlying29 rfl rfl (fun w => ⟨_, Tryd.sizeOf22 w⟩) rfl rfl ?_
 refine WL_store_boxK (cs' := [(.int .i64 a1.1), v1]) hC5 1 rfl rfl (ro_one (hC5.ro 0 rfl)) rfl Tryd.sizeOf22 rfl rfl (fun w6 hC6 hKp2 => ?_)
 try dsimp only [List.set] at hC6
 have hk4 := Keep.over (hk1.then hB4) (Nat.le_trans ((Keep.of hB1).then hB2).size hN3) hKp2
 have hk5 := Keep.over (hk2.then hB4) (Nat.le_trans (Keep.of hB2).size hN3) hKp2
 have hk6 := Keep.over (hk3.then hB4) hN3 hKp2
 refine WL_nil (W_seq_reg ?_)
 refine WL_load_box_agg [(.int .i64 a1.1), v1] hC6 1 rfl rfl rfl Tryd.isAgg29 Tryd.sizeOf29 rfl rfl ?_
 refine WL_store_box_aggK (cs' := [(.int .i64 a1.1), v1]) (new := [(.int .i64 a1.1), v1]) hC6 2 rfl rfl (by intro v hv; simp only [List.mem_cons, List.not_mem_nil, or_false] at hv; rcases hv with rfl | rfl; exact rfl; exact (ro_one (hC6.ro 0 rfl))) rfl Tryd.sizeOf29 rfl rfl (fun w7 hC7 hKp3 => ?_)
 try dsimp only [List.set] at hC7
 have hk7 := Keep.over hk4 (Nat.le_trans (Keep.of hB1).size hN2) hKp3
 have hk8 := Keep.over hk5 hN2 hKp3
 refine WL_nil (W_ret ?_)
 have hq1 := Option.some.inj hF
 subst hq1
 refine fn_retG1 rfl (rv_cell_agg (cs' := [(.int .i64 a1.1), v1]) hC7 (i := 2) rfl rfl rfl Tryd.isAgg29 Tryd.sizeOf29 rfl) ?_
 have hC8 := own_st29 a1.1 v1 x1 hC7
 exact ⟨_, rfl, own_res hC8 0 rfl⟩

theorem c_Q_toCursor {w0 : World} (a1 : ((Int × (List Int)) × Int × Int)) (u1 : Value) (g1 : RO [] w0 u1 a1.1.2) (rr : ((Int × (List Int)) × Int × Int)) (hF : Q.toCursor a1 = some rr) :
 Calls Tryd.prog 11 [(.agg #[(.int .i64 a1.1.1), u1, (.int .i64 a1.2.1), (.int .i64 a1.2.2)])].toArray w0 fun e w' => ∃ v, e = .returned v ∧ Res w0 rr v w' := by
 refine calls_of_W Tryd.func11 rfl rfl ?_
 have hC0 := Ctx.start w0
 unfold Q.toCursor at hF
 refine W_seq_reg ?_
 refine WL_boxK (cs := [(.int .i64 a1.1.1), u1, (.int .i64 a1.2.1), (.int .i64 a1.2.2)]) hC0 rfl rfl rfl (fun b1 w1 hC1 hB1 hN1 => ?_)
 refine WL_allocK hC1 zero31 rfl rfl (fun b2 w2 hC2 hB2 hN2 => ?_)
 refine WL_nil (W_seq_reg ?_)
 refine WL_allocK hC2 zero31 rfl rfl (fun b3 w3 hC3 hB3 hN3 => ?_)
 refine WL_nil (W_seq_reg ?_)
 refine WL_field Tryd.underlying26 rfl rfl (fun w => ⟨_, Tryd.sizeOf24 w⟩) rfl rfl ?_
 refine WL_load_box_agg [(.int .i64 a1.1.1), u1] hC3 2 rfl rfl rfl Tryd.isAgg24 Tryd.sizeOf24 rfl rfl ?_
 obtain ⟨x1, hr1, hF⟩ := bind_some hF
 refine WL_call Tryd.call16 rfl rfl (c_Q_toAccess (a1.1.1, a1.1.2) u1 (g1.now hC3.keep) x1 hr1) ?_
 rintro v1 w4 ⟨hB4, F1, hv1, hn1, hb1⟩
 have hC4 := hC3.push hB4 (A := Item.own v1 x1) hv1 hn1 hb1
 obtain ⟨v2, rfl, hC5⟩ := st29_own hC4
 refine WL_field Tryd.underlying31 rfl rfl (fun w => ⟨_, Tryd.sizeOf29 w⟩) rfl rfl ?_
 refine WL_store_box_aggK (cs' := [(.int .i64 x1.1), v2, (.int .i64 0), (.int .i64 0)]) (new := [(.int .i64 x1.1), v2]) hC5 1 rfl rfl (by intro v hv; simp only [List.mem_cons, List.not_mem_nil, or_false] at hv; rcases hv with rfl | rfl; exact rfl; exact (ro_one (hC5.ro 0 rfl))) rfl Tryd.sizeOf29 rfl rfl (fun w5 hC6 hKp1 => ?_)
 try dsimp only [List.set] at hC6
 have hk1 := Keep.over ((((Keep.of hB1).then hB2).then hB3).then hB4) (Nat.le_trans ((Keep.of hB1).then hB2).size hN3) hKp1
 have hk2 := Keep.over (((Keep.of hB2).then hB3).then hB4) (Nat.le_trans (Keep.of hB2).size hN3) hKp1
 have hk3 := Keep.over ((Keep.of hB3).then hB4) hN3 hKp1
 refine WL_nil (W_seq_reg ?_)
 refine WL_field Tryd.underlying26 rfl rfl (fun w => ⟨_, Tryd.sizeOf3 w⟩) rfl rfl ?_
 refine WL_load_box hC6 3 rfl rfl Tryd.isAgg3 rfl rfl ?_
 refine WL_field Tryd.underlying31 rfl rfl (fun w => ⟨_, Tryd.sizeOf3 w⟩) rfl rfl ?_
 refine WL_store_boxK (cs' := [(.int .i64 x1.1), v2, (.int .i64 a1.2.1), (.int .i64 0)]) hC6 1 rfl rfl rfl rfl Tryd.sizeOf3 rfl rfl (fun w6 hC7 hKp2 => ?_)
 try dsimp only [List.set] at hC7
 have hk4 := Keep.over hk1 (Nat.le_trans ((Keep.of hB1).then hB2).size hN3) hKp2
 have hk5 := Keep.over hk2 (Nat.le_trans (Keep.of hB2).size hN3) hKp2
 have hk6 := Keep.over hk3 hN3 hKp2
 refine WL_nil (W_seq_reg ?_)
 refine WL_field Tryd.underlying26 rfl rfl (fun w => ⟨_, Tryd.sizeOf3 w⟩) rfl rfl ?_
 refine WL_load_box hC7 3 rfl rfl Tryd.isAgg3 rfl rfl ?_
 refine WL_field Tryd.underlying31 rfl rfl (fun w => ⟨_, Tryd.sizeOf3 w⟩) rfl rfl ?_
 refine WL_store_boxK (cs' := [(.int .i64 x1.1), v2, (.int .i64 a1.2.1), (.int .i64 a1.2.2)]) hC7 1 rfl rfl rfl rfl Tryd.sizeOf3 rfl rfl (fun w7 hC8 hKp3 => ?_)
 try dsimp only [List.set] at hC8
 have hk7 := Keep.over hk4 (Nat.le_trans ((Keep.of hB1).then hB2).size hN3) hKp3
 have hk8 := Keep.over hk5 (Nat.le_trans (Keep.of hB2).size hN3) hKp3
 have hk9 := Keep.over hk6 hN3 hKp3
 refine WL_nil (W_seq_reg ?_)
 refine WL_load_box_agg [(.int .i64 x1.1), v2, (.int .i64 a1.2.1), (.int .i64 a1.2.2)] hC8 1 rfl rfl rfl Tryd.isAgg31 Tryd.sizeOf31 rfl rfl ?_
 refine WL_store_box_aggK (cs' := [(.int .i64 x1.1), v2, (.int .i64 a1.2.1), (.int .i64 a1.2.2)]) (new := [(.int .i64 x1.1), v2, (.int .i64 a1.2.1), (.int .i64 a1.2.2)]) hC8 2 rfl rfl (by intro v hv; simp only [List.mem_cons, List.not_mem_nil, or_false] at hv; rcases hv with rfl | rfl | rfl | rfl; exact rfl; exact (ro_one (hC8.ro 0 rfl)); exact rfl; exact rfl) rfl Tryd.sizeOf31 rfl rfl (fun w9 hC9 hKp4 => ?_)
 try dsimp only [List.set] at hC9
 have hk10 := Keep.over hk7 (Nat.le_trans (Keep.of hB1).size hN2) hKp4
 have hk11 := Keep.over hk8 hN2 hKp4
 refine WL_nil (W_ret ?_)
 have hq1 := Option.some.inj hF
 subst hq1
 refine fn_retG1 rfl (rv_cell_agg (cs' := [(.int .i64 x1.1), v2, (.int .i64 a1.2.1), (.int .i64 a1.2.2)]) hC9 (i := 2) rfl rfl rfl Tryd.isAgg31 Tryd.sizeOf31 rfl) ?_
 have hC10 := own_st31 x1.1 v2 x1.2 a1.2.1 a1.2.2 hC9
 exact ⟨_, rfl, own_res hC10 0 rfl⟩

theorem c_M_within {w0 : World} (a1 : Int) (a2 : Int) (a3 : Int) (rr : Bool) (hF : M.within a1 a2 a3 = some rr) :
 Calls Tryd.prog 43 [(.int .i64 a1), (.int .i64 a2), (.int .i64 a3)].toArray w0 fun e w' => ∃ v, e = .returned v ∧ Res w0 rr v w' := by
 refine calls_of_W Tryd.func43 rfl rfl ?_
 have hC0 := Ctx.start w0
 unfold M.within at hF
 refine W_seq_reg ?_
 refine WL_assign rfl rfl ?_
 refine WL_nil ?_
 obtain ⟨r1, hr1, hF⟩ := bind_some hF
 refine W_cut (fun l w => ∃ x1 : Bool, x1 = r1 ∧ l = [(6, (.bool x1))] ∧ Below w0.heap.size w0 w ∧ Ctx [] w0 w []) ?_ ?_
 ·refine W_reg ?_
  refine WL_move rfl rfl ?_
  refine WL_move rfl rfl ?_
  refine WL_geq rfl rfl rfl ?_
  refine WL_move rfl rfl ?_
  refine WL_fork (fun hc1 => ?_) (fun hc1 => ?_)
  ·replace hr1 := ite_t hr1 hc1
   refine WL_guard rfl rfl ?_
   refine WL_move rfl rfl ?_
   refine WL_guard rfl rfl ?_
   refine WL_move rfl rfl ?_
   refine WL_guard rfl rfl ?_
   refine WL_leq rfl rfl rfl ?_
   refine WL_pick_t rfl rfl rfl ?_
   refine WL_assign rfl rfl ?_
   refine WL_nil ?_
   have hq1 := Option.some.inj hr1
   subst hq1
   refine nrm_sub (l' := [(6, (.bool (decide (a1 ≤ a3))))]) ⟨rfl, trivial⟩ ?_
   exact ⟨(decide (a1 ≤ a3)), rfl, rfl, (Below.refl _ _), hC0⟩
  replace hr1 := ite_f hr1 hc1
  refine WL_guard_skip rfl rfl (by simp) rfl ?_
  refine WL_guard_skip rfl rfl (by simp) rfl ?_
  refine WL_guard_skip rfl rfl (by simp) rfl ?_
  refine WL_pick_f rfl rfl rfl ?_
  refine WL_assign rfl rfl ?_
  refine WL_nil ?_
  have hq2 := Option.some.inj hr1
  subst hq2
  refine nrm_sub (l' := [(6, (.bool false))]) ⟨rfl, trivial⟩ ?_
  exact ⟨false, rfl, rfl, (Below.refl _ _), hC0⟩
 rintro _ w1 ⟨x1, rfl, rfl, hB1, hC1⟩
 try dsimp only at hF
 refine W_ret ?_
 have hq3 := Option.some.inj hF
 subst hq3
 refine fn_ret1 rfl rfl ?_
 exact ⟨_, rfl, bool_res hC1 _⟩

theorem c_Strconv_Itoa {w0 : World} (hT : HasTab w0) (a1 : Int) (rr : Str) (hF : Strconv.Itoa a1 = some rr) :
    Calls Tryd.prog 74 [(.int .i64 a1)].toArray w0 fun e w' => ∃ v, e = .returned v ∧ Res w0 rr v w' := itoa_full a1 rr hF fun n h0 h1 => Any.strconv_Itoa Tryd.laysM171 n h0 h1 w0 hT

theorem c_M_FormatInt {w0 : World} (hT : HasTab w0) (a1 : Int) (rr : Str) (hF : M.FormatInt a1 = some rr) :
 Calls Tryd.prog 44 [(.int .i64 a1)].toArray w0 fun e w' => ∃ v, e = .returned v ∧ Res w0 rr v w' := by
 refine calls_of_W Tryd.func44 rfl rfl ?_
 have hC0 := Ctx.start w0
 unfold M.FormatInt at hF
 refine W_seq_reg ?_
 refine WL_assign rfl rfl ?_
 refine WL_nil (W_seq_reg ?_)
 refine WL_move rfl rfl ?_
 obtain ⟨x1, hr1, hF⟩ := bind_some hF
 refine WL_call Tryd.call74 rfl rfl (c_Strconv_Itoa (hT.keep hC0.keep) a1 x1 hr1) ?_
 intro _ w1 hv1
 obtain ⟨rfl, hB1⟩ := res_str hv1
 have hC1 := hC0.grow hB1
 refine WL_assign rfl rfl ?_
 refine WL_nil (W_ret ?_)
 have hq1 := Option.some.inj hF
 subst hq1
 refine fn_ret1 rfl rfl ?_
 exact ⟨_, rfl, str_res hC1 _⟩

theorem c_M_isValue {w0 : World} (a1 : Int) (rr : Bool) (hF : M.isValue a1 = some rr) :
 Calls Tryd.prog 90 [(.int .i64 a1)].toArray w0 fun e w' => ∃ v, e = .returned v ∧ Res w0 rr v w' := by
 refine calls_of_W Tryd.func90 rfl rfl ?_
 have hC0 := Ctx.start w0
 unfold M.isValue at hF
 refine W_seq_reg ?_
 refine WL_assign rfl rfl ?_
 refine WL_nil (W_seq_reg ?_)
 refine WL_move rfl rfl ?_
 obtain ⟨x1, hr1, hF⟩ := bind_some hF
 refine WL_call Tryd.call43 rfl rfl (c_M_within a1 0 9 x1 hr1) ?_
 intro _ w1 hv1
 obtain ⟨rfl, hB1⟩ := res_bool hv1
 have hC1 := hC0.grow hB1
 refine WL_assign rfl rfl ?_
 refine WL_nil (W_ret ?_)
 have hq1 := Option.some.inj hF
 subst hq1
 refine fn_ret1 rfl rfl ?_
 exact ⟨_, rfl, bool_res hC1 _⟩

theorem c_M_areValues_c1 {w0 : World} (a1 : Int) (rr : Bool) (hF : M.areValues_c1 a1 = some rr) :
 Calls Tryd.prog 89 [(.int .i64 a1)].toArray w0 fun e w' => ∃ v, e = .returned v ∧ Res w0 rr v w' := by
 refine calls_of_W Tryd.func89 rfl rfl ?_
 have hC0 := Ctx.start w0
 unfold M.areValues_c1 at hF
 refine W_seq_reg ?_
 refine WL_assign rfl rfl ?_
 refine WL_nil (W_seq_reg ?_)
 refine WL_move rfl rfl ?_
 obtain ⟨x1, hr1, hF⟩ := bind_some hF
 refine WL_call Tryd.call90 rfl rfl (c_M_isValue a1 x1 hr1) ?_
 intro _ w1 hv1
 obtain ⟨rfl, hB1⟩ := res_bool hv1
 have hC1 := hC0.grow hB1
 refine WL_not rfl rfl ?_
 refine WL_assign rfl rfl ?_
 refine WL_nil (W_ret ?_)
 have hq1 := Option.some.inj hF
 subst hq1
 refine fn_ret1 rfl rfl ?_
 exact ⟨_, rfl, bool_res hC1 _⟩

theorem c_Slices_IndexFunc_Lint_int_M_areValues_c1 {w0 : World} (a1 : (List Int)) (u1 : Value) (g1 : RO [] w0 u1 a1) (rr : Int) (hF : Slices.IndexFunc_Lint_int_M_areValues_c1 a1 = some rr) :
 Calls Tryd.prog 101 [u1, (.func (.func 89) #[] #[])].toArray w0 fun e w' => ∃ v, e = .returned v ∧ Res w0 rr v w' := by
 refine calls_of_W Tryd.func101 rfl rfl ?_
 have hC0 := Ctx.start w0
 unfold Slices.IndexFunc_Lint_int_M_areValues_c1 at hF
 refine W_seq_reg ?_
 refine WL_assign rfl rfl ?_
 refine WL_nil (W_seq (W_seq_reg ?_))
 refine WL_move rfl rfl ?_
 refine WL_len Tryd.underlying22 g1 rfl rfl ?_
 refine WL_move rfl rfl ?_
 refine WL_nil ?_
 obtain ⟨r1, hr1, hF⟩ := bind_some hF
 refine W_norm (fun l w => .inl () = r1 ∧ l = [] ∧ Below w0.heap.size w0 w ∧ Ctx [] w0 w []) ?_ ?_
 ·refine W_block ?_
  refine W.sub (l' := [(0, u1), (1, (.func (.func 89) #[] #[])), (7, (.int .i64 (List.length a1 : Int))), (8, (.int .i64 0))]) ?_ ⟨rfl, rfl, rfl, rfl, trivial⟩
  refine W_loop (fun k l w => ∃ x1 : Int, l = [(0, u1), (1, (.func (.func 89) #[] #[])), (7, (.int .i64 (List.length a1 : Int))), (8, (.int .i64 x1))] ∧ Below w0.heap.size w0 w ∧ Ctx [] w0 w [] ∧ Slices.IndexFunc_Lint_int_M_areValues_c1_l1 a1 k x1 = some r1) FUEL ⟨0, rfl, (Below.refl _ _), hC0, hr1⟩ ?_
  clear hr1
  rintro k1 _ w1 ⟨x1, rfl, hB1, hC1, hL1⟩
  cases k1 with
  | zero => rw [Slices.IndexFunc_Lint_int_M_areValues_c1_l1] at hL1; cases hL1
  | succ k1 =>
   rw [Slices.IndexFunc_Lint_int_M_areValues_c1_l1] at hL1
   refine W_seq_reg ?_
   refine WL_lss rfl rfl rfl ?_
   refine WL_nil (W_seq ?_)
   refine W_cond rfl (fun hc1 => ?_) (fun hc1 => ?_)
   ·replace hL1 := ite_t hL1 hc1
    refine W_skip (nrm_normal (W_seq (W_block (W_seq_reg ?_))))
    refine WL_move rfl rfl ?_
    refine WL_assign rfl rfl ?_
    refine WL_nil (W_seq_reg ?_)
    refine WL_move rfl rfl ?_
    refine WL_move rfl rfl ?_
    refine WL_move rfl rfl ?_
    obtain ⟨x2, hx1, hL1⟩ := bind_some hL1
    refine WL_index Tryd.underlying22 ty3 g1 hx1 rfl rfl rfl (fun b1 o1 h1 => ?_)
    refine WL_load ty3 h1 hC1.keep rfl rfl (fun v1 h2 => ?_)
    obtain rfl := ro_int h2
    obtain ⟨x3, hr2, hL1⟩ := bind_some hL1
    refine WL_callv (cap := []) Tryd.call89 rfl rfl rfl (c_M_areValues_c1 x2 x3 hr2) ?_
    intro _ w2 hv1
    obtain ⟨rfl, hB2⟩ := res_bool hv1
    have hC2 := hC1.grow hB2
    refine WL_nil ?_
    refine W_cond rfl (fun hc2 => ?_) (fun hc2 => ?_)
    ·replace hL1 := ite_t hL1 hc2
     refine W_seq_reg ?_
     refine WL_move rfl rfl ?_
     refine WL_assign rfl rfl ?_
     refine WL_nil (W_ret (blk_ret (nrm_ret (nrm_ret (blk_ret (nrm_ret (nrm_ret ?_)))))))
     have hq1 := Option.some.inj hL1
     subst hq1
     dsimp only at hF
     have hq2 := Option.some.inj hF
     subst hq2
     refine fn_ret1 rfl rfl ?_
     exact ⟨_, rfl, int_res hC2 _⟩
    replace hL1 := ite_f hL1 hc2
    refine W_skip (blk_normal (nrm_normal (W_reg ?_)))
    refine WL_add rfl rfl rfl ?_
    refine WL_move rfl rfl ?_
    refine WL_nil ?_
    refine nrm_sub (l' := [(0, u1), (1, (.func (.func 89) #[] #[])), (7, (.int .i64 (List.length a1 : Int))), (8, (.int .i64 (w64 (x1 + 1))))]) ⟨rfl, rfl, rfl, rfl, trivial⟩ ?_
    exact ⟨k1, Nat.lt_succ_self _, w64 (x1 + 1), rfl, ((Keep.of hB1).then hB2).below, hC2, hL1⟩
   replace hL1 := ite_f hL1 hc1
   refine W_exit (nrm_exit (nrm_exit (blk_exit ?_)))
   have hq3 := Option.some.inj hL1
   subst hq3
   refine nrm_sub (l' := []) trivial ?_
   exact ⟨rfl, rfl, (Keep.of hB1).below, hC1⟩
 rintro l2 _ w3 hs2 ⟨rfl, rfl, hB3, hC3⟩
 try dsimp only at hF
 refine nrm_sub' hs2 ?_
 clear hs2
 refine W_seq_reg ?_
 refine WL_assign rfl rfl ?_
 refine WL_nil (W_ret ?_)
 have hq4 := Option.some.inj hF
 subst hq4
 refine fn_ret1 rfl rfl ?_
 exact ⟨_, rfl, int_res hC3 _⟩

theorem c_Slices_ContainsFunc_Lint_int_M_areValues_c1 {w0 : World} (a1 : (List Int)) (u1 : Value) (g1 : RO [] w0 u1 a1) (rr : Bool) (hF : Slices.ContainsFunc_Lint_int_M_areValues_c1 a1 = some rr) :
 Calls Tryd.prog 88 [u1, (.func (.func 89) #[] #[])].toArray w0 fun e w' => ∃ v, e = .returned v ∧ Res w0 rr v w' := by
 refine calls_of_W Tryd.func88 rfl rfl ?_
 have hC0 := Ctx.start w0
 unfold Slices.ContainsFunc_Lint_int_M_areValues_c1 at hF
 refine W_seq_reg ?_
 refine WL_assign rfl rfl ?_
 refine WL_nil (W_seq_reg ?_)
 refine WL_move rfl rfl ?_
 refine WL_move rfl rfl ?_
 obtain ⟨x1, hr1, hF⟩ := bind_some hF
 refine WL_call Tryd.call101 rfl rfl (c_Slices_IndexFunc_Lint_int_M_areValues_c1 a1 u1 (g1.now hC0.keep) x1 hr1) ?_
 intro _ w1 hv1
 obtain ⟨rfl, hB1⟩ := res_int hv1
 have hC1 := hC0.grow hB1
 refine WL_geq rfl rfl rfl ?_
 refine WL_assign rfl rfl ?_
 refine WL_nil (W_ret ?_)
 have hq1 := Option.some.inj hF
 subst hq1
 refine fn_ret1 rfl rfl ?_
 exact ⟨_, rfl, bool_res hC1 _⟩

theorem c_M_areValues {w0 : World} (a1 : (List Int)) (u1 : Value) (g1 : RO [] w0 u1 a1) (rr : Bool) (hF : M.areValues a1 = some rr) :
 Calls Tryd.prog 72 [u1].toArray w0 fun e w' => ∃ v, e = .returned v ∧ Res w0 rr v w' := by
 refine calls_of_W Tryd.func72 rfl rfl ?_
 have hC0 := Ctx.start w0
 unfold M.areValues at hF
 refine W_seq_reg ?_
 refine WL_assign rfl rfl ?_
 refine WL_nil (W_seq_reg ?_)
 refine WL_move rfl rfl ?_
 obtain ⟨x1, hr1, hF⟩ := bind_some hF
 refine WL_call Tryd.call88 rfl rfl (c_Slices_ContainsFunc_Lint_int_M_areValues_c1 a1 u1 (g1.now hC0.keep) x1 hr1) ?_
 intro _ w1 hv1
 obtain ⟨rfl, hB1⟩ := res_bool hv1
 have hC1 := hC0.grow hB1
 refine WL_not rfl rfl ?_
 refine WL_assign rfl rfl ?_
 refine WL_nil (W_ret ?_)
 have hq1 := Option.some.inj hF
 subst hq1
 refine fn_ret1 rfl rfl ?_
 exact ⟨_, rfl, bool_res hC1 _⟩

theorem c_Strings_Join {w0 : World} (a1 : (List Str)) (u1 : Value) (g1 : RO [] w0 u1 a1) (a2 : Str) (rr : Str) (hF : Strings.Join a1 a2 = some rr) :
    Calls Tryd.prog 91 [u1, (sv a2)].toArray w0 fun e w' => ∃ v, e = .returned v ∧ Res w0 rr v w' := join_calls Tryd.lays156 Tryd.Builder_Extra_156 a1 u1 g1 a2 rr hF

theorem c_M_joined {w0 : World} (hT : HasTab w0) (a1 : (List Int)) (u1 : Value) (g1 : RO [] w0 u1 a1) (a2 : Str) (rr : Str) (hF : M.joined a1 a2 = some rr) :
 Calls Tryd.prog 73 [u1, (sv a2)].toArray w0 fun e w' => ∃ v, e = .returned v ∧ Res w0 rr v w' := by
 refine calls_of_W Tryd.func73 rfl rfl ?_
 have hC0 := Ctx.start w0
 unfold M.joined at hF
 refine W_seq_reg ?_
 refine WL_assign rfl rfl ?_
 refine WL_nil (W_seq_reg ?_)
 refine WL_buildSlice (vs := []) hC0 Tryd.underlying89 ty9 rfl rfl rfl rfl (by simp) rfl rfl (fun b1 w1 hC1 hB1 => ?_)
 have hC2 := hC1.row0 (α := Str)
 have hC3 := hC2.front 1 rfl
 dsimp only [List.eraseIdx, List.cons_append, List.nil_append, List.append_nil] at hC3
 have hC4 : Ctx [] w0 w1 (Item.own (.slice (some ⟨b1, 0, none⟩) 0 0) (([] : List Str) : List Str) :: []) := hC3.rowOwn (by simp [maxLen])
 refine WL_assign rfl rfl ?_
 refine WL_nil (W_seq (W_seq_reg ?_))
 refine WL_move rfl rfl ?_
 refine WL_len Tryd.underlying22 g1 rfl rfl ?_
 refine WL_move rfl rfl ?_
 refine WL_nil ?_
 obtain ⟨r1, hr1, hF⟩ := bind_some hF
 refine W_norm (fun l w => ∃ v2 : Value, ∃ x3 : (List Str), x3 = r1 ∧ l = [(1, (sv a2)), (5, v2)] ∧ Ctx [] w0 w [Item.own v2 (x3 : (List Str))]) ?_ ?_
 ·refine W_block ?_
  refine W.sub (l' := [(1, (sv a2)), (5, (.slice (some ⟨b1, 0, none⟩) 0 0)), (9, u1), (10, (.int .i64 (List.length a1 : Int))), (11, (.int .i64 0))]) ?_ ⟨rfl, rfl, rfl, rfl, rfl, trivial⟩
  refine W_loop (fun k l w => ∃ v1 : Value, ∃ x1 : (List Str), ∃ x2 : Int, l = [(1, (sv a2)), (5, v1), (9, u1), (10, (.int .i64 (List.length a1 : Int))), (11, (.int .i64 x2))] ∧ Ctx [] w0 w [Item.own v1 (x1 : (List Str))] ∧ M.joined_l1 a1 k x1 x2 = some r1) FUEL ⟨(.slice (some ⟨b1, 0, none⟩) 0 0), ([] : List Str), 0, rfl, hC4, hr1⟩ ?_
  clear hr1
  rintro k1 _ w2 ⟨v1, x1, x2, rfl, hC5, hL1⟩
  cases k1 with
  | zero => rw [M.joined_l1] at hL1; cases hL1
  | succ k1 =>
   rw [M.joined_l1] at hL1
   refine W_seq_reg ?_
   refine WL_lss rfl rfl rfl ?_
   refine WL_nil (W_seq ?_)
   refine W_cond rfl (fun hc1 => ?_) (fun hc1 => ?_)
   ·replace hL1 := ite_t hL1 hc1
    refine W_skip (nrm_normal (W_seq (W_block (W_seq_reg ?_))))
    obtain ⟨x4, hx1, hL1⟩ := bind_some hL1
    refine WL_index Tryd.underlying22 ty3 g1 hx1 rfl rfl rfl (fun b2 o1 h1 => ?_)
    refine WL_load ty3 h1 hC5.keep rfl rfl (fun v3 h2 => ?_)
    obtain rfl := ro_int h2
    refine WL_assign rfl rfl ?_
    refine WL_nil (W_reg ?_)
    refine WL_move rfl rfl ?_
    refine WL_move rfl rfl ?_
    obtain ⟨x5, hr2, hL1⟩ := bind_some hL1
    refine WL_call Tryd.call44 rfl rfl (c_M_FormatInt (hT.keep hC5.keep) x4 x5 hr2) ?_
    intro _ w3 hv1
    obtain ⟨rfl, hB3⟩ := res_str hv1
    have hC6 := hC5.grow hB3
    refine WL_buildSlice (vs := [(sv x5)]) hC6 Tryd.underlying89 ty9 rfl rfl rfl rfl (by intro v hv; simp only [List.mem_cons, List.not_mem_nil, or_false] at hv; rcases hv with rfl <;> rfl) rfl rfl (fun b3 w4 hC7 hB4 => ?_)
    have hC8 := hC7.row0 (α := Str)
    have hC9 := hC8.triv (str_val (x5))
    have hC10 := hC9.row1
    have hC11 := hC10.front 1 rfl
    dsimp only [List.eraseIdx, List.cons_append, List.nil_append, List.append_nil] at hC11
    have hC12 : Ctx [] w0 w4 (Item.own (.slice (some ⟨b3, 0, none⟩) 1 1) ([x5] : List Str) :: [Item.own v1 (x1 : (List Str))]) := hC11.rowOwn (by simp [maxLen])
    obtain ⟨x6, hx2, hL1⟩ := bind_some hL1
    refine WL_append_flat (α := Str) hC12 1 rfl (hC12.ro 0 rfl) (Keep.refl _ _) Tryd.underlying89 ty9 rfl hx2 rfl rfl rfl (fun v4 w5 hC13 => ?_)
    try dsimp only [List.set] at hC13
    refine WL_assign rfl rfl ?_
    refine WL_nil (blk_normal (nrm_normal (W_reg ?_)))
    refine WL_add rfl rfl rfl ?_
    refine WL_move rfl rfl ?_
    refine WL_nil ?_
    have hC14 := hC13.f1
    have hC15 := hC14.h1
    refine nrm_sub (l' := [(1, (sv a2)), (5, v4), (9, u1), (10, (.int .i64 (List.length a1 : Int))), (11, (.int .i64 (w64 (x2 + 1))))]) ⟨rfl, rfl, rfl, rfl, rfl, trivial⟩ ?_
    exact ⟨k1, Nat.lt_succ_self _, v4, x6, w64 (x2 + 1), rfl, hC15, hL1⟩
   replace hL1 := ite_f hL1 hc1
   refine W_exit (nrm_exit (nrm_exit (blk_exit ?_)))
   have hq1 := Option.some.inj hL1
   subst hq1
   refine nrm_sub (l' := [(1, (sv a2)), (5, v1)]) ⟨rfl, rfl, trivial⟩ ?_
   exact ⟨v1, x1, rfl, rfl, hC5⟩
 rintro l2 _ w6 hs2 ⟨v2, x3, rfl, rfl, hC16⟩
 try dsimp only at hF
 refine nrm_sub' hs2 ?_
 clear hs2
 refine W_seq_reg ?_
 refine WL_move rfl rfl ?_
 refine WL_move rfl rfl ?_
 obtain ⟨x7, hr3, hF⟩ := bind_some hF
 refine WL_call Tryd.call91 rfl rfl (c_Strings_Join x3 v2 ((hC16.ro 0 rfl).now (Keep.refl _ _)) a2 x7 hr3) ?_
 intro _ w7 hv2
 obtain ⟨rfl, hB6⟩ := res_str hv2
 have hC17 := hC16.grow hB6
 refine WL_assign rfl rfl ?_
 refine WL_nil (W_ret ?_)
 have hq2 := Option.some.inj hF
 subst hq2
 refine fn_ret1 rfl rfl ?_
 exact ⟨_, rfl, str_res hC17 _⟩

theorem c_M_FormatAccess {w0 : World} (hT : HasTab w0) (a1 : (Int × (List Int))) (u1 : Value) (g1 : RO [] w0 u1 a1.2) (rr : Str) (hF : M.FormatAccess a1 = some rr) :
 Calls Tryd.prog 42 [(.agg #[(.int .i64 a1.1), u1])].toArray w0 fun e w' => ∃ v, e = .returned v ∧ Res w0 rr v w' := by
 refine calls_of_W Tryd.func42 rfl rfl ?_
 have hC0 := Ctx.start w0
 unfold M.FormatAccess at hF
 refine W_seq_reg ?_
 refine WL_boxK (cs := [(.int .i64 a1.1), u1]) hC0 rfl rfl rfl (fun b1 w1 hC1 hB1 hN1 => ?_)
 refine WL_assign rfl rfl ?_
 refine WL_nil (W_seq ?_)
 obtain ⟨r1, hr1, hF⟩ := bind_some hF
 refine W_cut (fun l w => ∃ x1 : Bool, x1 = r1 ∧ l = [(1, (ptr b1 0)), (18, (.bool x1))] ∧ Below w1.heap.size w1 w ∧ Ctx [] w0 w [Item.box b1 [(.int .i64 a1.1), u1]]) ?_ ?_
 ·refine W_reg ?_
  refine WL_field Tryd.underlying29 rfl rfl (fun w => ⟨_, Tryd.sizeOf3 w⟩) rfl rfl ?_
  refine WL_load_box hC1 0 rfl rfl Tryd.isAgg3 rfl rfl ?_
  obtain ⟨x2, hr2, hr1⟩ := bind_some hr1
  refine WL_call Tryd.call43 rfl rfl (c_M_within a1.1 0 4 x2 hr2) ?_
  intro _ w3 hv1
  obtain ⟨rfl, hB3⟩ := res_bool hv1
  have hC3 := hC1.grow hB3
  refine WL_not rfl rfl ?_
  refine WL_move rfl rfl ?_
  refine WL_fork (fun hc1 => ?_) (fun hc1 => ?_)
  ·replace hr1 := ite_t hr1 hc1
   refine WL_guard_skip rfl rfl (by simp) rfl ?_
   refine WL_guard_skip rfl rfl (by simp) rfl ?_
   refine WL_guard_skip rfl rfl (by simp) rfl ?_
   refine WL_guard_skip rfl rfl (by simp) rfl ?_
   refine WL_pick_t rfl rfl rfl ?_
   refine WL_move rfl rfl ?_
   refine WL_guard_skip rfl rfl (by simp) rfl ?_
   refine WL_guard_skip rfl rfl (by simp) rfl ?_
   refine WL_guard_skip rfl rfl (by simp) rfl ?_
   refine WL_guard_skip rfl rfl (by simp) rfl ?_
   refine WL_pick_t rfl rfl rfl ?_
   refine WL_nil ?_
   have hq1 := Option.some.inj hr1
   subst hq1
   refine nrm_sub (l' := [(1, (ptr b1 0)), (18, (.bool true))]) ⟨rfl, rfl, trivial⟩ ?_
   exact ⟨true, rfl, rfl, (Keep.of hB3).below, hC3⟩
  replace hr1 := ite_f hr1 hc1
  refine WL_guard rfl rfl ?_
  refine WL_field Tryd.underlying29 rfl rfl (fun w => ⟨_, Tryd.sizeOf22 w⟩) rfl rfl ?_
  refine WL_guard rfl rfl ?_
  refine WL_load_box hC3 0 rfl rfl Tryd.isAgg22 rfl rfl ?_
  refine WL_guard rfl rfl ?_
  refine WL_len Tryd.underlying22 g1 rfl rfl ?_
  refine WL_guard rfl rfl ?_
  refine WL_gtr rfl rfl rfl ?_
  refine WL_pick_f rfl rfl rfl ?_
  refine WL_move rfl rfl ?_
  refine WL_fork (fun hc2 => ?_) (fun hc2 => ?_)
  ·replace hr1 := ite_t hr1 hc2
   refine WL_guard_skip rfl rfl (by simp) rfl ?_
   refine WL_guard_skip rfl rfl (by simp) rfl ?_
   refine WL_guard_skip rfl rfl (by simp) rfl ?_
   refine WL_guard_skip rfl rfl (by simp) rfl ?_
   refine WL_pick_t rfl rfl rfl ?_
   refine WL_nil ?_
   have hq2 := Option.some.inj hr1
   subst hq2
   refine nrm_sub (l' := [(1, (ptr b1 0)), (18, (.bool true))]) ⟨rfl, rfl, trivial⟩ ?_
   exact ⟨true, rfl, rfl, (Keep.of hB3).below, hC3⟩
  replace hr1 := ite_f hr1 hc2
  refine WL_guard rfl rfl ?_
  refine WL_field Tryd.underlying29 rfl rfl (fun w => ⟨_, Tryd.sizeOf22 w⟩) rfl rfl ?_
  refine WL_guard rfl rfl ?_
  refine WL_load_box hC3 0 rfl rfl Tryd.isAgg22 rfl rfl ?_
  obtain ⟨x3, hr3, hr1⟩ := bind_some hr1
  refine WL_guard rfl rfl ?_
  refine WL_call Tryd.call72 rfl rfl (c_M_areValues a1.2 u1 (g1.now hC3.keep) x3 hr3) ?_
  intro _ w4 hv2
  obtain ⟨rfl, hB4⟩ := res_bool hv2
  have hC4 := hC3.grow hB4
  refine WL_guard rfl rfl ?_
  refine WL_not rfl rfl ?_
  refine WL_pick_f rfl rfl rfl ?_
  refine WL_nil ?_
  have hq3 := Option.some.inj hr1
  subst hq3
  refine nrm_sub (l' := [(1, (ptr b1 0)), (18, (.bool (!x3)))]) ⟨rfl, rfl, trivial⟩ ?_
  exact ⟨(!x3), rfl, rfl, ((Keep.of hB3).then hB4).below, hC4⟩
 rintro _ w2 ⟨x1, rfl, rfl, hB2, hC2⟩
 try dsimp only at hF
 refine W_cond rfl (fun hc3 => ?_) (fun hc3 => ?_)
 ·replace hF := ite_t hF hc3
  refine W_seq_reg ?_
  refine WL_assign rfl rfl ?_
  refine WL_nil (W_ret (nrm_ret ?_))
  have hq4 := Option.some.inj hF
  subst hq4
  refine fn_ret1 rfl rfl ?_
  exact ⟨_, rfl, str_res hC2 _⟩
 replace hF := ite_f hF hc3
 refine W_skip (nrm_normal (W_seq ?_))
 refine W_drawn 11 rfl hmix (fun w5 hB5 => ?_)
 have hC5 := hC2.grow hB5
 refine WA_tk 0 (by kernel_rfl) rfl rfl (fl_field Tryd.underlying29 rfl rfl (fun w => ⟨_, Tryd.sizeOf3 w⟩) rfl) ?_
 refine WL_field Tryd.underlying29 rfl rfl (fun w => ⟨_, Tryd.sizeOf3 w⟩) rfl rfl ?_
 refine WL_nil ?_
 refine WA_tk 5 (by kernel_rfl) rfl rfl (fl_field Tryd.underlying29 rfl rfl (fun w => ⟨_, Tryd.sizeOf22 w⟩) rfl) ?_
 refine WL_field Tryd.underlying29 rfl rfl (fun w => ⟨_, Tryd.sizeOf22 w⟩) rfl rfl ?_
 refine WL_nil ?_
 obtain ⟨x4, hr4, hF⟩ := bind_some hF
 obtain ⟨x5, hx1, hF⟩ := bind_some hF
 obtain ⟨x6, hx2, hF⟩ := bind_some hF
 obtain ⟨x7, hr5, hF⟩ := bind_some hF
 refine WA.sub (l' := [(1, (ptr b1 0)), (18, (.bool x1)), (19, (ptr b1 0)), (24, (ptr b1 1))]) ?_ ⟨rfl, rfl, rfl, rfl, trivial⟩
 refine WA_postsE [⟨1, [], fun vs => PW.val (.int .i64 a1.1), []⟩, ⟨2, [], fun vs => PW.val (sv x4), []⟩, ⟨3, [], fun vs => PW.val (sv x5), []⟩, ⟨4, [], fun vs => PW.val (sv x6), []⟩, ⟨6, [], fun vs => PW.val u1, []⟩, ⟨7, [], fun vs => PW.val (sv x7), []⟩] [[], [1], [2], [3], [], [6]] 3 rfl (by kernel_rfl) (by kernel_rfl) rfl ?_ ?_
 ·refine StepsE_cons rfl ?_ ?_
  ·intro w9 hB8
   refine DepsE_nil ?_
   refine ⟨_, rfl, ?_⟩
   refine WL_load_box (hC5.grow hB8) 0 rfl rfl Tryd.isAgg3 rfl rfl ?_
   refine WL_nil ?_
   exact FinE_val (Below.refl _ _) rfl rfl ⟨rfl, rfl⟩
  refine StepsE_cons rfl ?_ ?_
  ·intro w9 hB8
   refine DepsE_cons rfl rfl rfl ?_
   rintro _ _ ⟨rfl, rfl⟩ _
   refine DepsE_nil ?_
   refine ⟨_, rfl, ?_⟩
   refine WL_call Tryd.call44 rfl rfl (c_M_FormatInt (hT.keep (hC5.grow hB8).keep) a1.1 x4 hr4) ?_
   intro _ w6 hv3
   obtain ⟨rfl, hB6⟩ := res_str hv3
   refine WL_nil ?_
   exact FinE_val hB6 rfl rfl ⟨rfl, rfl⟩
  refine StepsE_cons rfl ?_ ?_
  ·intro w9 hB8
   refine DepsE_cons rfl rfl rfl ?_
   rintro _ _ ⟨rfl, rfl⟩ _
   refine DepsE_nil ?_
   refine ⟨_, rfl, ?_⟩
   refine WL_str_add hx1 rfl rfl rfl ?_
   refine WL_nil ?_
   exact FinE_val (Below.refl _ _) rfl rfl ⟨rfl, rfl⟩
  refine StepsE_cons rfl ?_ ?_
  ·intro w9 hB8
   refine DepsE_cons rfl rfl rfl ?_
   rintro _ _ ⟨rfl, rfl⟩ _
   refine DepsE_nil ?_
   refine ⟨_, rfl, ?_⟩
   refine WL_str_add hx2 rfl rfl rfl ?_
   refine WL_nil ?_
   exact FinE_val (Below.refl _ _) rfl rfl ⟨rfl, rfl⟩
  refine StepsE_cons rfl ?_ ?_
  ·intro w9 hB8
   refine DepsE_nil ?_
   refine ⟨_, rfl, ?_⟩
   refine WL_load_box (hC5.grow hB8) 0 rfl rfl Tryd.isAgg22 rfl rfl ?_
   refine WL_nil ?_
   exact FinE_val (Below.refl _ _) rfl rfl ⟨rfl, rfl⟩
  refine StepsE_cons rfl ?_ ?_
  ·intro w9 hB8
   refine DepsE_cons rfl rfl rfl ?_
   rintro _ _ ⟨rfl, rfl⟩ _
   refine DepsE_nil ?_
   refine ⟨_, rfl, ?_⟩
   refine WL_call Tryd.call73 rfl rfl (c_M_joined (hT.keep (hC5.grow hB8).keep) a1.2 u1 (g1.now (hC5.keep.then hB8)) (str [44]) x7 hr5) ?_
   intro _ w7 hv4
   obtain ⟨rfl, hB7⟩ := res_str hv4
   refine WL_nil ?_
   exact FinE_val hB7 rfl rfl ⟨rfl, rfl⟩
  exact StepsE_nil
 intro w10 hB9
 refine AllE_cons rfl rfl rfl ?_
 rintro _ _ ⟨rfl, rfl⟩
 refine AllE_cons rfl rfl rfl ?_
 rintro _ _ ⟨rfl, rfl⟩
 refine AllE_cons rfl rfl rfl ?_
 rintro _ _ ⟨rfl, rfl⟩
 refine AllE_cons rfl rfl rfl ?_
 rintro _ _ ⟨rfl, rfl⟩
 refine AllE_cons rfl rfl rfl ?_
 rintro _ _ ⟨rfl, rfl⟩
 refine AllE_cons rfl rfl rfl ?_
 rintro _ _ ⟨rfl, rfl⟩
 refine AllE_nil ?_
 intro hn1 hb1
 have hC6 := hC5.grow hB9
 obtain ⟨x8, hx3, hF⟩ := bind_some hF
 refine WA_tk 8 (by kernel_rfl) rfl rfl (fl_str_add hx3 rfl rfl) ?_
 refine WL_str_add hx3 rfl rfl rfl ?_
 refine WL_nil ?_
 obtain ⟨x9, hx4, hF⟩ := bind_some hF
 refine WA_tk 9 (by kernel_rfl) rfl rfl (fl_str_add hx4 rfl rfl) ?_
 refine WL_str_add hx4 rfl rfl rfl ?_
 refine WL_nil ?_
 refine WA_tk 10 (by kernel_rfl) rfl rfl (fl_assign rfl) ?_
 refine WL_assign rfl rfl ?_
 refine WL_nil ?_
 refine WA_done (by kernel_rfl) ?_
 refine nrm_normal (W_ret ?_)
 have hq5 := Option.some.inj hF
 subst hq5
 refine fn_ret1 rfl rfl ?_
 exact ⟨_, rfl, str_res hC6 _⟩

theorem c_M_FormatCursor {w0 : World} (hT : HasTab w0) (a1 : ((Int × (List Int)) × Int × Int)) (u1 : Value) (g1 : RO [] w0 u1 a1.1.2) (rr : Str) (hF : M.FormatCursor a1 = some rr) :
 Calls Tryd.prog 12 [(.agg #[(.int .i64 a1.1.1), u1, (.int .i64 a1.2.1), (.int .i64 a1.2.2)])].toArray w0 fun e w' => ∃ v, e = .returned v ∧ Res w0 rr v w' := by
 refine calls_of_W Tryd.func12 rfl rfl ?_
 have hC0 := Ctx.start w0
 unfold M.FormatCursor at hF
 refine W_seq_reg ?_
 refine WL_boxK (cs := [(.int .i64 a1.1.1), u1, (.int .i64 a1.2.1), (.int .i64 a1.2.2)]) hC0 rfl rfl rfl (fun b1 w1 hC1 hB1 hN1 => ?_)
 refine WL_assign rfl rfl ?_
 refine WL_nil (W_seq_reg ?_)
 refine WL_field Tryd.underlying31 rfl rfl (fun w => ⟨_, Tryd.sizeOf29 w⟩) rfl rfl ?_
 refine WL_load_box_agg [(.int .i64 a1.1.1), u1] hC1 0 rfl rfl rfl Tryd.isAgg29 Tryd.sizeOf29 rfl rfl ?_
 obtain ⟨x1, hr1, hF⟩ := bind_some hF
 refine WL_call Tryd.call42 rfl rfl (c_M_FormatAccess (hT.keep hC1.keep) (a1.1.1, a1.1.2) u1 (g1.now hC1.keep) x1 hr1) ?_
 intro _ w2 hv1
 obtain ⟨rfl, hB2⟩ := res_str hv1
 have hC2 := hC1.grow hB2
 refine WL_assign rfl rfl ?_
 refine WL_nil (W_seq ?_)
 obtain ⟨r1, hr2, hF⟩ := bind_some hF
 refine W_cut (fun l w => ∃ x2 : Bool, x2 = r1 ∧ l = [(1, (ptr b1 0)), (3, (sv x1)), (20, (.bool x2))] ∧ Below w2.heap.size w2 w ∧ Ctx [] w0 w [Item.box b1 [(.int .i64 a1.1.1), u1, (.int .i64 a1.2.1), (.int .i64 a1.2.2)]]) ?_ ?_
 ·refine W_reg ?_
  refine WL_move rfl rfl ?_
  refine WL_str_eql rfl rfl rfl ?_
  refine WL_move rfl rfl ?_
  refine WL_fork (fun hc1 => ?_) (fun hc1 => ?_)
  ·replace hr2 := ite_t hr2 hc1
   refine WL_guard_skip rfl rfl (by simp) rfl ?_
   refine WL_guard_skip rfl rfl (by simp) rfl ?_
   refine WL_guard_skip rfl rfl (by simp) rfl ?_
   refine WL_guard_skip rfl rfl (by simp) rfl ?_
   refine WL_pick_t rfl rfl rfl ?_
   refine WL_move rfl rfl ?_
   refine WL_guard_skip rfl rfl (by simp) rfl ?_
   refine WL_guard_skip rfl rfl (by simp) rfl ?_
   refine WL_guard_skip rfl rfl (by simp) rfl ?_
   refine WL_guard_skip rfl rfl (by simp) rfl ?_
   refine WL_pick_t rfl rfl rfl ?_
   refine WL_nil ?_
   have hq1 := Option.some.inj hr2
   subst hq1
   refine nrm_sub (l' := [(1, (ptr b1 0)), (3, (sv x1)), (20, (.bool true))]) ⟨rfl, rfl, rfl, trivial⟩ ?_
   exact ⟨true, rfl, rfl, (Below.refl _ _), hC2⟩
  replace hr2 := ite_f hr2 hc1
  refine WL_guard rfl rfl ?_
  refine WL_field Tryd.underlying31 rfl rfl (fun w => ⟨_, Tryd.sizeOf3 w⟩) rfl rfl ?_
  refine WL_guard rfl rfl ?_
  refine WL_load_box hC2 0 rfl rfl Tryd.isAgg3 rfl rfl ?_
  obtain ⟨x3, hr3, hr2⟩ := bind_some hr2
  refine WL_guard rfl rfl ?_
  refine WL_call Tryd.call43 rfl rfl (c_M_within a1.2.1 0 1000 x3 hr3) ?_
  intro _ w4 hv2
  obtain ⟨rfl, hB4⟩ := res_bool hv2
  have hC4 := hC2.grow hB4
  refine WL_guard rfl rfl ?_
  refine WL_not rfl rfl ?_
  refine WL_pick_f rfl rfl rfl ?_
  refine WL_move rfl rfl ?_
  refine WL_fork (fun hc2 => ?_) (fun hc2 => ?_)
  ·replace hr2 := ite_t hr2 hc2
   refine WL_guard_skip rfl rfl (by simp) rfl ?_
   refine WL_guard_skip rfl rfl (by simp) rfl ?_
   refine WL_guard_skip rfl rfl (by simp) rfl ?_
   refine WL_guard_skip rfl rfl (by simp) rfl ?_
   refine WL_pick_t rfl rfl rfl ?_
   refine WL_nil ?_
   have hq2 := Option.some.inj hr2
   subst hq2
   refine nrm_sub (l' := [(1, (ptr b1 0)), (3, (sv x1)), (20, (.bool true))]) ⟨rfl, rfl, rfl, trivial⟩ ?_
   exact ⟨true, rfl, rfl, (Keep.of hB4).below, hC4⟩
  replace hr2 := ite_f hr2 hc2
  refine WL_guard rfl rfl ?_
  refine WL_field Tryd.underlying31 rfl rfl (fun w => ⟨_, Tryd.sizeOf3 w⟩) rfl rfl ?_
  refine WL_guard rfl rfl ?_
  refine WL_load_box hC4 0 rfl rfl Tryd.isAgg3 rfl rfl ?_
  obtain ⟨x4, hr4, hr2⟩ := bind_some hr2
  refine WL_guard rfl rfl ?_
  refine WL_call Tryd.call43 rfl rfl (c_M_within a1.2.2 0 1000 x4 hr4) ?_
  intro _ w5 hv3
  obtain ⟨rfl, hB5⟩ := res_bool hv3
  have hC5 := hC4.grow hB5
  refine WL_guard rfl rfl ?_
  refine WL_not rfl rfl ?_
  refine WL_pick_f rfl rfl rfl ?_
  refine WL_nil ?_
  have hq3 := Option.some.inj hr2
  subst hq3
  refine nrm_sub (l' := [(1, (ptr b1 0)), (3, (sv x1)), (20, (.bool (!x4)))]) ⟨rfl, rfl, rfl, trivial⟩ ?_
  exact ⟨(!x4), rfl, rfl, ((Keep.of hB4).then hB5).below, hC5⟩
 rintro _ w3 ⟨x2, rfl, rfl, hB3, hC3⟩
 try dsimp only at hF
 refine W_cond rfl (fun hc3 => ?_) (fun hc3 => ?_)
 ·replace hF := ite_t hF hc3
  refine W_seq_reg ?_
  refine WL_assign rfl rfl ?_
  refine WL_nil (W_ret (nrm_ret ?_))
  have hq4 := Option.some.inj hF
  subst hq4
  refine fn_ret1 rfl rfl ?_
  exact ⟨_, rfl, str_res hC3 _⟩
 replace hF := ite_f hF hc3
 refine W_skip (nrm_normal (W_seq ?_))
 refine W_drawn 12 rfl hmix (fun w6 hB6 => ?_)
 have hC6 := hC3.grow hB6
 refine WA_tk 0 (by kernel_rfl) rfl rfl (fl_move rfl) ?_
 refine WL_move rfl rfl ?_
 refine WL_nil ?_
 obtain ⟨x5, hx1, hF⟩ := bind_some hF
 refine WA_tk 1 (by kernel_rfl) rfl rfl (fl_str_add hx1 rfl rfl) ?_
 refine WL_str_add hx1 rfl rfl rfl ?_
 refine WL_nil ?_
 refine WA_tk 2 (by kernel_rfl) rfl rfl (fl_field Tryd.underlying31 rfl rfl (fun w => ⟨_, Tryd.sizeOf3 w⟩) rfl) ?_
 refine WL_field Tryd.underlying31 rfl rfl (fun w => ⟨_, Tryd.sizeOf3 w⟩) rfl rfl ?_
 refine WL_nil ?_
 refine WA_tk 7 (by kernel_rfl) rfl rfl (fl_field Tryd.underlying31 rfl rfl (fun w => ⟨_, Tryd.sizeOf3 w⟩) rfl) ?_
 refine WL_field Tryd.underlying31 rfl rfl (fun w => ⟨_, Tryd.sizeOf3 w⟩) rfl rfl ?_
 refine WL_nil ?_
 obtain ⟨x6, hr5, hF⟩ := bind_some hF
 obtain ⟨x7, hx2, hF⟩ := bind_some hF
 obtain ⟨x8, hx3, hF⟩ := bind_some hF
 obtain ⟨x9, hr6, hF⟩ := bind_some hF
 refine WA.sub (l' := [(1, (ptr b1 0)), (3, (sv x1)), (20, (.bool x2)), (21, (sv x1)), (22, (sv x5)), (23, (ptr b1 2)), (28, (ptr b1 3))]) ?_ ⟨rfl, rfl, rfl, rfl, rfl, rfl, rfl, trivial⟩
 refine WA_postsE [⟨3, [], fun vs => PW.val (.int .i64 a1.2.1), []⟩, ⟨4, [], fun vs => PW.val (sv x6), []⟩, ⟨5, [], fun vs => PW.val (sv x7), []⟩, ⟨6, [], fun vs => PW.val (sv x8), []⟩, ⟨8, [], fun vs => PW.val (.int .i64 a1.2.2), []⟩, ⟨9, [], fun vs => PW.val (sv x9), []⟩] [[], [3], [4], [5], [], [8]] 2 rfl (by kernel_rfl) (by kernel_rfl) rfl ?_ ?_
 ·refine StepsE_cons rfl ?_ ?_
  ·intro w10 hB9
   refine DepsE_nil ?_
   refine ⟨_, rfl, ?_⟩
   refine WL_load_box (hC6.grow hB9) 0 rfl rfl Tryd.isAgg3 rfl rfl ?_
   refine WL_nil ?_
   exact FinE_val (Below.refl _ _) rfl rfl ⟨rfl, rfl⟩
  refine StepsE_cons rfl ?_ ?_
  ·intro w10 hB9
   refine DepsE_cons rfl rfl rfl ?_
   rintro _ _ ⟨rfl, rfl⟩ _
   refine DepsE_nil ?_
   refine ⟨_, rfl, ?_⟩
   refine WL_call Tryd.call44 rfl rfl (c_M_FormatInt (hT.keep (hC6.grow hB9).keep) a1.2.1 x6 hr5) ?_
   intro _ w7 hv4
   obtain ⟨rfl, hB7⟩ := res_str hv4
   refine WL_nil ?_
   exact FinE_val hB7 rfl rfl ⟨rfl, rfl⟩
  refine StepsE_cons rfl ?_ ?_
  ·intro w10 hB9
   refine DepsE_cons rfl rfl rfl ?_
   rintro _ _ ⟨rfl, rfl⟩ _
   refine DepsE_nil ?_
   refine ⟨_, rfl, ?_⟩
   refine WL_str_add hx2 rfl rfl rfl ?_
   refine WL_nil ?_
   exact FinE_val (Below.refl _ _) rfl rfl ⟨rfl, rfl⟩
  refine StepsE_cons rfl ?_ ?_
  ·intro w10 hB9
   refine DepsE_cons rfl rfl rfl ?_
   rintro _ _ ⟨rfl, rfl⟩ _
   refine DepsE_nil ?_
   refine ⟨_, rfl, ?_⟩
   refine WL_str_add hx3 rfl rfl rfl ?_
   refine WL_nil ?_
   exact FinE_val (Below.refl _ _) rfl rfl ⟨rfl, rfl⟩
  refine StepsE_cons rfl ?_ ?_
  ·intro w10 hB9
   refine DepsE_nil ?_
   refine ⟨_, rfl, ?_⟩
   refine WL_load_box (hC6.grow hB9) 0 rfl rfl Tryd.isAgg3 rfl rfl ?_
   refine WL_nil ?_
   exact FinE_val (Below.refl _ _) rfl rfl ⟨rfl, rfl⟩
  refine StepsE_cons rfl ?_ ?_
  ·intro w10 hB9
   refine DepsE_cons rfl rfl rfl ?_
   rintro _ _ ⟨rfl, rfl⟩ _
   refine DepsE_nil ?_
   refine ⟨_, rfl, ?_⟩
   refine WL_call Tryd.call44 rfl rfl (c_M_FormatInt (hT.keep (hC6.grow hB9).keep) a1.2.2 x9 hr6) ?_
   intro _ w9 hv5
   obtain ⟨rfl, hB8⟩ := res_str hv5
   refine WL_nil ?_
   exact FinE_val hB8 rfl rfl ⟨rfl, rfl⟩
  exact StepsE_nil
 intro w11 hB10
 refine AllE_cons rfl rfl rfl ?_
 rintro _ _ ⟨rfl, rfl⟩
 refine AllE_cons rfl rfl rfl ?_
 rintro _ _ ⟨rfl, rfl⟩
 refine AllE_cons rfl rfl rfl ?_
 rintro _ _ ⟨rfl, rfl⟩
 refine AllE_cons rfl rfl rfl ?_
 rintro _ _ ⟨rfl, rfl⟩
 refine AllE_cons rfl rfl rfl ?_
 rintro _ _ ⟨rfl, rfl⟩
 refine AllE_cons rfl rfl rfl ?_
 rintro _ _ ⟨rfl, rfl⟩
 refine AllE_nil ?_
 intro hn1 hb1
 have hC7 := hC6.grow hB10
 obtain ⟨x10, hx4, hF⟩ := bind_some hF
 refine WA_tk 10 (by kernel_rfl) rfl rfl (fl_str_add hx4 rfl rfl) ?_
 refine WL_str_add hx4 rfl rfl rfl ?_
 refine WL_nil ?_
 refine WA_tk 11 (by kernel_rfl) rfl rfl (fl_assign rfl) ?_
 refine WL_assign rfl rfl ?_
 refine WL_nil ?_
 refine WA_done (by kernel_rfl) ?_
 refine nrm_normal (W_ret ?_)
 have hq5 := Option.some.inj hF
 subst hq5
 refine fn_ret1 rfl rfl ?_
 exact ⟨_, rfl, str_res hC7 _⟩

theorem c_Q_eqIntS {w0 : World} (a1 : (List Int)) (u1 : Value) (g1 : RO [] w0 u1 a1) (a2 : (List Int)) (u2 : Value) (g2 : RO [] w0 u2 a2) (rr : Bool) (hF : Q.eqIntS a1 a2 = some rr) :
 Calls Tryd.prog 50 [u1, u2].toArray w0 fun e w' => ∃ v, e = .returned v ∧ Res w0 rr v w' := by
 refine calls_of_W Tryd.func50 rfl rfl ?_
 have hC0 := Ctx.start w0
 unfold Q.eqIntS at hF
 refine W_seq_reg ?_
 refine WL_assign rfl rfl ?_
 refine WL_nil (W_seq (W_seq_reg ?_))
 refine WL_move rfl rfl ?_
 refine WL_len Tryd.underlying22 g1 rfl rfl ?_
 refine WL_move rfl rfl ?_
 refine WL_len Tryd.underlying22 g2 rfl rfl ?_
 refine WL_neq rfl rfl rfl ?_
 refine WL_nil ?_
 refine W_cond rfl (fun hc1 => ?_) (fun hc1 => ?_)
 ·replace hF := ite_t hF hc1
  refine W_seq_reg ?_
  refine WL_assign rfl rfl ?_
  refine WL_nil (W_ret (nrm_ret ?_))
  have hq1 := Option.some.inj hF
  subst hq1
  refine fn_ret1 rfl rfl ?_
  exact ⟨_, rfl, bool_res hC0 _⟩
 replace hF := ite_f hF hc1
 refine W_skip (nrm_normal (W_seq (W_seq_reg ?_)))
 refine WL_assign rfl rfl ?_
 refine WL_nil ?_
 obtain ⟨r1, hr1, hF⟩ := bind_some hF
 refine W_norm (fun l w => .inl () = r1 ∧ l = [] ∧ Below w0.heap.size w0 w ∧ Ctx [] w0 w []) ?_ ?_
 ·refine W_block ?_
  refine W.sub (l' := [(0, u1), (1, u2), (5, (.int .i64 0))]) ?_ ⟨rfl, rfl, rfl, trivial⟩
  refine W_loop (fun k l w => ∃ x1 : Int, l = [(0, u1), (1, u2), (5, (.int .i64 x1))] ∧ Below w0.heap.size w0 w ∧ Ctx [] w0 w [] ∧ Q.eqIntS_l1 a1 a2 k x1 = some r1) FUEL ⟨0, rfl, (Below.refl _ _), hC0, hr1⟩ ?_
  clear hr1
  rintro k1 _ w1 ⟨x1, rfl, hB1, hC1, hL1⟩
  cases k1 with
  | zero => rw [Q.eqIntS_l1] at hL1; cases hL1
  | succ k1 =>
   rw [Q.eqIntS_l1] at hL1
   refine W_seq (W_seq_reg ?_)
   refine WL_move rfl rfl ?_
   refine WL_move rfl rfl ?_
   refine WL_len Tryd.underlying22 g1 rfl rfl ?_
   refine WL_lss rfl rfl rfl ?_
   refine WL_nil ?_
   refine W_cond rfl (fun hc2 => ?_) (fun hc2 => ?_)
   ·replace hL1 := ite_t hL1 hc2
    refine W_skip (nrm_normal (W_seq (W_block (W_seq ?_))))
    refine W_drawn 9 rfl hmix (fun w2 hB2 => ?_)
    have hC2 := hC1.grow hB2
    refine WA_tk 0 (by kernel_rfl) rfl rfl (fl_move rfl) ?_
    refine WL_move rfl rfl ?_
    refine WL_nil ?_
    refine WA_tk 1 (by kernel_rfl) rfl rfl (fl_move rfl) ?_
    refine WL_move rfl rfl ?_
    refine WL_nil ?_
    obtain ⟨x2, hx1, hL1⟩ := bind_some hL1
    refine WA_tk 2 (by kernel_rfl) rfl rfl (fl_index Tryd.underlying22 ty3 g1 hx1 rfl rfl) ?_
    refine WL_index Tryd.underlying22 ty3 g1 hx1 rfl rfl rfl (fun b1 o1 h1 => ?_)
    refine WL_nil ?_
    refine WA_tk 4 (by kernel_rfl) rfl rfl (fl_move rfl) ?_
    refine WL_move rfl rfl ?_
    refine WL_nil ?_
    refine WA_tk 5 (by kernel_rfl) rfl rfl (fl_move rfl) ?_
    refine WL_move rfl rfl ?_
    refine WL_nil ?_
    obtain ⟨x3, hx2, hL1⟩ := bind_some hL1
    refine WA_tk 6 (by kernel_rfl) rfl rfl (fl_index Tryd.underlying22 ty3 g2 hx2 rfl rfl) ?_
    refine WL_index Tryd.underlying22 ty3 g2 hx2 rfl rfl rfl (fun b2 o2 h2 => ?_)
    refine WL_nil ?_
    refine WA.sub (l' := [(0, u1), (1, u2), (5, (.int .i64 x1)), (11, (.int .i64 x1)), (12, u1), (13, (.int .i64 (List.length a1 : Int))), (14, (.bool (decide (x1 < (List.length a1 : Int))))), (17, u1), (18, (.int .i64 x1)), (19, (ptr b1 o1)), (21, u2), (22, (.int .i64 x1)), (23, (ptr b2 o2))]) ?_ ⟨rfl, rfl, rfl, rfl, rfl, rfl, rfl, rfl, rfl, rfl, rfl, rfl, rfl, trivial⟩
    refine WA_postsE [⟨3, [], fun vs => PW.val (.int .i64 x2), []⟩, ⟨7, [], fun vs => PW.val (.int .i64 x3), []⟩] [[], []] 1 rfl (by kernel_rfl) (by kernel_rfl) rfl ?_ ?_
    ·refine StepsE_cons rfl ?_ ?_
     ·intro w3 hB3
      refine DepsE_nil ?_
      refine ⟨_, rfl, ?_⟩
      refine WL_load ty3 h1 (hC2.keep.then hB3) rfl rfl (fun v1 h3 => ?_)
      obtain rfl := ro_int h3
      refine WL_nil ?_
      exact FinE_val (Below.refl _ _) rfl rfl ⟨rfl, rfl⟩
     refine StepsE_cons rfl ?_ ?_
     ·intro w3 hB3
      refine DepsE_nil ?_
      refine ⟨_, rfl, ?_⟩
      refine WL_load ty3 h2 (hC2.keep.then hB3) rfl rfl (fun v2 h4 => ?_)
      obtain rfl := ro_int h4
      refine WL_nil ?_
      exact FinE_val (Below.refl _ _) rfl rfl ⟨rfl, rfl⟩
     exact StepsE_nil
    intro w4 hB4
    refine AllE_cons rfl rfl rfl ?_
    rintro _ _ ⟨rfl, rfl⟩
    refine AllE_cons rfl rfl rfl ?_
    rintro _ _ ⟨rfl, rfl⟩
    refine AllE_nil ?_
    intro hn1 hb1
    have hC3 := hC2.grow hB4
    refine WA_tk 8 (by kernel_rfl) rfl rfl (fl_neq rfl rfl) ?_
    refine WL_neq rfl rfl rfl ?_
    refine WL_nil ?_
    refine WA_done (by kernel_rfl) ?_
    refine nrm_normal ?_
    refine W_cond rfl (fun hc3 => ?_) (fun hc3 => ?_)
    ·replace hL1 := ite_t hL1 hc3
     refine W_seq_reg ?_
     refine WL_assign rfl rfl ?_
     refine WL_nil (W_ret (blk_ret (nrm_ret (nrm_ret (blk_ret (nrm_ret (nrm_ret ?_)))))))
     have hq2 := Option.some.inj hL1
     subst hq2
     dsimp only at hF
     have hq3 := Option.some.inj hF
     subst hq3
     refine fn_ret1 rfl rfl ?_
     exact ⟨_, rfl, bool_res hC3 _⟩
    replace hL1 := ite_f hL1 hc3
    refine W_skip (blk_normal (nrm_normal (W_reg ?_)))
    refine WL_move rfl rfl ?_
    refine WL_add rfl rfl rfl ?_
    refine WL_assign rfl rfl ?_
    refine WL_nil ?_
    refine nrm_sub (l' := [(0, u1), (1, u2), (5, (.int .i64 (w64 (x1 + 1))))]) ⟨rfl, rfl, rfl, trivial⟩ ?_
    exact ⟨k1, Nat.lt_succ_self _, w64 (x1 + 1), rfl, (((Keep.of hB1).then hB2).then hB4).below, hC3, hL1⟩
   replace hL1 := ite_f hL1 hc2
   refine W_exit (nrm_exit (nrm_exit (blk_exit ?_)))
   have hq4 := Option.some.inj hL1
   subst hq4
   refine nrm_sub (l' := []) trivial ?_
   exact ⟨rfl, rfl, (Keep.of hB1).below, hC1⟩
 rintro l2 _ w5 hs2 ⟨rfl, rfl, hB5, hC4⟩
 try dsimp only at hF
 refine nrm_sub' hs2 ?_
 clear hs2
 refine W_seq_reg ?_
 refine WL_assign rfl rfl ?_
 refine WL_nil (W_ret ?_)
 have hq5 := Option.some.inj hF
 subst hq5
 refine fn_ret1 rfl rfl ?_
 exact ⟨_, rfl, bool_res hC4 _⟩

theorem c_Q_eqAccess {w0 : World} (a1 : (Int × (List Int))) (u1 : Value) (g1 : RO [] w0 u1 a1.2) (a2 : (Int × (List Int))) (u2 : Value) (g2 : RO [] w0 u2 a2.2) (rr : Bool) (hF : Q.eqAccess a1 a2 = some rr) :
 Calls Tryd.prog 18 [(.agg #[(.int .i64 a1.1), u1]), (.agg #[(.int .i64 a2.1), u2])].toArray w0 fun e w' => ∃ v, e = .returned v ∧ Res w0 rr v w' := by
 refine calls_of_W Tryd.func18 rfl rfl ?_
 have hC0 := Ctx.start w0
 unfold Q.eqAccess at hF
 refine W_seq_reg ?_
 refine WL_boxK (cs := [(.int .i64 a1.1), u1]) hC0 rfl rfl rfl (fun b1 w1 hC1 hB1 hN1 => ?_)
 refine WL_boxK (cs := [(.int .i64 a2.1), u2]) hC1 rfl rfl rfl (fun b2 w2 hC2 hB2 hN2 => ?_)
 refine WL_assign rfl rfl ?_
 refine WL_nil (W_seq (W_seq_reg ?_))
 refine WL_field Tryd.underlying29 rfl rfl (fun w => ⟨_, Tryd.sizeOf3 w⟩) rfl rfl ?_
 refine WL_load_box hC2 1 rfl rfl Tryd.isAgg3 rfl rfl ?_
 refine WL_field Tryd.underlying29 rfl rfl (fun w => ⟨_, Tryd.sizeOf3 w⟩) rfl rfl ?_
 refine WL_load_box hC2 0 rfl rfl Tryd.isAgg3 rfl rfl ?_
 refine WL_neq rfl rfl rfl ?_
 refine WL_nil ?_
 refine W_cond rfl (fun hc1 => ?_) (fun hc1 => ?_)
 ·replace hF := ite_t hF hc1
  refine W_seq_reg ?_
  refine WL_assign rfl rfl ?_
  refine WL_nil (W_ret (nrm_ret ?_))
  have hq1 := Option.some.inj hF
  subst hq1
  refine fn_ret1 rfl rfl ?_
  exact ⟨_, rfl, bool_res hC2 _⟩
 replace hF := ite_f hF hc1
 refine W_skip (nrm_normal (W_seq (W_seq_reg ?_)))
 refine WL_field Tryd.underlying29 rfl rfl (fun w => ⟨_, Tryd.sizeOf22 w⟩) rfl rfl ?_
 refine WL_load_box hC2 1 rfl rfl Tryd.isAgg22 rfl rfl ?_
 refine WL_field Tryd.underlying29 rfl rfl (fun w => ⟨_, Tryd.sizeOf22 w⟩) rfl rfl ?_
 refine WL_load_box hC2 0 rfl rfl Tryd.isAgg22 rfl rfl ?_
 obtain ⟨x1, hr1, hF⟩ := bind_some hF
 refine WL_call Tryd.call50 rfl rfl (c_Q_eqIntS a1.2 u1 (g1.now hC2.keep) a2.2 u2 (g2.now hC2.keep) x1 hr1) ?_
 intro _ w3 hv1
 obtain ⟨rfl, hB3⟩ := res_bool hv1
 have hC3 := hC2.grow hB3
 refine WL_not rfl rfl ?_
 refine WL_nil ?_
 refine W_cond rfl (fun hc2 => ?_) (fun hc2 => ?_)
 ·replace hF := ite_t hF hc2
  refine W_seq_reg ?_
  refine WL_assign rfl rfl ?_
  refine WL_nil (W_ret (nrm_ret ?_))
  have hq2 := Option.some.inj hF
  subst hq2
  refine fn_ret1 rfl rfl ?_
  exact ⟨_, rfl, bool_res hC3 _⟩
 replace hF := ite_f hF hc2
 refine W_skip (nrm_normal (W_seq_reg ?_))
 refine WL_assign rfl rfl ?_
 refine WL_nil (W_ret ?_)
 have hq3 := Option.some.inj hF
 subst hq3
 refine fn_ret1 rfl rfl ?_
 exact ⟨_, rfl, bool_res hC3 _⟩

theorem c_Q_eqCursor {w0 : World} (a1 : ((Int × (List Int)) × Int × Int)) (u1 : Value) (g1 : RO [] w0 u1 a1.1.2) (a2 : ((Int × (List Int)) × Int × Int)) (u2 : Value) (g2 : RO [] w0 u2 a2.1.2) (rr : Bool) (hF : Q.eqCursor a1 a2 = some rr) :
 Calls Tryd.prog 13 [(.agg #[(.int .i64 a1.1.1), u1, (.int .i64 a1.2.1), (.int .i64 a1.2.2)]), (.agg #[(.int .i64 a2.1.1), u2, (.int .i64 a2.2.1), (.int .i64 a2.2.2)])].toArray w0 fun e w' => ∃ v, e = .returned v ∧ Res w0 rr v w' := by
 refine calls_of_W Tryd.func13 rfl rfl ?_
 have hC0 := Ctx.start w0
 unfold Q.eqCursor at hF
 refine W_seq_reg ?_
 refine WL_boxK (cs := [(.int .i64 a1.1.1), u1, (.int .i64 a1.2.1), (.int .i64 a1.2.2)]) hC0 rfl rfl rfl (fun b1 w1 hC1 hB1 hN1 => ?_)
 refine WL_boxK (cs := [(.int .i64 a2.1.1), u2, (.int .i64 a2.2.1), (.int .i64 a2.2.2)]) hC1 rfl rfl rfl (fun b2 w2 hC2 hB2 hN2 => ?_)
 refine WL_assign rfl rfl ?_
 refine WL_nil (W_seq (W_seq_reg ?_))
 refine WL_field Tryd.underlying31 rfl rfl (fun w => ⟨_, Tryd.sizeOf29 w⟩) rfl rfl ?_
 refine WL_load_box_agg [(.int .i64 a1.1.1), u1] hC2 1 rfl rfl rfl Tryd.isAgg29 Tryd.sizeOf29 rfl rfl ?_
 refine WL_field Tryd.underlying31 rfl rfl (fun w => ⟨_, Tryd.sizeOf29 w⟩) rfl rfl ?_
 refine WL_load_box_agg [(.int .i64 a2.1.1), u2] hC2 0 rfl rfl rfl Tryd.isAgg29 Tryd.sizeOf29 rfl rfl ?_
 obtain ⟨x1, hr1, hF⟩ := bind_some hF
 refine WL_call Tryd.call18 rfl rfl (c_Q_eqAccess (a1.1.1, a1.1.2) u1 (g1.now hC2.keep) (a2.1.1, a2.1.2) u2 (g2.now hC2.keep) x1 hr1) ?_
 intro _ w3 hv1
 obtain ⟨rfl, hB3⟩ := res_bool hv1
 have hC3 := hC2.grow hB3
 refine WL_not rfl rfl ?_
 refine WL_nil ?_
 refine W_cond rfl (fun hc1 => ?_) (fun hc1 => ?_)
 ·replace hF := ite_t hF hc1
  refine W_seq_reg ?_
  refine WL_assign rfl rfl ?_
  refine WL_nil (W_ret (nrm_ret ?_))
  have hq1 := Option.some.inj hF
  subst hq1
  refine fn_ret1 rfl rfl ?_
  exact ⟨_, rfl, bool_res hC3 _⟩
 replace hF := ite_f hF hc1
 refine W_skip (nrm_normal (W_seq (W_seq_reg ?_)))
 refine WL_field Tryd.underlying31 rfl rfl (fun w => ⟨_, Tryd.sizeOf3 w⟩) rfl rfl ?_
 refine WL_load_box hC3 1 rfl rfl Tryd.isAgg3 rfl rfl ?_
 refine WL_field Tryd.underlying31 rfl rfl (fun w => ⟨_, Tryd.sizeOf3 w⟩) rfl rfl ?_
 refine WL_load_box hC3 0 rfl rfl Tryd.isAgg3 rfl rfl ?_
 refine WL_neq rfl rfl rfl ?_
 refine WL_nil ?_
 refine W_cond rfl (fun hc2 => ?_) (fun hc2 => ?_)
 ·replace hF := ite_t hF hc2
  refine W_seq_reg ?_
  refine WL_assign rfl rfl ?_
  refine WL_nil (W_ret (nrm_ret ?_))
  have hq2 := Option.some.inj hF
  subst hq2
  refine fn_ret1 rfl rfl ?_
  exact ⟨_, rfl, bool_res hC3 _⟩
 replace hF := ite_f hF hc2
 refine W_skip (nrm_normal (W_seq (W_seq_reg ?_)))
 refine WL_field Tryd.underlying31 rfl rfl (fun w => ⟨_, Tryd.sizeOf3 w⟩) rfl rfl ?_
 refine WL_load_box hC3 1 rfl rfl Tryd.isAgg3 rfl rfl ?_
 refine WL_field Tryd.underlying31 rfl rfl (fun w => ⟨_, Tryd.sizeOf3 w⟩) rfl rfl ?_
 refine WL_load_box hC3 0 rfl rfl Tryd.isAgg3 rfl rfl ?_
 refine WL_neq rfl rfl rfl ?_
 refine WL_nil ?_
 refine W_cond rfl (fun hc3 => ?_) (fun hc3 => ?_)
 ·replace hF := ite_t hF hc3
  refine W_seq_reg ?_
  refine WL_assign rfl rfl ?_
  refine WL_nil (W_ret (nrm_ret ?_))
  have hq3 := Option.some.inj hF
  subst hq3
  refine fn_ret1 rfl rfl ?_
  exact ⟨_, rfl, bool_res hC3 _⟩
 replace hF := ite_f hF hc3
 refine W_skip (nrm_normal (W_seq_reg ?_))
 refine WL_assign rfl rfl ?_
 refine WL_nil (W_ret ?_)
 have hq4 := Option.some.inj hF
 subst hq4
 refine fn_ret1 rfl rfl ?_
 exact ⟨_, rfl, bool_res hC3 _⟩

theorem c_Q_FnExactFormatCursor {w0 : World} (hT : HasTab w0) (a1 : ((Int × (List Int)) × Int × Int)) (u1 : Value) (g1 : RO [] w0 u1 a1.1.2) (rr : Bool) (hF : Q.FnExactFormatCursor a1 = some rr) :
 Calls Tryd.prog 3 [(.agg #[(.int .i64 a1.1.1), u1, (.int .i64 a1.2.1), (.int .i64 a1.2.2)])].toArray w0 fun e w' => ∃ v, e = .returned v ∧ Res w0 rr v w' := by
 refine calls_of_W Tryd.func3 rfl rfl ?_
 have hC0 := Ctx.start w0
 unfold Q.FnExactFormatCursor at hF
 refine W_seq_reg ?_
 refine WL_boxK (cs := [(.int .i64 a1.1.1), u1, (.int .i64 a1.2.1), (.int .i64 a1.2.2)]) hC0 rfl rfl rfl (fun b1 w1 hC1 hB1 hN1 => ?_)
 refine WL_assign rfl rfl ?_
 refine WL_nil (W_seq_reg ?_)
 refine WL_assign rfl rfl ?_
 refine WL_nil (W_seq_reg ?_)
 refine WL_load_box_agg [(.int .i64 a1.1.1), u1, (.int .i64 a1.2.1), (.int .i64 a1.2.2)] hC1 0 rfl rfl rfl Tryd.isAgg26 Tryd.sizeOf26 rfl rfl ?_
 refine WL_move rfl rfl ?_
 obtain ⟨x1, hr1, hF⟩ := bind_some hF
 refine WL_call Tryd.call9 rfl rfl (c_Q_szCursor ((a1.1.1, a1.1.2), a1.2.1, a1.2.2) u1 (g1.now hC1.keep) 1048576 x1 hr1) ?_
 intro _ w2 hv1
 obtain ⟨rfl, hB2⟩ := res_int hv1
 have hC2 := hC1.grow hB2
 refine WL_assign rfl rfl ?_
 refine WL_nil (W_seq (W_seq_reg ?_))
 refine WL_move rfl rfl ?_
 refine WL_lss rfl rfl rfl ?_
 refine WL_nil ?_
 refine W_cond rfl (fun hc1 => ?_) (fun hc1 => ?_)
 ·replace hF := ite_t hF hc1
  refine W_seq_reg ?_
  refine WL_assign rfl rfl ?_
  refine WL_nil (W_ret (nrm_ret ?_))
  have hq1 := Option.some.inj hF
  subst hq1
  refine fn_ret1 rfl rfl ?_
  exact ⟨_, rfl, bool_res hC2 _⟩
 replace hF := ite_f hF hc1
 refine W_skip (nrm_normal (W_seq_reg ?_))
 refine WL_load_box_agg [(.int .i64 a1.1.1), u1, (.int .i64 a1.2.1), (.int .i64 a1.2.2)] hC2 0 rfl rfl rfl Tryd.isAgg26 Tryd.sizeOf26 rfl rfl ?_
 obtain ⟨x2, hr2, hF⟩ := bind_some hF
 refine WL_call Tryd.call11 rfl rfl (c_Q_toCursor ((a1.1.1, a1.1.2), a1.2.1, a1.2.2) u1 (g1.now hC2.keep) x2 hr2) ?_
 rintro v1 w3 ⟨hB3, F1, hv2, hn1, hb1⟩
 have hC3 := hC2.push hB3 (A := Item.own v1 x2) hv2 hn1 hb1
 obtain ⟨v2, rfl, hC4⟩ := st31_own hC3
 obtain ⟨x3, hr3, hF⟩ := bind_some hF
 refine WL_call Tryd.call10 rfl rfl (c_S_FormatCursor x2 v2 ((hC4.ro 0 rfl).now (Keep.refl _ _)) x3 hr3) ?_
 intro _ w4 hv3
 obtain ⟨rfl, hB4⟩ := res_str hv3
 have hC5 := hC4.grow hB4
 refine WL_assign rfl rfl ?_
 refine WL_nil (W_seq_reg ?_)
 refine WL_load_box_agg [(.int .i64 a1.1.1), u1, (.int .i64 a1.2.1), (.int .i64 a1.2.2)] hC5 1 rfl rfl rfl Tryd.isAgg26 Tryd.sizeOf26 rfl rfl ?_
 obtain ⟨x4, hr4, hF⟩ := bind_some hF
 refine WL_call Tryd.call11 rfl rfl (c_Q_toCursor ((a1.1.1, a1.1.2), a1.2.1, a1.2.2) u1 (g1.now hC5.keep) x4 hr4) ?_
 rintro v3 w5 ⟨hB5, F2, hv4, hn2, hb2⟩
 have hC6 := hC5.push hB5 (A := Item.own v3 x4) hv4 hn2 hb2
 obtain ⟨v4, rfl, hC7⟩ := st31_own hC6
 refine WL_allocK hC7 zero31 rfl rfl (fun b2 w6 hC8 hB6 hN2 => ?_)
 refine WL_store_box_aggK (cs' := [(.int .i64 x4.1.1), v4, (.int .i64 x4.2.1), (.int .i64 x4.2.2)]) (new := [(.int .i64 x4.1.1), v4, (.int .i64 x4.2.1), (.int .i64 x4.2.2)]) hC8 0 rfl rfl (by intro v hv; simp only [List.mem_cons, List.not_mem_nil, or_false] at hv; rcases hv with rfl | rfl | rfl | rfl; exact rfl; exact (ro_one (hC8.ro 1 rfl)); exact rfl; exact rfl) rfl Tryd.sizeOf31 rfl rfl (fun w7 hC9 hKp1 => ?_)
 try dsimp only [List.set] at hC9
 have hk1 := Keep.over ((((((Keep.of hB1).then hB2).then hB3).then hB4).then hB5).then hB6) (Nat.le_trans (((((Keep.of hB1).then hB2).then hB3).then hB4).then hB5).size hN2) hKp1
 have hk2 := Keep.over (((((Keep.of hB2).then hB3).then hB4).then hB5).then hB6) (Nat.le_trans ((((Keep.of hB2).then hB3).then hB4).then hB5).size hN2) hKp1
 have hk3 := Keep.over ((((Keep.of hB3).then hB4).then hB5).then hB6) (Nat.le_trans (((Keep.of hB3).then hB4).then hB5).size hN2) hKp1
 have hk4 := Keep.over (((Keep.of hB4).then hB5).then hB6) (Nat.le_trans ((Keep.of hB4).then hB5).size hN2) hKp1
 have hk5 := Keep.over ((Keep.of hB5).then hB6) (Nat.le_trans (Keep.of hB5).size hN2) hKp1
 have hk6 := Keep.over (Keep.of hB6) hN2 hKp1
 refine WL_nil (W_seq_reg ?_)
 refine WL_load_box_agg [(.int .i64 x4.1.1), v4, (.int .i64 x4.2.1), (.int .i64 x4.2.2)] hC9 0 rfl rfl rfl Tryd.isAgg31 Tryd.sizeOf31 rfl rfl ?_
 obtain ⟨x5, hr5, hF⟩ := bind_some hF
 refine WL_call Tryd.call12 rfl rfl (c_M_FormatCursor (hT.keep hC9.keep) ((x4.1.1, x4.1.2), x4.2.1, x4.2.2) v4 ((hC9.ro 1 rfl).now (Keep.refl _ _)) x5 hr5) ?_
 intro _ w9 hv5
 obtain ⟨rfl, hB7⟩ := res_str hv5
 have hC10 := hC9.grow hB7
 refine WL_assign rfl rfl ?_
 refine WL_nil (W_seq (W_seq_reg ?_))
 refine WL_move rfl rfl ?_
 refine WL_move rfl rfl ?_
 refine WL_str_neq rfl rfl rfl ?_
 refine WL_nil ?_
 refine W_cond rfl (fun hc2 => ?_) (fun hc2 => ?_)
 ·replace hF := ite_t hF hc2
  refine W_seq_reg ?_
  refine WL_assign rfl rfl ?_
  refine WL_nil (W_ret (nrm_ret ?_))
  have hq2 := Option.some.inj hF
  subst hq2
  refine fn_ret1 rfl rfl ?_
  exact ⟨_, rfl, bool_res hC10 _⟩
 replace hF := ite_f hF hc2
 refine W_skip (nrm_normal (W_seq (W_seq ?_)))
 refine W_drawn 5 rfl hmix (fun w10 hB8 => ?_)
 have hC11 := hC10.grow hB8
 obtain ⟨x6, hr6, hF⟩ := bind_some hF
 refine WA.sub (l' := [(0, (.agg #[(.int .i64 a1.1.1), u1, (.int .i64 a1.2.1), (.int .i64 a1.2.2)])), (1, (ptr b1 0)), (2, (.bool false)), (3, (.int .i64 x1)), (4, (sv x3)), (5, (ptr b2 0)), (6, (sv x5)), (7, (.agg #[(.int .i64 a1.1.1), u1, (.int .i64 a1.2.1), (.int .i64 a1.2.2)])), (8, (.int .i64 1048576)), (9, (.int .i64 x1)), (10, (.int .i64 x1)), (11, (.bool (decide (x1 < 0)))), (12, (.agg #[(.int .i64 a1.1.1), u1, (.int .i64 a1.2.1), (.int .i64 a1.2.2)])), (13, (.agg #[(.int .i64 x2.1.1), v2, (.int .i64 x2.2.1), (.int .i64 x2.2.2)])), (14, (sv x3)), (15, (.agg #[(.int .i64 a1.1.1), u1, (.int .i64 a1.2.1), (.int .i64 a1.2.2)])), (16, (.agg #[(.int .i64 x4.1.1), v4, (.int .i64 x4.2.1), (.int .i64 x4.2.2)])), (17, (.agg #[(.int .i64 x4.1.1), v4, (.int .i64 x4.2.1), (.int .i64 x4.2.2)])), (18, (sv x5)), (19, (sv x5)), (20, (sv x3)), (21, (.bool (!decide (x5 = x3))))]) ?_ ⟨rfl, rfl, rfl, rfl, rfl, rfl, rfl, rfl, rfl, rfl, rfl, rfl, rfl, rfl, rfl, rfl, rfl, rfl, rfl, rfl, rfl, rfl, trivial⟩
 refine WA_postsE [⟨0, [], fun vs => PW.val (.agg #[(.int .i64 x4.1.1), v4, (.int .i64 x4.2.1), (.int .i64 x4.2.2)]), []⟩, ⟨1, [], fun vs => PW.val (.agg #[(.int .i64 a1.1.1), u1, (.int .i64 a1.2.1), (.int .i64 a1.2.2)]), []⟩, ⟨2, [], fun vs => PW.own x6, []⟩] [[], [], [1]] 2 rfl (by kernel_rfl) (by kernel_rfl) rfl ?_ ?_
 ·refine StepsE_cons rfl ?_ ?_
  ·intro w12 hB10
   refine DepsE_nil ?_
   refine ⟨_, rfl, ?_⟩
   refine WL_load_box_agg [(.int .i64 x4.1.1), v4, (.int .i64 x4.2.1), (.int .i64 x4.2.2)] (hC11.grow hB10) 0 rfl rfl rfl Tryd.isAgg31 Tryd.sizeOf31 rfl rfl ?_
   refine WL_nil ?_
   exact FinE_val (Below.refl _ _) rfl rfl ⟨rfl, rfl⟩
  refine StepsE_cons rfl ?_ ?_
  ·intro w12 hB10
   refine DepsE_nil ?_
   refine ⟨_, rfl, ?_⟩
   refine WL_load_box_agg [(.int .i64 a1.1.1), u1, (.int .i64 a1.2.1), (.int .i64 a1.2.2)] (hC11.grow hB10) 3 rfl rfl rfl Tryd.isAgg26 Tryd.sizeOf26 rfl rfl ?_
   refine WL_nil ?_
   exact FinE_val (Below.refl _ _) rfl rfl ⟨rfl, rfl⟩
  refine StepsE_cons rfl ?_ ?_
  ·intro w12 hB10
   refine DepsE_cons rfl rfl rfl ?_
   rintro _ _ ⟨rfl, rfl⟩ _
   refine DepsE_nil ?_
   refine ⟨_, rfl, ?_⟩
   refine WL_call Tryd.call11 rfl rfl (c_Q_toCursor ((a1.1.1, a1.1.2), a1.2.1, a1.2.2) u1 (g1.now (hC11.keep.then hB10)) x6 hr6) ?_
   rintro v5 w11 ⟨hB9, F3, hv6, hn3, hb3⟩
   refine WL_nil ?_
   exact FinE_own hB9 rfl rfl hv6 hn3 hb3 (Val.inh hv6)
  exact StepsE_nil
 intro w13 hB11
 refine AllE_cons rfl rfl rfl ?_
 rintro _ _ ⟨rfl, rfl⟩
 refine AllE_cons rfl rfl rfl ?_
 rintro _ _ ⟨rfl, rfl⟩
 refine AllE_cons rfl rfl rfl ?_
 intro v5 F3 hv6
 refine AllE_nil ?_
 intro hn4 hb4
 have hC12 := hC11.pushL hB11 (Bs := [Item.own v5 (x6 : ((Int × (List Int)) × Int × Int))]) (Fs := [F3]) ⟨F3, _, rfl, hv6, rfl⟩ (by simpa using hn4) (fun b h => (hb4 b (by simpa using h)).1)
 obtain ⟨v7, rfl, hC13⟩ := st31_own hC12
 obtain ⟨x7, hr7, hF⟩ := bind_some hF
 refine WA_one 3 (by kernel_rfl) rfl ?_
 refine WL_call Tryd.call13 rfl rfl (c_Q_eqCursor ((x4.1.1, x4.1.2), x4.2.1, x4.2.2) v4 ((hC13.ro 2 rfl).now (Keep.refl _ _)) x6 v7 ((hC13.ro 0 rfl).now (Keep.refl _ _)) x7 hr7) ?_
 intro _ w14 hv7
 obtain ⟨rfl, hB12⟩ := res_bool hv7
 have hC14 := hC13.grow hB12
 refine WL_nil ?_
 refine WA_tk 4 (by kernel_rfl) rfl rfl (fl_not rfl) ?_
 refine WL_not rfl rfl ?_
 refine WL_nil ?_
 refine WA_done (by kernel_rfl) ?_
 refine nrm_normal ?_
 refine W_cond rfl (fun hc3 => ?_) (fun hc3 => ?_)
 ·replace hF := ite_t hF hc3
  refine W_seq_reg ?_
  refine WL_assign rfl rfl ?_
  refine WL_nil (W_ret (nrm_ret ?_))
  have hq3 := Option.some.inj hF
  subst hq3
  refine fn_ret1 rfl rfl ?_
  exact ⟨_, rfl, bool_res hC14 _⟩
 replace hF := ite_f hF hc3
 refine W_skip (nrm_normal (W_seq_reg ?_))
 refine WL_assign rfl rfl ?_
 refine WL_nil (W_ret ?_)
 have hq4 := Option.some.inj hF
 subst hq4
 refine fn_ret1 rfl rfl ?_
 exact ⟨_, rfl, bool_res hC14 _⟩

end Go.Gx.Px
