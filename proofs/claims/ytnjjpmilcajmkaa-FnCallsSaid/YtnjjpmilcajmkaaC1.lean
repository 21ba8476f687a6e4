/- The contracts of the Go functions against the pure functions, printed by program. Conditions: each says them. -/
import Derived.Test.YtnjjpmilcajmkaaTy
import Derived.Test.YtnjjpmilcajmkaaPure
set_option linter.unusedVariables false
set_option linter.unusedSimpArgs false
set_option maxRecDepth 100000
set_option maxHeartbeats 4000000
namespace Go.Gx.Px
open Go.Proofs Go.RowKit

theorem c_Q_big {w0 : World} (a1 : (List UInt8)) (u1 : Value) (g1 : RO [] w0 u1 a1) (rr : Bool) (hF : Q.big a1 = some rr) :
 Calls Try.prog 26 [u1].toArray w0 fun e w' => ∃ v, e = .returned v ∧ Res w0 rr v w' := by
 refine calls_of_W Try.func26 rfl rfl ?_
 have hC0 := Ctx.start w0
 unfold Q.big at hF
 refine W_seq_reg ?_
 refine WL_assign rfl rfl ?_
 refine WL_nil ?_
 refine W_seq_reg ?_
 refine WL_move rfl rfl ?_
 refine WL_len Try.underlying41 g1 rfl rfl ?_
 refine WL_gtr rfl rfl rfl ?_
 refine WL_assign rfl rfl ?_
 refine WL_nil ?_
 refine W_ret ?_
 have hq1 := Option.some.inj hF
 subst hq1
 refine fn_ret1 rfl rfl ?_
 exact ⟨_, rfl, bool_res hC0 _⟩

theorem c_Q_sameInts {w0 : World} (a1 : (List Int)) (u1 : Value) (g1 : RO [] w0 u1 a1) (a2 : (List Int)) (u2 : Value) (g2 : RO [] w0 u2 a2) (rr : Bool) (hF : Q.sameInts a1 a2 = some rr) :
 Calls Try.prog 28 [u1, u2].toArray w0 fun e w' => ∃ v, e = .returned v ∧ Res w0 rr v w' := by
 refine calls_of_W Try.func28 rfl rfl ?_
 have hC0 := Ctx.start w0
 unfold Q.sameInts at hF
 refine W_seq_reg ?_
 refine WL_assign rfl rfl ?_
 refine WL_nil ?_
 refine W_seq ?_
 refine W_seq_reg ?_
 refine WL_move rfl rfl ?_
 refine WL_len Try.underlying22 g1 rfl rfl ?_
 refine WL_move rfl rfl ?_
 refine WL_len Try.underlying22 g2 rfl rfl ?_
 refine WL_neq rfl rfl rfl ?_
 refine WL_nil ?_
 refine W_cond rfl (fun hc1 => ?_) (fun hc1 => ?_)
 ·replace hF := ite_t hF hc1
  refine W_seq_reg ?_
  refine WL_assign rfl rfl ?_
  refine WL_nil ?_
  refine W_ret ?_
  refine nrm_ret ?_
  have hq1 := Option.some.inj hF
  subst hq1
  refine fn_ret1 rfl rfl ?_
  exact ⟨_, rfl, bool_res hC0 _⟩
 replace hF := ite_f hF hc1
 refine W_skip ?_
 refine nrm_normal ?_
 refine W_seq ?_
 refine W_seq_reg ?_
 refine WL_assign rfl rfl ?_
 refine WL_nil ?_
 obtain ⟨r1, hr1, hF⟩ := bind_some hF
 refine W_norm (fun l w => .inl () = r1 ∧ l = [] ∧ Below w0.heap.size w0 w ∧ Ctx [] w0 w []) ?_ ?_
 ·refine W_block ?_
  refine W.sub (l' := [(0, u1), (1, u2), (5, (.int .i64 0))]) ?_ ⟨rfl, rfl, rfl, trivial⟩
  refine W_loop (fun k l w => ∃ x1 : Int, l = [(0, u1), (1, u2), (5, (.int .i64 x1))] ∧ Below w0.heap.size w0 w ∧ Ctx [] w0 w [] ∧ Q.sameInts_l1 a1 a2 k x1 = some r1) FUEL ⟨0, rfl, (Below.refl _ _), hC0, hr1⟩ ?_
  clear hr1
  rintro k1 _ w1 ⟨x1, rfl, hB1, hC1, hL1⟩
  cases k1 with
  | zero => rw [Q.sameInts_l1] at hL1; cases hL1
  | succ k1 =>
   rw [Q.sameInts_l1] at hL1
   refine W_seq ?_
   refine W_seq_reg ?_
   refine WL_move rfl rfl ?_
   refine WL_move rfl rfl ?_
   refine WL_len Try.underlying22 g1 rfl rfl ?_
   refine WL_lss rfl rfl rfl ?_
   refine WL_nil ?_
   refine W_cond rfl (fun hc2 => ?_) (fun hc2 => ?_)
   ·replace hL1 := ite_t hL1 hc2
    refine W_skip ?_
    refine nrm_normal ?_
    refine W_seq ?_
    refine W_block ?_
    refine W_seq ?_
    refine W_drawn 9 rfl hmix (fun w2 hB2 => ?_)
    have hC2 := hC1.grow hB2
    refine WA_tk 0 (by kernel_rfl) rfl rfl (fl_move rfl) ?_
    refine WL_move rfl rfl ?_
    refine WL_nil ?_
    refine WA_tk 1 (by kernel_rfl) rfl rfl (fl_move rfl) ?_
    refine WL_move rfl rfl ?_
    refine WL_nil ?_
    obtain ⟨x2, hx1, hL1⟩ := bind_some hL1
    refine WA_tk 2 (by kernel_rfl) rfl rfl (fl_index Try.underlying22 ty3 g1 hx1 rfl rfl) ?_
    refine WL_index Try.underlying22 ty3 g1 hx1 rfl rfl rfl (fun b1 o1 h1 => ?_)
    refine WL_nil ?_
    refine WA_tk 4 (by kernel_rfl) rfl rfl (fl_move rfl) ?_
    refine WL_move rfl rfl ?_
    refine WL_nil ?_
    refine WA_tk 5 (by kernel_rfl) rfl rfl (fl_move rfl) ?_
    refine WL_move rfl rfl ?_
    refine WL_nil ?_
    obtain ⟨x3, hx2, hL1⟩ := bind_some hL1
    refine WA_tk 6 (by kernel_rfl) rfl rfl (fl_index Try.underlying22 ty3 g2 hx2 rfl rfl) ?_
    refine WL_index Try.underlying22 ty3 g2 hx2 rfl rfl rfl (fun b2 o2 h2 => ?_)
    refine WL_nil ?_
    refine WA.sub (l' := [(0, u1), (1, u2), (5, (.int .i64 x1)), (11, (.int .i64 x1)), (12, u1), (13, (.int .i64 (List.length a1 : Int))), (14, (.bool (decide (x1 < (List.length a1 : Int))))), (17, u1), (18, (.int .i64 x1)), (19, (ptr b1 o1)), (21, u2), (22, (.int .i64 x1)), (23, (ptr b2 o2))]) ?_ ⟨rfl, rfl, rfl, rfl, rfl, rfl, rfl, rfl, rfl, rfl, rfl, rfl, rfl, trivial⟩
    refine WA_postsE [⟨3, [], fun vs => PW.val (.int .i64 x2), []⟩, ⟨7, [], fun vs => PW.val (.int .i64 x3), []⟩] [[], []] 1 rfl (by kernel_rfl) (by kernel_rfl) rfl ?_ ?_
    ·refine StepsE_cons rfl ?_ ?_
     ·intro w3 hB3
      refine DepsE_nil ?_
      refine ⟨_, rfl, ?_⟩
      refine WL_load ty3 h1 (hC2.keep.then hB3) rfl rfl (fun v1 h3 => ?_)
      obtain rfl := ro_int h3
      refine WL_nil ?_
      exact FinE_val (Below.refl _ _) rfl rfl ⟨rfl, rfl⟩
     refine StepsE_cons rfl ?_ ?_
     ·intro w3 hB3
      refine DepsE_nil ?_
      refine ⟨_, rfl, ?_⟩
      refine WL_load ty3 h2 (hC2.keep.then hB3) rfl rfl (fun v2 h4 => ?_)
      obtain rfl := ro_int h4
      refine WL_nil ?_
      exact FinE_val (Below.refl _ _) rfl rfl ⟨rfl, rfl⟩
     exact StepsE_nil
    intro w4 hB4
    refine AllE_cons rfl rfl rfl ?_
    rintro _ _ ⟨rfl, rfl⟩
    refine AllE_cons rfl rfl rfl ?_
    rintro _ _ ⟨rfl, rfl⟩
    refine AllE_nil ?_
    intro hn1 hb1
    have hC3 := hC2.grow hB4
    refine WA_tk 8 (by kernel_rfl) rfl rfl (fl_neq rfl rfl) ?_
    refine WL_neq rfl rfl rfl ?_
    refine WL_nil ?_
    refine WA_done (by kernel_rfl) ?_
    refine nrm_normal ?_
    refine W_cond rfl (fun hc3 => ?_) (fun hc3 => ?_)
    ·replace hL1 := ite_t hL1 hc3
     refine W_seq_reg ?_
     refine WL_assign rfl rfl ?_
     refine WL_nil ?_
     refine W_ret ?_
     refine blk_ret ?_
     refine nrm_ret ?_
     refine nrm_ret ?_
     refine blk_ret ?_
     refine nrm_ret ?_
     refine nrm_ret ?_
     have hq2 := Option.some.inj hL1
     subst hq2
     dsimp only at hF
     have hq3 := Option.some.inj hF
     subst hq3
     refine fn_ret1 rfl rfl ?_
     exact ⟨_, rfl, bool_res hC3 _⟩
    replace hL1 := ite_f hL1 hc3
    refine W_skip ?_
    refine blk_normal ?_
    refine nrm_normal ?_
    refine W_reg ?_
    refine WL_move rfl rfl ?_
    refine WL_add rfl rfl rfl ?_
    refine WL_assign rfl rfl ?_
    refine WL_nil ?_
    refine nrm_sub (l' := [(0, u1), (1, u2), (5, (.int .i64 (w64 (x1 + 1))))]) ⟨rfl, rfl, rfl, trivial⟩ ?_
    exact ⟨k1, Nat.lt_succ_self _, w64 (x1 + 1), rfl, (((Keep.of hB1).then hB2).then hB4).below, hC3, hL1⟩
   replace hL1 := ite_f hL1 hc2
   refine W_exit ?_
   refine nrm_exit ?_
   refine nrm_exit ?_
   refine blk_exit ?_
   have hq4 := Option.some.inj hL1
   subst hq4
   refine nrm_sub (l' := []) trivial ?_
   exact ⟨rfl, rfl, (Keep.of hB1).below, hC1⟩
 rintro l2 _ w5 hs2 ⟨rfl, rfl, hB5, hC4⟩
 try dsimp only at hF
 refine nrm_sub' hs2 ?_
 clear hs2
 refine W_seq_reg ?_
 refine WL_assign rfl rfl ?_
 refine WL_nil ?_
 refine W_ret ?_
 have hq5 := Option.some.inj hF
 subst hq5
 refine fn_ret1 rfl rfl ?_
 exact ⟨_, rfl, bool_res hC4 _⟩

theorem c_Q_btoi {w0 : World} (a1 : Bool) (rr : Int) (hF : Q.btoi a1 = some rr) :
 Calls Try.prog 29 [(.bool a1)].toArray w0 fun e w' => ∃ v, e = .returned v ∧ Res w0 rr v w' := by
 refine calls_of_W Try.func29 rfl rfl ?_
 have hC0 := Ctx.start w0
 unfold Q.btoi at hF
 refine W_seq_reg ?_
 refine WL_assign rfl rfl ?_
 refine WL_nil ?_
 refine W_seq ?_
 refine W_seq_reg ?_
 refine WL_move rfl rfl ?_
 refine WL_nil ?_
 refine W_cond rfl (fun hc1 => ?_) (fun hc1 => ?_)
 ·replace hF := ite_t hF hc1
  refine W_seq_reg ?_
  refine WL_assign rfl rfl ?_
  refine WL_nil ?_
  refine W_ret ?_
  refine nrm_ret ?_
  have hq1 := Option.some.inj hF
  subst hq1
  refine fn_ret1 rfl rfl ?_
  exact ⟨_, rfl, int_res hC0 _⟩
 replace hF := ite_f hF hc1
 refine W_skip ?_
 refine nrm_normal ?_
 refine W_seq_reg ?_
 refine WL_assign rfl rfl ?_
 refine WL_nil ?_
 refine W_ret ?_
 have hq2 := Option.some.inj hF
 subst hq2
 refine fn_ret1 rfl rfl ?_
 exact ⟨_, rfl, int_res hC0 _⟩

theorem c_Q_has {w0 : World} (a1 : (List Int)) (u1 : Value) (g1 : RO [] w0 u1 a1) (a2 : Int) (rr : Bool) (hF : Q.has a1 a2 = some rr) :
 Calls Try.prog 30 [u1, (.int .i64 a2)].toArray w0 fun e w' => ∃ v, e = .returned v ∧ Res w0 rr v w' := by
 refine calls_of_W Try.func30 rfl rfl ?_
 have hC0 := Ctx.start w0
 unfold Q.has at hF
 refine W_seq_reg ?_
 refine WL_assign rfl rfl ?_
 refine WL_nil ?_
 refine W_seq ?_
 refine W_seq_reg ?_
 refine WL_assign rfl rfl ?_
 refine WL_nil ?_
 obtain ⟨r1, hr1, hF⟩ := bind_some hF
 refine W_norm (fun l w => .inl () = r1 ∧ l = [] ∧ Below w0.heap.size w0 w ∧ Ctx [] w0 w []) ?_ ?_
 ·refine W_block ?_
  refine W.sub (l' := [(0, u1), (1, (.int .i64 a2)), (5, (.int .i64 0))]) ?_ ⟨rfl, rfl, rfl, trivial⟩
  refine W_loop (fun k l w => ∃ x1 : Int, l = [(0, u1), (1, (.int .i64 a2)), (5, (.int .i64 x1))] ∧ Below w0.heap.size w0 w ∧ Ctx [] w0 w [] ∧ Q.has_l1 a1 a2 k x1 = some r1) FUEL ⟨0, rfl, (Below.refl _ _), hC0, hr1⟩ ?_
  clear hr1
  rintro k1 _ w1 ⟨x1, rfl, hB1, hC1, hL1⟩
  cases k1 with
  | zero => rw [Q.has_l1] at hL1; cases hL1
  | succ k1 =>
   rw [Q.has_l1] at hL1
   refine W_seq ?_
   refine W_seq_reg ?_
   refine WL_move rfl rfl ?_
   refine WL_move rfl rfl ?_
   refine WL_len Try.underlying22 g1 rfl rfl ?_
   refine WL_lss rfl rfl rfl ?_
   refine WL_nil ?_
   refine W_cond rfl (fun hc1 => ?_) (fun hc1 => ?_)
   ·replace hL1 := ite_t hL1 hc1
    refine W_skip ?_
    refine nrm_normal ?_
    refine W_seq ?_
    refine W_block ?_
    refine W_seq_reg ?_
    refine WL_move rfl rfl ?_
    refine WL_move rfl rfl ?_
    obtain ⟨x2, hx1, hL1⟩ := bind_some hL1
    refine WL_index Try.underlying22 ty3 g1 hx1 rfl rfl rfl (fun b1 o1 h1 => ?_)
    refine WL_load ty3 h1 hC1.keep rfl rfl (fun v1 h2 => ?_)
    obtain rfl := ro_int h2
    refine WL_move rfl rfl ?_
    refine WL_eql rfl rfl rfl ?_
    refine WL_nil ?_
    refine W_cond rfl (fun hc2 => ?_) (fun hc2 => ?_)
    ·replace hL1 := ite_t hL1 hc2
     refine W_seq_reg ?_
     refine WL_assign rfl rfl ?_
     refine WL_nil ?_
     refine W_ret ?_
     refine blk_ret ?_
     refine nrm_ret ?_
     refine nrm_ret ?_
     refine blk_ret ?_
     refine nrm_ret ?_
     refine nrm_ret ?_
     have hq1 := Option.some.inj hL1
     subst hq1
     dsimp only at hF
     have hq2 := Option.some.inj hF
     subst hq2
     refine fn_ret1 rfl rfl ?_
     exact ⟨_, rfl, bool_res hC1 _⟩
    replace hL1 := ite_f hL1 hc2
    refine W_skip ?_
    refine blk_normal ?_
    refine nrm_normal ?_
    refine W_reg ?_
    refine WL_move rfl rfl ?_
    refine WL_add rfl rfl rfl ?_
    refine WL_assign rfl rfl ?_
    refine WL_nil ?_
    refine nrm_sub (l' := [(0, u1), (1, (.int .i64 a2)), (5, (.int .i64 (w64 (x1 + 1))))]) ⟨rfl, rfl, rfl, trivial⟩ ?_
    exact ⟨k1, Nat.lt_succ_self _, w64 (x1 + 1), rfl, (Keep.of hB1).below, hC1, hL1⟩
   replace hL1 := ite_f hL1 hc1
   refine W_exit ?_
   refine nrm_exit ?_
   refine nrm_exit ?_
   refine blk_exit ?_
   have hq3 := Option.some.inj hL1
   subst hq3
   refine nrm_sub (l' := []) trivial ?_
   exact ⟨rfl, rfl, (Keep.of hB1).below, hC1⟩
 rintro l2 _ w2 hs2 ⟨rfl, rfl, hB2, hC2⟩
 try dsimp only at hF
 refine nrm_sub' hs2 ?_
 clear hs2
 refine W_seq_reg ?_
 refine WL_assign rfl rfl ?_
 refine WL_nil ?_
 refine W_ret ?_
 have hq4 := Option.some.inj hF
 subst hq4
 refine fn_ret1 rfl rfl ?_
 exact ⟨_, rfl, bool_res hC2 _⟩

theorem c_S_l1In {w0 : World} (a1 : Int) (a2 : Int) (a3 : Int) (rr : Bool) (hF : S.l1In a1 a2 a3 = some rr) :
 Calls Try.prog 90 [(.int .i64 a1), (.int .i64 a2), (.int .i64 a3)].toArray w0 fun e w' => ∃ v, e = .returned v ∧ Res w0 rr v w' := by
 refine calls_of_W Try.func90 rfl rfl ?_
 have hC0 := Ctx.start w0
 unfold S.l1In at hF
 refine W_seq_reg ?_
 refine WL_assign rfl rfl ?_
 refine WL_nil ?_
 obtain ⟨r1, hr1, hF⟩ := bind_some hF
 refine W_cut (fun l w => ∃ x1 : Bool, x1 = r1 ∧ l = [(6, (.bool x1))] ∧ Below w0.heap.size w0 w ∧ Ctx [] w0 w []) ?_ ?_
 ·refine W_reg ?_
  refine WL_move rfl rfl ?_
  refine WL_move rfl rfl ?_
  refine WL_geq rfl rfl rfl ?_
  refine WL_move rfl rfl ?_
  refine WL_fork (fun hc1 => ?_) (fun hc1 => ?_)
  ·replace hr1 := ite_t hr1 hc1
   refine WL_guard rfl rfl ?_
   refine WL_move rfl rfl ?_
   refine WL_guard rfl rfl ?_
   refine WL_move rfl rfl ?_
   refine WL_guard rfl rfl ?_
   refine WL_leq rfl rfl rfl ?_
   refine WL_pick_t rfl rfl rfl ?_
   refine WL_assign rfl rfl ?_
   refine WL_nil ?_
   have hq1 := Option.some.inj hr1
   subst hq1
   refine nrm_sub (l' := [(6, (.bool (decide (a1 ≤ a3))))]) ⟨rfl, trivial⟩ ?_
   exact ⟨(decide (a1 ≤ a3)), rfl, rfl, (Below.refl _ _), hC0⟩
  replace hr1 := ite_f hr1 hc1
  refine WL_guard_skip rfl rfl (by simp) rfl ?_
  refine WL_guard_skip rfl rfl (by simp) rfl ?_
  refine WL_guard_skip rfl rfl (by simp) rfl ?_
  refine WL_pick_f rfl rfl rfl ?_
  refine WL_assign rfl rfl ?_
  refine WL_nil ?_
  have hq2 := Option.some.inj hr1
  subst hq2
  refine nrm_sub (l' := [(6, (.bool false))]) ⟨rfl, trivial⟩ ?_
  exact ⟨false, rfl, rfl, (Below.refl _ _), hC0⟩
 rintro _ w1 ⟨x1, rfl, rfl, hB1, hC1⟩
 try dsimp only at hF
 refine W_ret ?_
 have hq3 := Option.some.inj hF
 subst hq3
 refine fn_ret1 rfl rfl ?_
 exact ⟨_, rfl, bool_res hC1 _⟩

theorem c_S_IsLedger {w0 : World} (a1 : ((List Int) × Int × Int)) (u1 : Value) (g1 : RO [] w0 u1 a1.1) (rr : Bool) (hF : S.IsLedger a1 = some rr) :
 Calls Try.prog 42 [(.agg #[u1, (.int .i64 a1.2.1), (.int .i64 a1.2.2)])].toArray w0 fun e w' => ∃ v, e = .returned v ∧ Res w0 rr v w' := by
 refine calls_of_W Try.func42 rfl rfl ?_
 have hC0 := Ctx.start w0
 unfold S.IsLedger at hF
 refine W_seq_reg ?_
 refine WL_box (cs := [u1, (.int .i64 a1.2.1), (.int .i64 a1.2.2)]) hC0 rfl rfl rfl (fun b1 w1 hC1 hB1 => ?_)
 refine WL_assign rfl rfl ?_
 refine WL_nil ?_
 refine W_seq ?_
 refine W_seq_reg ?_
 refine WL_assign rfl rfl ?_
 refine WL_nil ?_
 obtain ⟨r1, hr1, hF⟩ := bind_some hF
 refine W_norm (fun l w => .inl () = r1 ∧ l = [(1, (ptr b1 0))] ∧ Below w1.heap.size w1 w ∧ Ctx [] w0 w [Item.box b1 [u1, (.int .i64 a1.2.1), (.int .i64 a1.2.2)]]) ?_ ?_
 ·refine W_block ?_
  refine W.sub (l' := [(1, (ptr b1 0)), (3, (.int .i64 0))]) ?_ ⟨rfl, rfl, trivial⟩
  refine W_loop (fun k l w => ∃ x1 : Int, l = [(1, (ptr b1 0)), (3, (.int .i64 x1))] ∧ Below w1.heap.size w1 w ∧ Ctx [] w0 w [Item.box b1 [u1, (.int .i64 a1.2.1), (.int .i64 a1.2.2)]] ∧ S.IsLedger_l1 a1 k x1 = some r1) FUEL ⟨0, rfl, (Below.refl _ _), hC1, hr1⟩ ?_
  clear hr1
  rintro k1 _ w2 ⟨x1, rfl, hB2, hC2, hL1⟩
  cases k1 with
  | zero => rw [S.IsLedger_l1] at hL1; cases hL1
  | succ k1 =>
   rw [S.IsLedger_l1] at hL1
   refine W_seq ?_
   refine W_seq_reg ?_
   refine WL_move rfl rfl ?_
   refine WL_field Try.underlying26 rfl rfl (fun w => ⟨_, Try.sizeOf22 w⟩) rfl rfl ?_
   refine WL_load_box hC2 0 rfl rfl Try.isAgg22 rfl rfl ?_
   refine WL_len Try.underlying22 g1 rfl rfl ?_
   refine WL_lss rfl rfl rfl ?_
   refine WL_nil ?_
   refine W_cond rfl (fun hc1 => ?_) (fun hc1 => ?_)
   ·replace hL1 := ite_t hL1 hc1
    refine W_skip ?_
    refine nrm_normal ?_
    refine W_seq ?_
    refine W_block ?_
    obtain ⟨r2, hr2, hL1⟩ := bind_some hL1
    refine W_cut (fun l w => ∃ x2 : Bool, x2 = r2 ∧ l = [(1, (ptr b1 0)), (3, (.int .i64 x1)), (35, (.bool x2))] ∧ Below w2.heap.size w2 w ∧ Ctx [] w0 w [Item.box b1 [u1, (.int .i64 a1.2.1), (.int .i64 a1.2.2)]]) ?_ ?_
    ·refine W_drawn 25 rfl hmix (fun w4 hB4 => ?_)
     have hC4 := hC2.grow hB4
     refine WA_tk 0 (by kernel_rfl) rfl rfl (fl_field Try.underlying26 rfl rfl (fun w => ⟨_, Try.sizeOf22 w⟩) rfl) ?_
     refine WL_field Try.underlying26 rfl rfl (fun w => ⟨_, Try.sizeOf22 w⟩) rfl rfl ?_
     refine WL_nil ?_
     refine WA_tk 2 (by kernel_rfl) rfl rfl (fl_move rfl) ?_
     refine WL_move rfl rfl ?_
     refine WL_nil ?_
     refine WA_one 1 (by kernel_rfl) rfl ?_
     refine WL_load_box hC4 0 rfl rfl Try.isAgg22 rfl rfl ?_
     refine WL_nil ?_
     obtain ⟨x3, hx1, hr2⟩ := bind_some hr2
     refine WA_tk 3 (by kernel_rfl) rfl rfl (fl_index Try.underlying22 ty3 g1 hx1 rfl rfl) ?_
     refine WL_index Try.underlying22 ty3 g1 hx1 rfl rfl rfl (fun b2 o1 h1 => ?_)
     refine WL_nil ?_
     refine WA_one 4 (by kernel_rfl) rfl ?_
     refine WL_load ty3 h1 hC4.keep rfl rfl (fun v1 h2 => ?_)
     obtain rfl := ro_int h2
     refine WL_nil ?_
     obtain ⟨x4, hr3, hr2⟩ := bind_some hr2
     refine WA_one 5 (by kernel_rfl) rfl ?_
     refine WL_call Try.call90 rfl rfl (c_S_l1In x3 0 1000000 x4 hr3) ?_
     intro _ w5 hv1
     obtain ⟨rfl, hB5⟩ := res_bool hv1
     have hC5 := hC4.grow hB5
     refine WL_nil ?_
     refine WA_tk 6 (by kernel_rfl) rfl rfl (fl_not rfl) ?_
     refine WL_not rfl rfl ?_
     refine WL_nil ?_
     refine WA_tk 7 (by kernel_rfl) rfl rfl (fl_move rfl) ?_
     refine WL_move rfl rfl ?_
     refine WL_nil ?_
     refine WA_fork (fun hc2 => ?_) (fun hc2 => ?_)
     ·replace hr2 := ite_t hr2 hc2
      refine WA_sk 8 (by kernel_rfl) rfl rfl rfl rfl (by simp) rfl rfl ?_
      refine WA_sk 9 (by kernel_rfl) rfl rfl rfl rfl (by simp) rfl rfl ?_
      refine WA_sk 10 (by kernel_rfl) rfl rfl rfl rfl (by simp) rfl rfl ?_
      refine WA_sk 11 (by kernel_rfl) rfl rfl rfl rfl (by simp [undef]) rfl rfl ?_
      refine WA_sk 12 (by kernel_rfl) rfl rfl rfl rfl (by simp [undef]) rfl rfl ?_
      refine WA_sk 13 (by kernel_rfl) rfl rfl rfl rfl (by simp [undef]) rfl rfl ?_
      refine WA_sk 14 (by kernel_rfl) rfl rfl rfl rfl (by simp [undef]) rfl rfl ?_
      refine WA_sk 15 (by kernel_rfl) rfl rfl rfl rfl (by simp [undef]) rfl rfl ?_
      refine WA_sk 16 (by kernel_rfl) rfl rfl rfl rfl (by simp [undef]) rfl rfl ?_
      refine WA_sk 17 (by kernel_rfl) rfl rfl rfl rfl (by simp [undef]) rfl rfl ?_
      refine WA_sk 18 (by kernel_rfl) rfl rfl rfl rfl (by simp [undef]) rfl rfl ?_
      refine WA_sk 19 (by kernel_rfl) rfl rfl rfl rfl (by simp [undef]) rfl rfl ?_
      refine WA_sk 20 (by kernel_rfl) rfl rfl rfl rfl (by simp [undef]) rfl rfl ?_
      refine WA_sk 21 (by kernel_rfl) rfl rfl rfl rfl (by simp [undef]) rfl rfl ?_
      refine WA_sk 22 (by kernel_rfl) rfl rfl rfl rfl (by simp [undef]) rfl rfl ?_
      refine WA_sk 23 (by kernel_rfl) rfl rfl rfl rfl (by simp) rfl rfl ?_
      refine WA_tk 24 (by kernel_rfl) rfl rfl (fl_pick_t rfl rfl) ?_
      refine WL_pick_t rfl rfl rfl ?_
      refine WL_nil ?_
      refine WA_done (by kernel_rfl) ?_
      have hq1 := Option.some.inj hr2
      subst hq1
      refine nrm_sub (l' := [(1, (ptr b1 0)), (3, (.int .i64 x1)), (35, (.bool true))]) ⟨rfl, rfl, rfl, trivial⟩ ?_
      exact ⟨true, rfl, rfl, ((Keep.of hB4).then hB5).below, hC5⟩
     replace hr2 := ite_f hr2 hc2
     refine WA_takeG 8 rfl (by kernel_rfl) (by kernel_rfl) (by kernel_rfl) rfl rfl rfl (fl_move rfl) ?_
     refine WL_guard rfl rfl ?_
     refine WL_move rfl rfl ?_
     refine WL_nil ?_
     refine WA_takeG 9 rfl (by kernel_rfl) (by kernel_rfl) (by kernel_rfl) rfl rfl rfl (fl_gtr rfl rfl) ?_
     refine WL_guard rfl rfl ?_
     refine WL_gtr rfl rfl rfl ?_
     refine WL_nil ?_
     refine WA_takeG 10 rfl (by kernel_rfl) (by kernel_rfl) (by kernel_rfl) rfl rfl rfl (fl_move rfl) ?_
     refine WL_guard rfl rfl ?_
     refine WL_move rfl rfl ?_
     refine WL_nil ?_
     refine WA_fork (fun hc3 => ?_) (fun hc3 => ?_)
     ·replace hr2 := ite_t hr2 hc3
      refine WA_takeG 11 rfl (by kernel_rfl) (by kernel_rfl) (by kernel_rfl) rfl rfl rfl (fl_field Try.underlying26 rfl rfl (fun w => ⟨_, Try.sizeOf22 w⟩) rfl) ?_
      refine WL_guard rfl rfl ?_
      refine WL_field Try.underlying26 rfl rfl (fun w => ⟨_, Try.sizeOf22 w⟩) rfl rfl ?_
      refine WL_nil ?_
      refine WA_takeG 13 rfl (by kernel_rfl) (by kernel_rfl) (by kernel_rfl) rfl rfl rfl (fl_move rfl) ?_
      refine WL_guard rfl rfl ?_
      refine WL_move rfl rfl ?_
      refine WL_nil ?_
      refine WA_takeG 16 rfl (by kernel_rfl) (by kernel_rfl) (by kernel_rfl) rfl rfl rfl (fl_field Try.underlying26 rfl rfl (fun w => ⟨_, Try.sizeOf22 w⟩) rfl) ?_
      refine WL_guard rfl rfl ?_
      refine WL_field Try.underlying26 rfl rfl (fun w => ⟨_, Try.sizeOf22 w⟩) rfl rfl ?_
      refine WL_nil ?_
      refine WA_takeG 18 rfl (by kernel_rfl) (by kernel_rfl) (by kernel_rfl) rfl rfl rfl (fl_move rfl) ?_
      refine WL_guard rfl rfl ?_
      refine WL_move rfl rfl ?_
      refine WL_nil ?_
      refine WA_takeG 19 rfl (by kernel_rfl) (by kernel_rfl) (by kernel_rfl) rfl rfl rfl (fl_sub rfl rfl) ?_
      refine WL_guard rfl rfl ?_
      refine WL_sub rfl rfl rfl ?_
      refine WL_nil ?_
      obtain ⟨x5, hx2, hr2⟩ := bind_some hr2
      obtain ⟨x6, hx3, hr2⟩ := bind_some hr2
      refine WA.sub (l' := [(1, (ptr b1 0)), (3, (.int .i64 x1)), (4, (.int .i64 x1)), (5, (ptr b1 0)), (6, u1), (7, (.int .i64 (List.length a1.1 : Int))), (8, (.bool (decide (x1 < (List.length a1.1 : Int))))), (11, (ptr b1 0)), (12, u1), (13, (.int .i64 x1)), (14, (ptr b2 o1)), (15, (.int .i64 x3)), (16, (.bool x4)), (17, (.bool (!x4))), (18, (.bool false)), (19, (.int .i64 x1)), (20, (.bool (decide (0 < x1)))), (21, (.bool true)), (22, (ptr b1 0)), (24, (.int .i64 x1)), (27, (ptr b1 0)), (29, (.int .i64 x1)), (30, (.int .i64 (w64 (x1 - 1))))]) ?_ ⟨rfl, rfl, rfl, rfl, rfl, rfl, rfl, rfl, rfl, rfl, rfl, rfl, rfl, rfl, rfl, rfl, rfl, rfl, rfl, rfl, rfl, rfl, rfl, trivial⟩
      refine WA_postsE [⟨12, [], fun vs => PW.val u1, []⟩, ⟨14, [], fun vs => PW.at [] w0 x5, []⟩, ⟨15, [], fun vs => PW.val (.int .i64 x5), []⟩, ⟨17, [], fun vs => PW.val u1, []⟩, ⟨20, [], fun vs => PW.at [] w0 x6, []⟩, ⟨21, [], fun vs => PW.val (.int .i64 x6), []⟩] [[], [12], [14], [], [17], [20]] 3 rfl (by kernel_rfl) (by kernel_rfl) rfl ?_ ?_
      ·refine StepsE_cons rfl ?_ ?_
       ·intro w6 hB6
        refine DepsE_nil ?_
        refine ⟨_, rfl, ?_⟩
        refine WL_guard rfl rfl ?_
        refine WL_load_box (hC5.grow hB6) 0 rfl rfl Try.isAgg22 rfl rfl ?_
        refine WL_nil ?_
        exact FinE_val (Below.refl _ _) rfl rfl ⟨rfl, rfl⟩
       refine StepsE_cons rfl ?_ ?_
       ·intro w6 hB6
        refine DepsE_cons rfl rfl rfl ?_
        rintro _ _ ⟨rfl, rfl⟩ _
        refine DepsE_nil ?_
        refine ⟨_, rfl, ?_⟩
        refine WL_guard rfl rfl ?_
        refine WL_index Try.underlying22 ty3 g1 hx2 rfl rfl rfl (fun b3 o2 h3 => ?_)
        refine WL_nil ?_
        exact FinE_val (Below.refl _ _) rfl rfl ⟨rfl, _, _, rfl, h3⟩
       refine StepsE_cons rfl ?_ ?_
       ·intro w6 hB6
        refine DepsE_cons rfl rfl rfl ?_
        rintro _ _ ⟨rfl, b3, o2, rfl, h3⟩ _
        refine DepsE_nil ?_
        refine ⟨_, rfl, ?_⟩
        refine WL_guard rfl rfl ?_
        refine WL_load ty3 h3 (hC5.keep.then hB6) rfl rfl (fun v2 h4 => ?_)
        obtain rfl := ro_int h4
        refine WL_nil ?_
        exact FinE_val (Below.refl _ _) rfl rfl ⟨rfl, rfl⟩
       refine StepsE_cons rfl ?_ ?_
       ·intro w6 hB6
        refine DepsE_nil ?_
        refine ⟨_, rfl, ?_⟩
        refine WL_guard rfl rfl ?_
        refine WL_load_box (hC5.grow hB6) 0 rfl rfl Try.isAgg22 rfl rfl ?_
        refine WL_nil ?_
        exact FinE_val (Below.refl _ _) rfl rfl ⟨rfl, rfl⟩
       refine StepsE_cons rfl ?_ ?_
       ·intro w6 hB6
        refine DepsE_cons rfl rfl rfl ?_
        rintro _ _ ⟨rfl, rfl⟩ _
        refine DepsE_nil ?_
        refine ⟨_, rfl, ?_⟩
        refine WL_guard rfl rfl ?_
        refine WL_index Try.underlying22 ty3 g1 hx3 rfl rfl rfl (fun b4 o3 h5 => ?_)
        refine WL_nil ?_
        exact FinE_val (Below.refl _ _) rfl rfl ⟨rfl, _, _, rfl, h5⟩
       refine StepsE_cons rfl ?_ ?_
       ·intro w6 hB6
        refine DepsE_cons rfl rfl rfl ?_
        rintro _ _ ⟨rfl, b4, o3, rfl, h5⟩ _
        refine DepsE_nil ?_
        refine ⟨_, rfl, ?_⟩
        refine WL_guard rfl rfl ?_
        refine WL_load ty3 h5 (hC5.keep.then hB6) rfl rfl (fun v3 h6 => ?_)
        obtain rfl := ro_int h6
        refine WL_nil ?_
        exact FinE_val (Below.refl _ _) rfl rfl ⟨rfl, rfl⟩
       exact StepsE_nil
      intro w7 hB7
      refine AllE_cons rfl rfl rfl ?_
      rintro _ _ ⟨rfl, rfl⟩
      refine AllE_cons rfl rfl rfl ?_
      rintro _ _ ⟨rfl, b3, o2, rfl, h3⟩
      refine AllE_cons rfl rfl rfl ?_
      rintro _ _ ⟨rfl, rfl⟩
      refine AllE_cons rfl rfl rfl ?_
      rintro _ _ ⟨rfl, rfl⟩
      refine AllE_cons rfl rfl rfl ?_
      rintro _ _ ⟨rfl, b4, o3, rfl, h5⟩
      refine AllE_cons rfl rfl rfl ?_
      rintro _ _ ⟨rfl, rfl⟩
      refine AllE_nil ?_
      intro hn1 hb1
      have hC6 := hC5.grow hB7
      refine WA_takeG 22 rfl (by kernel_rfl) (by kernel_rfl) (by kernel_rfl) rfl rfl rfl (fl_leq rfl rfl) ?_
      refine WL_guard rfl rfl ?_
      refine WL_leq rfl rfl rfl ?_
      refine WL_nil ?_
      refine WA_takeG 23 rfl (by kernel_rfl) (by kernel_rfl) (by kernel_rfl) rfl rfl rfl (fl_pick_t rfl rfl) ?_
      refine WL_guard rfl rfl ?_
      refine WL_pick_t rfl rfl rfl ?_
      refine WL_nil ?_
      refine WA_tk 24 (by kernel_rfl) rfl rfl (fl_pick_f rfl rfl) ?_
      refine WL_pick_f rfl rfl rfl ?_
      refine WL_nil ?_
      refine WA_done (by kernel_rfl) ?_
      have hq2 := Option.some.inj hr2
      subst hq2
      refine nrm_sub (l' := [(1, (ptr b1 0)), (3, (.int .i64 x1)), (35, (.bool (decide (x5 ≤ x6))))]) ⟨rfl, rfl, rfl, trivial⟩ ?_
      exact ⟨(decide (x5 ≤ x6)), rfl, rfl, (((Keep.of hB4).then hB5).then hB7).below, hC6⟩
     replace hr2 := ite_f hr2 hc3
     refine WA_sk 11 (by kernel_rfl) rfl rfl rfl rfl (by simp) rfl rfl ?_
     refine WA_sk 12 (by kernel_rfl) rfl rfl rfl rfl (by simp) rfl rfl ?_
     refine WA_sk 13 (by kernel_rfl) rfl rfl rfl rfl (by simp) rfl rfl ?_
     refine WA_sk 14 (by kernel_rfl) rfl rfl rfl rfl (by simp) rfl rfl ?_
     refine WA_sk 15 (by kernel_rfl) rfl rfl rfl rfl (by simp) rfl rfl ?_
     refine WA_sk 16 (by kernel_rfl) rfl rfl rfl rfl (by simp) rfl rfl ?_
     refine WA_sk 17 (by kernel_rfl) rfl rfl rfl rfl (by simp) rfl rfl ?_
     refine WA_sk 18 (by kernel_rfl) rfl rfl rfl rfl (by simp) rfl rfl ?_
     refine WA_sk 19 (by kernel_rfl) rfl rfl rfl rfl (by simp) rfl rfl ?_
     refine WA_sk 20 (by kernel_rfl) rfl rfl rfl rfl (by simp) rfl rfl ?_
     refine WA_sk 21 (by kernel_rfl) rfl rfl rfl rfl (by simp) rfl rfl ?_
     refine WA_sk 22 (by kernel_rfl) rfl rfl rfl rfl (by simp) rfl rfl ?_
     refine WA_takeG 23 rfl (by kernel_rfl) (by kernel_rfl) (by kernel_rfl) rfl rfl rfl (fl_pick_f rfl rfl) ?_
     refine WL_guard rfl rfl ?_
     refine WL_pick_f rfl rfl rfl ?_
     refine WL_nil ?_
     refine WA_tk 24 (by kernel_rfl) rfl rfl (fl_pick_f rfl rfl) ?_
     refine WL_pick_f rfl rfl rfl ?_
     refine WL_nil ?_
     refine WA_done (by kernel_rfl) ?_
     have hq3 := Option.some.inj hr2
     subst hq3
     refine nrm_sub (l' := [(1, (ptr b1 0)), (3, (.int .i64 x1)), (35, (.bool false))]) ⟨rfl, rfl, rfl, trivial⟩ ?_
     exact ⟨false, rfl, rfl, ((Keep.of hB4).then hB5).below, hC5⟩
    rintro _ w3 ⟨x2, rfl, rfl, hB3, hC3⟩
    try dsimp only at hL1
    refine W_cond rfl (fun hc4 => ?_) (fun hc4 => ?_)
    ·replace hL1 := ite_t hL1 hc4
     refine W_seq_reg ?_
     refine WL_assign rfl rfl ?_
     refine WL_nil ?_
     refine W_ret ?_
     refine blk_ret ?_
     refine nrm_ret ?_
     refine nrm_ret ?_
     refine blk_ret ?_
     refine nrm_ret ?_
     refine nrm_ret ?_
     have hq4 := Option.some.inj hL1
     subst hq4
     dsimp only at hF
     have hq5 := Option.some.inj hF
     subst hq5
     refine fn_ret1 rfl rfl ?_
     exact ⟨_, rfl, bool_res hC3 _⟩
    replace hL1 := ite_f hL1 hc4
    refine W_skip ?_
    refine blk_normal ?_
    refine nrm_normal ?_
    refine W_reg ?_
    refine WL_move rfl rfl ?_
    refine WL_add rfl rfl rfl ?_
    refine WL_assign rfl rfl ?_
    refine WL_nil ?_
    refine nrm_sub (l' := [(1, (ptr b1 0)), (3, (.int .i64 (w64 (x1 + 1))))]) ⟨rfl, rfl, trivial⟩ ?_
    exact ⟨k1, Nat.lt_succ_self _, w64 (x1 + 1), rfl, ((Keep.of hB2).then hB3).below, hC3, hL1⟩
   replace hL1 := ite_f hL1 hc1
   refine W_exit ?_
   refine nrm_exit ?_
   refine nrm_exit ?_
   refine blk_exit ?_
   have hq6 := Option.some.inj hL1
   subst hq6
   refine nrm_sub (l' := [(1, (ptr b1 0))]) ⟨rfl, trivial⟩ ?_
   exact ⟨rfl, rfl, (Keep.of hB2).below, hC2⟩
 rintro l3 _ w9 hs3 ⟨rfl, rfl, hB8, hC7⟩
 try dsimp only at hF
 refine nrm_sub' hs3 ?_
 clear hs3
 obtain ⟨r3, hr4, hF⟩ := bind_some hF
 refine W_cut (fun l w => ∃ x7 : Bool, x7 = r3 ∧ l = [(2, (.bool x7))] ∧ Below w9.heap.size w9 w ∧ Ctx [] w0 w []) ?_ ?_
 ·refine W_reg ?_
  refine WL_field Try.underlying26 rfl rfl (fun w => ⟨_, Try.sizeOf3 w⟩) rfl rfl ?_
  refine WL_load_box hC7 0 rfl rfl Try.isAgg3 rfl rfl ?_
  obtain ⟨x8, hr5, hr4⟩ := bind_some hr4
  refine WL_call Try.call90 rfl rfl (c_S_l1In a1.2.1 0 1000000000 x8 hr5) ?_
  intro _ w11 hv2
  obtain ⟨rfl, hB10⟩ := res_bool hv2
  have hC9 := hC7.grow hB10
  refine WL_move rfl rfl ?_
  refine WL_fork (fun hc5 => ?_) (fun hc5 => ?_)
  ·replace hr4 := ite_t hr4 hc5
   refine WL_guard rfl rfl ?_
   refine WL_field Try.underlying26 rfl rfl (fun w => ⟨_, Try.sizeOf3 w⟩) rfl rfl ?_
   refine WL_guard rfl rfl ?_
   refine WL_load_box hC9 0 rfl rfl Try.isAgg3 rfl rfl ?_
   obtain ⟨x9, hr6, hr4⟩ := bind_some hr4
   refine WL_guard rfl rfl ?_
   refine WL_call Try.call90 rfl rfl (c_S_l1In a1.2.2 0 1000000000 x9 hr6) ?_
   intro _ w12 hv3
   obtain ⟨rfl, hB11⟩ := res_bool hv3
   have hC10 := hC9.grow hB11
   refine WL_pick_t rfl rfl rfl ?_
   refine WL_assign rfl rfl ?_
   refine WL_nil ?_
   have hq7 := Option.some.inj hr4
   subst hq7
   have hC11 := hC10.h0
   refine nrm_sub (l' := [(2, (.bool x9))]) ⟨rfl, trivial⟩ ?_
   exact ⟨x9, rfl, rfl, ((Keep.of hB10).then hB11).below, hC11⟩
  replace hr4 := ite_f hr4 hc5
  refine WL_guard_skip rfl rfl (by simp) rfl ?_
  refine WL_guard_skip rfl rfl (by simp) rfl ?_
  refine WL_guard_skip rfl rfl (by simp) rfl ?_
  refine WL_pick_f rfl rfl rfl ?_
  refine WL_assign rfl rfl ?_
  refine WL_nil ?_
  have hq8 := Option.some.inj hr4
  subst hq8
  have hC12 := hC9.h0
  refine nrm_sub (l' := [(2, (.bool false))]) ⟨rfl, trivial⟩ ?_
  exact ⟨false, rfl, rfl, (Keep.of hB10).below, hC12⟩
 rintro _ w10 ⟨x7, rfl, rfl, hB9, hC8⟩
 try dsimp only at hF
 refine W_ret ?_
 have hq9 := Option.some.inj hF
 subst hq9
 refine fn_ret1 rfl rfl ?_
 exact ⟨_, rfl, bool_res hC8 _⟩

theorem c_S_l27Copy {w0 : World} (a1 : ((List Int) × Int × Int)) (u1 : Value) (g1 : RO [] w0 u1 a1.1) (rr : ((List Int) × Int × Int)) (hF : S.l27Copy a1 = some rr) :
 Calls Try.prog 89 [(.agg #[u1, (.int .i64 a1.2.1), (.int .i64 a1.2.2)])].toArray w0 fun e w' => ∃ v, e = .returned v ∧ Res w0 rr v w' := by
 refine calls_of_W Try.func89 rfl rfl ?_
 have hC0 := Ctx.start w0
 unfold S.l27Copy at hF
 refine W_seq_reg ?_
 refine WL_box (cs := [u1, (.int .i64 a1.2.1), (.int .i64 a1.2.2)]) hC0 rfl rfl rfl (fun b1 w1 hC1 hB1 => ?_)
 refine WL_alloc hC1 zero26 rfl rfl (fun b2 w2 hC2 hB2 => ?_)
 refine WL_nil ?_
 refine W_seq ?_
 refine W_drawn 10 rfl hmix (fun w3 hB3 => ?_)
 have hC3 := hC2.grow hB3
 refine WA_tk 1 (by kernel_rfl) rfl rfl (fl_field Try.underlying26 rfl rfl (fun w => ⟨_, Try.sizeOf22 w⟩) rfl) ?_
 refine WL_field Try.underlying26 rfl rfl (fun w => ⟨_, Try.sizeOf22 w⟩) rfl rfl ?_
 refine WL_nil ?_
 refine WA_tk 4 (by kernel_rfl) rfl rfl (fl_field Try.underlying26 rfl rfl (fun w => ⟨_, Try.sizeOf3 w⟩) rfl) ?_
 refine WL_field Try.underlying26 rfl rfl (fun w => ⟨_, Try.sizeOf3 w⟩) rfl rfl ?_
 refine WL_nil ?_
 refine WA_tk 6 (by kernel_rfl) rfl rfl (fl_field Try.underlying26 rfl rfl (fun w => ⟨_, Try.sizeOf3 w⟩) rfl) ?_
 refine WL_field Try.underlying26 rfl rfl (fun w => ⟨_, Try.sizeOf3 w⟩) rfl rfl ?_
 refine WL_nil ?_
 obtain ⟨x1, hx1, hF⟩ := bind_some hF
 refine WA.sub (l' := [(0, (.agg #[u1, (.int .i64 a1.2.1), (.int .i64 a1.2.2)])), (1, (ptr b1 0)), (2, (ptr b2 0)), (4, (ptr b1 0)), (7, (ptr b1 1)), (9, (ptr b1 2))]) ?_ ⟨rfl, rfl, rfl, rfl, rfl, rfl, trivial⟩
 refine WA_postsE [⟨0, [], fun vs => PW.own (([] : List Int) : (List Int)), []⟩, ⟨2, [], fun vs => PW.val u1, []⟩, ⟨3, [], fun vs => PW.own (x1 : (List Int)), [0]⟩, ⟨5, [], fun vs => PW.val (.int .i64 a1.2.1), []⟩, ⟨7, [], fun vs => PW.val (.int .i64 a1.2.2), []⟩] [[], [], [2], [], []] 2 rfl (by kernel_rfl) (by kernel_rfl) rfl ?_ ?_
 ·refine StepsE_cons rfl ?_ ?_
  ·intro w6 hB5
   refine DepsE_nil ?_
   refine ⟨_, rfl, ?_⟩
   refine WL_buildSlice (vs := []) (Ctx.start w6) Try.underlying22 ty3 rfl rfl rfl rfl (by simp) rfl rfl (fun b3 w4 hC4 hB4 => ?_)
   have hC5 := hC4.row0 (α := Int)
   have hC6 := hC5.front 1 rfl
   dsimp only [List.eraseIdx, List.cons_append, List.nil_append, List.append_nil] at hC6
   have hC7 : Ctx [] w6 w4 (Item.own (.slice (some ⟨b3, 0, none⟩) 0 0) (([] : List Int) : List Int) :: []) := hC6.rowOwn (by simp [maxLen])
   refine WL_nil ?_
   exact FinE_ctx hC7 rfl rfl (fun F h => h)
  refine StepsE_cons rfl ?_ ?_
  ·intro w6 hB5
   refine DepsE_nil ?_
   refine ⟨_, rfl, ?_⟩
   refine WL_load_box (hC3.grow hB5) 1 rfl rfl Try.isAgg22 rfl rfl ?_
   refine WL_nil ?_
   exact FinE_val (Below.refl _ _) rfl rfl ⟨rfl, rfl⟩
  refine StepsE_use rfl rfl rfl ?_ ?_
  ·intro w6 hB5
   refine DepsE_cons rfl rfl rfl ?_
   rintro _ _ ⟨rfl, rfl⟩ _
   refine DepsE_nil ?_
   refine ⟨_, _, rfl, rfl, ?_⟩
   intro v1 F1 hv1 ho1
   have hC8 := Ctx.local hv1 ho1
   refine WL_append_flat (α := Int) hC8 0 rfl g1 (hC3.keep.then hB5) Try.underlying22 ty3 rfl hx1 rfl rfl rfl (fun v2 w5 hC9 => ?_)
   try dsimp only [List.set] at hC9
   refine WL_nil ?_
   exact FinE_ctx hC9 rfl rfl (fun F h => h)
  refine StepsE_cons rfl ?_ ?_
  ·intro w6 hB5
   refine DepsE_nil ?_
   refine ⟨_, rfl, ?_⟩
   refine WL_load_box (hC3.grow hB5) 1 rfl rfl Try.isAgg3 rfl rfl ?_
   refine WL_nil ?_
   exact FinE_val (Below.refl _ _) rfl rfl ⟨rfl, rfl⟩
  refine StepsE_cons rfl ?_ ?_
  ·intro w6 hB5
   refine DepsE_nil ?_
   refine ⟨_, rfl, ?_⟩
   refine WL_load_box (hC3.grow hB5) 1 rfl rfl Try.isAgg3 rfl rfl ?_
   refine WL_nil ?_
   exact FinE_val (Below.refl _ _) rfl rfl ⟨rfl, rfl⟩
  exact StepsE_nil
 intro w7 hB6
 refine AllE_skip rfl ?_
 refine AllE_cons rfl rfl rfl ?_
 rintro _ _ ⟨rfl, rfl⟩
 refine AllE_cons rfl rfl rfl ?_
 intro v3 F2 hv2
 refine AllE_cons rfl rfl rfl ?_
 rintro _ _ ⟨rfl, rfl⟩
 refine AllE_cons rfl rfl rfl ?_
 rintro _ _ ⟨rfl, rfl⟩
 refine AllE_nil ?_
 intro hn1 hb1
 have hC10 := hC3.pushL hB6 (Bs := [Item.own v3 (x1 : (List Int))]) (Fs := [F2]) ⟨F2, _, rfl, hv2, rfl⟩ (by simpa using hn1) (fun b h => (hb1 b (by simpa using h)).1)
 refine WA_tk 8 (by kernel_rfl) rfl rfl (fl_build (vs := [(0, v3), (1, (.int .i64 a1.2.1)), (2, (.int .i64 a1.2.2))]) rfl rfl (built26_0_1_2 (ro_cells (hC10.ro 0 rfl)) rfl rfl)) ?_
 refine WL_build (vs := [(0, v3), (1, (.int .i64 a1.2.1)), (2, (.int .i64 a1.2.2))]) rfl rfl rfl (built26_0_1_2 (ro_cells (hC10.ro 0 rfl)) rfl rfl) ?_
 refine WL_nil ?_
 refine WA_one 9 (by kernel_rfl) rfl ?_
 refine WL_store_box_agg (cs' := [v3, (.int .i64 a1.2.1), (.int .i64 a1.2.2)]) (new := [v3, (.int .i64 a1.2.1), (.int .i64 a1.2.2)]) hC10 1 rfl rfl (by intro v hv; simp only [List.mem_cons, List.not_mem_nil, or_false] at hv; rcases hv with rfl | rfl | rfl; exact (ro_one (hC10.ro 0 rfl)); exact rfl; exact rfl) rfl Try.sizeOf26 rfl rfl (fun w9 hC11 => ?_)
 try dsimp only [List.set] at hC11
 refine WL_nil ?_
 refine WA_done (by kernel_rfl) ?_
 refine nrm_normal ?_
 refine W_ret ?_
 have hq1 := Option.some.inj hF
 subst hq1
 refine fn_retG1 rfl (rv_cell_agg (cs' := [v3, (.int .i64 a1.2.1), (.int .i64 a1.2.2)]) hC11 (i := 1) rfl rfl rfl Try.isAgg26 Try.sizeOf26 rfl) ?_
 have hC12 := own_st26 v3 x1 a1.2.1 a1.2.2 hC11
 exact ⟨_, rfl, own_res hC12 0 rfl⟩

theorem c_S_l2Has {w0 : World} (a1 : (List Int)) (u1 : Value) (g1 : RO [] w0 u1 a1) (a2 : Int) (rr : Bool) (hF : S.l2Has a1 a2 = some rr) :
 Calls Try.prog 91 [u1, (.int .i64 a2)].toArray w0 fun e w' => ∃ v, e = .returned v ∧ Res w0 rr v w' := by
 refine calls_of_W Try.func91 rfl rfl ?_
 have hC0 := Ctx.start w0
 unfold S.l2Has at hF
 refine W_seq_reg ?_
 refine WL_assign rfl rfl ?_
 refine WL_nil ?_
 refine W_seq ?_
 refine W_seq_reg ?_
 refine WL_assign rfl rfl ?_
 refine WL_nil ?_
 obtain ⟨r1, hr1, hF⟩ := bind_some hF
 refine W_norm (fun l w => .inl () = r1 ∧ l = [] ∧ Below w0.heap.size w0 w ∧ Ctx [] w0 w []) ?_ ?_
 ·refine W_block ?_
  refine W.sub (l' := [(0, u1), (1, (.int .i64 a2)), (5, (.int .i64 0))]) ?_ ⟨rfl, rfl, rfl, trivial⟩
  refine W_loop (fun k l w => ∃ x1 : Int, l = [(0, u1), (1, (.int .i64 a2)), (5, (.int .i64 x1))] ∧ Below w0.heap.size w0 w ∧ Ctx [] w0 w [] ∧ S.l2Has_l1 a1 a2 k x1 = some r1) FUEL ⟨0, rfl, (Below.refl _ _), hC0, hr1⟩ ?_
  clear hr1
  rintro k1 _ w1 ⟨x1, rfl, hB1, hC1, hL1⟩
  cases k1 with
  | zero => rw [S.l2Has_l1] at hL1; cases hL1
  | succ k1 =>
   rw [S.l2Has_l1] at hL1
   refine W_seq ?_
   refine W_seq_reg ?_
   refine WL_move rfl rfl ?_
   refine WL_move rfl rfl ?_
   refine WL_len Try.underlying22 g1 rfl rfl ?_
   refine WL_lss rfl rfl rfl ?_
   refine WL_nil ?_
   refine W_cond rfl (fun hc1 => ?_) (fun hc1 => ?_)
   ·replace hL1 := ite_t hL1 hc1
    refine W_skip ?_
    refine nrm_normal ?_
    refine W_seq ?_
    refine W_block ?_
    refine W_seq_reg ?_
    refine WL_move rfl rfl ?_
    refine WL_move rfl rfl ?_
    obtain ⟨x2, hx1, hL1⟩ := bind_some hL1
    refine WL_index Try.underlying22 ty3 g1 hx1 rfl rfl rfl (fun b1 o1 h1 => ?_)
    refine WL_load ty3 h1 hC1.keep rfl rfl (fun v1 h2 => ?_)
    obtain rfl := ro_int h2
    refine WL_move rfl rfl ?_
    refine WL_eql rfl rfl rfl ?_
    refine WL_nil ?_
    refine W_cond rfl (fun hc2 => ?_) (fun hc2 => ?_)
    ·replace hL1 := ite_t hL1 hc2
     refine W_seq_reg ?_
     refine WL_assign rfl rfl ?_
     refine WL_nil ?_
     refine W_ret ?_
     refine blk_ret ?_
     refine nrm_ret ?_
     refine nrm_ret ?_
     refine blk_ret ?_
     refine nrm_ret ?_
     refine nrm_ret ?_
     have hq1 := Option.some.inj hL1
     subst hq1
     dsimp only at hF
     have hq2 := Option.some.inj hF
     subst hq2
     refine fn_ret1 rfl rfl ?_
     exact ⟨_, rfl, bool_res hC1 _⟩
    replace hL1 := ite_f hL1 hc2
    refine W_skip ?_
    refine blk_normal ?_
    refine nrm_normal ?_
    refine W_reg ?_
    refine WL_move rfl rfl ?_
    refine WL_add rfl rfl rfl ?_
    refine WL_assign rfl rfl ?_
    refine WL_nil ?_
    refine nrm_sub (l' := [(0, u1), (1, (.int .i64 a2)), (5, (.int .i64 (w64 (x1 + 1))))]) ⟨rfl, rfl, rfl, trivial⟩ ?_
    exact ⟨k1, Nat.lt_succ_self _, w64 (x1 + 1), rfl, (Keep.of hB1).below, hC1, hL1⟩
   replace hL1 := ite_f hL1 hc1
   refine W_exit ?_
   refine nrm_exit ?_
   refine nrm_exit ?_
   refine blk_exit ?_
   have hq3 := Option.some.inj hL1
   subst hq3
   refine nrm_sub (l' := []) trivial ?_
   exact ⟨rfl, rfl, (Keep.of hB1).below, hC1⟩
 rintro l2 _ w2 hs2 ⟨rfl, rfl, hB2, hC2⟩
 try dsimp only at hF
 refine nrm_sub' hs2 ?_
 clear hs2
 refine W_seq_reg ?_
 refine WL_assign rfl rfl ?_
 refine WL_nil ?_
 refine W_ret ?_
 have hq4 := Option.some.inj hF
 subst hq4
 refine fn_ret1 rfl rfl ?_
 exact ⟨_, rfl, bool_res hC2 _⟩

theorem c_S_l3Put_ro {w0 : World} (a1 : (List Int)) (u1 : Value) (g1 : RO [] w0 u1 a1) (a2 : Int) (rr : (List Int)) (hF : S.l3Put a1 a2 = some rr) :
 Calls Try.prog 92 [u1, (.int .i64 a2)].toArray w0 fun e w' => ∃ v, e = .returned v ∧ ResR w0 rr v w' := by
 refine calls_of_W Try.func92 rfl rfl ?_
 have hC0 := Ctx.start w0
 unfold S.l3Put at hF
 refine W_seq_reg ?_
 refine WL_assign rfl rfl ?_
 refine WL_nil ?_
 refine W_seq ?_
 refine W_seq_reg ?_
 refine WL_move rfl rfl ?_
 refine WL_move rfl rfl ?_
 obtain ⟨x1, hr1, hF⟩ := bind_some hF
 refine WL_call Try.call91 rfl rfl (c_S_l2Has a1 u1 (g1.now hC0.keep) a2 x1 hr1) ?_
 intro _ w1 hv1
 obtain ⟨rfl, hB1⟩ := res_bool hv1
 have hC1 := hC0.grow hB1
 refine WL_nil ?_
 refine W_cond rfl (fun hc1 => ?_) (fun hc1 => ?_)
 ·replace hF := ite_t hF hc1
  refine W_seq_reg ?_
  refine WL_move rfl rfl ?_
  refine WL_assign rfl rfl ?_
  refine WL_nil ?_
  refine W_ret ?_
  refine nrm_ret ?_
  have hq1 := Option.some.inj hF
  subst hq1
  refine fn_ret1 rfl rfl ?_
  exact ⟨_, rfl, hC1.keep.below, (g1.now hC1.keep)⟩
 replace hF := ite_f hF hc1
 refine W_skip ?_
 refine nrm_normal ?_
 refine W_seq_reg ?_
 refine WL_buildSlice (vs := []) hC1 Try.underlying22 ty3 rfl rfl rfl rfl (by simp) rfl rfl (fun b1 w2 hC2 hB2 => ?_)
 have hC3 := hC2.row0 (α := Int)
 have hC4 := hC3.front 1 rfl
 dsimp only [List.eraseIdx, List.cons_append, List.nil_append, List.append_nil] at hC4
 have hC5 : Ctx [] w0 w2 (Item.own (.slice (some ⟨b1, 0, none⟩) 0 0) (([] : List Int) : List Int) :: []) := hC4.rowOwn (by simp [maxLen])
 refine WL_assign rfl rfl ?_
 refine WL_nil ?_
 refine W_seq_reg ?_
 refine WL_assign rfl rfl ?_
 refine WL_nil ?_
 refine W_seq ?_
 refine W_seq_reg ?_
 refine WL_assign rfl rfl ?_
 refine WL_nil ?_
 obtain ⟨r1, hr2, hF⟩ := bind_some hF
 refine W_norm (fun l w => ∃ v2 : Value, ∃ x5 : (List Int), ∃ x6 : Bool, (x5, x6) = r1 ∧ l = [(1, (.int .i64 a2)), (5, v2), (6, (.bool x6))] ∧ Ctx [] w0 w [Item.own v2 (x5 : (List Int))]) ?_ ?_
 ·refine W_block ?_
  refine W.sub (l' := [(0, u1), (1, (.int .i64 a2)), (5, (.slice (some ⟨b1, 0, none⟩) 0 0)), (6, (.bool false)), (7, (.int .i64 0))]) ?_ ⟨rfl, rfl, rfl, rfl, rfl, trivial⟩
  refine W_loop (fun k l w => ∃ v1 : Value, ∃ x2 : (List Int), ∃ x3 : Bool, ∃ x4 : Int, l = [(0, u1), (1, (.int .i64 a2)), (5, v1), (6, (.bool x3)), (7, (.int .i64 x4))] ∧ Ctx [] w0 w [Item.own v1 (x2 : (List Int))] ∧ S.l3Put_l1 a1 a2 k x2 x3 x4 = some r1) FUEL ⟨(.slice (some ⟨b1, 0, none⟩) 0 0), ([] : List Int), false, 0, rfl, hC5, hr2⟩ ?_
  clear hr2
  rintro k1 _ w3 ⟨v1, x2, x3, x4, rfl, hC6, hL1⟩
  cases k1 with
  | zero => rw [S.l3Put_l1] at hL1; cases hL1
  | succ k1 =>
   rw [S.l3Put_l1] at hL1
   refine W_seq ?_
   refine W_seq_reg ?_
   refine WL_move rfl rfl ?_
   refine WL_move rfl rfl ?_
   refine WL_len Try.underlying22 g1 rfl rfl ?_
   refine WL_lss rfl rfl rfl ?_
   refine WL_nil ?_
   refine W_cond rfl (fun hc2 => ?_) (fun hc2 => ?_)
   ·replace hL1 := ite_t hL1 hc2
    refine W_skip ?_
    refine nrm_normal ?_
    refine W_seq ?_
    refine W_block ?_
    refine W_seq ?_
    obtain ⟨r2, hr3, hL1⟩ := bind_some hL1
    refine W_cut (fun l w => ∃ x7 : Bool, x7 = r2 ∧ l = [(0, u1), (1, (.int .i64 a2)), (5, v1), (6, (.bool x3)), (7, (.int .i64 x4)), (28, (.bool x7))] ∧ Below w3.heap.size w3 w ∧ Ctx [] w0 w [Item.own v1 (x2 : (List Int))]) ?_ ?_
    ·refine W_reg ?_
     refine WL_move rfl rfl ?_
     refine WL_not rfl rfl ?_
     refine WL_move rfl rfl ?_
     refine WL_fork (fun hc3 => ?_) (fun hc3 => ?_)
     ·replace hr3 := ite_t hr3 hc3
      refine WL_guard rfl rfl ?_
      refine WL_move rfl rfl ?_
      refine WL_guard rfl rfl ?_
      refine WL_move rfl rfl ?_
      obtain ⟨x8, hx1, hr3⟩ := bind_some hr3
      refine WL_guard rfl rfl ?_
      refine WL_index Try.underlying22 ty3 g1 hx1 rfl rfl rfl (fun b2 o1 h1 => ?_)
      refine WL_guard rfl rfl ?_
      refine WL_load ty3 h1 hC6.keep rfl rfl (fun v3 h2 => ?_)
      obtain rfl := ro_int h2
      refine WL_guard rfl rfl ?_
      refine WL_move rfl rfl ?_
      refine WL_guard rfl rfl ?_
      refine WL_gtr rfl rfl rfl ?_
      refine WL_pick_t rfl rfl rfl ?_
      refine WL_nil ?_
      have hq2 := Option.some.inj hr3
      subst hq2
      refine nrm_sub (l' := [(0, u1), (1, (.int .i64 a2)), (5, v1), (6, (.bool x3)), (7, (.int .i64 x4)), (28, (.bool (decide (a2 < x8))))]) ⟨rfl, rfl, rfl, rfl, rfl, rfl, trivial⟩ ?_
      exact ⟨(decide (a2 < x8)), rfl, rfl, (Below.refl _ _), hC6⟩
     replace hr3 := ite_f hr3 hc3
     refine WL_guard_skip rfl rfl (by simp) rfl ?_
     refine WL_guard_skip rfl rfl (by simp) rfl ?_
     refine WL_guard_skip rfl rfl (by simp) rfl ?_
     refine WL_guard_skip rfl rfl (by simp) rfl ?_
     refine WL_guard_skip rfl rfl (by simp) rfl ?_
     refine WL_guard_skip rfl rfl (by simp) rfl ?_
     refine WL_pick_f rfl rfl rfl ?_
     refine WL_nil ?_
     have hq3 := Option.some.inj hr3
     subst hq3
     refine nrm_sub (l' := [(0, u1), (1, (.int .i64 a2)), (5, v1), (6, (.bool x3)), (7, (.int .i64 x4)), (28, (.bool false))]) ⟨rfl, rfl, rfl, rfl, rfl, rfl, trivial⟩ ?_
     exact ⟨false, rfl, rfl, (Below.refl _ _), hC6⟩
    rintro _ w4 ⟨x7, rfl, rfl, hB4, hC7⟩
    try dsimp only at hL1
    obtain ⟨r3, hr4, hL1⟩ := bind_some hL1
    refine W_norm (fun l w => ∃ v4 : Value, ∃ x9 : (List Int), ∃ x10 : Bool, (x9, x10) = r3 ∧ l = [(0, u1), (1, (.int .i64 a2)), (5, v4), (6, (.bool x10)), (7, (.int .i64 x4))] ∧ Ctx [] w0 w [Item.own v4 (x9 : (List Int))]) ?_ ?_
    ·refine W_cond rfl (fun hc4 => ?_) (fun hc4 => ?_)
     ·replace hr4 := ite_t hr4 hc4
      refine W_seq_reg ?_
      refine WL_move rfl rfl ?_
      refine WL_move rfl rfl ?_
      refine WL_buildSlice (vs := [(.int .i64 a2)]) hC7 Try.underlying22 ty3 rfl rfl rfl rfl (by intro v hv; simp only [List.mem_cons, List.not_mem_nil, or_false] at hv; rcases hv with rfl <;> rfl) rfl rfl (fun b3 w6 hC9 hB6 => ?_)
      have hC10 := hC9.row0 (α := Int)
      have hC11 := hC10.triv (int_val (a2))
      have hC12 := hC11.row1
      have hC13 := hC12.front 1 rfl
      dsimp only [List.eraseIdx, List.cons_append, List.nil_append, List.append_nil] at hC13
      have hC14 : Ctx [] w0 w6 (Item.own (.slice (some ⟨b3, 0, none⟩) 1 1) ([a2] : List Int) :: [Item.own v1 (x2 : (List Int))]) := hC13.rowOwn (by simp [maxLen])
      obtain ⟨x11, hx2, hr4⟩ := bind_some hr4
      refine WL_append_flat (α := Int) hC14 1 rfl (hC14.ro 0 rfl) (Keep.refl _ _) Try.underlying22 ty3 rfl hx2 rfl rfl rfl (fun v5 w7 hC15 => ?_)
      try dsimp only [List.set] at hC15
      refine WL_assign rfl rfl ?_
      refine WL_nil ?_
      refine W_reg ?_
      refine WL_assign rfl rfl ?_
      refine WL_nil ?_
      have hq4 := Option.some.inj hr4
      subst hq4
      have hC16 := hC15.f1
      have hC17 := hC16.h1
      refine nrm_sub (l' := [(0, u1), (1, (.int .i64 a2)), (5, v5), (6, (.bool true)), (7, (.int .i64 x4))]) ⟨rfl, rfl, rfl, rfl, rfl, trivial⟩ ?_
      exact ⟨v5, x11, true, rfl, rfl, hC17⟩
     replace hr4 := ite_f hr4 hc4
     refine W_skip ?_
     have hq5 := Option.some.inj hr4
     subst hq5
     refine nrm_sub (l' := [(0, u1), (1, (.int .i64 a2)), (5, v1), (6, (.bool x3)), (7, (.int .i64 x4))]) ⟨rfl, rfl, rfl, rfl, rfl, trivial⟩ ?_
     exact ⟨v1, x2, x3, rfl, rfl, hC7⟩
    rintro l3 _ w5 hs3 ⟨v4, x9, x10, rfl, rfl, hC8⟩
    try dsimp only at hL1
    refine nrm_sub' hs3 ?_
    clear hs3
    refine W_reg ?_
    refine WL_move rfl rfl ?_
    refine WL_move rfl rfl ?_
    refine WL_move rfl rfl ?_
    obtain ⟨x12, hx3, hL1⟩ := bind_some hL1
    refine WL_index Try.underlying22 ty3 g1 hx3 rfl rfl rfl (fun b4 o2 h3 => ?_)
    refine WL_load ty3 h3 hC8.keep rfl rfl (fun v6 h4 => ?_)
    obtain rfl := ro_int h4
    refine WL_buildSlice (vs := [(.int .i64 x12)]) hC8 Try.underlying22 ty3 rfl rfl rfl rfl (by intro v hv; simp only [List.mem_cons, List.not_mem_nil, or_false] at hv; rcases hv with rfl <;> rfl) rfl rfl (fun b5 w9 hC18 hB7 => ?_)
    have hC19 := hC18.row0 (α := Int)
    have hC20 := hC19.triv (int_val (x12))
    have hC21 := hC20.row1
    have hC22 := hC21.front 1 rfl
    dsimp only [List.eraseIdx, List.cons_append, List.nil_append, List.append_nil] at hC22
    have hC23 : Ctx [] w0 w9 (Item.own (.slice (some ⟨b5, 0, none⟩) 1 1) ([x12] : List Int) :: [Item.own v4 (x9 : (List Int))]) := hC22.rowOwn (by simp [maxLen])
    obtain ⟨x13, hx4, hL1⟩ := bind_some hL1
    refine WL_append_flat (α := Int) hC23 1 rfl (hC23.ro 0 rfl) (Keep.refl _ _) Try.underlying22 ty3 rfl hx4 rfl rfl rfl (fun v7 w10 hC24 => ?_)
    try dsimp only [List.set] at hC24
    refine WL_assign rfl rfl ?_
    refine WL_nil ?_
    refine blk_normal ?_
    refine nrm_normal ?_
    refine W_reg ?_
    refine WL_move rfl rfl ?_
    refine WL_add rfl rfl rfl ?_
    refine WL_assign rfl rfl ?_
    refine WL_nil ?_
    have hC25 := hC24.f1
    have hC26 := hC25.h1
    refine nrm_sub (l' := [(0, u1), (1, (.int .i64 a2)), (5, v7), (6, (.bool x10)), (7, (.int .i64 (w64 (x4 + 1))))]) ⟨rfl, rfl, rfl, rfl, rfl, trivial⟩ ?_
    exact ⟨k1, Nat.lt_succ_self _, v7, x13, x10, w64 (x4 + 1), rfl, hC26, hL1⟩
   replace hL1 := ite_f hL1 hc2
   refine W_exit ?_
   refine nrm_exit ?_
   refine nrm_exit ?_
   refine blk_exit ?_
   have hq6 := Option.some.inj hL1
   subst hq6
   refine nrm_sub (l' := [(1, (.int .i64 a2)), (5, v1), (6, (.bool x3))]) ⟨rfl, rfl, rfl, trivial⟩ ?_
   exact ⟨v1, x2, x3, rfl, rfl, hC6⟩
 rintro l4 _ w11 hs4 ⟨v2, x5, x6, rfl, rfl, hC27⟩
 try dsimp only at hF
 refine nrm_sub' hs4 ?_
 clear hs4
 refine W_seq ?_
 refine W_seq_reg ?_
 refine WL_move rfl rfl ?_
 refine WL_not rfl rfl ?_
 refine WL_nil ?_
 obtain ⟨r4, hr5, hF⟩ := bind_some hF
 refine W_norm (fun l w => ∃ v8 : Value, ∃ x14 : (List Int), x14 = r4 ∧ l = [(5, v8)] ∧ Ctx [] w0 w [Item.own v8 (x14 : (List Int))]) ?_ ?_
 ·refine W_cond rfl (fun hc5 => ?_) (fun hc5 => ?_)
  ·replace hr5 := ite_t hr5 hc5
   refine W_reg ?_
   refine WL_move rfl rfl ?_
   refine WL_move rfl rfl ?_
   refine WL_buildSlice (vs := [(.int .i64 a2)]) hC27 Try.underlying22 ty3 rfl rfl rfl rfl (by intro v hv; simp only [List.mem_cons, List.not_mem_nil, or_false] at hv; rcases hv with rfl <;> rfl) rfl rfl (fun b6 w13 hC29 hB10 => ?_)
   have hC30 := hC29.row0 (α := Int)
   have hC31 := hC30.triv (int_val (a2))
   have hC32 := hC31.row1
   have hC33 := hC32.front 1 rfl
   dsimp only [List.eraseIdx, List.cons_append, List.nil_append, List.append_nil] at hC33
   have hC34 : Ctx [] w0 w13 (Item.own (.slice (some ⟨b6, 0, none⟩) 1 1) ([a2] : List Int) :: [Item.own v2 (x5 : (List Int))]) := hC33.rowOwn (by simp [maxLen])
   obtain ⟨x15, hx5, hr5⟩ := bind_some hr5
   refine WL_append_flat (α := Int) hC34 1 rfl (hC34.ro 0 rfl) (Keep.refl _ _) Try.underlying22 ty3 rfl hx5 rfl rfl rfl (fun v9 w14 hC35 => ?_)
   try dsimp only [List.set] at hC35
   refine WL_assign rfl rfl ?_
   refine WL_nil ?_
   have hq7 := Option.some.inj hr5
   subst hq7
   have hC36 := hC35.f1
   have hC37 := hC36.h1
   refine nrm_sub (l' := [(5, v9)]) ⟨rfl, trivial⟩ ?_
   exact ⟨v9, x15, rfl, rfl, hC37⟩
  replace hr5 := ite_f hr5 hc5
  refine W_skip ?_
  have hq8 := Option.some.inj hr5
  subst hq8
  refine nrm_sub (l' := [(5, v2)]) ⟨rfl, trivial⟩ ?_
  exact ⟨v2, x5, rfl, rfl, hC27⟩
 rintro l5 _ w12 hs5 ⟨v8, x14, rfl, rfl, hC28⟩
 try dsimp only at hF
 refine nrm_sub' hs5 ?_
 clear hs5
 refine W_seq_reg ?_
 refine WL_move rfl rfl ?_
 refine WL_assign rfl rfl ?_
 refine WL_nil ?_
 refine W_ret ?_
 have hq9 := Option.some.inj hF
 subst hq9
 refine fn_ret1 rfl rfl ?_
 exact ⟨_, rfl, hC28.keep.below, (hC28.ro 0 rfl)⟩

theorem c_S_ReceiveCall {w0 : World} (a1 : ((List Int) × Int × Int)) (u1 : Value) (g1 : RO [] w0 u1 a1.1) (a2 : Int) (a3 : Int) (rr : (((List Int) × Int × Int) × Bool)) (hF : S.ReceiveCall a1 a2 a3 = some rr) :
 Calls Try.prog 16 [(.agg #[u1, (.int .i64 a1.2.1), (.int .i64 a1.2.2)]), (.int .i64 a2), (.int .i64 a3)].toArray w0 fun e w' => ∃ v, e = .returned v ∧ Res2 w0 rr.1 rr.2 v w' := by
 refine calls_of_W Try.func16 rfl rfl ?_
 have hC0 := Ctx.start w0
 unfold S.ReceiveCall at hF
 refine W_seq_reg ?_
 refine WL_box (cs := [u1, (.int .i64 a1.2.1), (.int .i64 a1.2.2)]) hC0 rfl rfl rfl (fun b1 w1 hC1 hB1 => ?_)
 refine WL_alloc hC1 zero26 rfl rfl (fun b2 w2 hC2 hB2 => ?_)
 refine WL_assign rfl rfl ?_
 refine WL_nil ?_
 refine W_seq_reg ?_
 refine WL_load_box_agg [u1, (.int .i64 a1.2.1), (.int .i64 a1.2.2)] hC2 1 rfl rfl rfl Try.isAgg26 Try.sizeOf26 rfl rfl ?_
 obtain ⟨x1, hr1, hF⟩ := bind_some hF
 refine WL_call Try.call89 rfl rfl (c_S_l27Copy (a1.1, a1.2.1, a1.2.2) u1 (g1.now hC2.keep) x1 hr1) ?_
 rintro v1 w3 ⟨hB3, F1, hv1, hn1, hb1⟩
 have hC3 := hC2.push hB3 (A := Item.own v1 x1) hv1 hn1 hb1
 obtain ⟨v2, rfl, hC4⟩ := st26_own hC3
 refine WL_alloc hC4 zero26 rfl rfl (fun b3 w4 hC5 hB4 => ?_)
 refine WL_store_box_agg (cs' := [v2, (.int .i64 x1.2.1), (.int .i64 x1.2.2)]) (new := [v2, (.int .i64 x1.2.1), (.int .i64 x1.2.2)]) hC5 0 rfl rfl (by intro v hv; simp only [List.mem_cons, List.not_mem_nil, or_false] at hv; rcases hv with rfl | rfl | rfl; exact (ro_one (hC5.ro 1 rfl)); exact rfl; exact rfl) rfl Try.sizeOf26 rfl rfl (fun w5 hC6 => ?_)
 try dsimp only [List.set] at hC6
 refine WL_nil ?_
 refine W_seq ?_
 obtain ⟨r1, hr2, hF⟩ := bind_some hF
 refine W_cut (fun l w => ∃ x2 : Bool, x2 = r1 ∧ l = [(1, (.int .i64 a2)), (2, (.int .i64 a3)), (3, (ptr b1 0)), (6, (ptr b2 0)), (8, (ptr b3 0)), (33, (.bool x2))] ∧ Below w5.heap.size w5 w ∧ Ctx [] w0 w [Item.box b3 [v2, (.int .i64 x1.2.1), (.int .i64 x1.2.2)], Item.own v2 (x1.1 : (List Int)), Item.box b2 [(.slice none 0 0), (.int .i64 0), (.int .i64 0)], Item.box b1 [u1, (.int .i64 a1.2.1), (.int .i64 a1.2.2)]]) ?_ ?_
 ·refine W_reg ?_
  refine WL_load_box_agg [u1, (.int .i64 a1.2.1), (.int .i64 a1.2.2)] hC6 3 rfl rfl rfl Try.isAgg26 Try.sizeOf26 rfl rfl ?_
  obtain ⟨x3, hr3, hr2⟩ := bind_some hr2
  refine WL_call Try.call42 rfl rfl (c_S_IsLedger (a1.1, a1.2.1, a1.2.2) u1 (g1.now hC6.keep) x3 hr3) ?_
  intro _ w7 hv2
  obtain ⟨rfl, hB6⟩ := res_bool hv2
  have hC8 := hC6.grow hB6
  refine WL_not rfl rfl ?_
  refine WL_move rfl rfl ?_
  refine WL_fork (fun hc1 => ?_) (fun hc1 => ?_)
  ·replace hr2 := ite_t hr2 hc1
   refine WL_guard_skip rfl rfl (by simp) rfl ?_
   refine WL_guard_skip rfl rfl (by simp) rfl ?_
   refine WL_guard_skip rfl rfl (by simp) rfl ?_
   refine WL_pick_t rfl rfl rfl ?_
   refine WL_move rfl rfl ?_
   refine WL_guard_skip rfl rfl (by simp) rfl ?_
   refine WL_guard_skip rfl rfl (by simp) rfl ?_
   refine WL_guard_skip rfl rfl (by simp) rfl ?_
   refine WL_pick_t rfl rfl rfl ?_
   refine WL_move rfl rfl ?_
   refine WL_guard_skip rfl rfl (by simp) rfl ?_
   refine WL_guard_skip rfl rfl (by simp) rfl ?_
   refine WL_guard_skip rfl rfl (by simp) rfl ?_
   refine WL_pick_t rfl rfl rfl ?_
   refine WL_move rfl rfl ?_
   refine WL_guard_skip rfl rfl (by simp) rfl ?_
   refine WL_guard_skip rfl rfl (by simp) rfl ?_
   refine WL_guard_skip rfl rfl (by simp) rfl ?_
   refine WL_pick_t rfl rfl rfl ?_
   refine WL_nil ?_
   have hq1 := Option.some.inj hr2
   subst hq1
   refine nrm_sub (l' := [(1, (.int .i64 a2)), (2, (.int .i64 a3)), (3, (ptr b1 0)), (6, (ptr b2 0)), (8, (ptr b3 0)), (33, (.bool true))]) ⟨rfl, rfl, rfl, rfl, rfl, rfl, trivial⟩ ?_
   exact ⟨true, rfl, rfl, (Keep.of hB6).below, hC8⟩
  replace hr2 := ite_f hr2 hc1
  refine WL_guard rfl rfl ?_
  refine WL_move rfl rfl ?_
  obtain ⟨x4, hr4, hr2⟩ := bind_some hr2
  refine WL_guard rfl rfl ?_
  refine WL_call Try.call90 rfl rfl (c_S_l1In a2 0 1000000 x4 hr4) ?_
  intro _ w9 hv3
  obtain ⟨rfl, hB7⟩ := res_bool hv3
  have hC9 := hC8.grow hB7
  refine WL_guard rfl rfl ?_
  refine WL_not rfl rfl ?_
  refine WL_pick_f rfl rfl rfl ?_
  refine WL_move rfl rfl ?_
  refine WL_fork (fun hc2 => ?_) (fun hc2 => ?_)
  ·replace hr2 := ite_t hr2 hc2
   refine WL_guard_skip rfl rfl (by simp) rfl ?_
   refine WL_guard_skip rfl rfl (by simp) rfl ?_
   refine WL_guard_skip rfl rfl (by simp) rfl ?_
   refine WL_pick_t rfl rfl rfl ?_
   refine WL_move rfl rfl ?_
   refine WL_guard_skip rfl rfl (by simp) rfl ?_
   refine WL_guard_skip rfl rfl (by simp) rfl ?_
   refine WL_guard_skip rfl rfl (by simp) rfl ?_
   refine WL_pick_t rfl rfl rfl ?_
   refine WL_move rfl rfl ?_
   refine WL_guard_skip rfl rfl (by simp) rfl ?_
   refine WL_guard_skip rfl rfl (by simp) rfl ?_
   refine WL_guard_skip rfl rfl (by simp) rfl ?_
   refine WL_pick_t rfl rfl rfl ?_
   refine WL_nil ?_
   have hq2 := Option.some.inj hr2
   subst hq2
   refine nrm_sub (l' := [(1, (.int .i64 a2)), (2, (.int .i64 a3)), (3, (ptr b1 0)), (6, (ptr b2 0)), (8, (ptr b3 0)), (33, (.bool true))]) ⟨rfl, rfl, rfl, rfl, rfl, rfl, trivial⟩ ?_
   exact ⟨true, rfl, rfl, ((Keep.of hB6).then hB7).below, hC9⟩
  replace hr2 := ite_f hr2 hc2
  refine WL_guard rfl rfl ?_
  refine WL_move rfl rfl ?_
  obtain ⟨x5, hr5, hr2⟩ := bind_some hr2
  refine WL_guard rfl rfl ?_
  refine WL_call Try.call90 rfl rfl (c_S_l1In a3 0 99 x5 hr5) ?_
  intro _ w10 hv4
  obtain ⟨rfl, hB8⟩ := res_bool hv4
  have hC10 := hC9.grow hB8
  refine WL_guard rfl rfl ?_
  refine WL_not rfl rfl ?_
  refine WL_pick_f rfl rfl rfl ?_
  refine WL_move rfl rfl ?_
  refine WL_fork (fun hc3 => ?_) (fun hc3 => ?_)
  ·replace hr2 := ite_t hr2 hc3
   refine WL_guard_skip rfl rfl (by simp) rfl ?_
   refine WL_guard_skip rfl rfl (by simp) rfl ?_
   refine WL_guard_skip rfl rfl (by simp) rfl ?_
   refine WL_pick_t rfl rfl rfl ?_
   refine WL_move rfl rfl ?_
   refine WL_guard_skip rfl rfl (by simp) rfl ?_
   refine WL_guard_skip rfl rfl (by simp) rfl ?_
   refine WL_guard_skip rfl rfl (by simp) rfl ?_
   refine WL_pick_t rfl rfl rfl ?_
   refine WL_nil ?_
   have hq3 := Option.some.inj hr2
   subst hq3
   refine nrm_sub (l' := [(1, (.int .i64 a2)), (2, (.int .i64 a3)), (3, (ptr b1 0)), (6, (ptr b2 0)), (8, (ptr b3 0)), (33, (.bool true))]) ⟨rfl, rfl, rfl, rfl, rfl, rfl, trivial⟩ ?_
   exact ⟨true, rfl, rfl, (((Keep.of hB6).then hB7).then hB8).below, hC10⟩
  replace hr2 := ite_f hr2 hc3
  refine WL_guard rfl rfl ?_
  refine WL_field Try.underlying26 rfl rfl (fun w => ⟨_, Try.sizeOf3 w⟩) rfl rfl ?_
  refine WL_guard rfl rfl ?_
  refine WL_load_box hC10 3 rfl rfl Try.isAgg3 rfl rfl ?_
  refine WL_guard rfl rfl ?_
  refine WL_gtr rfl rfl rfl ?_
  refine WL_pick_f rfl rfl rfl ?_
  refine WL_move rfl rfl ?_
  refine WL_fork (fun hc4 => ?_) (fun hc4 => ?_)
  ·replace hr2 := ite_t hr2 hc4
   refine WL_guard_skip rfl rfl (by simp) rfl ?_
   refine WL_guard_skip rfl rfl (by simp) rfl ?_
   refine WL_guard_skip rfl rfl (by simp) rfl ?_
   refine WL_pick_t rfl rfl rfl ?_
   refine WL_nil ?_
   have hq4 := Option.some.inj hr2
   subst hq4
   refine nrm_sub (l' := [(1, (.int .i64 a2)), (2, (.int .i64 a3)), (3, (ptr b1 0)), (6, (ptr b2 0)), (8, (ptr b3 0)), (33, (.bool true))]) ⟨rfl, rfl, rfl, rfl, rfl, rfl, trivial⟩ ?_
   exact ⟨true, rfl, rfl, (((Keep.of hB6).then hB7).then hB8).below, hC10⟩
  replace hr2 := ite_f hr2 hc4
  refine WL_guard rfl rfl ?_
  refine WL_field Try.underlying26 rfl rfl (fun w => ⟨_, Try.sizeOf3 w⟩) rfl rfl ?_
  refine WL_guard rfl rfl ?_
  refine WL_load_box hC10 3 rfl rfl Try.isAgg3 rfl rfl ?_
  refine WL_guard rfl rfl ?_
  refine WL_gtr rfl rfl rfl ?_
  refine WL_pick_f rfl rfl rfl ?_
  refine WL_nil ?_
  have hq5 := Option.some.inj hr2
  subst hq5
  refine nrm_sub (l' := [(1, (.int .i64 a2)), (2, (.int .i64 a3)), (3, (ptr b1 0)), (6, (ptr b2 0)), (8, (ptr b3 0)), (33, (.bool (decide (999999000 < a1.2.2))))]) ⟨rfl, rfl, rfl, rfl, rfl, rfl, trivial⟩ ?_
  exact ⟨(decide (999999000 < a1.2.2)), rfl, rfl, (((Keep.of hB6).then hB7).then hB8).below, hC10⟩
 rintro _ w6 ⟨x2, rfl, rfl, hB5, hC7⟩
 try dsimp only at hF
 refine W_cond rfl (fun hc5 => ?_) (fun hc5 => ?_)
 ·replace hF := ite_t hF hc5
  refine W_seq_reg ?_
  refine WL_load_box_agg [v2, (.int .i64 x1.2.1), (.int .i64 x1.2.2)] hC7 0 rfl rfl rfl Try.isAgg26 Try.sizeOf26 rfl rfl ?_
  refine WL_store_box_agg (cs' := [v2, (.int .i64 x1.2.1), (.int .i64 x1.2.2)]) (new := [v2, (.int .i64 x1.2.1), (.int .i64 x1.2.2)]) hC7 2 rfl rfl (by intro v hv; simp only [List.mem_cons, List.not_mem_nil, or_false] at hv; rcases hv with rfl | rfl | rfl; exact (ro_one (hC7.ro 1 rfl)); exact rfl; exact rfl) rfl Try.sizeOf26 rfl rfl (fun w11 hC11 => ?_)
  try dsimp only [List.set] at hC11
  refine WL_assign rfl rfl ?_
  refine WL_nil ?_
  refine W_ret ?_
  refine nrm_ret ?_
  have hq6 := Option.some.inj hF
  subst hq6
  refine fn_retG2 rfl (rv_cell_agg (cs' := [v2, (.int .i64 x1.2.1), (.int .i64 x1.2.2)]) hC11 (i := 2) rfl rfl rfl Try.isAgg26 Try.sizeOf26 rfl) (rv_tmp rfl) ?_
  have hC12 := hC11.triv (bool_val (false))
  have hC14 := hC12.f2
  have hC13 := own_st26 v2 x1.1 x1.2.1 x1.2.2 hC14
  exact ⟨_, rfl, res2_of hC13⟩
 replace hF := ite_f hF hc5
 refine W_skip ?_
 refine nrm_normal ?_
 refine W_seq_reg ?_
 refine WL_field Try.underlying26 rfl rfl (fun w => ⟨_, Try.sizeOf3 w⟩) rfl rfl ?_
 refine WL_load_box hC7 3 rfl rfl Try.isAgg3 rfl rfl ?_
 refine WL_add rfl rfl rfl ?_
 refine WL_field Try.underlying26 rfl rfl (fun w => ⟨_, Try.sizeOf3 w⟩) rfl rfl ?_
 refine WL_store_box (cs' := [v2, (.int .i64 x1.2.1), (.int .i64 (w64 (a1.2.2 + 1)))]) hC7 0 rfl rfl rfl rfl Try.sizeOf3 rfl rfl (fun w12 hC15 => ?_)
 try dsimp only [List.set] at hC15
 refine WL_nil ?_
 refine W_seq ?_
 refine W_seq_reg ?_
 refine WL_field Try.underlying26 rfl rfl (fun w => ⟨_, Try.sizeOf22 w⟩) rfl rfl ?_
 refine WL_load_box hC15 3 rfl rfl Try.isAgg22 rfl rfl ?_
 refine WL_move rfl rfl ?_
 obtain ⟨x6, hr6, hF⟩ := bind_some hF
 refine WL_call Try.call91 rfl rfl (c_S_l2Has a1.1 u1 (g1.now hC15.keep) a2 x6 hr6) ?_
 intro _ w13 hv5
 obtain ⟨rfl, hB9⟩ := res_bool hv5
 have hC16 := hC15.grow hB9
 refine WL_not rfl rfl ?_
 refine WL_nil ?_
 obtain ⟨r2, hr7, hF⟩ := bind_some hF
 refine W_norm (fun l w => ∃ v3 : Value, ∃ x7 : (List Int), ∃ x8 : Int, ∃ x9 : Int, (x7, x8, x9) = r2 ∧ l = [(6, (ptr b2 0)), (8, (ptr b3 0))] ∧ Ctx [] w0 w [Item.box b3 [v3, (.int .i64 x8), (.int .i64 x9)], Item.own v3 (x7 : (List Int)), Item.box b2 [(.slice none 0 0), (.int .i64 0), (.int .i64 0)]]) ?_ ?_
 ·refine W_cond rfl (fun hc6 => ?_) (fun hc6 => ?_)
  ·replace hr7 := ite_t hr7 hc6
   refine W_seq_reg ?_
   refine WL_buildSlice (vs := []) hC16 Try.underlying22 ty3 rfl rfl rfl rfl (by simp) rfl rfl (fun b4 w15 hC18 hB11 => ?_)
   have hC19 := hC18.row0 (α := Int)
   have hC20 := hC19.front 1 rfl
   dsimp only [List.eraseIdx, List.cons_append, List.nil_append, List.append_nil] at hC20
   have hC21 : Ctx [] w0 w15 (Item.own (.slice (some ⟨b4, 0, none⟩) 0 0) (([] : List Int) : List Int) :: [Item.box b3 [v2, (.int .i64 x1.2.1), (.int .i64 (w64 (a1.2.2 + 1)))], Item.own v2 (x1.1 : (List Int)), Item.box b2 [(.slice none 0 0), (.int .i64 0), (.int .i64 0)], Item.box b1 [u1, (.int .i64 a1.2.1), (.int .i64 a1.2.2)]]) := hC20.rowOwn (by simp [maxLen])
   refine WL_field Try.underlying26 rfl rfl (fun w => ⟨_, Try.sizeOf22 w⟩) rfl rfl ?_
   refine WL_load_box hC21 4 rfl rfl Try.isAgg22 rfl rfl ?_
   refine WL_move rfl rfl ?_
   obtain ⟨x10, hr8, hr7⟩ := bind_some hr7
   refine WL_call Try.call92 rfl rfl (c_S_l3Put_ro a1.1 u1 (g1.now hC21.keep) a2 x10 hr8) ?_
   rintro v4 w16 ⟨hB12, h1⟩
   have hC22 := hC21.grow hB12
   obtain ⟨x11, hx1, hr7⟩ := bind_some hr7
   refine WL_append_flat (α := Int) hC22 0 rfl h1 (Keep.refl _ _) Try.underlying22 ty3 rfl hx1 rfl rfl rfl (fun v5 w17 hC23 => ?_)
   try dsimp only [List.set] at hC23
   refine WL_field Try.underlying26 rfl rfl (fun w => ⟨_, Try.sizeOf22 w⟩) rfl rfl ?_
   refine WL_store_box (cs' := [v5, (.int .i64 x1.2.1), (.int .i64 (w64 (a1.2.2 + 1)))]) hC23 1 rfl rfl (ro_one (hC23.ro 0 rfl)) rfl Try.sizeOf22 rfl rfl (fun w18 hC24 => ?_)
   try dsimp only [List.set] at hC24
   refine WL_nil ?_
   refine W_reg ?_
   refine WL_field Try.underlying26 rfl rfl (fun w => ⟨_, Try.sizeOf3 w⟩) rfl rfl ?_
   refine WL_load_box hC24 4 rfl rfl Try.isAgg3 rfl rfl ?_
   refine WL_move rfl rfl ?_
   refine WL_add rfl rfl rfl ?_
   refine WL_field Try.underlying26 rfl rfl (fun w => ⟨_, Try.sizeOf3 w⟩) rfl rfl ?_
   refine WL_store_box (cs' := [v5, (.int .i64 (w64 (a1.2.1 + a3))), (.int .i64 (w64 (a1.2.2 + 1)))]) hC24 1 rfl rfl rfl rfl Try.sizeOf3 rfl rfl (fun w19 hC25 => ?_)
   try dsimp only [List.set] at hC25
   refine WL_nil ?_
   have hq7 := Option.some.inj hr7
   subst hq7
   have hC26 := hC25.f3
   have hC27 := hC26.f1
   have hC28 := hC27.f2
   have hC29 := hC28.h3
   refine nrm_sub (l' := [(6, (ptr b2 0)), (8, (ptr b3 0))]) ⟨rfl, rfl, trivial⟩ ?_
   exact ⟨v5, x11, w64 (a1.2.1 + a3), w64 (a1.2.2 + 1), rfl, rfl, hC29⟩
  replace hr7 := ite_f hr7 hc6
  refine W_skip ?_
  have hq8 := Option.some.inj hr7
  subst hq8
  have hC30 := hC16.f2
  have hC31 := hC30.f2
  have hC32 := hC31.f2
  have hC33 := hC32.h3
  refine nrm_sub (l' := [(6, (ptr b2 0)), (8, (ptr b3 0))]) ⟨rfl, rfl, trivial⟩ ?_
  exact ⟨v2, x1.1, x1.2.1, w64 (a1.2.2 + 1), rfl, rfl, hC33⟩
 rintro l2 _ w14 hs2 ⟨v3, x7, x8, x9, rfl, rfl, hC17⟩
 try dsimp only at hF
 refine nrm_sub' hs2 ?_
 clear hs2
 refine W_seq_reg ?_
 refine WL_load_box_agg [v3, (.int .i64 x8), (.int .i64 x9)] hC17 0 rfl rfl rfl Try.isAgg26 Try.sizeOf26 rfl rfl ?_
 refine WL_store_box_agg (cs' := [v3, (.int .i64 x8), (.int .i64 x9)]) (new := [v3, (.int .i64 x8), (.int .i64 x9)]) hC17 2 rfl rfl (by intro v hv; simp only [List.mem_cons, List.not_mem_nil, or_false] at hv; rcases hv with rfl | rfl | rfl; exact (ro_one (hC17.ro 1 rfl)); exact rfl; exact rfl) rfl Try.sizeOf26 rfl rfl (fun w20 hC34 => ?_)
 try dsimp only [List.set] at hC34
 refine WL_assign rfl rfl ?_
 refine WL_nil ?_
 refine W_ret ?_
 have hq9 := Option.some.inj hF
 subst hq9
 refine fn_retG2 rfl (rv_cell_agg (cs' := [v3, (.int .i64 x8), (.int .i64 x9)]) hC34 (i := 2) rfl rfl rfl Try.isAgg26 Try.sizeOf26 rfl) (rv_tmp rfl) ?_
 have hC35 := hC34.triv (bool_val (true))
 have hC37 := hC35.f2
 have hC36 := own_st26 v3 x7 x8 x9 hC37
 exact ⟨_, rfl, res2_of hC36⟩

theorem c_S_TryCall {w0 : World} (a1 : ((List Int) × Int × Int)) (u1 : Value) (g1 : RO [] w0 u1 a1.1) (a2 : (Int × Int × Int × Bool)) (a3 : Int) (rr : (((List Int) × Int × Int) × (Int × Int × Int × Bool) × Bool)) (hF : S.TryCall a1 a2 a3 = some rr) :
 Calls Try.prog 22 [(.agg #[u1, (.int .i64 a1.2.1), (.int .i64 a1.2.2)]), (.agg #[(.int .i64 a2.1), (.int .i64 a2.2.1), (.int .i64 a2.2.2.1), (.bool a2.2.2.2)]), (.int .i64 a3)].toArray w0 fun e w' => ∃ v, e = .returned v ∧ Res3 w0 rr.1 rr.2.1 rr.2.2 v w' := by
 refine calls_of_W Try.func22 rfl rfl ?_
 have hC0 := Ctx.start w0
 unfold S.TryCall at hF
 refine W_seq_reg ?_
 refine WL_box (cs := [u1, (.int .i64 a1.2.1), (.int .i64 a1.2.2)]) hC0 rfl rfl rfl (fun b1 w1 hC1 hB1 => ?_)
 refine WL_box (cs := [(.int .i64 a2.1), (.int .i64 a2.2.1), (.int .i64 a2.2.2.1), (.bool a2.2.2.2)]) hC1 rfl rfl rfl (fun b2 w2 hC2 hB2 => ?_)
 refine WL_alloc hC2 zero26 rfl rfl (fun b3 w3 hC3 hB3 => ?_)
 refine WL_alloc hC3 zero35 rfl rfl (fun b4 w4 hC4 hB4 => ?_)
 refine WL_assign rfl rfl ?_
 refine WL_nil ?_
 refine W_seq_reg ?_
 refine WL_load_box_agg [u1, (.int .i64 a1.2.1), (.int .i64 a1.2.2)] hC4 3 rfl rfl rfl Try.isAgg26 Try.sizeOf26 rfl rfl ?_
 obtain ⟨x1, hr1, hF⟩ := bind_some hF
 refine WL_call Try.call89 rfl rfl (c_S_l27Copy (a1.1, a1.2.1, a1.2.2) u1 (g1.now hC4.keep) x1 hr1) ?_
 rintro v1 w5 ⟨hB5, F1, hv1, hn1, hb1⟩
 have hC5 := hC4.push hB5 (A := Item.own v1 x1) hv1 hn1 hb1
 obtain ⟨v2, rfl, hC6⟩ := st26_own hC5
 refine WL_alloc hC6 zero26 rfl rfl (fun b5 w6 hC7 hB6 => ?_)
 refine WL_store_box_agg (cs' := [v2, (.int .i64 x1.2.1), (.int .i64 x1.2.2)]) (new := [v2, (.int .i64 x1.2.1), (.int .i64 x1.2.2)]) hC7 0 rfl rfl (by intro v hv; simp only [List.mem_cons, List.not_mem_nil, or_false] at hv; rcases hv with rfl | rfl | rfl; exact (ro_one (hC7.ro 1 rfl)); exact rfl; exact rfl) rfl Try.sizeOf26 rfl rfl (fun w7 hC8 => ?_)
 try dsimp only [List.set] at hC8
 refine WL_nil ?_
 refine W_seq ?_
 obtain ⟨r1, hr2, hF⟩ := bind_some hF
 refine W_cut (fun l w => ∃ x2 : Bool, x2 = r1 ∧ l = [(2, (.int .i64 a3)), (4, (ptr b2 0)), (6, (ptr b3 0)), (7, (ptr b4 0)), (9, (ptr b5 0)), (46, (.bool x2))] ∧ Below w7.heap.size w7 w ∧ Ctx [] w0 w [Item.box b5 [v2, (.int .i64 x1.2.1), (.int .i64 x1.2.2)], Item.own v2 (x1.1 : (List Int)), Item.box b4 [(.int .i64 0), (.int .i64 0), (.int .i64 0), (.bool false)], Item.box b3 [(.slice none 0 0), (.int .i64 0), (.int .i64 0)], Item.box b2 [(.int .i64 a2.1), (.int .i64 a2.2.1), (.int .i64 a2.2.2.1), (.bool a2.2.2.2)]]) ?_ ?_
 ·refine W_reg ?_
  refine WL_load_box_agg [u1, (.int .i64 a1.2.1), (.int .i64 a1.2.2)] hC8 5 rfl rfl rfl Try.isAgg26 Try.sizeOf26 rfl rfl ?_
  obtain ⟨x3, hr3, hr2⟩ := bind_some hr2
  refine WL_call Try.call42 rfl rfl (c_S_IsLedger (a1.1, a1.2.1, a1.2.2) u1 (g1.now hC8.keep) x3 hr3) ?_
  intro _ w10 hv2
  obtain ⟨rfl, hB8⟩ := res_bool hv2
  have hC10 := hC8.grow hB8
  refine WL_not rfl rfl ?_
  refine WL_move rfl rfl ?_
  refine WL_fork (fun hc1 => ?_) (fun hc1 => ?_)
  ·replace hr2 := ite_t hr2 hc1
   refine WL_guard_skip rfl rfl (by simp) rfl ?_
   refine WL_guard_skip rfl rfl (by simp) rfl ?_
   refine WL_guard_skip rfl rfl (by simp) rfl ?_
   refine WL_guard_skip rfl rfl (by simp) rfl ?_
   refine WL_pick_t rfl rfl rfl ?_
   refine WL_move rfl rfl ?_
   refine WL_guard_skip rfl rfl (by simp) rfl ?_
   refine WL_guard_skip rfl rfl (by simp) rfl ?_
   refine WL_guard_skip rfl rfl (by simp) rfl ?_
   refine WL_guard_skip rfl rfl (by simp) rfl ?_
   refine WL_pick_t rfl rfl rfl ?_
   refine WL_move rfl rfl ?_
   refine WL_guard_skip rfl rfl (by simp) rfl ?_
   refine WL_guard_skip rfl rfl (by simp) rfl ?_
   refine WL_guard_skip rfl rfl (by simp) rfl ?_
   refine WL_guard_skip rfl rfl (by simp) rfl ?_
   refine WL_pick_t rfl rfl rfl ?_
   refine WL_move rfl rfl ?_
   refine WL_guard_skip rfl rfl (by simp) rfl ?_
   refine WL_guard_skip rfl rfl (by simp) rfl ?_
   refine WL_pick_t rfl rfl rfl ?_
   refine WL_move rfl rfl ?_
   refine WL_guard_skip rfl rfl (by simp) rfl ?_
   refine WL_guard_skip rfl rfl (by simp) rfl ?_
   refine WL_guard_skip rfl rfl (by simp) rfl ?_
   refine WL_pick_t rfl rfl rfl ?_
   refine WL_move rfl rfl ?_
   refine WL_guard_skip rfl rfl (by simp) rfl ?_
   refine WL_guard_skip rfl rfl (by simp) rfl ?_
   refine WL_guard_skip rfl rfl (by simp) rfl ?_
   refine WL_pick_t rfl rfl rfl ?_
   refine WL_nil ?_
   have hq1 := Option.some.inj hr2
   subst hq1
   have hC11 := hC10.f4
   have hC12 := hC11.f4
   have hC13 := hC12.f4
   have hC14 := hC13.f4
   have hC15 := hC14.f4
   have hC16 := hC15.h5
   refine nrm_sub (l' := [(2, (.int .i64 a3)), (4, (ptr b2 0)), (6, (ptr b3 0)), (7, (ptr b4 0)), (9, (ptr b5 0)), (46, (.bool true))]) ⟨rfl, rfl, rfl, rfl, rfl, rfl, trivial⟩ ?_
   exact ⟨true, rfl, rfl, (Keep.of hB8).below, hC16⟩
  replace hr2 := ite_f hr2 hc1
  refine WL_guard rfl rfl ?_
  refine WL_field Try.underlying35 rfl rfl (fun w => ⟨_, Try.sizeOf3 w⟩) rfl rfl ?_
  refine WL_guard rfl rfl ?_
  refine WL_load_box hC10 4 rfl rfl Try.isAgg3 rfl rfl ?_
  obtain ⟨x4, hr4, hr2⟩ := bind_some hr2
  refine WL_guard rfl rfl ?_
  refine WL_call Try.call90 rfl rfl (c_S_l1In a2.1 0 1000000 x4 hr4) ?_
  intro _ w11 hv3
  obtain ⟨rfl, hB9⟩ := res_bool hv3
  have hC17 := hC10.grow hB9
  refine WL_guard rfl rfl ?_
  refine WL_not rfl rfl ?_
  refine WL_pick_f rfl rfl rfl ?_
  refine WL_move rfl rfl ?_
  refine WL_fork (fun hc2 => ?_) (fun hc2 => ?_)
  ·replace hr2 := ite_t hr2 hc2
   refine WL_guard_skip rfl rfl (by simp) rfl ?_
   refine WL_guard_skip rfl rfl (by simp) rfl ?_
   refine WL_guard_skip rfl rfl (by simp) rfl ?_
   refine WL_guard_skip rfl rfl (by simp) rfl ?_
   refine WL_pick_t rfl rfl rfl ?_
   refine WL_move rfl rfl ?_
   refine WL_guard_skip rfl rfl (by simp) rfl ?_
   refine WL_guard_skip rfl rfl (by simp) rfl ?_
   refine WL_guard_skip rfl rfl (by simp) rfl ?_
   refine WL_guard_skip rfl rfl (by simp) rfl ?_
   refine WL_pick_t rfl rfl rfl ?_
   refine WL_move rfl rfl ?_
   refine WL_guard_skip rfl rfl (by simp) rfl ?_
   refine WL_guard_skip rfl rfl (by simp) rfl ?_
   refine WL_pick_t rfl rfl rfl ?_
   refine WL_move rfl rfl ?_
   refine WL_guard_skip rfl rfl (by simp) rfl ?_
   refine WL_guard_skip rfl rfl (by simp) rfl ?_
   refine WL_guard_skip rfl rfl (by simp) rfl ?_
   refine WL_pick_t rfl rfl rfl ?_
   refine WL_move rfl rfl ?_
   refine WL_guard_skip rfl rfl (by simp) rfl ?_
   refine WL_guard_skip rfl rfl (by simp) rfl ?_
   refine WL_guard_skip rfl rfl (by simp) rfl ?_
   refine WL_pick_t rfl rfl rfl ?_
   refine WL_nil ?_
   have hq2 := Option.some.inj hr2
   subst hq2
   have hC18 := hC17.f4
   have hC19 := hC18.f4
   have hC20 := hC19.f4
   have hC21 := hC20.f4
   have hC22 := hC21.f4
   have hC23 := hC22.h5
   refine nrm_sub (l' := [(2, (.int .i64 a3)), (4, (ptr b2 0)), (6, (ptr b3 0)), (7, (ptr b4 0)), (9, (ptr b5 0)), (46, (.bool true))]) ⟨rfl, rfl, rfl, rfl, rfl, rfl, trivial⟩ ?_
   exact ⟨true, rfl, rfl, ((Keep.of hB8).then hB9).below, hC23⟩
  replace hr2 := ite_f hr2 hc2
  refine WL_guard rfl rfl ?_
  refine WL_field Try.underlying35 rfl rfl (fun w => ⟨_, Try.sizeOf3 w⟩) rfl rfl ?_
  refine WL_guard rfl rfl ?_
  refine WL_load_box hC17 4 rfl rfl Try.isAgg3 rfl rfl ?_
  obtain ⟨x5, hr5, hr2⟩ := bind_some hr2
  refine WL_guard rfl rfl ?_
  refine WL_call Try.call90 rfl rfl (c_S_l1In a2.2.1 0 99 x5 hr5) ?_
  intro _ w12 hv4
  obtain ⟨rfl, hB10⟩ := res_bool hv4
  have hC24 := hC17.grow hB10
  refine WL_guard rfl rfl ?_
  refine WL_not rfl rfl ?_
  refine WL_pick_f rfl rfl rfl ?_
  refine WL_move rfl rfl ?_
  refine WL_fork (fun hc3 => ?_) (fun hc3 => ?_)
  ·replace hr2 := ite_t hr2 hc3
   refine WL_guard_skip rfl rfl (by simp) rfl ?_
   refine WL_guard_skip rfl rfl (by simp) rfl ?_
   refine WL_guard_skip rfl rfl (by simp) rfl ?_
   refine WL_guard_skip rfl rfl (by simp) rfl ?_
   refine WL_pick_t rfl rfl rfl ?_
   refine WL_move rfl rfl ?_
   refine WL_guard_skip rfl rfl (by simp) rfl ?_
   refine WL_guard_skip rfl rfl (by simp) rfl ?_
   refine WL_pick_t rfl rfl rfl ?_
   refine WL_move rfl rfl ?_
   refine WL_guard_skip rfl rfl (by simp) rfl ?_
   refine WL_guard_skip rfl rfl (by simp) rfl ?_
   refine WL_guard_skip rfl rfl (by simp) rfl ?_
   refine WL_pick_t rfl rfl rfl ?_
   refine WL_move rfl rfl ?_
   refine WL_guard_skip rfl rfl (by simp) rfl ?_
   refine WL_guard_skip rfl rfl (by simp) rfl ?_
   refine WL_guard_skip rfl rfl (by simp) rfl ?_
   refine WL_pick_t rfl rfl rfl ?_
   refine WL_nil ?_
   have hq3 := Option.some.inj hr2
   subst hq3
   have hC25 := hC24.f4
   have hC26 := hC25.f4
   have hC27 := hC26.f4
   have hC28 := hC27.f4
   have hC29 := hC28.f4
   have hC30 := hC29.h5
   refine nrm_sub (l' := [(2, (.int .i64 a3)), (4, (ptr b2 0)), (6, (ptr b3 0)), (7, (ptr b4 0)), (9, (ptr b5 0)), (46, (.bool true))]) ⟨rfl, rfl, rfl, rfl, rfl, rfl, trivial⟩ ?_
   exact ⟨true, rfl, rfl, (((Keep.of hB8).then hB9).then hB10).below, hC30⟩
  replace hr2 := ite_f hr2 hc3
  refine WL_guard rfl rfl ?_
  refine WL_field Try.underlying35 rfl rfl (fun w => ⟨_, Try.sizeOf3 w⟩) rfl rfl ?_
  refine WL_guard rfl rfl ?_
  refine WL_load_box hC24 4 rfl rfl Try.isAgg3 rfl rfl ?_
  obtain ⟨x6, hr6, hr2⟩ := bind_some hr2
  refine WL_guard rfl rfl ?_
  refine WL_call Try.call90 rfl rfl (c_S_l1In a2.2.2.1 0 1000 x6 hr6) ?_
  intro _ w13 hv5
  obtain ⟨rfl, hB11⟩ := res_bool hv5
  have hC31 := hC24.grow hB11
  refine WL_guard rfl rfl ?_
  refine WL_not rfl rfl ?_
  refine WL_pick_f rfl rfl rfl ?_
  refine WL_move rfl rfl ?_
  refine WL_fork (fun hc4 => ?_) (fun hc4 => ?_)
  ·replace hr2 := ite_t hr2 hc4
   refine WL_guard_skip rfl rfl (by simp) rfl ?_
   refine WL_guard_skip rfl rfl (by simp) rfl ?_
   refine WL_pick_t rfl rfl rfl ?_
   refine WL_move rfl rfl ?_
   refine WL_guard_skip rfl rfl (by simp) rfl ?_
   refine WL_guard_skip rfl rfl (by simp) rfl ?_
   refine WL_guard_skip rfl rfl (by simp) rfl ?_
   refine WL_pick_t rfl rfl rfl ?_
   refine WL_move rfl rfl ?_
   refine WL_guard_skip rfl rfl (by simp) rfl ?_
   refine WL_guard_skip rfl rfl (by simp) rfl ?_
   refine WL_guard_skip rfl rfl (by simp) rfl ?_
   refine WL_pick_t rfl rfl rfl ?_
   refine WL_nil ?_
   have hq4 := Option.some.inj hr2
   subst hq4
   have hC32 := hC31.f4
   have hC33 := hC32.f4
   have hC34 := hC33.f4
   have hC35 := hC34.f4
   have hC36 := hC35.f4
   have hC37 := hC36.h5
   refine nrm_sub (l' := [(2, (.int .i64 a3)), (4, (ptr b2 0)), (6, (ptr b3 0)), (7, (ptr b4 0)), (9, (ptr b5 0)), (46, (.bool true))]) ⟨rfl, rfl, rfl, rfl, rfl, rfl, trivial⟩ ?_
   exact ⟨true, rfl, rfl, ((((Keep.of hB8).then hB9).then hB10).then hB11).below, hC37⟩
  replace hr2 := ite_f hr2 hc4
  refine WL_guard rfl rfl ?_
  refine WL_field Try.underlying35 rfl rfl (fun w => ⟨_, Try.sizeOf4 w⟩) rfl rfl ?_
  refine WL_guard rfl rfl ?_
  refine WL_load_box hC31 4 rfl rfl Try.isAgg4 rfl rfl ?_
  refine WL_pick_f rfl rfl rfl ?_
  refine WL_move rfl rfl ?_
  refine WL_fork (fun hc5 => ?_) (fun hc5 => ?_)
  ·replace hr2 := ite_t hr2 hc5
   refine WL_guard_skip rfl rfl (by simp) rfl ?_
   refine WL_guard_skip rfl rfl (by simp) rfl ?_
   refine WL_guard_skip rfl rfl (by simp) rfl ?_
   refine WL_pick_t rfl rfl rfl ?_
   refine WL_move rfl rfl ?_
   refine WL_guard_skip rfl rfl (by simp) rfl ?_
   refine WL_guard_skip rfl rfl (by simp) rfl ?_
   refine WL_guard_skip rfl rfl (by simp) rfl ?_
   refine WL_pick_t rfl rfl rfl ?_
   refine WL_nil ?_
   have hq5 := Option.some.inj hr2
   subst hq5
   have hC38 := hC31.f4
   have hC39 := hC38.f4
   have hC40 := hC39.f4
   have hC41 := hC40.f4
   have hC42 := hC41.f4
   have hC43 := hC42.h5
   refine nrm_sub (l' := [(2, (.int .i64 a3)), (4, (ptr b2 0)), (6, (ptr b3 0)), (7, (ptr b4 0)), (9, (ptr b5 0)), (46, (.bool true))]) ⟨rfl, rfl, rfl, rfl, rfl, rfl, trivial⟩ ?_
   exact ⟨true, rfl, rfl, ((((Keep.of hB8).then hB9).then hB10).then hB11).below, hC43⟩
  replace hr2 := ite_f hr2 hc5
  refine WL_guard rfl rfl ?_
  refine WL_field Try.underlying26 rfl rfl (fun w => ⟨_, Try.sizeOf3 w⟩) rfl rfl ?_
  refine WL_guard rfl rfl ?_
  refine WL_load_box hC31 5 rfl rfl Try.isAgg3 rfl rfl ?_
  refine WL_guard rfl rfl ?_
  refine WL_gtr rfl rfl rfl ?_
  refine WL_pick_f rfl rfl rfl ?_
  refine WL_move rfl rfl ?_
  refine WL_fork (fun hc6 => ?_) (fun hc6 => ?_)
  ·replace hr2 := ite_t hr2 hc6
   refine WL_guard_skip rfl rfl (by simp) rfl ?_
   refine WL_guard_skip rfl rfl (by simp) rfl ?_
   refine WL_guard_skip rfl rfl (by simp) rfl ?_
   refine WL_pick_t rfl rfl rfl ?_
   refine WL_nil ?_
   have hq6 := Option.some.inj hr2
   subst hq6
   have hC44 := hC31.f4
   have hC45 := hC44.f4
   have hC46 := hC45.f4
   have hC47 := hC46.f4
   have hC48 := hC47.f4
   have hC49 := hC48.h5
   refine nrm_sub (l' := [(2, (.int .i64 a3)), (4, (ptr b2 0)), (6, (ptr b3 0)), (7, (ptr b4 0)), (9, (ptr b5 0)), (46, (.bool true))]) ⟨rfl, rfl, rfl, rfl, rfl, rfl, trivial⟩ ?_
   exact ⟨true, rfl, rfl, ((((Keep.of hB8).then hB9).then hB10).then hB11).below, hC49⟩
  replace hr2 := ite_f hr2 hc6
  refine WL_guard rfl rfl ?_
  refine WL_field Try.underlying26 rfl rfl (fun w => ⟨_, Try.sizeOf3 w⟩) rfl rfl ?_
  refine WL_guard rfl rfl ?_
  refine WL_load_box hC31 5 rfl rfl Try.isAgg3 rfl rfl ?_
  refine WL_guard rfl rfl ?_
  refine WL_gtr rfl rfl rfl ?_
  refine WL_pick_f rfl rfl rfl ?_
  refine WL_nil ?_
  have hq7 := Option.some.inj hr2
  subst hq7
  have hC50 := hC31.f4
  have hC51 := hC50.f4
  have hC52 := hC51.f4
  have hC53 := hC52.f4
  have hC54 := hC53.f4
  have hC55 := hC54.h5
  refine nrm_sub (l' := [(2, (.int .i64 a3)), (4, (ptr b2 0)), (6, (ptr b3 0)), (7, (ptr b4 0)), (9, (ptr b5 0)), (46, (.bool (decide (999998000 < a1.2.2))))]) ⟨rfl, rfl, rfl, rfl, rfl, rfl, trivial⟩ ?_
  exact ⟨(decide (999998000 < a1.2.2)), rfl, rfl, ((((Keep.of hB8).then hB9).then hB10).then hB11).below, hC55⟩
 rintro _ w9 ⟨x2, rfl, rfl, hB7, hC9⟩
 try dsimp only at hF
 refine W_cond rfl (fun hc7 => ?_) (fun hc7 => ?_)
 ·replace hF := ite_t hF hc7
  obtain ⟨r2, hr7, hF⟩ := bind_some hF
  refine W_cut (fun l w => ∃ x7 : Int, ∃ x8 : Int, ∃ x9 : Int, ∃ x10 : Bool, ∃ v3 : Value, ∃ x11 : (List Int), ∃ x12 : Int, ∃ x13 : Int, ∃ x14 : Bool, (x7, x8, x9, x10, x11, x12, x13, x14) = r2 ∧ l = [(6, (ptr b3 0)), (7, (ptr b4 0)), (8, (.bool x14))] ∧ Ctx [] w0 w [Item.own v3 (x11 : (List Int)), Item.box b4 [(.int .i64 x7), (.int .i64 x8), (.int .i64 x9), (.bool x10)], Item.box b3 [v3, (.int .i64 x12), (.int .i64 x13)]]) ?_ ?_
  ·refine W_drawn 5 rfl hmix (fun w15 hB13 => ?_)
   have hC57 := hC9.grow hB13
   refine WA.sub (l' := [(2, (.int .i64 a3)), (4, (ptr b2 0)), (6, (ptr b3 0)), (7, (ptr b4 0)), (9, (ptr b5 0)), (46, (.bool x2))]) ?_ ⟨rfl, rfl, rfl, rfl, rfl, rfl, trivial⟩
   refine WA_postsO [⟨0, [], fun vs => PW.val (.agg #[v2, (.int .i64 x1.2.1), (.int .i64 x1.2.2)]), []⟩, ⟨1, [], fun vs => PW.val (.agg #[(.int .i64 a2.1), (.int .i64 a2.2.1), (.int .i64 a2.2.2.1), (.bool a2.2.2.2)]), []⟩] [[], []] [1] 3 rfl (by kernel_rfl) (by kernel_rfl) ?_ ⟨?_, ?_, trivial⟩
   ·refine StepsE_cons rfl ?_ ?_
    ·intro w16 hB14
     refine DepsE_nil ?_
     refine ⟨_, rfl, ?_⟩
     refine WL_load_box_agg [v2, (.int .i64 x1.2.1), (.int .i64 x1.2.2)] (hC57.grow hB14) 0 rfl rfl rfl Try.isAgg26 Try.sizeOf26 rfl rfl ?_
     refine WL_nil ?_
     exact FinE_val (Below.refl _ _) rfl rfl ⟨rfl, rfl⟩
    refine StepsE_cons rfl ?_ ?_
    ·intro w16 hB14
     refine DepsE_nil ?_
     refine ⟨_, rfl, ?_⟩
     refine WL_load_box_agg [(.int .i64 a2.1), (.int .i64 a2.2.1), (.int .i64 a2.2.2.1), (.bool a2.2.2.2)] (hC57.grow hB14) 4 rfl rfl rfl Try.isAgg35 Try.sizeOf35 rfl rfl ?_
     refine WL_nil ?_
     exact FinE_val (Below.refl _ _) rfl rfl ⟨rfl, rfl⟩
    exact StepsE_nil
   ·intro g' hg'
    obtain rfl : g' = 3 := hg'
    intro w17 hB15
    refine AllE_cons rfl rfl rfl ?_
    rintro _ _ ⟨rfl, rfl⟩
    refine AllE_cons rfl rfl rfl ?_
    rintro _ _ ⟨rfl, rfl⟩
    refine AllE_nil ?_
    intro hn2 hb2
    have hC58 := hC57.grow hB15
    refine WA_one 2 (by kernel_rfl) rfl ?_
    refine WL_store_box_agg (cs' := [v2, (.int .i64 x1.2.1), (.int .i64 x1.2.2)]) (new := [v2, (.int .i64 x1.2.1), (.int .i64 x1.2.2)]) hC58 3 rfl rfl (by intro v hv; simp only [List.mem_cons, List.not_mem_nil, or_false] at hv; rcases hv with rfl | rfl | rfl; exact (ro_one (hC58.ro 1 rfl)); exact rfl; exact rfl) rfl Try.sizeOf26 rfl rfl (fun w18 hC59 => ?_)
    try dsimp only [List.set] at hC59
    refine WL_nil ?_
    refine WA_one 3 (by kernel_rfl) rfl ?_
    refine WL_store_box_agg (cs' := [(.int .i64 a2.1), (.int .i64 a2.2.1), (.int .i64 a2.2.2.1), (.bool a2.2.2.2)]) (new := [(.int .i64 a2.1), (.int .i64 a2.2.1), (.int .i64 a2.2.2.1), (.bool a2.2.2.2)]) hC59 2 rfl rfl (by intro v hv; simp only [List.mem_cons, List.not_mem_nil, or_false] at hv; rcases hv with rfl | rfl | rfl | rfl; exact rfl; exact rfl; exact rfl; exact rfl) rfl Try.sizeOf35 rfl rfl (fun w19 hC60 => ?_)
    try dsimp only [List.set] at hC60
    refine WL_nil ?_
    refine WA_tk 4 (by kernel_rfl) rfl rfl (fl_assign rfl) ?_
    refine WL_assign rfl rfl ?_
    refine WL_nil ?_
    refine WA_done (by kernel_rfl) ?_
    have hq8 := Option.some.inj hr7
    subst hq8
    have hC61 := hC60.f3
    have hC62 := hC61.f3
    have hC63 := hC62.f3
    have hC64 := hC63.h3
    refine nrm_sub (l' := [(6, (ptr b3 0)), (7, (ptr b4 0)), (8, (.bool false))]) ⟨rfl, rfl, rfl, trivial⟩ ?_
    exact ⟨a2.1, a2.2.1, a2.2.2.1, a2.2.2.2, v2, x1.1, x1.2.1, x1.2.2, false, rfl, rfl, hC64⟩
   intro g' hg'
   obtain rfl : g' = 4 := hg'
   intro w17 hB15
   refine AllE_cons rfl rfl rfl ?_
   rintro _ _ ⟨rfl, rfl⟩
   refine AllE_nil ?_
   intro hn2 hb2
   have hC58 := hC57.grow hB15
   refine WA_all2 (i := 1) (j := 2) (by kernel_rfl) rfl rfl ?_ ?_
   ·refine WL_load_box_agg [(.int .i64 a2.1), (.int .i64 a2.2.1), (.int .i64 a2.2.2.1), (.bool a2.2.2.2)] hC58 4 rfl rfl rfl Try.isAgg35 Try.sizeOf35 rfl rfl ?_
    refine WL_nil ?_
    refine WA_one 2 (by kernel_rfl) rfl ?_
    refine WL_store_box_agg (cs' := [v2, (.int .i64 x1.2.1), (.int .i64 x1.2.2)]) (new := [v2, (.int .i64 x1.2.1), (.int .i64 x1.2.2)]) hC58 3 rfl rfl (by intro v hv; simp only [List.mem_cons, List.not_mem_nil, or_false] at hv; rcases hv with rfl | rfl | rfl; exact (ro_one (hC58.ro 1 rfl)); exact rfl; exact rfl) rfl Try.sizeOf26 rfl rfl (fun w18 hC59 => ?_)
    try dsimp only [List.set] at hC59
    refine WL_nil ?_
    refine WA_one 3 (by kernel_rfl) rfl ?_
    refine WL_store_box_agg (cs' := [(.int .i64 a2.1), (.int .i64 a2.2.1), (.int .i64 a2.2.2.1), (.bool a2.2.2.2)]) (new := [(.int .i64 a2.1), (.int .i64 a2.2.1), (.int .i64 a2.2.2.1), (.bool a2.2.2.2)]) hC59 2 rfl rfl (by intro v hv; simp only [List.mem_cons, List.not_mem_nil, or_false] at hv; rcases hv with rfl | rfl | rfl | rfl; exact rfl; exact rfl; exact rfl; exact rfl) rfl Try.sizeOf35 rfl rfl (fun w19 hC60 => ?_)
    try dsimp only [List.set] at hC60
    refine WL_nil ?_
    refine WA_tk 4 (by kernel_rfl) rfl rfl (fl_assign rfl) ?_
    refine WL_assign rfl rfl ?_
    refine WL_nil ?_
    refine WA_done (by kernel_rfl) ?_
    have hq8 := Option.some.inj hr7
    subst hq8
    have hC61 := hC60.f3
    have hC62 := hC61.f3
    have hC63 := hC62.f3
    have hC64 := hC63.h3
    refine nrm_sub (l' := [(6, (ptr b3 0)), (7, (ptr b4 0)), (8, (.bool false))]) ⟨rfl, rfl, rfl, trivial⟩ ?_
    exact ⟨a2.1, a2.2.1, a2.2.2.1, a2.2.2.2, v2, x1.1, x1.2.1, x1.2.2, false, rfl, rfl, hC64⟩
   refine WL_store_box_agg (cs' := [v2, (.int .i64 x1.2.1), (.int .i64 x1.2.2)]) (new := [v2, (.int .i64 x1.2.1), (.int .i64 x1.2.2)]) hC58 3 rfl rfl (by intro v hv; simp only [List.mem_cons, List.not_mem_nil, or_false] at hv; rcases hv with rfl | rfl | rfl; exact (ro_one (hC58.ro 1 rfl)); exact rfl; exact rfl) rfl Try.sizeOf26 rfl rfl (fun w18 hC59 => ?_)
   try dsimp only [List.set] at hC59
   refine WL_nil ?_
   refine WA_one 1 (by kernel_rfl) rfl ?_
   refine WL_load_box_agg [(.int .i64 a2.1), (.int .i64 a2.2.1), (.int .i64 a2.2.2.1), (.bool a2.2.2.2)] hC59 4 rfl rfl rfl Try.isAgg35 Try.sizeOf35 rfl rfl ?_
   refine WL_nil ?_
   refine WA_one 3 (by kernel_rfl) rfl ?_
   refine WL_store_box_agg (cs' := [(.int .i64 a2.1), (.int .i64 a2.2.1), (.int .i64 a2.2.2.1), (.bool a2.2.2.2)]) (new := [(.int .i64 a2.1), (.int .i64 a2.2.1), (.int .i64 a2.2.2.1), (.bool a2.2.2.2)]) hC59 2 rfl rfl (by intro v hv; simp only [List.mem_cons, List.not_mem_nil, or_false] at hv; rcases hv with rfl | rfl | rfl | rfl; exact rfl; exact rfl; exact rfl; exact rfl) rfl Try.sizeOf35 rfl rfl (fun w19 hC60 => ?_)
   try dsimp only [List.set] at hC60
   refine WL_nil ?_
   refine WA_tk 4 (by kernel_rfl) rfl rfl (fl_assign rfl) ?_
   refine WL_assign rfl rfl ?_
   refine WL_nil ?_
   refine WA_done (by kernel_rfl) ?_
   have hq8 := Option.some.inj hr7
   subst hq8
   have hC61 := hC60.f3
   have hC62 := hC61.f3
   have hC63 := hC62.f3
   have hC64 := hC63.h3
   refine nrm_sub (l' := [(6, (ptr b3 0)), (7, (ptr b4 0)), (8, (.bool false))]) ⟨rfl, rfl, rfl, trivial⟩ ?_
   exact ⟨a2.1, a2.2.1, a2.2.2.1, a2.2.2.2, v2, x1.1, x1.2.1, x1.2.2, false, rfl, rfl, hC64⟩
  rintro _ w14 ⟨x7, x8, x9, x10, v3, x11, x12, x13, x14, rfl, rfl, hC56⟩
  try dsimp only at hF
  refine W_ret ?_
  refine nrm_ret ?_
  have hq9 := Option.some.inj hF
  subst hq9
  refine fn_retG3 rfl (rv_cell_agg (cs' := [v3, (.int .i64 x12), (.int .i64 x13)]) hC56 (i := 2) rfl rfl rfl Try.isAgg26 Try.sizeOf26 rfl) (rv_cell_agg (cs' := [(.int .i64 x7), (.int .i64 x8), (.int .i64 x9), (.bool x10)]) hC56 (i := 1) rfl rfl rfl Try.isAgg35 Try.sizeOf35 rfl) (rv_tmp rfl) ?_
  have hC65 := hC56.triv (bool_val (x14))
  have hC66 := own_st35 x7 x8 x9 x10 hC65
  have hC68 := hC66.f2
  have hC67 := own_st26 v3 x11 x12 x13 hC68
  exact ⟨_, rfl, res3_of hC67⟩
 replace hF := ite_f hF hc7
 refine W_skip ?_
 refine nrm_normal ?_
 refine W_seq_reg ?_
 refine WL_field Try.underlying35 rfl rfl (fun w => ⟨_, Try.sizeOf3 w⟩) rfl rfl ?_
 refine WL_load_box hC9 4 rfl rfl Try.isAgg3 rfl rfl ?_
 refine WL_add rfl rfl rfl ?_
 refine WL_field Try.underlying35 rfl rfl (fun w => ⟨_, Try.sizeOf3 w⟩) rfl rfl ?_
 refine WL_store_box (cs' := [(.int .i64 a2.1), (.int .i64 a2.2.1), (.int .i64 (w64 (a2.2.2.1 + 1))), (.bool a2.2.2.2)]) hC9 4 rfl rfl rfl rfl Try.sizeOf3 rfl rfl (fun w20 hC69 => ?_)
 try dsimp only [List.set] at hC69
 refine WL_nil ?_
 refine W_seq ?_
 refine W_seq_reg ?_
 refine WL_move rfl rfl ?_
 refine WL_eql rfl rfl rfl ?_
 refine WL_nil ?_
 refine W_cond rfl (fun hc8 => ?_) (fun hc8 => ?_)
 ·replace hF := ite_t hF hc8
  obtain ⟨r3, hr8, hF⟩ := bind_some hF
  refine W_cut (fun l w => ∃ x15 : Int, ∃ x16 : Int, ∃ x17 : Int, ∃ x18 : Bool, ∃ v4 : Value, ∃ x19 : (List Int), ∃ x20 : Int, ∃ x21 : Int, ∃ x22 : Bool, (x15, x16, x17, x18, x19, x20, x21, x22) = r3 ∧ l = [(6, (ptr b3 0)), (7, (ptr b4 0)), (8, (.bool x22))] ∧ Ctx [] w0 w [Item.own v4 (x19 : (List Int)), Item.box b4 [(.int .i64 x15), (.int .i64 x16), (.int .i64 x17), (.bool x18)], Item.box b3 [v4, (.int .i64 x20), (.int .i64 x21)]]) ?_ ?_
  ·refine W_drawn 5 rfl hmix (fun w22 hB17 => ?_)
   have hC71 := hC69.grow hB17
   refine WA.sub (l' := [(2, (.int .i64 a3)), (4, (ptr b2 0)), (6, (ptr b3 0)), (7, (ptr b4 0)), (9, (ptr b5 0)), (46, (.bool x2)), (49, (ptr b2 2)), (50, (.int .i64 a2.2.2.1)), (51, (.int .i64 (w64 (a2.2.2.1 + 1)))), (52, (ptr b2 2)), (53, (.int .i64 a3)), (54, (.bool (decide (a3 = 1))))]) ?_ ⟨rfl, rfl, rfl, rfl, rfl, rfl, rfl, rfl, rfl, rfl, rfl, rfl, trivial⟩
   refine WA_postsO [⟨0, [], fun vs => PW.val (.agg #[v2, (.int .i64 x1.2.1), (.int .i64 x1.2.2)]), []⟩, ⟨1, [], fun vs => PW.val (.agg #[(.int .i64 a2.1), (.int .i64 a2.2.1), (.int .i64 (w64 (a2.2.2.1 + 1))), (.bool a2.2.2.2)]), []⟩] [[], []] [1] 3 rfl (by kernel_rfl) (by kernel_rfl) ?_ ⟨?_, ?_, trivial⟩
   ·refine StepsE_cons rfl ?_ ?_
    ·intro w23 hB18
     refine DepsE_nil ?_
     refine ⟨_, rfl, ?_⟩
     refine WL_load_box_agg [v2, (.int .i64 x1.2.1), (.int .i64 x1.2.2)] (hC71.grow hB18) 0 rfl rfl rfl Try.isAgg26 Try.sizeOf26 rfl rfl ?_
     refine WL_nil ?_
     exact FinE_val (Below.refl _ _) rfl rfl ⟨rfl, rfl⟩
    refine StepsE_cons rfl ?_ ?_
    ·intro w23 hB18
     refine DepsE_nil ?_
     refine ⟨_, rfl, ?_⟩
     refine WL_load_box_agg [(.int .i64 a2.1), (.int .i64 a2.2.1), (.int .i64 (w64 (a2.2.2.1 + 1))), (.bool a2.2.2.2)] (hC71.grow hB18) 4 rfl rfl rfl Try.isAgg35 Try.sizeOf35 rfl rfl ?_
     refine WL_nil ?_
     exact FinE_val (Below.refl _ _) rfl rfl ⟨rfl, rfl⟩
    exact StepsE_nil
   ·intro g' hg'
    obtain rfl : g' = 3 := hg'
    intro w24 hB19
    refine AllE_cons rfl rfl rfl ?_
    rintro _ _ ⟨rfl, rfl⟩
    refine AllE_cons rfl rfl rfl ?_
    rintro _ _ ⟨rfl, rfl⟩
    refine AllE_nil ?_
    intro hn3 hb3
    have hC72 := hC71.grow hB19
    refine WA_one 2 (by kernel_rfl) rfl ?_
    refine WL_store_box_agg (cs' := [v2, (.int .i64 x1.2.1), (.int .i64 x1.2.2)]) (new := [v2, (.int .i64 x1.2.1), (.int .i64 x1.2.2)]) hC72 3 rfl rfl (by intro v hv; simp only [List.mem_cons, List.not_mem_nil, or_false] at hv; rcases hv with rfl | rfl | rfl; exact (ro_one (hC72.ro 1 rfl)); exact rfl; exact rfl) rfl Try.sizeOf26 rfl rfl (fun w25 hC73 => ?_)
    try dsimp only [List.set] at hC73
    refine WL_nil ?_
    refine WA_one 3 (by kernel_rfl) rfl ?_
    refine WL_store_box_agg (cs' := [(.int .i64 a2.1), (.int .i64 a2.2.1), (.int .i64 (w64 (a2.2.2.1 + 1))), (.bool a2.2.2.2)]) (new := [(.int .i64 a2.1), (.int .i64 a2.2.1), (.int .i64 (w64 (a2.2.2.1 + 1))), (.bool a2.2.2.2)]) hC73 2 rfl rfl (by intro v hv; simp only [List.mem_cons, List.not_mem_nil, or_false] at hv; rcases hv with rfl | rfl | rfl | rfl; exact rfl; exact rfl; exact rfl; exact rfl) rfl Try.sizeOf35 rfl rfl (fun w26 hC74 => ?_)
    try dsimp only [List.set] at hC74
    refine WL_nil ?_
    refine WA_tk 4 (by kernel_rfl) rfl rfl (fl_assign rfl) ?_
    refine WL_assign rfl rfl ?_
    refine WL_nil ?_
    refine WA_done (by kernel_rfl) ?_
    have hq10 := Option.some.inj hr8
    subst hq10
    have hC75 := hC74.f3
    have hC76 := hC75.f3
    have hC77 := hC76.f3
    have hC78 := hC77.h3
    refine nrm_sub (l' := [(6, (ptr b3 0)), (7, (ptr b4 0)), (8, (.bool true))]) ⟨rfl, rfl, rfl, trivial⟩ ?_
    exact ⟨a2.1, a2.2.1, w64 (a2.2.2.1 + 1), a2.2.2.2, v2, x1.1, x1.2.1, x1.2.2, true, rfl, rfl, hC78⟩
   intro g' hg'
   obtain rfl : g' = 4 := hg'
   intro w24 hB19
   refine AllE_cons rfl rfl rfl ?_
   rintro _ _ ⟨rfl, rfl⟩
   refine AllE_nil ?_
   intro hn3 hb3
   have hC72 := hC71.grow hB19
   refine WA_all2 (i := 1) (j := 2) (by kernel_rfl) rfl rfl ?_ ?_
   ·refine WL_load_box_agg [(.int .i64 a2.1), (.int .i64 a2.2.1), (.int .i64 (w64 (a2.2.2.1 + 1))), (.bool a2.2.2.2)] hC72 4 rfl rfl rfl Try.isAgg35 Try.sizeOf35 rfl rfl ?_
    refine WL_nil ?_
    refine WA_one 2 (by kernel_rfl) rfl ?_
    refine WL_store_box_agg (cs' := [v2, (.int .i64 x1.2.1), (.int .i64 x1.2.2)]) (new := [v2, (.int .i64 x1.2.1), (.int .i64 x1.2.2)]) hC72 3 rfl rfl (by intro v hv; simp only [List.mem_cons, List.not_mem_nil, or_false] at hv; rcases hv with rfl | rfl | rfl; exact (ro_one (hC72.ro 1 rfl)); exact rfl; exact rfl) rfl Try.sizeOf26 rfl rfl (fun w25 hC73 => ?_)
    try dsimp only [List.set] at hC73
    refine WL_nil ?_
    refine WA_one 3 (by kernel_rfl) rfl ?_
    refine WL_store_box_agg (cs' := [(.int .i64 a2.1), (.int .i64 a2.2.1), (.int .i64 (w64 (a2.2.2.1 + 1))), (.bool a2.2.2.2)]) (new := [(.int .i64 a2.1), (.int .i64 a2.2.1), (.int .i64 (w64 (a2.2.2.1 + 1))), (.bool a2.2.2.2)]) hC73 2 rfl rfl (by intro v hv; simp only [List.mem_cons, List.not_mem_nil, or_false] at hv; rcases hv with rfl | rfl | rfl | rfl; exact rfl; exact rfl; exact rfl; exact rfl) rfl Try.sizeOf35 rfl rfl (fun w26 hC74 => ?_)
    try dsimp only [List.set] at hC74
    refine WL_nil ?_
    refine WA_tk 4 (by kernel_rfl) rfl rfl (fl_assign rfl) ?_
    refine WL_assign rfl rfl ?_
    refine WL_nil ?_
    refine WA_done (by kernel_rfl) ?_
    have hq10 := Option.some.inj hr8
    subst hq10
    have hC75 := hC74.f3
    have hC76 := hC75.f3
    have hC77 := hC76.f3
    have hC78 := hC77.h3
    refine nrm_sub (l' := [(6, (ptr b3 0)), (7, (ptr b4 0)), (8, (.bool true))]) ⟨rfl, rfl, rfl, trivial⟩ ?_
    exact ⟨a2.1, a2.2.1, w64 (a2.2.2.1 + 1), a2.2.2.2, v2, x1.1, x1.2.1, x1.2.2, true, rfl, rfl, hC78⟩
   refine WL_store_box_agg (cs' := [v2, (.int .i64 x1.2.1), (.int .i64 x1.2.2)]) (new := [v2, (.int .i64 x1.2.1), (.int .i64 x1.2.2)]) hC72 3 rfl rfl (by intro v hv; simp only [List.mem_cons, List.not_mem_nil, or_false] at hv; rcases hv with rfl | rfl | rfl; exact (ro_one (hC72.ro 1 rfl)); exact rfl; exact rfl) rfl Try.sizeOf26 rfl rfl (fun w25 hC73 => ?_)
   try dsimp only [List.set] at hC73
   refine WL_nil ?_
   refine WA_one 1 (by kernel_rfl) rfl ?_
   refine WL_load_box_agg [(.int .i64 a2.1), (.int .i64 a2.2.1), (.int .i64 (w64 (a2.2.2.1 + 1))), (.bool a2.2.2.2)] hC73 4 rfl rfl rfl Try.isAgg35 Try.sizeOf35 rfl rfl ?_
   refine WL_nil ?_
   refine WA_one 3 (by kernel_rfl) rfl ?_
   refine WL_store_box_agg (cs' := [(.int .i64 a2.1), (.int .i64 a2.2.1), (.int .i64 (w64 (a2.2.2.1 + 1))), (.bool a2.2.2.2)]) (new := [(.int .i64 a2.1), (.int .i64 a2.2.1), (.int .i64 (w64 (a2.2.2.1 + 1))), (.bool a2.2.2.2)]) hC73 2 rfl rfl (by intro v hv; simp only [List.mem_cons, List.not_mem_nil, or_false] at hv; rcases hv with rfl | rfl | rfl | rfl; exact rfl; exact rfl; exact rfl; exact rfl) rfl Try.sizeOf35 rfl rfl (fun w26 hC74 => ?_)
   try dsimp only [List.set] at hC74
   refine WL_nil ?_
   refine WA_tk 4 (by kernel_rfl) rfl rfl (fl_assign rfl) ?_
   refine WL_assign rfl rfl ?_
   refine WL_nil ?_
   refine WA_done (by kernel_rfl) ?_
   have hq10 := Option.some.inj hr8
   subst hq10
   have hC75 := hC74.f3
   have hC76 := hC75.f3
   have hC77 := hC76.f3
   have hC78 := hC77.h3
   refine nrm_sub (l' := [(6, (ptr b3 0)), (7, (ptr b4 0)), (8, (.bool true))]) ⟨rfl, rfl, rfl, trivial⟩ ?_
   exact ⟨a2.1, a2.2.1, w64 (a2.2.2.1 + 1), a2.2.2.2, v2, x1.1, x1.2.1, x1.2.2, true, rfl, rfl, hC78⟩
  rintro _ w21 ⟨x15, x16, x17, x18, v4, x19, x20, x21, x22, rfl, rfl, hC70⟩
  try dsimp only at hF
  refine W_ret ?_
  refine nrm_ret ?_
  have hq11 := Option.some.inj hF
  subst hq11
  refine fn_retG3 rfl (rv_cell_agg (cs' := [v4, (.int .i64 x20), (.int .i64 x21)]) hC70 (i := 2) rfl rfl rfl Try.isAgg26 Try.sizeOf26 rfl) (rv_cell_agg (cs' := [(.int .i64 x15), (.int .i64 x16), (.int .i64 x17), (.bool x18)]) hC70 (i := 1) rfl rfl rfl Try.isAgg35 Try.sizeOf35 rfl) (rv_tmp rfl) ?_
  have hC79 := hC70.triv (bool_val (x22))
  have hC80 := own_st35 x15 x16 x17 x18 hC79
  have hC82 := hC80.f2
  have hC81 := own_st26 v4 x19 x20 x21 hC82
  exact ⟨_, rfl, res3_of hC81⟩
 replace hF := ite_f hF hc8
 refine W_skip ?_
 refine nrm_normal ?_
 refine W_seq_reg ?_
 refine WL_load_box_agg [v2, (.int .i64 x1.2.1), (.int .i64 x1.2.2)] hC69 0 rfl rfl rfl Try.isAgg26 Try.sizeOf26 rfl rfl ?_
 refine WL_field Try.underlying35 rfl rfl (fun w => ⟨_, Try.sizeOf3 w⟩) rfl rfl ?_
 refine WL_load_box hC69 4 rfl rfl Try.isAgg3 rfl rfl ?_
 refine WL_field Try.underlying35 rfl rfl (fun w => ⟨_, Try.sizeOf3 w⟩) rfl rfl ?_
 refine WL_load_box hC69 4 rfl rfl Try.isAgg3 rfl rfl ?_
 obtain ⟨x23, hr9, hF⟩ := bind_some hF
 refine WL_call Try.call16 rfl rfl (c_S_ReceiveCall (x1.1, x1.2.1, x1.2.2) v2 ((hC69.ro 1 rfl).now (Keep.refl _ _)) a2.1 a2.2.1 x23 hr9) ?_
 rintro _ w27 ⟨hB20, v5, v6, F2, F3, rfl, hv6, hv7, hn4, hb4⟩
 obtain ⟨rfl, rfl⟩ := val_bool hv7
 have hC83 := hC69.pushL hB20 (Bs := [Item.own v5 x23.1]) (Fs := [F2]) ⟨F2, _, rfl, hv6, rfl⟩ (by simpa using hn4) (fun b h => hb4 b (by simpa using h))
 obtain ⟨v7, rfl, hC84⟩ := st26_own hC83
 refine WL_move rfl rfl ?_
 refine WL_extract rfl rfl rfl ?_
 refine WL_extract rfl rfl rfl ?_
 refine WL_store_box_agg (cs' := [v7, (.int .i64 x23.1.2.1), (.int .i64 x23.1.2.2)]) (new := [v7, (.int .i64 x23.1.2.1), (.int .i64 x23.1.2.2)]) hC84 1 rfl rfl (by intro v hv; simp only [List.mem_cons, List.not_mem_nil, or_false] at hv; rcases hv with rfl | rfl | rfl; exact (ro_one (hC84.ro 0 rfl)); exact rfl; exact rfl) rfl Try.sizeOf26 rfl rfl (fun w28 hC85 => ?_)
 try dsimp only [List.set] at hC85
 refine WL_nil ?_
 refine W_seq ?_
 refine W_seq_reg ?_
 refine WL_move rfl rfl ?_
 refine WL_eql rfl rfl rfl ?_
 refine WL_nil ?_
 obtain ⟨r4, hr10, hF⟩ := bind_some hF
 refine W_norm (fun l w => ∃ v8 : Value, ∃ x24 : (List Int), ∃ x25 : Int, ∃ x26 : Int, (x24, x25, x26) = r4 ∧ l = [(2, (.int .i64 a3)), (4, (ptr b2 0)), (6, (ptr b3 0)), (7, (ptr b4 0)), (9, (ptr b5 0))] ∧ Ctx [] w0 w [Item.own v8 (x24 : (List Int)), Item.box b5 [v8, (.int .i64 x25), (.int .i64 x26)], Item.box b4 [(.int .i64 0), (.int .i64 0), (.int .i64 0), (.bool false)], Item.box b3 [(.slice none 0 0), (.int .i64 0), (.int .i64 0)], Item.box b2 [(.int .i64 a2.1), (.int .i64 a2.2.1), (.int .i64 (w64 (a2.2.2.1 + 1))), (.bool a2.2.2.2)]]) ?_ ?_
 ·refine W_cond rfl (fun hc9 => ?_) (fun hc9 => ?_)
  ·replace hr10 := ite_t hr10 hc9
   refine W_reg ?_
   refine WL_load_box_agg [v7, (.int .i64 x23.1.2.1), (.int .i64 x23.1.2.2)] hC85 1 rfl rfl rfl Try.isAgg26 Try.sizeOf26 rfl rfl ?_
   refine WL_field Try.underlying35 rfl rfl (fun w => ⟨_, Try.sizeOf3 w⟩) rfl rfl ?_
   refine WL_load_box hC85 5 rfl rfl Try.isAgg3 rfl rfl ?_
   refine WL_field Try.underlying35 rfl rfl (fun w => ⟨_, Try.sizeOf3 w⟩) rfl rfl ?_
   refine WL_load_box hC85 5 rfl rfl Try.isAgg3 rfl rfl ?_
   obtain ⟨x27, hr11, hr10⟩ := bind_some hr10
   refine WL_call Try.call16 rfl rfl (c_S_ReceiveCall (x23.1.1, x23.1.2.1, x23.1.2.2) v7 ((hC85.ro 0 rfl).now (Keep.refl _ _)) a2.1 a2.2.1 x27 hr11) ?_
   rintro _ w30 ⟨hB22, v9, v10, F4, F5, rfl, hv8, hv9, hn5, hb5⟩
   obtain ⟨rfl, rfl⟩ := val_bool hv9
   have hC87 := hC85.pushL hB22 (Bs := [Item.own v9 x27.1]) (Fs := [F4]) ⟨F4, _, rfl, hv8, rfl⟩ (by simpa using hn5) (fun b h => hb5 b (by simpa using h))
   obtain ⟨v11, rfl, hC88⟩ := st26_own hC87
   refine WL_move rfl rfl ?_
   refine WL_extract rfl rfl rfl ?_
   refine WL_extract rfl rfl rfl ?_
   refine WL_store_box_agg (cs' := [v11, (.int .i64 x27.1.2.1), (.int .i64 x27.1.2.2)]) (new := [v11, (.int .i64 x27.1.2.1), (.int .i64 x27.1.2.2)]) hC88 2 rfl rfl (by intro v hv; simp only [List.mem_cons, List.not_mem_nil, or_false] at hv; rcases hv with rfl | rfl | rfl; exact (ro_one (hC88.ro 0 rfl)); exact rfl; exact rfl) rfl Try.sizeOf26 rfl rfl (fun w31 hC89 => ?_)
   try dsimp only [List.set] at hC89
   refine WL_nil ?_
   have hq12 := Option.some.inj hr10
   subst hq12
   have hC90 := hC89.f6
   have hC91 := hC90.f6
   have hC92 := hC91.f6
   have hC93 := hC92.f5
   have hC94 := hC93.f4
   have hC95 := hC94.h5
   refine nrm_sub (l' := [(2, (.int .i64 a3)), (4, (ptr b2 0)), (6, (ptr b3 0)), (7, (ptr b4 0)), (9, (ptr b5 0))]) ⟨rfl, rfl, rfl, rfl, rfl, trivial⟩ ?_
   exact ⟨v11, x27.1.1, x27.1.2.1, x27.1.2.2, rfl, rfl, hC95⟩
  replace hr10 := ite_f hr10 hc9
  refine W_skip ?_
  have hq13 := Option.some.inj hr10
  subst hq13
  have hC96 := hC85.f5
  have hC97 := hC96.f5
  have hC98 := hC97.f5
  have hC99 := hC98.f4
  have hC100 := hC99.f4
  have hC101 := hC100.h5
  refine nrm_sub (l' := [(2, (.int .i64 a3)), (4, (ptr b2 0)), (6, (ptr b3 0)), (7, (ptr b4 0)), (9, (ptr b5 0))]) ⟨rfl, rfl, rfl, rfl, rfl, trivial⟩ ?_
  exact ⟨v7, x23.1.1, x23.1.2.1, x23.1.2.2, rfl, rfl, hC101⟩
 rintro l4 _ w29 hs4 ⟨v8, x24, x25, x26, rfl, rfl, hC86⟩
 try dsimp only at hF
 refine nrm_sub' hs4 ?_
 clear hs4
 refine W_seq_reg ?_
 refine WL_move rfl rfl ?_
 refine WL_neq rfl rfl rfl ?_
 refine WL_field Try.underlying35 rfl rfl (fun w => ⟨_, Try.sizeOf4 w⟩) rfl rfl ?_
 refine WL_store_box (cs' := [(.int .i64 a2.1), (.int .i64 a2.2.1), (.int .i64 (w64 (a2.2.2.1 + 1))), (.bool (!decide (a3 = 2)))]) hC86 4 rfl rfl rfl rfl Try.sizeOf4 rfl rfl (fun w32 hC102 => ?_)
 try dsimp only [List.set] at hC102
 refine WL_nil ?_
 obtain ⟨r5, hr12, hF⟩ := bind_some hF
 refine W_cut (fun l w => ∃ x28 : Int, ∃ x29 : Int, ∃ x30 : Int, ∃ x31 : Bool, ∃ v12 : Value, ∃ x32 : (List Int), ∃ x33 : Int, ∃ x34 : Int, ∃ x35 : Bool, (x28, x29, x30, x31, x32, x33, x34, x35) = r5 ∧ l = [(6, (ptr b3 0)), (7, (ptr b4 0)), (8, (.bool x35))] ∧ Ctx [] w0 w [Item.own v12 (x32 : (List Int)), Item.box b4 [(.int .i64 x28), (.int .i64 x29), (.int .i64 x30), (.bool x31)], Item.box b3 [v12, (.int .i64 x33), (.int .i64 x34)]]) ?_ ?_
 ·refine W_drawn 5 rfl hmix (fun w34 hB24 => ?_)
  have hC104 := hC102.grow hB24
  refine WA.sub (l' := [(2, (.int .i64 a3)), (4, (ptr b2 0)), (6, (ptr b3 0)), (7, (ptr b4 0)), (9, (ptr b5 0)), (77, (.int .i64 a3)), (78, (.bool (!decide (a3 = 2)))), (79, (ptr b2 3))]) ?_ ⟨rfl, rfl, rfl, rfl, rfl, rfl, rfl, rfl, trivial⟩
  refine WA_postsO [⟨0, [], fun vs => PW.val (.agg #[v8, (.int .i64 x25), (.int .i64 x26)]), []⟩, ⟨1, [], fun vs => PW.val (.agg #[(.int .i64 a2.1), (.int .i64 a2.2.1), (.int .i64 (w64 (a2.2.2.1 + 1))), (.bool (!decide (a3 = 2)))]), []⟩] [[], []] [1] 3 rfl (by kernel_rfl) (by kernel_rfl) ?_ ⟨?_, ?_, trivial⟩
  ·refine StepsE_cons rfl ?_ ?_
   ·intro w35 hB25
    refine DepsE_nil ?_
    refine ⟨_, rfl, ?_⟩
    refine WL_load_box_agg [v8, (.int .i64 x25), (.int .i64 x26)] (hC104.grow hB25) 1 rfl rfl rfl Try.isAgg26 Try.sizeOf26 rfl rfl ?_
    refine WL_nil ?_
    exact FinE_val (Below.refl _ _) rfl rfl ⟨rfl, rfl⟩
   refine StepsE_cons rfl ?_ ?_
   ·intro w35 hB25
    refine DepsE_nil ?_
    refine ⟨_, rfl, ?_⟩
    refine WL_load_box_agg [(.int .i64 a2.1), (.int .i64 a2.2.1), (.int .i64 (w64 (a2.2.2.1 + 1))), (.bool (!decide (a3 = 2)))] (hC104.grow hB25) 4 rfl rfl rfl Try.isAgg35 Try.sizeOf35 rfl rfl ?_
    refine WL_nil ?_
    exact FinE_val (Below.refl _ _) rfl rfl ⟨rfl, rfl⟩
   exact StepsE_nil
  ·intro g' hg'
   obtain rfl : g' = 3 := hg'
   intro w36 hB26
   refine AllE_cons rfl rfl rfl ?_
   rintro _ _ ⟨rfl, rfl⟩
   refine AllE_cons rfl rfl rfl ?_
   rintro _ _ ⟨rfl, rfl⟩
   refine AllE_nil ?_
   intro hn6 hb6
   have hC105 := hC104.grow hB26
   refine WA_one 2 (by kernel_rfl) rfl ?_
   refine WL_store_box_agg (cs' := [v8, (.int .i64 x25), (.int .i64 x26)]) (new := [v8, (.int .i64 x25), (.int .i64 x26)]) hC105 3 rfl rfl (by intro v hv; simp only [List.mem_cons, List.not_mem_nil, or_false] at hv; rcases hv with rfl | rfl | rfl; exact (ro_one (hC105.ro 0 rfl)); exact rfl; exact rfl) rfl Try.sizeOf26 rfl rfl (fun w37 hC106 => ?_)
   try dsimp only [List.set] at hC106
   refine WL_nil ?_
   refine WA_one 3 (by kernel_rfl) rfl ?_
   refine WL_store_box_agg (cs' := [(.int .i64 a2.1), (.int .i64 a2.2.1), (.int .i64 (w64 (a2.2.2.1 + 1))), (.bool (!decide (a3 = 2)))]) (new := [(.int .i64 a2.1), (.int .i64 a2.2.1), (.int .i64 (w64 (a2.2.2.1 + 1))), (.bool (!decide (a3 = 2)))]) hC106 2 rfl rfl (by intro v hv; simp only [List.mem_cons, List.not_mem_nil, or_false] at hv; rcases hv with rfl | rfl | rfl | rfl; exact rfl; exact rfl; exact rfl; exact rfl) rfl Try.sizeOf35 rfl rfl (fun w38 hC107 => ?_)
   try dsimp only [List.set] at hC107
   refine WL_nil ?_
   refine WA_tk 4 (by kernel_rfl) rfl rfl (fl_assign rfl) ?_
   refine WL_assign rfl rfl ?_
   refine WL_nil ?_
   refine WA_done (by kernel_rfl) ?_
   have hq14 := Option.some.inj hr12
   subst hq14
   have hC108 := hC107.f3
   have hC109 := hC108.f3
   have hC110 := hC109.f2
   have hC111 := hC110.h3
   refine nrm_sub (l' := [(6, (ptr b3 0)), (7, (ptr b4 0)), (8, (.bool true))]) ⟨rfl, rfl, rfl, trivial⟩ ?_
   exact ⟨a2.1, a2.2.1, w64 (a2.2.2.1 + 1), (!decide (a3 = 2)), v8, x24, x25, x26, true, rfl, rfl, hC111⟩
  intro g' hg'
  obtain rfl : g' = 4 := hg'
  intro w36 hB26
  refine AllE_cons rfl rfl rfl ?_
  rintro _ _ ⟨rfl, rfl⟩
  refine AllE_nil ?_
  intro hn6 hb6
  have hC105 := hC104.grow hB26
  refine WA_all2 (i := 1) (j := 2) (by kernel_rfl) rfl rfl ?_ ?_
  ·refine WL_load_box_agg [(.int .i64 a2.1), (.int .i64 a2.2.1), (.int .i64 (w64 (a2.2.2.1 + 1))), (.bool (!decide (a3 = 2)))] hC105 4 rfl rfl rfl Try.isAgg35 Try.sizeOf35 rfl rfl ?_
   refine WL_nil ?_
   refine WA_one 2 (by kernel_rfl) rfl ?_
   refine WL_store_box_agg (cs' := [v8, (.int .i64 x25), (.int .i64 x26)]) (new := [v8, (.int .i64 x25), (.int .i64 x26)]) hC105 3 rfl rfl (by intro v hv; simp only [List.mem_cons, List.not_mem_nil, or_false] at hv; rcases hv with rfl | rfl | rfl; exact (ro_one (hC105.ro 0 rfl)); exact rfl; exact rfl) rfl Try.sizeOf26 rfl rfl (fun w37 hC106 => ?_)
   try dsimp only [List.set] at hC106
   refine WL_nil ?_
   refine WA_one 3 (by kernel_rfl) rfl ?_
   refine WL_store_box_agg (cs' := [(.int .i64 a2.1), (.int .i64 a2.2.1), (.int .i64 (w64 (a2.2.2.1 + 1))), (.bool (!decide (a3 = 2)))]) (new := [(.int .i64 a2.1), (.int .i64 a2.2.1), (.int .i64 (w64 (a2.2.2.1 + 1))), (.bool (!decide (a3 = 2)))]) hC106 2 rfl rfl (by intro v hv; simp only [List.mem_cons, List.not_mem_nil, or_false] at hv; rcases hv with rfl | rfl | rfl | rfl; exact rfl; exact rfl; exact rfl; exact rfl) rfl Try.sizeOf35 rfl rfl (fun w38 hC107 => ?_)
   try dsimp only [List.set] at hC107
   refine WL_nil ?_
   refine WA_tk 4 (by kernel_rfl) rfl rfl (fl_assign rfl) ?_
   refine WL_assign rfl rfl ?_
   refine WL_nil ?_
   refine WA_done (by kernel_rfl) ?_
   have hq14 := Option.some.inj hr12
   subst hq14
   have hC108 := hC107.f3
   have hC109 := hC108.f3
   have hC110 := hC109.f2
   have hC111 := hC110.h3
   refine nrm_sub (l' := [(6, (ptr b3 0)), (7, (ptr b4 0)), (8, (.bool true))]) ⟨rfl, rfl, rfl, trivial⟩ ?_
   exact ⟨a2.1, a2.2.1, w64 (a2.2.2.1 + 1), (!decide (a3 = 2)), v8, x24, x25, x26, true, rfl, rfl, hC111⟩
  refine WL_store_box_agg (cs' := [v8, (.int .i64 x25), (.int .i64 x26)]) (new := [v8, (.int .i64 x25), (.int .i64 x26)]) hC105 3 rfl rfl (by intro v hv; simp only [List.mem_cons, List.not_mem_nil, or_false] at hv; rcases hv with rfl | rfl | rfl; exact (ro_one (hC105.ro 0 rfl)); exact rfl; exact rfl) rfl Try.sizeOf26 rfl rfl (fun w37 hC106 => ?_)
  try dsimp only [List.set] at hC106
  refine WL_nil ?_
  refine WA_one 1 (by kernel_rfl) rfl ?_
  refine WL_load_box_agg [(.int .i64 a2.1), (.int .i64 a2.2.1), (.int .i64 (w64 (a2.2.2.1 + 1))), (.bool (!decide (a3 = 2)))] hC106 4 rfl rfl rfl Try.isAgg35 Try.sizeOf35 rfl rfl ?_
  refine WL_nil ?_
  refine WA_one 3 (by kernel_rfl) rfl ?_
  refine WL_store_box_agg (cs' := [(.int .i64 a2.1), (.int .i64 a2.2.1), (.int .i64 (w64 (a2.2.2.1 + 1))), (.bool (!decide (a3 = 2)))]) (new := [(.int .i64 a2.1), (.int .i64 a2.2.1), (.int .i64 (w64 (a2.2.2.1 + 1))), (.bool (!decide (a3 = 2)))]) hC106 2 rfl rfl (by intro v hv; simp only [List.mem_cons, List.not_mem_nil, or_false] at hv; rcases hv with rfl | rfl | rfl | rfl; exact rfl; exact rfl; exact rfl; exact rfl) rfl Try.sizeOf35 rfl rfl (fun w38 hC107 => ?_)
  try dsimp only [List.set] at hC107
  refine WL_nil ?_
  refine WA_tk 4 (by kernel_rfl) rfl rfl (fl_assign rfl) ?_
  refine WL_assign rfl rfl ?_
  refine WL_nil ?_
  refine WA_done (by kernel_rfl) ?_
  have hq14 := Option.some.inj hr12
  subst hq14
  have hC108 := hC107.f3
  have hC109 := hC108.f3
  have hC110 := hC109.f2
  have hC111 := hC110.h3
  refine nrm_sub (l' := [(6, (ptr b3 0)), (7, (ptr b4 0)), (8, (.bool true))]) ⟨rfl, rfl, rfl, trivial⟩ ?_
  exact ⟨a2.1, a2.2.1, w64 (a2.2.2.1 + 1), (!decide (a3 = 2)), v8, x24, x25, x26, true, rfl, rfl, hC111⟩
 rintro _ w33 ⟨x28, x29, x30, x31, v12, x32, x33, x34, x35, rfl, rfl, hC103⟩
 try dsimp only at hF
 refine W_ret ?_
 have hq15 := Option.some.inj hF
 subst hq15
 refine fn_retG3 rfl (rv_cell_agg (cs' := [v12, (.int .i64 x33), (.int .i64 x34)]) hC103 (i := 2) rfl rfl rfl Try.isAgg26 Try.sizeOf26 rfl) (rv_cell_agg (cs' := [(.int .i64 x28), (.int .i64 x29), (.int .i64 x30), (.bool x31)]) hC103 (i := 1) rfl rfl rfl Try.isAgg35 Try.sizeOf35 rfl) (rv_tmp rfl) ?_
 have hC112 := hC103.triv (bool_val (x35))
 have hC113 := own_st35 x28 x29 x30 x31 hC112
 have hC115 := hC113.f2
 have hC114 := own_st26 v12 x32 x33 x34 hC115
 exact ⟨_, rfl, res3_of hC114⟩

theorem c_S_FinishCall {w0 : World} (a1 : ((List Int) × Int × Int)) (u1 : Value) (g1 : RO [] w0 u1 a1.1) (a2 : (Int × Int × Int × Bool)) (a3 : (List Int)) (u2 : Value) (g2 : RO [] w0 u2 a3) (rr : (((List Int) × Int × Int) × (Int × Int × Int × Bool))) (hF : S.FinishCall a1 a2 a3 = some rr) :
 Calls Try.prog 36 [(.agg #[u1, (.int .i64 a1.2.1), (.int .i64 a1.2.2)]), (.agg #[(.int .i64 a2.1), (.int .i64 a2.2.1), (.int .i64 a2.2.2.1), (.bool a2.2.2.2)]), u2].toArray w0 fun e w' => ∃ v, e = .returned v ∧ Res2 w0 rr.1 rr.2 v w' := by
 refine calls_of_W Try.func36 rfl rfl ?_
 have hC0 := Ctx.start w0
 unfold S.FinishCall at hF
 refine W_seq_reg ?_
 refine WL_box (cs := [u1, (.int .i64 a1.2.1), (.int .i64 a1.2.2)]) hC0 rfl rfl rfl (fun b1 w1 hC1 hB1 => ?_)
 refine WL_box (cs := [(.int .i64 a2.1), (.int .i64 a2.2.1), (.int .i64 a2.2.2.1), (.bool a2.2.2.2)]) hC1 rfl rfl rfl (fun b2 w2 hC2 hB2 => ?_)
 refine WL_alloc hC2 zero26 rfl rfl (fun b3 w3 hC3 hB3 => ?_)
 refine WL_alloc hC3 zero35 rfl rfl (fun b4 w4 hC4 hB4 => ?_)
 refine WL_nil ?_
 refine W_seq_reg ?_
 refine WL_load_box_agg [u1, (.int .i64 a1.2.1), (.int .i64 a1.2.2)] hC4 3 rfl rfl rfl Try.isAgg26 Try.sizeOf26 rfl rfl ?_
 obtain ⟨x1, hr1, hF⟩ := bind_some hF
 refine WL_call Try.call89 rfl rfl (c_S_l27Copy (a1.1, a1.2.1, a1.2.2) u1 (g1.now hC4.keep) x1 hr1) ?_
 rintro v1 w5 ⟨hB5, F1, hv1, hn1, hb1⟩
 have hC5 := hC4.push hB5 (A := Item.own v1 x1) hv1 hn1 hb1
 obtain ⟨v2, rfl, hC6⟩ := st26_own hC5
 refine WL_alloc hC6 zero26 rfl rfl (fun b5 w6 hC7 hB6 => ?_)
 refine WL_store_box_agg (cs' := [v2, (.int .i64 x1.2.1), (.int .i64 x1.2.2)]) (new := [v2, (.int .i64 x1.2.1), (.int .i64 x1.2.2)]) hC7 0 rfl rfl (by intro v hv; simp only [List.mem_cons, List.not_mem_nil, or_false] at hv; rcases hv with rfl | rfl | rfl; exact (ro_one (hC7.ro 1 rfl)); exact rfl; exact rfl) rfl Try.sizeOf26 rfl rfl (fun w7 hC8 => ?_)
 try dsimp only [List.set] at hC8
 refine WL_nil ?_
 refine W_seq ?_
 refine W_seq_reg ?_
 refine WL_assign rfl rfl ?_
 refine WL_nil ?_
 obtain ⟨r1, hr2, hF⟩ := bind_some hF
 refine W_norm (fun l w => ∃ v4 : Value, ∃ x10 : (List Int), ∃ x11 : Int, ∃ x12 : Int, ∃ x13 : Int, ∃ x14 : Int, ∃ x15 : Int, ∃ x16 : Bool, (x10, x11, x12, x13, x14, x15, x16) = r1 ∧ l = [(4, (ptr b2 0)), (6, (ptr b3 0)), (7, (ptr b4 0)), (8, (ptr b5 0))] ∧ Ctx [] w0 w [Item.box b5 [v4, (.int .i64 x11), (.int .i64 x12)], Item.own v4 (x10 : (List Int)), Item.box b4 [(.int .i64 0), (.int .i64 0), (.int .i64 0), (.bool false)], Item.box b3 [(.slice none 0 0), (.int .i64 0), (.int .i64 0)], Item.box b2 [(.int .i64 x13), (.int .i64 x14), (.int .i64 x15), (.bool x16)]]) ?_ ?_
 ·refine W_block ?_
  have hC38 := hC8.f4
  have hC39 := hC38.f4
  have hC40 := hC39.f4
  have hC41 := hC40.f4
  have hC42 := hC41.f4
  have hC43 := hC42.h5
  refine W.sub (l' := [(2, u2), (4, (ptr b2 0)), (6, (ptr b3 0)), (7, (ptr b4 0)), (8, (ptr b5 0)), (9, (.int .i64 0))]) ?_ ⟨rfl, rfl, rfl, rfl, rfl, rfl, trivial⟩
  refine W_loop (fun k l w => ∃ v3 : Value, ∃ x2 : (List Int), ∃ x3 : Int, ∃ x4 : Int, ∃ x5 : Int, ∃ x6 : Int, ∃ x7 : Int, ∃ x8 : Bool, ∃ x9 : Int, l = [(2, u2), (4, (ptr b2 0)), (6, (ptr b3 0)), (7, (ptr b4 0)), (8, (ptr b5 0)), (9, (.int .i64 x9))] ∧ Ctx [] w0 w [Item.box b5 [v3, (.int .i64 x3), (.int .i64 x4)], Item.own v3 (x2 : (List Int)), Item.box b4 [(.int .i64 0), (.int .i64 0), (.int .i64 0), (.bool false)], Item.box b3 [(.slice none 0 0), (.int .i64 0), (.int .i64 0)], Item.box b2 [(.int .i64 x5), (.int .i64 x6), (.int .i64 x7), (.bool x8)]] ∧ S.FinishCall_l1 a3 k x2 x3 x4 x5 x6 x7 x8 x9 = some r1) FUEL ⟨v2, x1.1, x1.2.1, x1.2.2, a2.1, a2.2.1, a2.2.2.1, a2.2.2.2, 0, rfl, hC43, hr2⟩ ?_
  clear hr2
  rintro k1 _ w9 ⟨v3, x2, x3, x4, x5, x6, x7, x8, x9, rfl, hC9, hL1⟩
  cases k1 with
  | zero => rw [S.FinishCall_l1] at hL1; cases hL1
  | succ k1 =>
   rw [S.FinishCall_l1] at hL1
   refine W_seq ?_
   obtain ⟨r2, hr3, hL1⟩ := bind_some hL1
   refine W_cut (fun l w => ∃ x17 : Bool, x17 = r2 ∧ l = [(2, u2), (4, (ptr b2 0)), (6, (ptr b3 0)), (7, (ptr b4 0)), (8, (ptr b5 0)), (9, (.int .i64 x9)), (25, (.bool x17))] ∧ Below w9.heap.size w9 w ∧ Ctx [] w0 w [Item.box b5 [v3, (.int .i64 x3), (.int .i64 x4)], Item.own v3 (x2 : (List Int)), Item.box b4 [(.int .i64 0), (.int .i64 0), (.int .i64 0), (.bool false)], Item.box b3 [(.slice none 0 0), (.int .i64 0), (.int .i64 0)], Item.box b2 [(.int .i64 x5), (.int .i64 x6), (.int .i64 x7), (.bool x8)]]) ?_ ?_
   ·refine W_reg ?_
    refine WL_move rfl rfl ?_
    refine WL_move rfl rfl ?_
    refine WL_len Try.underlying22 g2 rfl rfl ?_
    refine WL_lss rfl rfl rfl ?_
    refine WL_move rfl rfl ?_
    refine WL_fork (fun hc1 => ?_) (fun hc1 => ?_)
    ·replace hr3 := ite_t hr3 hc1
     refine WL_guard rfl rfl ?_
     refine WL_move rfl rfl ?_
     refine WL_guard rfl rfl ?_
     refine WL_lss rfl rfl rfl ?_
     refine WL_pick_t rfl rfl rfl ?_
     refine WL_nil ?_
     have hq1 := Option.some.inj hr3
     subst hq1
     refine nrm_sub (l' := [(2, u2), (4, (ptr b2 0)), (6, (ptr b3 0)), (7, (ptr b4 0)), (8, (ptr b5 0)), (9, (.int .i64 x9)), (25, (.bool (decide (x9 < 100))))]) ⟨rfl, rfl, rfl, rfl, rfl, rfl, rfl, trivial⟩ ?_
     exact ⟨(decide (x9 < 100)), rfl, rfl, (Below.refl _ _), hC9⟩
    replace hr3 := ite_f hr3 hc1
    refine WL_guard_skip rfl rfl (by simp) rfl ?_
    refine WL_guard_skip rfl rfl (by simp) rfl ?_
    refine WL_pick_f rfl rfl rfl ?_
    refine WL_nil ?_
    have hq2 := Option.some.inj hr3
    subst hq2
    refine nrm_sub (l' := [(2, u2), (4, (ptr b2 0)), (6, (ptr b3 0)), (7, (ptr b4 0)), (8, (ptr b5 0)), (9, (.int .i64 x9)), (25, (.bool false))]) ⟨rfl, rfl, rfl, rfl, rfl, rfl, rfl, trivial⟩ ?_
    exact ⟨false, rfl, rfl, (Below.refl _ _), hC9⟩
   rintro _ w10 ⟨x17, rfl, rfl, hB8, hC10⟩
   try dsimp only at hL1
   refine W_cond rfl (fun hc2 => ?_) (fun hc2 => ?_)
   ·replace hL1 := ite_t hL1 hc2
    refine W_skip ?_
    refine nrm_normal ?_
    refine W_seq ?_
    refine W_block ?_
    obtain ⟨r3, hr4, hL1⟩ := bind_some hL1
    refine W_cut (fun l w => ∃ b6 : Nat, ∃ v5 : Value, ∃ x18 : (List Int), ∃ x19 : Int, ∃ x20 : Int, ∃ b7 : Nat, ∃ x21 : Int, ∃ x22 : Int, ∃ x23 : Int, ∃ x24 : Bool, (x18, x19, x20, x21, x22, x23, x24) = r3 ∧ l = [(2, u2), (4, (ptr b2 0)), (6, (ptr b3 0)), (7, (ptr b4 0)), (8, (ptr b5 0)), (9, (.int .i64 x9)), (10, (ptr b6 0)), (11, (ptr b7 0))] ∧ Ctx [] w0 w [Item.box b7 [(.int .i64 x21), (.int .i64 x22), (.int .i64 x23), (.bool x24)], Item.box b6 [v5, (.int .i64 x19), (.int .i64 x20)], Item.own v5 (x18 : (List Int)), Item.box b5 [v3, (.int .i64 x3), (.int .i64 x4)], Item.own v3 (x2 : (List Int)), Item.box b4 [(.int .i64 0), (.int .i64 0), (.int .i64 0), (.bool false)], Item.box b3 [(.slice none 0 0), (.int .i64 0), (.int .i64 0)], Item.box b2 [(.int .i64 x5), (.int .i64 x6), (.int .i64 x7), (.bool x8)]]) ?_ ?_
    ·refine W_drawn 16 rfl hmix (fun w12 hB10 => ?_)
     have hC12 := hC10.grow hB10
     refine WA_tk 2 (by kernel_rfl) rfl rfl (fl_move rfl) ?_
     refine WL_move rfl rfl ?_
     refine WL_nil ?_
     refine WA_tk 3 (by kernel_rfl) rfl rfl (fl_move rfl) ?_
     refine WL_move rfl rfl ?_
     refine WL_nil ?_
     obtain ⟨x25, hx1, hr4⟩ := bind_some hr4
     refine WA_tk 4 (by kernel_rfl) rfl rfl (fl_index Try.underlying22 ty3 g2 hx1 rfl rfl) ?_
     refine WL_index Try.underlying22 ty3 g2 hx1 rfl rfl rfl (fun b8 o1 h1 => ?_)
     refine WL_nil ?_
     obtain ⟨x26, hr5, hr4⟩ := bind_some hr4
     refine WA.sub (l' := [(2, u2), (4, (ptr b2 0)), (6, (ptr b3 0)), (7, (ptr b4 0)), (8, (ptr b5 0)), (9, (.int .i64 x9)), (25, (.bool x17)), (31, u2), (32, (.int .i64 x9)), (33, (ptr b8 o1))]) ?_ ⟨rfl, rfl, rfl, rfl, rfl, rfl, rfl, rfl, rfl, rfl, trivial⟩
     refine WA_postsO [⟨0, [], fun vs => PW.val (.agg #[v3, (.int .i64 x3), (.int .i64 x4)]), []⟩, ⟨1, [], fun vs => PW.val (.agg #[(.int .i64 x5), (.int .i64 x6), (.int .i64 x7), (.bool x8)]), []⟩, ⟨5, [], fun vs => PW.val (.int .i64 x25), []⟩, ⟨6, [], fun vs => PW.own3 (x26.1 : ((List Int) × Int × Int)) (x26.2.1 : (Int × Int × Int × Bool)) (x26.2.2 : Bool), []⟩, ⟨7, [35], fun vs => PW.val (vs.getD 0 undef), []⟩, ⟨8, [28], fun vs => PW.comp (vs.getD 0 undef) 0, []⟩, ⟨9, [28], fun vs => PW.comp (vs.getD 0 undef) 1, []⟩, ⟨10, [28], fun vs => PW.comp (vs.getD 0 undef) 2, []⟩, ⟨11, [], fun vs => PW.box [(.slice none 0 0), (.int .i64 0), (.int .i64 0)], []⟩, ⟨12, [], fun vs => PW.box [(.int .i64 0), (.int .i64 0), (.int .i64 0), (.bool false)], []⟩] [[], [], [], [0, 1, 5], [6], [6, 7], [6, 7], [6, 7], [], []] [9, 10] 3 rfl (by kernel_rfl) (by kernel_rfl) ?_ ⟨?_, ?_, ?_, ?_, trivial⟩
     ·refine StepsE_cons rfl ?_ ?_
      ·intro w16 hB14
       refine DepsE_nil ?_
       refine ⟨_, rfl, ?_⟩
       refine WL_load_box_agg [v3, (.int .i64 x3), (.int .i64 x4)] (hC12.grow hB14) 0 rfl rfl rfl Try.isAgg26 Try.sizeOf26 rfl rfl ?_
       refine WL_nil ?_
       exact FinE_val (Below.refl _ _) rfl rfl ⟨rfl, rfl⟩
      refine StepsE_cons rfl ?_ ?_
      ·intro w16 hB14
       refine DepsE_nil ?_
       refine ⟨_, rfl, ?_⟩
       refine WL_load_box_agg [(.int .i64 x5), (.int .i64 x6), (.int .i64 x7), (.bool x8)] (hC12.grow hB14) 4 rfl rfl rfl Try.isAgg35 Try.sizeOf35 rfl rfl ?_
       refine WL_nil ?_
       exact FinE_val (Below.refl _ _) rfl rfl ⟨rfl, rfl⟩
      refine StepsE_cons rfl ?_ ?_
      ·intro w16 hB14
       refine DepsE_nil ?_
       refine ⟨_, rfl, ?_⟩
       refine WL_load ty3 h1 (hC12.keep.then hB14) rfl rfl (fun v6 h2 => ?_)
       obtain rfl := ro_int h2
       refine WL_nil ?_
       exact FinE_val (Below.refl _ _) rfl rfl ⟨rfl, rfl⟩
      refine StepsE_cons rfl ?_ ?_
      ·intro w16 hB14
       refine DepsE_cons rfl rfl rfl ?_
       rintro _ _ ⟨rfl, rfl⟩ _
       refine DepsE_cons rfl rfl rfl ?_
       rintro _ _ ⟨rfl, rfl⟩ _
       refine DepsE_cons rfl rfl rfl ?_
       rintro _ _ ⟨rfl, rfl⟩ _
       refine DepsE_nil ?_
       refine ⟨_, rfl, ?_⟩
       refine WL_call Try.call22 rfl rfl (c_S_TryCall (x2, x3, x4) v3 ((hC12.grow hB14).ro 1 rfl) (x5, x6, x7, x8) x25 x26 hr5) ?_
       rintro _ w13 ⟨hB11, v7, v8, v9, F2, F3, F4, rfl, hv2, hv3, hv4, hn2, hb2⟩
       refine WL_nil ?_
       exact FinE_own (F := F2 ++ (F3 ++ F4)) hB11 rfl rfl ⟨_, _, _, _, _, _, rfl, rfl, hv2, hv3, hv4⟩ (by simpa using hn2) (fun b h => hb2 b (by simpa using h)) (fun b h => by simp only [List.mem_append] at h; rcases h with h | h | h; exact Val.inh hv2 b h; exact Val.inh hv3 b h; exact Val.inh hv4 b h)
      refine StepsE_cons rfl ?_ ?_
      ·intro w16 hB14
       refine DepsE_cons rfl rfl rfl ?_
       rintro _ _ ⟨v7, v8, v9, F2, F3, F4, rfl, rfl, hv2, hv3, hv4⟩ _
       obtain ⟨rfl, rfl⟩ := val_bool hv4
       obtain ⟨v10, rfl, h3⟩ := ro_st26 (ro_of_own hv2)
       obtain rfl := ro_st35 (ro_of_own hv3)
       refine DepsE_nil ?_
       refine ⟨_, rfl, ?_⟩
       refine WL_move rfl rfl ?_
       refine WL_nil ?_
       exact FinE_val (Below.refl _ _) rfl rfl ⟨rfl, rfl⟩
      refine StepsE_cons rfl ?_ ?_
      ·intro w16 hB14
       refine DepsE_cons rfl rfl rfl ?_
       rintro _ _ ⟨v7, v8, v9, F2, F3, F4, rfl, rfl, hv2, hv3, hv4⟩ _
       obtain ⟨rfl, rfl⟩ := val_bool hv4
       obtain ⟨v10, rfl, h3⟩ := ro_st26 (ro_of_own hv2)
       obtain rfl := ro_st35 (ro_of_own hv3)
       refine DepsE_cons rfl rfl rfl ?_
       rintro _ _ ⟨rfl, rfl⟩ _
       refine DepsE_nil ?_
       refine ⟨_, rfl, ?_⟩
       refine WL_extract rfl rfl rfl ?_
       refine WL_nil ?_
       exact FinE_val (Below.refl _ _) rfl rfl ⟨⟨_, rfl, rfl⟩, rfl⟩
      refine StepsE_cons rfl ?_ ?_
      ·intro w16 hB14
       refine DepsE_cons rfl rfl rfl ?_
       rintro _ _ ⟨v7, v8, v9, F2, F3, F4, rfl, rfl, hv2, hv3, hv4⟩ _
       obtain ⟨rfl, rfl⟩ := val_bool hv4
       obtain ⟨v10, rfl, h3⟩ := ro_st26 (ro_of_own hv2)
       obtain rfl := ro_st35 (ro_of_own hv3)
       refine DepsE_cons rfl rfl rfl ?_
       rintro _ _ ⟨rfl, rfl⟩ _
       refine DepsE_nil ?_
       refine ⟨_, rfl, ?_⟩
       refine WL_extract rfl rfl rfl ?_
       refine WL_nil ?_
       exact FinE_val (Below.refl _ _) rfl rfl ⟨⟨_, rfl, rfl⟩, rfl⟩
      refine StepsE_cons rfl ?_ ?_
      ·intro w16 hB14
       refine DepsE_cons rfl rfl rfl ?_
       rintro _ _ ⟨v7, v8, v9, F2, F3, F4, rfl, rfl, hv2, hv3, hv4⟩ _
       obtain ⟨rfl, rfl⟩ := val_bool hv4
       obtain ⟨v10, rfl, h3⟩ := ro_st26 (ro_of_own hv2)
       obtain rfl := ro_st35 (ro_of_own hv3)
       refine DepsE_cons rfl rfl rfl ?_
       rintro _ _ ⟨rfl, rfl⟩ _
       refine DepsE_nil ?_
       refine ⟨_, rfl, ?_⟩
       refine WL_extract rfl rfl rfl ?_
       refine WL_nil ?_
       exact FinE_val (Below.refl _ _) rfl rfl ⟨⟨_, rfl, rfl⟩, rfl⟩
      refine StepsE_cons rfl ?_ ?_
      ·intro w16 hB14
       refine DepsE_nil ?_
       refine ⟨_, rfl, ?_⟩
       refine WL_alloc (Ctx.start _) zero26 rfl rfl (fun b9 w14 hC13 hB12 => ?_)
       refine WL_nil ?_
       exact FinE_ctx hC13 rfl rfl (fun F h => ⟨b9, rfl, h⟩)
      refine StepsE_cons rfl ?_ ?_
      ·intro w16 hB14
       refine DepsE_nil ?_
       refine ⟨_, rfl, ?_⟩
       refine WL_alloc (Ctx.start _) zero35 rfl rfl (fun b10 w15 hC14 hB13 => ?_)
       refine WL_nil ?_
       exact FinE_ctx hC14 rfl rfl (fun F h => ⟨b10, rfl, h⟩)
      exact StepsE_nil
     ·intro g' hg'
      obtain rfl : g' = 3 := hg'
      intro w17 hB15
      refine AllE_cons rfl rfl rfl ?_
      rintro _ _ ⟨rfl, rfl⟩
      refine AllE_cons rfl rfl rfl ?_
      rintro _ _ ⟨rfl, rfl⟩
      refine AllE_cons rfl rfl rfl ?_
      rintro _ _ ⟨rfl, rfl⟩
      refine AllE_cons rfl rfl rfl ?_
      rintro _ _ ⟨v7, v8, v9, F2, F3, F4, rfl, rfl, hv2, hv3, hv4⟩
      obtain ⟨rfl, rfl⟩ := val_bool hv4
      refine AllE_cons rfl rfl rfl ?_
      rintro _ _ ⟨rfl, rfl⟩
      refine AllE_cons rfl rfl rfl ?_
      rintro _ _ ⟨⟨_, hx2, hx3⟩, rfl⟩
      obtain rfl := Value.tuple.inj hx2
      obtain rfl := Option.some.inj (show (some v7 : Option Value) = some _ from hx3)
      refine AllE_cons rfl rfl rfl ?_
      rintro _ _ ⟨⟨_, hx4, hx5⟩, rfl⟩
      obtain rfl := Value.tuple.inj hx4
      obtain rfl := Option.some.inj (show (some v8 : Option Value) = some _ from hx5)
      refine AllE_cons rfl rfl rfl ?_
      rintro _ _ ⟨⟨_, hx6, hx7⟩, rfl⟩
      obtain rfl := Value.tuple.inj hx6
      obtain rfl := Option.some.inj (show (some (.bool x26.2.2) : Option Value) = some _ from hx7)
      refine AllE_cons rfl rfl rfl ?_
      rintro _ F5 ⟨b9, rfl, hv5⟩
      refine AllE_cons rfl rfl rfl ?_
      rintro _ F6 ⟨b10, rfl, hv6⟩
      refine AllE_nil ?_
      intro hn3 hb3
      have hC15 := hC12.pushL hB15 (Bs := [Item.box b10 [(.int .i64 0), (.int .i64 0), (.int .i64 0), (.bool false)], Item.box b9 [(.slice none 0 0), (.int .i64 0), (.int .i64 0)], Item.own v7 (x26.1 : ((List Int) × Int × Int)), Item.own v8 (x26.2.1 : (Int × Int × Int × Bool))]) (Fs := [F6, F5, F2, F3]) ⟨F6, _, rfl, hv6, F5, _, rfl, hv5, F2, _, rfl, hv2, F3, _, rfl, hv3, rfl⟩ (by simpa using hn3) (fun b h => (hb3 b (by simpa using h)).1)
      have hC16 := hC15.f2
      obtain ⟨v11, rfl, hC17⟩ := st26_own hC16
      have hC18 := hC17.f3
      obtain ⟨rfl, hC19⟩ := st35_own hC18
      refine WA_one 13 (by kernel_rfl) rfl ?_
      refine WL_store_box_agg (cs' := [v11, (.int .i64 x26.1.2.1), (.int .i64 x26.1.2.2)]) (new := [v11, (.int .i64 x26.1.2.1), (.int .i64 x26.1.2.2)]) hC19 2 rfl rfl (by intro v hv; simp only [List.mem_cons, List.not_mem_nil, or_false] at hv; rcases hv with rfl | rfl | rfl; exact (ro_one (hC19.ro 0 rfl)); exact rfl; exact rfl) rfl Try.sizeOf26 rfl rfl (fun w18 hC20 => ?_)
      try dsimp only [List.set] at hC20
      refine WL_nil ?_
      refine WA_one 14 (by kernel_rfl) rfl ?_
      refine WL_store_box_agg (cs' := [(.int .i64 x26.2.1.1), (.int .i64 x26.2.1.2.1), (.int .i64 x26.2.1.2.2.1), (.bool x26.2.1.2.2.2)]) (new := [(.int .i64 x26.2.1.1), (.int .i64 x26.2.1.2.1), (.int .i64 x26.2.1.2.2.1), (.bool x26.2.1.2.2.2)]) hC20 1 rfl rfl (by intro v hv; simp only [List.mem_cons, List.not_mem_nil, or_false] at hv; rcases hv with rfl | rfl | rfl | rfl; exact rfl; exact rfl; exact rfl; exact rfl) rfl Try.sizeOf35 rfl rfl (fun w19 hC21 => ?_)
      try dsimp only [List.set] at hC21
      refine WL_nil ?_
      refine WA_tk 15 (by kernel_rfl) rfl rfl (fl_assign rfl) ?_
      refine WL_assign rfl rfl ?_
      refine WL_nil ?_
      refine WA_done (by kernel_rfl) ?_
      have hq3 := Option.some.inj hr4
      subst hq3
      have hC22 := hC21.f7
      have hC23 := hC22.f7
      have hC24 := hC23.f7
      have hC25 := hC24.f7
      have hC26 := hC25.f7
      have hC27 := hC26.f5
      have hC28 := hC27.f7
      have hC29 := hC28.f7
      refine nrm_sub (l' := [(2, u2), (4, (ptr b2 0)), (6, (ptr b3 0)), (7, (ptr b4 0)), (8, (ptr b5 0)), (9, (.int .i64 x9)), (10, (ptr b9 0)), (11, (ptr b10 0))]) ⟨rfl, rfl, rfl, rfl, rfl, rfl, rfl, rfl, trivial⟩ ?_
      exact ⟨b9, v11, x26.1.1, x26.1.2.1, x26.1.2.2, b10, x26.2.1.1, x26.2.1.2.1, x26.2.1.2.2.1, x26.2.1.2.2.2, rfl, rfl, hC29⟩
     ·intro g' hg'
      obtain rfl : g' = 4 := hg'
      intro w17 hB15
      refine AllE_cons rfl rfl rfl ?_
      rintro _ _ ⟨rfl, rfl⟩
      refine AllE_cons rfl rfl rfl ?_
      rintro _ _ ⟨rfl, rfl⟩
      refine AllE_cons rfl rfl rfl ?_
      rintro _ _ ⟨rfl, rfl⟩
      refine AllE_cons rfl rfl rfl ?_
      rintro _ _ ⟨v7, v8, v9, F2, F3, F4, rfl, rfl, hv2, hv3, hv4⟩
      obtain ⟨rfl, rfl⟩ := val_bool hv4
      refine AllE_cons rfl rfl rfl ?_
      rintro _ _ ⟨rfl, rfl⟩
      refine AllE_cons rfl rfl rfl ?_
      rintro _ _ ⟨⟨_, hx2, hx3⟩, rfl⟩
      obtain rfl := Value.tuple.inj hx2
      obtain rfl := Option.some.inj (show (some v7 : Option Value) = some _ from hx3)
      refine AllE_cons rfl rfl rfl ?_
      rintro _ _ ⟨⟨_, hx4, hx5⟩, rfl⟩
      obtain rfl := Value.tuple.inj hx4
      obtain rfl := Option.some.inj (show (some v8 : Option Value) = some _ from hx5)
      refine AllE_cons rfl rfl rfl ?_
      rintro _ F5 ⟨b9, rfl, hv5⟩
      refine AllE_cons rfl rfl rfl ?_
      rintro _ F6 ⟨b10, rfl, hv6⟩
      refine AllE_nil ?_
      intro hn3 hb3
      have hC15 := hC12.pushL hB15 (Bs := [Item.box b10 [(.int .i64 0), (.int .i64 0), (.int .i64 0), (.bool false)], Item.box b9 [(.slice none 0 0), (.int .i64 0), (.int .i64 0)], Item.own v7 (x26.1 : ((List Int) × Int × Int)), Item.own v8 (x26.2.1 : (Int × Int × Int × Bool))]) (Fs := [F6, F5, F2, F3]) ⟨F6, _, rfl, hv6, F5, _, rfl, hv5, F2, _, rfl, hv2, F3, _, rfl, hv3, rfl⟩ (by simpa using hn3) (fun b h => (hb3 b (by simpa using h)).1)
      have hC16 := hC15.f2
      obtain ⟨v11, rfl, hC17⟩ := st26_own hC16
      have hC18 := hC17.f3
      obtain ⟨rfl, hC19⟩ := st35_own hC18
      refine WA_tk 10 (by kernel_rfl) rfl rfl (fl_extract rfl rfl) ?_
      refine WL_extract rfl rfl rfl ?_
      refine WL_nil ?_
      refine WA_one 13 (by kernel_rfl) rfl ?_
      refine WL_store_box_agg (cs' := [v11, (.int .i64 x26.1.2.1), (.int .i64 x26.1.2.2)]) (new := [v11, (.int .i64 x26.1.2.1), (.int .i64 x26.1.2.2)]) hC19 2 rfl rfl (by intro v hv; simp only [List.mem_cons, List.not_mem_nil, or_false] at hv; rcases hv with rfl | rfl | rfl; exact (ro_one (hC19.ro 0 rfl)); exact rfl; exact rfl) rfl Try.sizeOf26 rfl rfl (fun w18 hC20 => ?_)
      try dsimp only [List.set] at hC20
      refine WL_nil ?_
      refine WA_one 14 (by kernel_rfl) rfl ?_
      refine WL_store_box_agg (cs' := [(.int .i64 x26.2.1.1), (.int .i64 x26.2.1.2.1), (.int .i64 x26.2.1.2.2.1), (.bool x26.2.1.2.2.2)]) (new := [(.int .i64 x26.2.1.1), (.int .i64 x26.2.1.2.1), (.int .i64 x26.2.1.2.2.1), (.bool x26.2.1.2.2.2)]) hC20 1 rfl rfl (by intro v hv; simp only [List.mem_cons, List.not_mem_nil, or_false] at hv; rcases hv with rfl | rfl | rfl | rfl; exact rfl; exact rfl; exact rfl; exact rfl) rfl Try.sizeOf35 rfl rfl (fun w19 hC21 => ?_)
      try dsimp only [List.set] at hC21
      refine WL_nil ?_
      refine WA_tk 15 (by kernel_rfl) rfl rfl (fl_assign rfl) ?_
      refine WL_assign rfl rfl ?_
      refine WL_nil ?_
      refine WA_done (by kernel_rfl) ?_
      have hq3 := Option.some.inj hr4
      subst hq3
      have hC22 := hC21.f7
      have hC23 := hC22.f7
      have hC24 := hC23.f7
      have hC25 := hC24.f7
      have hC26 := hC25.f7
      have hC27 := hC26.f5
      have hC28 := hC27.f7
      have hC29 := hC28.f7
      refine nrm_sub (l' := [(2, u2), (4, (ptr b2 0)), (6, (ptr b3 0)), (7, (ptr b4 0)), (8, (ptr b5 0)), (9, (.int .i64 x9)), (10, (ptr b9 0)), (11, (ptr b10 0))]) ⟨rfl, rfl, rfl, rfl, rfl, rfl, rfl, rfl, trivial⟩ ?_
      exact ⟨b9, v11, x26.1.1, x26.1.2.1, x26.1.2.2, b10, x26.2.1.1, x26.2.1.2.1, x26.2.1.2.2.1, x26.2.1.2.2.2, rfl, rfl, hC29⟩
     ·intro g' hg'
      obtain rfl : g' = 4 := hg'
      intro w17 hB15
      refine AllE_cons rfl rfl rfl ?_
      rintro _ _ ⟨rfl, rfl⟩
      refine AllE_cons rfl rfl rfl ?_
      rintro _ _ ⟨rfl, rfl⟩
      refine AllE_cons rfl rfl rfl ?_
      rintro _ _ ⟨rfl, rfl⟩
      refine AllE_cons rfl rfl rfl ?_
      rintro _ _ ⟨v7, v8, v9, F2, F3, F4, rfl, rfl, hv2, hv3, hv4⟩
      obtain ⟨rfl, rfl⟩ := val_bool hv4
      refine AllE_cons rfl rfl rfl ?_
      rintro _ _ ⟨rfl, rfl⟩
      refine AllE_cons rfl rfl rfl ?_
      rintro _ _ ⟨⟨_, hx2, hx3⟩, rfl⟩
      obtain rfl := Value.tuple.inj hx2
      obtain rfl := Option.some.inj (show (some v7 : Option Value) = some _ from hx3)
      refine AllE_cons rfl rfl rfl ?_
      rintro _ _ ⟨⟨_, hx4, hx5⟩, rfl⟩
      obtain rfl := Value.tuple.inj hx4
      obtain rfl := Option.some.inj (show (some (.bool x26.2.2) : Option Value) = some _ from hx5)
      refine AllE_cons rfl rfl rfl ?_
      rintro _ F5 ⟨b9, rfl, hv5⟩
      refine AllE_cons rfl rfl rfl ?_
      rintro _ F6 ⟨b10, rfl, hv6⟩
      refine AllE_nil ?_
      intro hn3 hb3
      have hC15 := hC12.pushL hB15 (Bs := [Item.box b10 [(.int .i64 0), (.int .i64 0), (.int .i64 0), (.bool false)], Item.box b9 [(.slice none 0 0), (.int .i64 0), (.int .i64 0)], Item.own v7 (x26.1 : ((List Int) × Int × Int)), Item.own v8 (x26.2.1 : (Int × Int × Int × Bool))]) (Fs := [F6, F5, F2, F3]) ⟨F6, _, rfl, hv6, F5, _, rfl, hv5, F2, _, rfl, hv2, F3, _, rfl, hv3, rfl⟩ (by simpa using hn3) (fun b h => (hb3 b (by simpa using h)).1)
      have hC16 := hC15.f2
      obtain ⟨v11, rfl, hC17⟩ := st26_own hC16
      have hC18 := hC17.f3
      obtain ⟨rfl, hC19⟩ := st35_own hC18
      refine WA_tk 9 (by kernel_rfl) rfl rfl (fl_extract rfl rfl) ?_
      refine WL_extract rfl rfl rfl ?_
      refine WL_nil ?_
      refine WA_one 13 (by kernel_rfl) rfl ?_
      refine WL_store_box_agg (cs' := [v11, (.int .i64 x26.1.2.1), (.int .i64 x26.1.2.2)]) (new := [v11, (.int .i64 x26.1.2.1), (.int .i64 x26.1.2.2)]) hC19 2 rfl rfl (by intro v hv; simp only [List.mem_cons, List.not_mem_nil, or_false] at hv; rcases hv with rfl | rfl | rfl; exact (ro_one (hC19.ro 0 rfl)); exact rfl; exact rfl) rfl Try.sizeOf26 rfl rfl (fun w18 hC20 => ?_)
      try dsimp only [List.set] at hC20
      refine WL_nil ?_
      refine WA_one 14 (by kernel_rfl) rfl ?_
      refine WL_store_box_agg (cs' := [(.int .i64 x26.2.1.1), (.int .i64 x26.2.1.2.1), (.int .i64 x26.2.1.2.2.1), (.bool x26.2.1.2.2.2)]) (new := [(.int .i64 x26.2.1.1), (.int .i64 x26.2.1.2.1), (.int .i64 x26.2.1.2.2.1), (.bool x26.2.1.2.2.2)]) hC20 1 rfl rfl (by intro v hv; simp only [List.mem_cons, List.not_mem_nil, or_false] at hv; rcases hv with rfl | rfl | rfl | rfl; exact rfl; exact rfl; exact rfl; exact rfl) rfl Try.sizeOf35 rfl rfl (fun w19 hC21 => ?_)
      try dsimp only [List.set] at hC21
      refine WL_nil ?_
      refine WA_tk 15 (by kernel_rfl) rfl rfl (fl_assign rfl) ?_
      refine WL_assign rfl rfl ?_
      refine WL_nil ?_
      refine WA_done (by kernel_rfl) ?_
      have hq3 := Option.some.inj hr4
      subst hq3
      have hC22 := hC21.f7
      have hC23 := hC22.f7
      have hC24 := hC23.f7
      have hC25 := hC24.f7
      have hC26 := hC25.f7
      have hC27 := hC26.f5
      have hC28 := hC27.f7
      have hC29 := hC28.f7
      refine nrm_sub (l' := [(2, u2), (4, (ptr b2 0)), (6, (ptr b3 0)), (7, (ptr b4 0)), (8, (ptr b5 0)), (9, (.int .i64 x9)), (10, (ptr b9 0)), (11, (ptr b10 0))]) ⟨rfl, rfl, rfl, rfl, rfl, rfl, rfl, rfl, trivial⟩ ?_
      exact ⟨b9, v11, x26.1.1, x26.1.2.1, x26.1.2.2, b10, x26.2.1.1, x26.2.1.2.1, x26.2.1.2.2.1, x26.2.1.2.2.2, rfl, rfl, hC29⟩
     intro g' hg'
     obtain rfl : g' = 5 := hg'
     intro w17 hB15
     refine AllE_cons rfl rfl rfl ?_
     rintro _ _ ⟨rfl, rfl⟩
     refine AllE_cons rfl rfl rfl ?_
     rintro _ _ ⟨rfl, rfl⟩
     refine AllE_cons rfl rfl rfl ?_
     rintro _ _ ⟨rfl, rfl⟩
     refine AllE_cons rfl rfl rfl ?_
     rintro _ _ ⟨v7, v8, v9, F2, F3, F4, rfl, rfl, hv2, hv3, hv4⟩
     obtain ⟨rfl, rfl⟩ := val_bool hv4
     refine AllE_cons rfl rfl rfl ?_
     rintro _ _ ⟨rfl, rfl⟩
     refine AllE_cons rfl rfl rfl ?_
     rintro _ _ ⟨⟨_, hx2, hx3⟩, rfl⟩
     obtain rfl := Value.tuple.inj hx2
     obtain rfl := Option.some.inj (show (some v7 : Option Value) = some _ from hx3)
     refine AllE_cons rfl rfl rfl ?_
     rintro _ F5 ⟨b9, rfl, hv5⟩
     refine AllE_cons rfl rfl rfl ?_
     rintro _ F6 ⟨b10, rfl, hv6⟩
     refine AllE_nil ?_
     intro hn3 hb3
     have hC15 := hC12.pushL hB15 (Bs := [Item.box b10 [(.int .i64 0), (.int .i64 0), (.int .i64 0), (.bool false)], Item.box b9 [(.slice none 0 0), (.int .i64 0), (.int .i64 0)], Item.own v7 (x26.1 : ((List Int) × Int × Int)), Item.own v8 (x26.2.1 : (Int × Int × Int × Bool))]) (Fs := [F6, F5, F2, F3]) ⟨F6, _, rfl, hv6, F5, _, rfl, hv5, F2, _, rfl, hv2, F3, _, rfl, hv3, rfl⟩ (by simpa using hn3) (fun b h => (hb3 b (by simpa using h)).1)
     have hC16 := hC15.f2
     obtain ⟨v11, rfl, hC17⟩ := st26_own hC16
     have hC18 := hC17.f3
     obtain ⟨rfl, hC19⟩ := st35_own hC18
     refine WA_tk 9 (by kernel_rfl) rfl rfl (fl_extract rfl rfl) ?_
     refine WL_extract rfl rfl rfl ?_
     refine WL_nil ?_
     refine WA_tk 10 (by kernel_rfl) rfl rfl (fl_extract rfl rfl) ?_
     refine WL_extract rfl rfl rfl ?_
     refine WL_nil ?_
     refine WA_one 13 (by kernel_rfl) rfl ?_
     refine WL_store_box_agg (cs' := [v11, (.int .i64 x26.1.2.1), (.int .i64 x26.1.2.2)]) (new := [v11, (.int .i64 x26.1.2.1), (.int .i64 x26.1.2.2)]) hC19 2 rfl rfl (by intro v hv; simp only [List.mem_cons, List.not_mem_nil, or_false] at hv; rcases hv with rfl | rfl | rfl; exact (ro_one (hC19.ro 0 rfl)); exact rfl; exact rfl) rfl Try.sizeOf26 rfl rfl (fun w18 hC20 => ?_)
     try dsimp only [List.set] at hC20
     refine WL_nil ?_
     refine WA_one 14 (by kernel_rfl) rfl ?_
     refine WL_store_box_agg (cs' := [(.int .i64 x26.2.1.1), (.int .i64 x26.2.1.2.1), (.int .i64 x26.2.1.2.2.1), (.bool x26.2.1.2.2.2)]) (new := [(.int .i64 x26.2.1.1), (.int .i64 x26.2.1.2.1), (.int .i64 x26.2.1.2.2.1), (.bool x26.2.1.2.2.2)]) hC20 1 rfl rfl (by intro v hv; simp only [List.mem_cons, List.not_mem_nil, or_false] at hv; rcases hv with rfl | rfl | rfl | rfl; exact rfl; exact rfl; exact rfl; exact rfl) rfl Try.sizeOf35 rfl rfl (fun w19 hC21 => ?_)
     try dsimp only [List.set] at hC21
     refine WL_nil ?_
     refine WA_tk 15 (by kernel_rfl) rfl rfl (fl_assign rfl) ?_
     refine WL_assign rfl rfl ?_
     refine WL_nil ?_
     refine WA_done (by kernel_rfl) ?_
     have hq3 := Option.some.inj hr4
     subst hq3
     have hC22 := hC21.f7
     have hC23 := hC22.f7
     have hC24 := hC23.f7
     have hC25 := hC24.f7
     have hC26 := hC25.f7
     have hC27 := hC26.f5
     have hC28 := hC27.f7
     have hC29 := hC28.f7
     refine nrm_sub (l' := [(2, u2), (4, (ptr b2 0)), (6, (ptr b3 0)), (7, (ptr b4 0)), (8, (ptr b5 0)), (9, (.int .i64 x9)), (10, (ptr b9 0)), (11, (ptr b10 0))]) ⟨rfl, rfl, rfl, rfl, rfl, rfl, rfl, rfl, trivial⟩ ?_
     exact ⟨b9, v11, x26.1.1, x26.1.2.1, x26.1.2.2, b10, x26.2.1.1, x26.2.1.2.1, x26.2.1.2.2.1, x26.2.1.2.2.2, rfl, rfl, hC29⟩
    rintro _ w11 ⟨b6, v5, x18, x19, x20, b7, x21, x22, x23, x24, rfl, rfl, hC11⟩
    try dsimp only at hL1
    refine W_seq_reg ?_
    refine WL_load_box_agg [v5, (.int .i64 x19), (.int .i64 x20)] hC11 1 rfl rfl rfl Try.isAgg26 Try.sizeOf26 rfl rfl ?_
    refine WL_store_box_agg (cs' := [v5, (.int .i64 x19), (.int .i64 x20)]) (new := [v5, (.int .i64 x19), (.int .i64 x20)]) hC11 3 rfl rfl (by intro v hv; simp only [List.mem_cons, List.not_mem_nil, or_false] at hv; rcases hv with rfl | rfl | rfl; exact (ro_one (hC11.ro 2 rfl)); exact rfl; exact rfl) rfl Try.sizeOf26 rfl rfl (fun w20 hC30 => ?_)
    try dsimp only [List.set] at hC30
    refine WL_nil ?_
    refine W_reg ?_
    refine WL_load_box_agg [(.int .i64 x21), (.int .i64 x22), (.int .i64 x23), (.bool x24)] hC30 0 rfl rfl rfl Try.isAgg35 Try.sizeOf35 rfl rfl ?_
    refine WL_store_box_agg (cs' := [(.int .i64 x21), (.int .i64 x22), (.int .i64 x23), (.bool x24)]) (new := [(.int .i64 x21), (.int .i64 x22), (.int .i64 x23), (.bool x24)]) hC30 7 rfl rfl (by intro v hv; simp only [List.mem_cons, List.not_mem_nil, or_false] at hv; rcases hv with rfl | rfl | rfl | rfl; exact rfl; exact rfl; exact rfl; exact rfl) rfl Try.sizeOf35 rfl rfl (fun w21 hC31 => ?_)
    try dsimp only [List.set] at hC31
    refine WL_nil ?_
    refine blk_normal ?_
    refine nrm_normal ?_
    refine W_reg ?_
    refine WL_move rfl rfl ?_
    refine WL_add rfl rfl rfl ?_
    refine WL_assign rfl rfl ?_
    refine WL_nil ?_
    have hC32 := hC31.f7
    have hC33 := hC32.f7
    have hC34 := hC33.f7
    have hC35 := hC34.f5
    have hC36 := hC35.f6
    have hC37 := hC36.h5
    refine nrm_sub (l' := [(2, u2), (4, (ptr b2 0)), (6, (ptr b3 0)), (7, (ptr b4 0)), (8, (ptr b5 0)), (9, (.int .i64 (w64 (x9 + 1))))]) ⟨rfl, rfl, rfl, rfl, rfl, rfl, trivial⟩ ?_
    exact ⟨k1, Nat.lt_succ_self _, v5, x18, x19, x20, x21, x22, x23, x24, w64 (x9 + 1), rfl, hC37, hL1⟩
   replace hL1 := ite_f hL1 hc2
   refine W_exit ?_
   refine nrm_exit ?_
   refine nrm_exit ?_
   refine blk_exit ?_
   have hq4 := Option.some.inj hL1
   subst hq4
   refine nrm_sub (l' := [(4, (ptr b2 0)), (6, (ptr b3 0)), (7, (ptr b4 0)), (8, (ptr b5 0))]) ⟨rfl, rfl, rfl, rfl, trivial⟩ ?_
   exact ⟨v3, x2, x3, x4, x5, x6, x7, x8, rfl, rfl, hC10⟩
 rintro l4 _ w22 hs4 ⟨v4, x10, x11, x12, x13, x14, x15, x16, rfl, rfl, hC44⟩
 try dsimp only at hF
 refine nrm_sub' hs4 ?_
 clear hs4
 refine W_seq_reg ?_
 refine WL_load_box_agg [v4, (.int .i64 x11), (.int .i64 x12)] hC44 0 rfl rfl rfl Try.isAgg26 Try.sizeOf26 rfl rfl ?_
 refine WL_load_box_agg [(.int .i64 x13), (.int .i64 x14), (.int .i64 x15), (.bool x16)] hC44 4 rfl rfl rfl Try.isAgg35 Try.sizeOf35 rfl rfl ?_
 obtain ⟨x27, hr6, hF⟩ := bind_some hF
 refine WL_call Try.call22 rfl rfl (c_S_TryCall (x10, x11, x12) v4 ((hC44.ro 1 rfl).now (Keep.refl _ _)) (x13, x14, x15, x16) 0 x27 hr6) ?_
 rintro _ w23 ⟨hB17, v12, v13, v14, F7, F8, F9, rfl, hv7, hv8, hv9, hn4, hb4⟩
 obtain ⟨rfl, rfl⟩ := val_bool hv9
 have hC45 := hC44.pushL hB17 (Bs := [Item.own v12 x27.1, Item.own v13 x27.2.1]) (Fs := [F7, F8]) ⟨F7, _, rfl, hv7, F8, _, rfl, hv8, rfl⟩ (by simpa using hn4) (fun b h => hb4 b (by simpa using h))
 obtain ⟨v15, rfl, hC46⟩ := st26_own hC45
 have hC47 := hC46.f1
 obtain ⟨rfl, hC48⟩ := st35_own hC47
 refine WL_move rfl rfl ?_
 refine WL_extract rfl rfl rfl ?_
 refine WL_extract rfl rfl rfl ?_
 refine WL_extract rfl rfl rfl ?_
 refine WL_alloc hC48 zero26 rfl rfl (fun b11 w24 hC49 hB18 => ?_)
 refine WL_alloc hC49 zero35 rfl rfl (fun b12 w25 hC50 hB19 => ?_)
 refine WL_store_box_agg (cs' := [v15, (.int .i64 x27.1.2.1), (.int .i64 x27.1.2.2)]) (new := [v15, (.int .i64 x27.1.2.1), (.int .i64 x27.1.2.2)]) hC50 1 rfl rfl (by intro v hv; simp only [List.mem_cons, List.not_mem_nil, or_false] at hv; rcases hv with rfl | rfl | rfl; exact (ro_one (hC50.ro 2 rfl)); exact rfl; exact rfl) rfl Try.sizeOf26 rfl rfl (fun w26 hC51 => ?_)
 try dsimp only [List.set] at hC51
 refine WL_store_box_agg (cs' := [(.int .i64 x27.2.1.1), (.int .i64 x27.2.1.2.1), (.int .i64 x27.2.1.2.2.1), (.bool x27.2.1.2.2.2)]) (new := [(.int .i64 x27.2.1.1), (.int .i64 x27.2.1.2.1), (.int .i64 x27.2.1.2.2.1), (.bool x27.2.1.2.2.2)]) hC51 0 rfl rfl (by intro v hv; simp only [List.mem_cons, List.not_mem_nil, or_false] at hv; rcases hv with rfl | rfl | rfl | rfl; exact rfl; exact rfl; exact rfl; exact rfl) rfl Try.sizeOf35 rfl rfl (fun w27 hC52 => ?_)
 try dsimp only [List.set] at hC52
 refine WL_assign rfl rfl ?_
 refine WL_nil ?_
 obtain ⟨r4, hr7, hF⟩ := bind_some hF
 refine W_cut (fun l w => ∃ x28 : Int, ∃ x29 : Int, ∃ x30 : Int, ∃ x31 : Bool, ∃ v16 : Value, ∃ x32 : (List Int), ∃ x33 : Int, ∃ x34 : Int, (x28, x29, x30, x31, x32, x33, x34) = r4 ∧ l = [(6, (ptr b3 0)), (7, (ptr b4 0))] ∧ Ctx [] w0 w [Item.own v16 (x32 : (List Int)), Item.box b4 [(.int .i64 x28), (.int .i64 x29), (.int .i64 x30), (.bool x31)], Item.box b3 [v16, (.int .i64 x33), (.int .i64 x34)]]) ?_ ?_
 ·refine W_drawn 4 rfl hmix (fun w29 hB21 => ?_)
  have hC54 := hC52.grow hB21
  refine WA.sub (l' := [(4, (ptr b2 0)), (6, (ptr b3 0)), (7, (ptr b4 0)), (8, (ptr b5 0)), (13, (ptr b11 0)), (14, (ptr b12 0)), (15, (.bool x27.2.2)), (41, (.tuple #[(.agg #[v15, (.int .i64 x27.1.2.1), (.int .i64 x27.1.2.2)]), (.agg #[(.int .i64 x27.2.1.1), (.int .i64 x27.2.1.2.1), (.int .i64 x27.2.1.2.2.1), (.bool x27.2.1.2.2.2)]), (.bool x27.2.2)])), (42, (.agg #[v4, (.int .i64 x11), (.int .i64 x12)])), (43, (.agg #[(.int .i64 x13), (.int .i64 x14), (.int .i64 x15), (.bool x16)])), (44, (.tuple #[(.agg #[v15, (.int .i64 x27.1.2.1), (.int .i64 x27.1.2.2)]), (.agg #[(.int .i64 x27.2.1.1), (.int .i64 x27.2.1.2.1), (.int .i64 x27.2.1.2.2.1), (.bool x27.2.1.2.2.2)]), (.bool x27.2.2)])), (45, (.agg #[v15, (.int .i64 x27.1.2.1), (.int .i64 x27.1.2.2)])), (46, (.agg #[(.int .i64 x27.2.1.1), (.int .i64 x27.2.1.2.1), (.int .i64 x27.2.1.2.2.1), (.bool x27.2.1.2.2.2)])), (47, (.bool x27.2.2))]) ?_ ⟨rfl, rfl, rfl, rfl, rfl, rfl, rfl, rfl, rfl, rfl, rfl, rfl, rfl, rfl, trivial⟩
  refine WA_postsO [⟨0, [], fun vs => PW.val (.agg #[v15, (.int .i64 x27.1.2.1), (.int .i64 x27.1.2.2)]), []⟩, ⟨1, [], fun vs => PW.val (.agg #[(.int .i64 x27.2.1.1), (.int .i64 x27.2.1.2.1), (.int .i64 x27.2.1.2.2.1), (.bool x27.2.1.2.2.2)]), []⟩] [[], []] [1] 2 rfl (by kernel_rfl) (by kernel_rfl) ?_ ⟨?_, ?_, trivial⟩
  ·refine StepsE_cons rfl ?_ ?_
   ·intro w30 hB22
    refine DepsE_nil ?_
    refine ⟨_, rfl, ?_⟩
    refine WL_load_box_agg [v15, (.int .i64 x27.1.2.1), (.int .i64 x27.1.2.2)] (hC54.grow hB22) 1 rfl rfl rfl Try.isAgg26 Try.sizeOf26 rfl rfl ?_
    refine WL_nil ?_
    exact FinE_val (Below.refl _ _) rfl rfl ⟨rfl, rfl⟩
   refine StepsE_cons rfl ?_ ?_
   ·intro w30 hB22
    refine DepsE_nil ?_
    refine ⟨_, rfl, ?_⟩
    refine WL_load_box_agg [(.int .i64 x27.2.1.1), (.int .i64 x27.2.1.2.1), (.int .i64 x27.2.1.2.2.1), (.bool x27.2.1.2.2.2)] (hC54.grow hB22) 0 rfl rfl rfl Try.isAgg35 Try.sizeOf35 rfl rfl ?_
    refine WL_nil ?_
    exact FinE_val (Below.refl _ _) rfl rfl ⟨rfl, rfl⟩
   exact StepsE_nil
  ·intro g' hg'
   obtain rfl : g' = 2 := hg'
   intro w31 hB23
   refine AllE_cons rfl rfl rfl ?_
   rintro _ _ ⟨rfl, rfl⟩
   refine AllE_cons rfl rfl rfl ?_
   rintro _ _ ⟨rfl, rfl⟩
   refine AllE_nil ?_
   intro hn5 hb5
   have hC55 := hC54.grow hB23
   refine WA_one 2 (by kernel_rfl) rfl ?_
   refine WL_store_box_agg (cs' := [v15, (.int .i64 x27.1.2.1), (.int .i64 x27.1.2.2)]) (new := [v15, (.int .i64 x27.1.2.1), (.int .i64 x27.1.2.2)]) hC55 6 rfl rfl (by intro v hv; simp only [List.mem_cons, List.not_mem_nil, or_false] at hv; rcases hv with rfl | rfl | rfl; exact (ro_one (hC55.ro 2 rfl)); exact rfl; exact rfl) rfl Try.sizeOf26 rfl rfl (fun w32 hC56 => ?_)
   try dsimp only [List.set] at hC56
   refine WL_nil ?_
   refine WA_one 3 (by kernel_rfl) rfl ?_
   refine WL_store_box_agg (cs' := [(.int .i64 x27.2.1.1), (.int .i64 x27.2.1.2.1), (.int .i64 x27.2.1.2.2.1), (.bool x27.2.1.2.2.2)]) (new := [(.int .i64 x27.2.1.1), (.int .i64 x27.2.1.2.1), (.int .i64 x27.2.1.2.2.1), (.bool x27.2.1.2.2.2)]) hC56 5 rfl rfl (by intro v hv; simp only [List.mem_cons, List.not_mem_nil, or_false] at hv; rcases hv with rfl | rfl | rfl | rfl; exact rfl; exact rfl; exact rfl; exact rfl) rfl Try.sizeOf35 rfl rfl (fun w33 hC57 => ?_)
   try dsimp only [List.set] at hC57
   refine WL_nil ?_
   refine WA_done (by kernel_rfl) ?_
   have hq5 := Option.some.inj hr7
   subst hq5
   have hC58 := hC57.f6
   have hC59 := hC58.f6
   have hC60 := hC59.f4
   have hC61 := hC60.h3
   refine nrm_sub (l' := [(6, (ptr b3 0)), (7, (ptr b4 0))]) ⟨rfl, rfl, trivial⟩ ?_
   exact ⟨x27.2.1.1, x27.2.1.2.1, x27.2.1.2.2.1, x27.2.1.2.2.2, v15, x27.1.1, x27.1.2.1, x27.1.2.2, rfl, rfl, hC61⟩
  intro g' hg'
  obtain rfl : g' = 3 := hg'
  intro w31 hB23
  refine AllE_cons rfl rfl rfl ?_
  rintro _ _ ⟨rfl, rfl⟩
  refine AllE_nil ?_
  intro hn5 hb5
  have hC55 := hC54.grow hB23
  refine WA_all2 (i := 1) (j := 2) (by kernel_rfl) rfl rfl ?_ ?_
  ·refine WL_load_box_agg [(.int .i64 x27.2.1.1), (.int .i64 x27.2.1.2.1), (.int .i64 x27.2.1.2.2.1), (.bool x27.2.1.2.2.2)] hC55 0 rfl rfl rfl Try.isAgg35 Try.sizeOf35 rfl rfl ?_
   refine WL_nil ?_
   refine WA_one 2 (by kernel_rfl) rfl ?_
   refine WL_store_box_agg (cs' := [v15, (.int .i64 x27.1.2.1), (.int .i64 x27.1.2.2)]) (new := [v15, (.int .i64 x27.1.2.1), (.int .i64 x27.1.2.2)]) hC55 6 rfl rfl (by intro v hv; simp only [List.mem_cons, List.not_mem_nil, or_false] at hv; rcases hv with rfl | rfl | rfl; exact (ro_one (hC55.ro 2 rfl)); exact rfl; exact rfl) rfl Try.sizeOf26 rfl rfl (fun w32 hC56 => ?_)
   try dsimp only [List.set] at hC56
   refine WL_nil ?_
   refine WA_one 3 (by kernel_rfl) rfl ?_
   refine WL_store_box_agg (cs' := [(.int .i64 x27.2.1.1), (.int .i64 x27.2.1.2.1), (.int .i64 x27.2.1.2.2.1), (.bool x27.2.1.2.2.2)]) (new := [(.int .i64 x27.2.1.1), (.int .i64 x27.2.1.2.1), (.int .i64 x27.2.1.2.2.1), (.bool x27.2.1.2.2.2)]) hC56 5 rfl rfl (by intro v hv; simp only [List.mem_cons, List.not_mem_nil, or_false] at hv; rcases hv with rfl | rfl | rfl | rfl; exact rfl; exact rfl; exact rfl; exact rfl) rfl Try.sizeOf35 rfl rfl (fun w33 hC57 => ?_)
   try dsimp only [List.set] at hC57
   refine WL_nil ?_
   refine WA_done (by kernel_rfl) ?_
   have hq5 := Option.some.inj hr7
   subst hq5
   have hC58 := hC57.f6
   have hC59 := hC58.f6
   have hC60 := hC59.f4
   have hC61 := hC60.h3
   refine nrm_sub (l' := [(6, (ptr b3 0)), (7, (ptr b4 0))]) ⟨rfl, rfl, trivial⟩ ?_
   exact ⟨x27.2.1.1, x27.2.1.2.1, x27.2.1.2.2.1, x27.2.1.2.2.2, v15, x27.1.1, x27.1.2.1, x27.1.2.2, rfl, rfl, hC61⟩
  refine WL_store_box_agg (cs' := [v15, (.int .i64 x27.1.2.1), (.int .i64 x27.1.2.2)]) (new := [v15, (.int .i64 x27.1.2.1), (.int .i64 x27.1.2.2)]) hC55 6 rfl rfl (by intro v hv; simp only [List.mem_cons, List.not_mem_nil, or_false] at hv; rcases hv with rfl | rfl | rfl; exact (ro_one (hC55.ro 2 rfl)); exact rfl; exact rfl) rfl Try.sizeOf26 rfl rfl (fun w32 hC56 => ?_)
  try dsimp only [List.set] at hC56
  refine WL_nil ?_
  refine WA_one 1 (by kernel_rfl) rfl ?_
  refine WL_load_box_agg [(.int .i64 x27.2.1.1), (.int .i64 x27.2.1.2.1), (.int .i64 x27.2.1.2.2.1), (.bool x27.2.1.2.2.2)] hC56 0 rfl rfl rfl Try.isAgg35 Try.sizeOf35 rfl rfl ?_
  refine WL_nil ?_
  refine WA_one 3 (by kernel_rfl) rfl ?_
  refine WL_store_box_agg (cs' := [(.int .i64 x27.2.1.1), (.int .i64 x27.2.1.2.1), (.int .i64 x27.2.1.2.2.1), (.bool x27.2.1.2.2.2)]) (new := [(.int .i64 x27.2.1.1), (.int .i64 x27.2.1.2.1), (.int .i64 x27.2.1.2.2.1), (.bool x27.2.1.2.2.2)]) hC56 5 rfl rfl (by intro v hv; simp only [List.mem_cons, List.not_mem_nil, or_false] at hv; rcases hv with rfl | rfl | rfl | rfl; exact rfl; exact rfl; exact rfl; exact rfl) rfl Try.sizeOf35 rfl rfl (fun w33 hC57 => ?_)
  try dsimp only [List.set] at hC57
  refine WL_nil ?_
  refine WA_done (by kernel_rfl) ?_
  have hq5 := Option.some.inj hr7
  subst hq5
  have hC58 := hC57.f6
  have hC59 := hC58.f6
  have hC60 := hC59.f4
  have hC61 := hC60.h3
  refine nrm_sub (l' := [(6, (ptr b3 0)), (7, (ptr b4 0))]) ⟨rfl, rfl, trivial⟩ ?_
  exact ⟨x27.2.1.1, x27.2.1.2.1, x27.2.1.2.2.1, x27.2.1.2.2.2, v15, x27.1.1, x27.1.2.1, x27.1.2.2, rfl, rfl, hC61⟩
 rintro _ w28 ⟨x28, x29, x30, x31, v16, x32, x33, x34, rfl, rfl, hC53⟩
 try dsimp only at hF
 refine W_ret ?_
 have hq6 := Option.some.inj hF
 subst hq6
 refine fn_retG2 rfl (rv_cell_agg (cs' := [v16, (.int .i64 x33), (.int .i64 x34)]) hC53 (i := 2) rfl rfl rfl Try.isAgg26 Try.sizeOf26 rfl) (rv_cell_agg (cs' := [(.int .i64 x28), (.int .i64 x29), (.int .i64 x30), (.bool x31)]) hC53 (i := 1) rfl rfl rfl Try.isAgg35 Try.sizeOf35 rfl) ?_
 have hC62 := own_st35 x28 x29 x30 x31 hC53
 have hC64 := hC62.f1
 have hC63 := own_st26 v16 x32 x33 x34 hC64
 exact ⟨_, rfl, res2_of hC63⟩

theorem c_M_within {w0 : World} (a1 : Int) (a2 : Int) (a3 : Int) (rr : Bool) (hF : M.within a1 a2 a3 = some rr) :
 Calls Try.prog 97 [(.int .i64 a1), (.int .i64 a2), (.int .i64 a3)].toArray w0 fun e w' => ∃ v, e = .returned v ∧ Res w0 rr v w' := by
 refine calls_of_W Try.func97 rfl rfl ?_
 have hC0 := Ctx.start w0
 unfold M.within at hF
 refine W_seq_reg ?_
 refine WL_assign rfl rfl ?_
 refine WL_nil ?_
 obtain ⟨r1, hr1, hF⟩ := bind_some hF
 refine W_cut (fun l w => ∃ x1 : Bool, x1 = r1 ∧ l = [(6, (.bool x1))] ∧ Below w0.heap.size w0 w ∧ Ctx [] w0 w []) ?_ ?_
 ·refine W_reg ?_
  refine WL_move rfl rfl ?_
  refine WL_move rfl rfl ?_
  refine WL_geq rfl rfl rfl ?_
  refine WL_move rfl rfl ?_
  refine WL_fork (fun hc1 => ?_) (fun hc1 => ?_)
  ·replace hr1 := ite_t hr1 hc1
   refine WL_guard rfl rfl ?_
   refine WL_move rfl rfl ?_
   refine WL_guard rfl rfl ?_
   refine WL_move rfl rfl ?_
   refine WL_guard rfl rfl ?_
   refine WL_leq rfl rfl rfl ?_
   refine WL_pick_t rfl rfl rfl ?_
   refine WL_assign rfl rfl ?_
   refine WL_nil ?_
   have hq1 := Option.some.inj hr1
   subst hq1
   refine nrm_sub (l' := [(6, (.bool (decide (a1 ≤ a3))))]) ⟨rfl, trivial⟩ ?_
   exact ⟨(decide (a1 ≤ a3)), rfl, rfl, (Below.refl _ _), hC0⟩
  replace hr1 := ite_f hr1 hc1
  refine WL_guard_skip rfl rfl (by simp) rfl ?_
  refine WL_guard_skip rfl rfl (by simp) rfl ?_
  refine WL_guard_skip rfl rfl (by simp) rfl ?_
  refine WL_pick_f rfl rfl rfl ?_
  refine WL_assign rfl rfl ?_
  refine WL_nil ?_
  have hq2 := Option.some.inj hr1
  subst hq2
  refine nrm_sub (l' := [(6, (.bool false))]) ⟨rfl, trivial⟩ ?_
  exact ⟨false, rfl, rfl, (Below.refl _ _), hC0⟩
 rintro _ w1 ⟨x1, rfl, rfl, hB1, hC1⟩
 try dsimp only at hF
 refine W_ret ?_
 have hq3 := Option.some.inj hF
 subst hq3
 refine fn_ret1 rfl rfl ?_
 exact ⟨_, rfl, bool_res hC1 _⟩

theorem c_M_ascending {w0 : World} (a1 : (List Int)) (u1 : Value) (g1 : RO [] w0 u1 a1) (rr : Bool) (hF : M.ascending a1 = some rr) :
 Calls Try.prog 101 [u1].toArray w0 fun e w' => ∃ v, e = .returned v ∧ Res w0 rr v w' := by
 refine calls_of_W Try.func101 rfl rfl ?_
 have hC0 := Ctx.start w0
 unfold M.ascending at hF
 refine W_seq_reg ?_
 refine WL_assign rfl rfl ?_
 refine WL_nil ?_
 refine W_seq ?_
 refine W_seq_reg ?_
 refine WL_move rfl rfl ?_
 refine WL_len Try.underlying22 g1 rfl rfl ?_
 refine WL_move rfl rfl ?_
 refine WL_nil ?_
 obtain ⟨r1, hr1, hF⟩ := bind_some hF
 refine W_norm (fun l w => .inl () = r1 ∧ l = [] ∧ Below w0.heap.size w0 w ∧ Ctx [] w0 w []) ?_ ?_
 ·refine W_block ?_
  refine W.sub (l' := [(0, u1), (5, (.int .i64 (List.length a1 : Int))), (6, (.int .i64 0))]) ?_ ⟨rfl, rfl, rfl, trivial⟩
  refine W_loop (fun k l w => ∃ x1 : Int, l = [(0, u1), (5, (.int .i64 (List.length a1 : Int))), (6, (.int .i64 x1))] ∧ Below w0.heap.size w0 w ∧ Ctx [] w0 w [] ∧ M.ascending_l1 a1 k x1 = some r1) FUEL ⟨0, rfl, (Below.refl _ _), hC0, hr1⟩ ?_
  clear hr1
  rintro k1 _ w1 ⟨x1, rfl, hB1, hC1, hL1⟩
  cases k1 with
  | zero => rw [M.ascending_l1] at hL1; cases hL1
  | succ k1 =>
   rw [M.ascending_l1] at hL1
   refine W_seq_reg ?_
   refine WL_lss rfl rfl rfl ?_
   refine WL_nil ?_
   refine W_seq ?_
   refine W_cond rfl (fun hc1 => ?_) (fun hc1 => ?_)
   ·replace hL1 := ite_t hL1 hc1
    refine W_skip ?_
    refine nrm_normal ?_
    refine W_seq ?_
    refine W_block ?_
    refine W_seq_reg ?_
    refine WL_move rfl rfl ?_
    refine WL_assign rfl rfl ?_
    refine WL_nil ?_
    obtain ⟨r2, hr2, hL1⟩ := bind_some hL1
    refine W_cut (fun l w => ∃ x2 : Bool, x2 = r2 ∧ l = [(0, u1), (5, (.int .i64 (List.length a1 : Int))), (6, (.int .i64 x1)), (22, (.bool x2))] ∧ Below w1.heap.size w1 w ∧ Ctx [] w0 w []) ?_ ?_
    ·refine W_drawn 14 rfl hmix (fun w3 hB3 => ?_)
     have hC3 := hC1.grow hB3
     refine WA_tk 0 (by kernel_rfl) rfl rfl (fl_move rfl) ?_
     refine WL_move rfl rfl ?_
     refine WL_nil ?_
     refine WA_tk 1 (by kernel_rfl) rfl rfl (fl_gtr rfl rfl) ?_
     refine WL_gtr rfl rfl rfl ?_
     refine WL_nil ?_
     refine WA_tk 2 (by kernel_rfl) rfl rfl (fl_move rfl) ?_
     refine WL_move rfl rfl ?_
     refine WL_nil ?_
     refine WA_fork (fun hc2 => ?_) (fun hc2 => ?_)
     ·replace hr2 := ite_t hr2 hc2
      refine WA_takeG 3 rfl (by kernel_rfl) (by kernel_rfl) (by kernel_rfl) rfl rfl rfl (fl_move rfl) ?_
      refine WL_guard rfl rfl ?_
      refine WL_move rfl rfl ?_
      refine WL_nil ?_
      refine WA_takeG 4 rfl (by kernel_rfl) (by kernel_rfl) (by kernel_rfl) rfl rfl rfl (fl_move rfl) ?_
      refine WL_guard rfl rfl ?_
      refine WL_move rfl rfl ?_
      refine WL_nil ?_
      obtain ⟨x3, hx1, hr2⟩ := bind_some hr2
      refine WA_takeG 5 rfl (by kernel_rfl) (by kernel_rfl) (by kernel_rfl) rfl rfl rfl (fl_index Try.underlying22 ty3 g1 hx1 rfl rfl) ?_
      refine WL_guard rfl rfl ?_
      refine WL_index Try.underlying22 ty3 g1 hx1 rfl rfl rfl (fun b1 o1 h1 => ?_)
      refine WL_nil ?_
      refine WA_takeG 7 rfl (by kernel_rfl) (by kernel_rfl) (by kernel_rfl) rfl rfl rfl (fl_move rfl) ?_
      refine WL_guard rfl rfl ?_
      refine WL_move rfl rfl ?_
      refine WL_nil ?_
      refine WA_takeG 8 rfl (by kernel_rfl) (by kernel_rfl) (by kernel_rfl) rfl rfl rfl (fl_move rfl) ?_
      refine WL_guard rfl rfl ?_
      refine WL_move rfl rfl ?_
      refine WL_nil ?_
      refine WA_takeG 9 rfl (by kernel_rfl) (by kernel_rfl) (by kernel_rfl) rfl rfl rfl (fl_sub rfl rfl) ?_
      refine WL_guard rfl rfl ?_
      refine WL_sub rfl rfl rfl ?_
      refine WL_nil ?_
      obtain ⟨x4, hx2, hr2⟩ := bind_some hr2
      refine WA_takeG 10 rfl (by kernel_rfl) (by kernel_rfl) (by kernel_rfl) rfl rfl rfl (fl_index Try.underlying22 ty3 g1 hx2 rfl rfl) ?_
      refine WL_guard rfl rfl ?_
      refine WL_index Try.underlying22 ty3 g1 hx2 rfl rfl rfl (fun b2 o2 h2 => ?_)
      refine WL_nil ?_
      refine WA.sub (l' := [(0, u1), (3, (.int .i64 x1)), (5, (.int .i64 (List.length a1 : Int))), (6, (.int .i64 x1)), (7, (.bool (decide (x1 < (List.length a1 : Int))))), (8, (.int .i64 x1)), (9, (.int .i64 x1)), (10, (.bool (decide (0 < x1)))), (11, (.bool true)), (12, u1), (13, (.int .i64 x1)), (14, (ptr b1 o1)), (16, u1), (17, (.int .i64 x1)), (18, (.int .i64 (w64 (x1 - 1)))), (19, (ptr b2 o2))]) ?_ ⟨rfl, rfl, rfl, rfl, rfl, rfl, rfl, rfl, rfl, rfl, rfl, rfl, rfl, rfl, rfl, rfl, trivial⟩
      refine WA_postsE [⟨6, [], fun vs => PW.val (.int .i64 x3), []⟩, ⟨11, [], fun vs => PW.val (.int .i64 x4), []⟩] [[], []] 2 rfl (by kernel_rfl) (by kernel_rfl) rfl ?_ ?_
      ·refine StepsE_cons rfl ?_ ?_
       ·intro w4 hB4
        refine DepsE_nil ?_
        refine ⟨_, rfl, ?_⟩
        refine WL_guard rfl rfl ?_
        refine WL_load ty3 h1 (hC3.keep.then hB4) rfl rfl (fun v1 h3 => ?_)
        obtain rfl := ro_int h3
        refine WL_nil ?_
        exact FinE_val (Below.refl _ _) rfl rfl ⟨rfl, rfl⟩
       refine StepsE_cons rfl ?_ ?_
       ·intro w4 hB4
        refine DepsE_nil ?_
        refine ⟨_, rfl, ?_⟩
        refine WL_guard rfl rfl ?_
        refine WL_load ty3 h2 (hC3.keep.then hB4) rfl rfl (fun v2 h4 => ?_)
        obtain rfl := ro_int h4
        refine WL_nil ?_
        exact FinE_val (Below.refl _ _) rfl rfl ⟨rfl, rfl⟩
       exact StepsE_nil
      intro w5 hB5
      refine AllE_cons rfl rfl rfl ?_
      rintro _ _ ⟨rfl, rfl⟩
      refine AllE_cons rfl rfl rfl ?_
      rintro _ _ ⟨rfl, rfl⟩
      refine AllE_nil ?_
      intro hn1 hb1
      have hC4 := hC3.grow hB5
      refine WA_takeG 12 rfl (by kernel_rfl) (by kernel_rfl) (by kernel_rfl) rfl rfl rfl (fl_leq rfl rfl) ?_
      refine WL_guard rfl rfl ?_
      refine WL_leq rfl rfl rfl ?_
      refine WL_nil ?_
      refine WA_tk 13 (by kernel_rfl) rfl rfl (fl_pick_t rfl rfl) ?_
      refine WL_pick_t rfl rfl rfl ?_
      refine WL_nil ?_
      refine WA_done (by kernel_rfl) ?_
      have hq1 := Option.some.inj hr2
      subst hq1
      refine nrm_sub (l' := [(0, u1), (5, (.int .i64 (List.length a1 : Int))), (6, (.int .i64 x1)), (22, (.bool (decide (x3 ≤ x4))))]) ⟨rfl, rfl, rfl, rfl, trivial⟩ ?_
      exact ⟨(decide (x3 ≤ x4)), rfl, rfl, ((Keep.of hB3).then hB5).below, hC4⟩
     replace hr2 := ite_f hr2 hc2
     refine WA_sk 3 (by kernel_rfl) rfl rfl rfl rfl (by simp) rfl rfl ?_
     refine WA_sk 4 (by kernel_rfl) rfl rfl rfl rfl (by simp) rfl rfl ?_
     refine WA_sk 5 (by kernel_rfl) rfl rfl rfl rfl (by simp) rfl rfl ?_
     refine WA_sk 6 (by kernel_rfl) rfl rfl rfl rfl (by simp) rfl rfl ?_
     refine WA_sk 7 (by kernel_rfl) rfl rfl rfl rfl (by simp) rfl rfl ?_
     refine WA_sk 8 (by kernel_rfl) rfl rfl rfl rfl (by simp) rfl rfl ?_
     refine WA_sk 9 (by kernel_rfl) rfl rfl rfl rfl (by simp) rfl rfl ?_
     refine WA_sk 10 (by kernel_rfl) rfl rfl rfl rfl (by simp) rfl rfl ?_
     refine WA_sk 11 (by kernel_rfl) rfl rfl rfl rfl (by simp) rfl rfl ?_
     refine WA_sk 12 (by kernel_rfl) rfl rfl rfl rfl (by simp) rfl rfl ?_
     refine WA_tk 13 (by kernel_rfl) rfl rfl (fl_pick_f rfl rfl) ?_
     refine WL_pick_f rfl rfl rfl ?_
     refine WL_nil ?_
     refine WA_done (by kernel_rfl) ?_
     have hq2 := Option.some.inj hr2
     subst hq2
     refine nrm_sub (l' := [(0, u1), (5, (.int .i64 (List.length a1 : Int))), (6, (.int .i64 x1)), (22, (.bool false))]) ⟨rfl, rfl, rfl, rfl, trivial⟩ ?_
     exact ⟨false, rfl, rfl, (Keep.of hB3).below, hC3⟩
    rintro _ w2 ⟨x2, rfl, rfl, hB2, hC2⟩
    try dsimp only at hL1
    refine W_cond rfl (fun hc3 => ?_) (fun hc3 => ?_)
    ·replace hL1 := ite_t hL1 hc3
     refine W_seq_reg ?_
     refine WL_assign rfl rfl ?_
     refine WL_nil ?_
     refine W_ret ?_
     refine blk_ret ?_
     refine nrm_ret ?_
     refine nrm_ret ?_
     refine blk_ret ?_
     refine nrm_ret ?_
     refine nrm_ret ?_
     have hq3 := Option.some.inj hL1
     subst hq3
     dsimp only at hF
     have hq4 := Option.some.inj hF
     subst hq4
     refine fn_ret1 rfl rfl ?_
     exact ⟨_, rfl, bool_res hC2 _⟩
    replace hL1 := ite_f hL1 hc3
    refine W_skip ?_
    refine blk_normal ?_
    refine nrm_normal ?_
    refine W_reg ?_
    refine WL_add rfl rfl rfl ?_
    refine WL_move rfl rfl ?_
    refine WL_nil ?_
    refine nrm_sub (l' := [(0, u1), (5, (.int .i64 (List.length a1 : Int))), (6, (.int .i64 (w64 (x1 + 1))))]) ⟨rfl, rfl, rfl, trivial⟩ ?_
    exact ⟨k1, Nat.lt_succ_self _, w64 (x1 + 1), rfl, ((Keep.of hB1).then hB2).below, hC2, hL1⟩
   replace hL1 := ite_f hL1 hc1
   refine W_exit ?_
   refine nrm_exit ?_
   refine nrm_exit ?_
   refine blk_exit ?_
   have hq5 := Option.some.inj hL1
   subst hq5
   refine nrm_sub (l' := []) trivial ?_
   exact ⟨rfl, rfl, (Keep.of hB1).below, hC1⟩
 rintro l3 _ w6 hs3 ⟨rfl, rfl, hB6, hC5⟩
 try dsimp only at hF
 refine nrm_sub' hs3 ?_
 clear hs3
 refine W_seq_reg ?_
 refine WL_assign rfl rfl ?_
 refine WL_nil ?_
 refine W_ret ?_
 have hq6 := Option.some.inj hF
 subst hq6
 refine fn_ret1 rfl rfl ?_
 exact ⟨_, rfl, bool_res hC5 _⟩

theorem c_M_isKey {w0 : World} (a1 : Int) (rr : Bool) (hF : M.isKey a1 = some rr) :
 Calls Try.prog 94 [(.int .i64 a1)].toArray w0 fun e w' => ∃ v, e = .returned v ∧ Res w0 rr v w' := by
 refine calls_of_W Try.func94 rfl rfl ?_
 have hC0 := Ctx.start w0
 unfold M.isKey at hF
 refine W_seq_reg ?_
 refine WL_assign rfl rfl ?_
 refine WL_nil ?_
 refine W_seq_reg ?_
 refine WL_move rfl rfl ?_
 obtain ⟨x1, hr1, hF⟩ := bind_some hF
 refine WL_call Try.call97 rfl rfl (c_M_within a1 0 1000000 x1 hr1) ?_
 intro _ w1 hv1
 obtain ⟨rfl, hB1⟩ := res_bool hv1
 have hC1 := hC0.grow hB1
 refine WL_assign rfl rfl ?_
 refine WL_nil ?_
 refine W_ret ?_
 have hq1 := Option.some.inj hF
 subst hq1
 refine fn_ret1 rfl rfl ?_
 exact ⟨_, rfl, bool_res hC1 _⟩

theorem c_M_IsLedger_c1 {w0 : World} (a1 : Int) (rr : Bool) (hF : M.IsLedger_c1 a1 = some rr) :
 Calls Try.prog 103 [(.int .i64 a1)].toArray w0 fun e w' => ∃ v, e = .returned v ∧ Res w0 rr v w' := by
 refine calls_of_W Try.func103 rfl rfl ?_
 have hC0 := Ctx.start w0
 unfold M.IsLedger_c1 at hF
 refine W_seq_reg ?_
 refine WL_assign rfl rfl ?_
 refine WL_nil ?_
 refine W_seq_reg ?_
 refine WL_move rfl rfl ?_
 obtain ⟨x1, hr1, hF⟩ := bind_some hF
 refine WL_call Try.call94 rfl rfl (c_M_isKey a1 x1 hr1) ?_
 intro _ w1 hv1
 obtain ⟨rfl, hB1⟩ := res_bool hv1
 have hC1 := hC0.grow hB1
 refine WL_not rfl rfl ?_
 refine WL_assign rfl rfl ?_
 refine WL_nil ?_
 refine W_ret ?_
 have hq1 := Option.some.inj hF
 subst hq1
 refine fn_ret1 rfl rfl ?_
 exact ⟨_, rfl, bool_res hC1 _⟩

theorem c_Slices_IndexFunc_Lint_int_M_IsLedger_c1 {w0 : World} (a1 : (List Int)) (u1 : Value) (g1 : RO [] w0 u1 a1) (rr : Int) (hF : Slices.IndexFunc_Lint_int_M_IsLedger_c1 a1 = some rr) :
 Calls Try.prog 137 [u1, (.func (.func 103) #[] #[])].toArray w0 fun e w' => ∃ v, e = .returned v ∧ Res w0 rr v w' := by
 refine calls_of_W Try.func137 rfl rfl ?_
 have hC0 := Ctx.start w0
 unfold Slices.IndexFunc_Lint_int_M_IsLedger_c1 at hF
 refine W_seq_reg ?_
 refine WL_assign rfl rfl ?_
 refine WL_nil ?_
 refine W_seq ?_
 refine W_seq_reg ?_
 refine WL_move rfl rfl ?_
 refine WL_len Try.underlying22 g1 rfl rfl ?_
 refine WL_move rfl rfl ?_
 refine WL_nil ?_
 obtain ⟨r1, hr1, hF⟩ := bind_some hF
 refine W_norm (fun l w => .inl () = r1 ∧ l = [] ∧ Below w0.heap.size w0 w ∧ Ctx [] w0 w []) ?_ ?_
 ·refine W_block ?_
  refine W.sub (l' := [(0, u1), (1, (.func (.func 103) #[] #[])), (7, (.int .i64 (List.length a1 : Int))), (8, (.int .i64 0))]) ?_ ⟨rfl, rfl, rfl, rfl, trivial⟩
  refine W_loop (fun k l w => ∃ x1 : Int, l = [(0, u1), (1, (.func (.func 103) #[] #[])), (7, (.int .i64 (List.length a1 : Int))), (8, (.int .i64 x1))] ∧ Below w0.heap.size w0 w ∧ Ctx [] w0 w [] ∧ Slices.IndexFunc_Lint_int_M_IsLedger_c1_l1 a1 k x1 = some r1) FUEL ⟨0, rfl, (Below.refl _ _), hC0, hr1⟩ ?_
  clear hr1
  rintro k1 _ w1 ⟨x1, rfl, hB1, hC1, hL1⟩
  cases k1 with
  | zero => rw [Slices.IndexFunc_Lint_int_M_IsLedger_c1_l1] at hL1; cases hL1
  | succ k1 =>
   rw [Slices.IndexFunc_Lint_int_M_IsLedger_c1_l1] at hL1
   refine W_seq_reg ?_
   refine WL_lss rfl rfl rfl ?_
   refine WL_nil ?_
   refine W_seq ?_
   refine W_cond rfl (fun hc1 => ?_) (fun hc1 => ?_)
   ·replace hL1 := ite_t hL1 hc1
    refine W_skip ?_
    refine nrm_normal ?_
    refine W_seq ?_
    refine W_block ?_
    refine W_seq_reg ?_
    refine WL_move rfl rfl ?_
    refine WL_assign rfl rfl ?_
    refine WL_nil ?_
    refine W_seq_reg ?_
    refine WL_move rfl rfl ?_
    refine WL_move rfl rfl ?_
    refine WL_move rfl rfl ?_
    obtain ⟨x2, hx1, hL1⟩ := bind_some hL1
    refine WL_index Try.underlying22 ty3 g1 hx1 rfl rfl rfl (fun b1 o1 h1 => ?_)
    refine WL_load ty3 h1 hC1.keep rfl rfl (fun v1 h2 => ?_)
    obtain rfl := ro_int h2
    obtain ⟨x3, hr2, hL1⟩ := bind_some hL1
    refine WL_callv (cap := []) Try.call103 rfl rfl rfl (c_M_IsLedger_c1 x2 x3 hr2) ?_
    intro _ w2 hv1
    obtain ⟨rfl, hB2⟩ := res_bool hv1
    have hC2 := hC1.grow hB2
    refine WL_nil ?_
    refine W_cond rfl (fun hc2 => ?_) (fun hc2 => ?_)
    ·replace hL1 := ite_t hL1 hc2
     refine W_seq_reg ?_
     refine WL_move rfl rfl ?_
     refine WL_assign rfl rfl ?_
     refine WL_nil ?_
     refine W_ret ?_
     refine blk_ret ?_
     refine nrm_ret ?_
     refine nrm_ret ?_
     refine blk_ret ?_
     refine nrm_ret ?_
     refine nrm_ret ?_
     have hq1 := Option.some.inj hL1
     subst hq1
     dsimp only at hF
     have hq2 := Option.some.inj hF
     subst hq2
     refine fn_ret1 rfl rfl ?_
     exact ⟨_, rfl, int_res hC2 _⟩
    replace hL1 := ite_f hL1 hc2
    refine W_skip ?_
    refine blk_normal ?_
    refine nrm_normal ?_
    refine W_reg ?_
    refine WL_add rfl rfl rfl ?_
    refine WL_move rfl rfl ?_
    refine WL_nil ?_
    refine nrm_sub (l' := [(0, u1), (1, (.func (.func 103) #[] #[])), (7, (.int .i64 (List.length a1 : Int))), (8, (.int .i64 (w64 (x1 + 1))))]) ⟨rfl, rfl, rfl, rfl, trivial⟩ ?_
    exact ⟨k1, Nat.lt_succ_self _, w64 (x1 + 1), rfl, ((Keep.of hB1).then hB2).below, hC2, hL1⟩
   replace hL1 := ite_f hL1 hc1
   refine W_exit ?_
   refine nrm_exit ?_
   refine nrm_exit ?_
   refine blk_exit ?_
   have hq3 := Option.some.inj hL1
   subst hq3
   refine nrm_sub (l' := []) trivial ?_
   exact ⟨rfl, rfl, (Keep.of hB1).below, hC1⟩
 rintro l2 _ w3 hs2 ⟨rfl, rfl, hB3, hC3⟩
 try dsimp only at hF
 refine nrm_sub' hs2 ?_
 clear hs2
 refine W_seq_reg ?_
 refine WL_assign rfl rfl ?_
 refine WL_nil ?_
 refine W_ret ?_
 have hq4 := Option.some.inj hF
 subst hq4
 refine fn_ret1 rfl rfl ?_
 exact ⟨_, rfl, int_res hC3 _⟩

theorem c_Slices_ContainsFunc_Lint_int_M_IsLedger_c1 {w0 : World} (a1 : (List Int)) (u1 : Value) (g1 : RO [] w0 u1 a1) (rr : Bool) (hF : Slices.ContainsFunc_Lint_int_M_IsLedger_c1 a1 = some rr) :
 Calls Try.prog 102 [u1, (.func (.func 103) #[] #[])].toArray w0 fun e w' => ∃ v, e = .returned v ∧ Res w0 rr v w' := by
 refine calls_of_W Try.func102 rfl rfl ?_
 have hC0 := Ctx.start w0
 unfold Slices.ContainsFunc_Lint_int_M_IsLedger_c1 at hF
 refine W_seq_reg ?_
 refine WL_assign rfl rfl ?_
 refine WL_nil ?_
 refine W_seq_reg ?_
 refine WL_move rfl rfl ?_
 refine WL_move rfl rfl ?_
 obtain ⟨x1, hr1, hF⟩ := bind_some hF
 refine WL_call Try.call137 rfl rfl (c_Slices_IndexFunc_Lint_int_M_IsLedger_c1 a1 u1 (g1.now hC0.keep) x1 hr1) ?_
 intro _ w1 hv1
 obtain ⟨rfl, hB1⟩ := res_int hv1
 have hC1 := hC0.grow hB1
 refine WL_geq rfl rfl rfl ?_
 refine WL_assign rfl rfl ?_
 refine WL_nil ?_
 refine W_ret ?_
 have hq1 := Option.some.inj hF
 subst hq1
 refine fn_ret1 rfl rfl ?_
 exact ⟨_, rfl, bool_res hC1 _⟩

theorem c_M_IsLedger {w0 : World} (a1 : ((List Int) × Int × Int)) (u1 : Value) (g1 : RO [] w0 u1 a1.1) (rr : Bool) (hF : M.IsLedger a1 = some rr) :
 Calls Try.prog 31 [(.agg #[u1, (.int .i64 a1.2.1), (.int .i64 a1.2.2)])].toArray w0 fun e w' => ∃ v, e = .returned v ∧ Res w0 rr v w' := by
 refine calls_of_W Try.func31 rfl rfl ?_
 have hC0 := Ctx.start w0
 unfold M.IsLedger at hF
 refine W_seq_reg ?_
 refine WL_box (cs := [u1, (.int .i64 a1.2.1), (.int .i64 a1.2.2)]) hC0 rfl rfl rfl (fun b1 w1 hC1 hB1 => ?_)
 refine WL_assign rfl rfl ?_
 refine WL_nil ?_
 obtain ⟨r1, hr1, hF⟩ := bind_some hF
 refine W_cut (fun l w => ∃ x1 : Bool, x1 = r1 ∧ l = [(2, (.bool x1))] ∧ Below w1.heap.size w1 w ∧ Ctx [] w0 w []) ?_ ?_
 ·refine W_reg ?_
  refine WL_field Try.underlying26 rfl rfl (fun w => ⟨_, Try.sizeOf22 w⟩) rfl rfl ?_
  refine WL_load_box hC1 0 rfl rfl Try.isAgg22 rfl rfl ?_
  obtain ⟨x2, hr2, hr1⟩ := bind_some hr1
  refine WL_call Try.call101 rfl rfl (c_M_ascending a1.1 u1 (g1.now hC1.keep) x2 hr2) ?_
  intro _ w3 hv1
  obtain ⟨rfl, hB3⟩ := res_bool hv1
  have hC3 := hC1.grow hB3
  refine WL_move rfl rfl ?_
  refine WL_fork (fun hc1 => ?_) (fun hc1 => ?_)
  ·replace hr1 := ite_t hr1 hc1
   refine WL_guard rfl rfl ?_
   refine WL_field Try.underlying26 rfl rfl (fun w => ⟨_, Try.sizeOf22 w⟩) rfl rfl ?_
   refine WL_guard rfl rfl ?_
   refine WL_load_box hC3 0 rfl rfl Try.isAgg22 rfl rfl ?_
   obtain ⟨x3, hr3, hr1⟩ := bind_some hr1
   refine WL_guard rfl rfl ?_
   refine WL_call Try.call102 rfl rfl (c_Slices_ContainsFunc_Lint_int_M_IsLedger_c1 a1.1 u1 (g1.now hC3.keep) x3 hr3) ?_
   intro _ w4 hv2
   obtain ⟨rfl, hB4⟩ := res_bool hv2
   have hC4 := hC3.grow hB4
   refine WL_guard rfl rfl ?_
   refine WL_not rfl rfl ?_
   refine WL_pick_t rfl rfl rfl ?_
   refine WL_move rfl rfl ?_
   refine WL_fork (fun hc2 => ?_) (fun hc2 => ?_)
   ·replace hr1 := ite_t hr1 hc2
    refine WL_guard rfl rfl ?_
    refine WL_field Try.underlying26 rfl rfl (fun w => ⟨_, Try.sizeOf3 w⟩) rfl rfl ?_
    refine WL_guard rfl rfl ?_
    refine WL_load_box hC4 0 rfl rfl Try.isAgg3 rfl rfl ?_
    obtain ⟨x4, hr4, hr1⟩ := bind_some hr1
    refine WL_guard rfl rfl ?_
    refine WL_call Try.call97 rfl rfl (c_M_within a1.2.1 0 1000000000 x4 hr4) ?_
    intro _ w5 hv3
    obtain ⟨rfl, hB5⟩ := res_bool hv3
    have hC5 := hC4.grow hB5
    refine WL_pick_t rfl rfl rfl ?_
    refine WL_move rfl rfl ?_
    refine WL_fork (fun hc3 => ?_) (fun hc3 => ?_)
    ·replace hr1 := ite_t hr1 hc3
     refine WL_guard rfl rfl ?_
     refine WL_field Try.underlying26 rfl rfl (fun w => ⟨_, Try.sizeOf3 w⟩) rfl rfl ?_
     refine WL_guard rfl rfl ?_
     refine WL_load_box hC5 0 rfl rfl Try.isAgg3 rfl rfl ?_
     obtain ⟨x5, hr5, hr1⟩ := bind_some hr1
     refine WL_guard rfl rfl ?_
     refine WL_call Try.call97 rfl rfl (c_M_within a1.2.2 0 1000000000 x5 hr5) ?_
     intro _ w6 hv4
     obtain ⟨rfl, hB6⟩ := res_bool hv4
     have hC6 := hC5.grow hB6
     refine WL_pick_t rfl rfl rfl ?_
     refine WL_assign rfl rfl ?_
     refine WL_nil ?_
     have hq1 := Option.some.inj hr1
     subst hq1
     have hC7 := hC6.h0
     refine nrm_sub (l' := [(2, (.bool x5))]) ⟨rfl, trivial⟩ ?_
     exact ⟨x5, rfl, rfl, ((((Keep.of hB3).then hB4).then hB5).then hB6).below, hC7⟩
    replace hr1 := ite_f hr1 hc3
    refine WL_guard_skip rfl rfl (by simp) rfl ?_
    refine WL_guard_skip rfl rfl (by simp) rfl ?_
    refine WL_guard_skip rfl rfl (by simp) rfl ?_
    refine WL_pick_f rfl rfl rfl ?_
    refine WL_assign rfl rfl ?_
    refine WL_nil ?_
    have hq2 := Option.some.inj hr1
    subst hq2
    have hC8 := hC5.h0
    refine nrm_sub (l' := [(2, (.bool false))]) ⟨rfl, trivial⟩ ?_
    exact ⟨false, rfl, rfl, (((Keep.of hB3).then hB4).then hB5).below, hC8⟩
   replace hr1 := ite_f hr1 hc2
   refine WL_guard_skip rfl rfl (by simp) rfl ?_
   refine WL_guard_skip rfl rfl (by simp) rfl ?_
   refine WL_guard_skip rfl rfl (by simp) rfl ?_
   refine WL_pick_f rfl rfl rfl ?_
   refine WL_move rfl rfl ?_
   refine WL_guard_skip rfl rfl (by simp) rfl ?_
   refine WL_guard_skip rfl rfl (by simp) rfl ?_
   refine WL_guard_skip rfl rfl (by simp) rfl ?_
   refine WL_pick_f rfl rfl rfl ?_
   refine WL_assign rfl rfl ?_
   refine WL_nil ?_
   have hq3 := Option.some.inj hr1
   subst hq3
   have hC9 := hC4.h0
   refine nrm_sub (l' := [(2, (.bool false))]) ⟨rfl, trivial⟩ ?_
   exact ⟨false, rfl, rfl, ((Keep.of hB3).then hB4).below, hC9⟩
  replace hr1 := ite_f hr1 hc1
  refine WL_guard_skip rfl rfl (by simp) rfl ?_
  refine WL_guard_skip rfl rfl (by simp) rfl ?_
  refine WL_guard_skip rfl rfl (by simp) rfl ?_
  refine WL_guard_skip rfl rfl (by simp) rfl ?_
  refine WL_pick_f rfl rfl rfl ?_
  refine WL_move rfl rfl ?_
  refine WL_guard_skip rfl rfl (by simp) rfl ?_
  refine WL_guard_skip rfl rfl (by simp) rfl ?_
  refine WL_guard_skip rfl rfl (by simp) rfl ?_
  refine WL_pick_f rfl rfl rfl ?_
  refine WL_move rfl rfl ?_
  refine WL_guard_skip rfl rfl (by simp) rfl ?_
  refine WL_guard_skip rfl rfl (by simp) rfl ?_
  refine WL_guard_skip rfl rfl (by simp) rfl ?_
  refine WL_pick_f rfl rfl rfl ?_
  refine WL_assign rfl rfl ?_
  refine WL_nil ?_
  have hq4 := Option.some.inj hr1
  subst hq4
  have hC10 := hC3.h0
  refine nrm_sub (l' := [(2, (.bool false))]) ⟨rfl, trivial⟩ ?_
  exact ⟨false, rfl, rfl, (Keep.of hB3).below, hC10⟩
 rintro _ w2 ⟨x1, rfl, rfl, hB2, hC2⟩
 try dsimp only at hF
 refine W_ret ?_
 have hq5 := Option.some.inj hF
 subst hq5
 refine fn_ret1 rfl rfl ?_
 exact ⟨_, rfl, bool_res hC2 _⟩

theorem c_Slices_Clone_Lint_int {w0 : World} (a1 : (List Int)) (u1 : Value) (g1 : RO [] w0 u1 a1) (rr : (List Int)) (hF : Slices.Clone_Lint_int a1 = some rr) :
 Calls Try.prog 133 [u1].toArray w0 fun e w' => ∃ v, e = .returned v ∧ Res w0 rr v w' := by
 refine calls_of_W Try.func133 rfl rfl ?_
 have hC0 := Ctx.start w0
 unfold Slices.Clone_Lint_int at hF
 refine W_seq_reg ?_
 refine WL_assign rfl rfl ?_
 refine WL_nil ?_
 refine W_seq ?_
 refine W_seq_reg ?_
 refine WL_move rfl rfl ?_
 refine WL_isnil Try.underlying22 g1 rfl rfl (fun bn1 hb1 => ?_)
 refine WL_nil ?_
 rcases btf bn1 with hc1 | hc1
 ·have ha := hb1 hc1
  subst hc1
  subst ha
  replace hF : (some ([]) : Option (List Int)) = some rr := by simpa [app] using hF
  refine W_cond_t rfl ?_
  refine W_seq_reg ?_
  refine WL_assign rfl rfl ?_
  refine WL_nil ?_
  refine W_ret ?_
  refine nrm_ret ?_
  have hq1 := Option.some.inj hF
  subst hq1
  refine fn_ret1 rfl rfl ?_
  exact ⟨_, rfl, nil_res hC0⟩
 subst hc1
 refine W_cond_f rfl ?_
 refine W_skip ?_
 refine nrm_normal ?_
 refine W_seq_reg ?_
 refine WL_buildSlice (vs := []) hC0 Try.underlying22 ty3 rfl rfl rfl rfl (by simp) rfl rfl (fun b1 w1 hC1 hB1 => ?_)
 have hC2 := hC1.row0 (α := Int)
 have hC3 := hC2.front 1 rfl
 dsimp only [List.eraseIdx, List.cons_append, List.nil_append, List.append_nil] at hC3
 have hC4 : Ctx [] w0 w1 (Item.own (.slice (some ⟨b1, 0, none⟩) 0 0) (([] : List Int) : List Int) :: []) := hC3.rowOwn (by simp [maxLen])
 refine WL_move rfl rfl ?_
 obtain ⟨x1, hx1, hF⟩ := bind_some hF
 refine WL_append_flat (α := Int) hC4 0 rfl g1 hC4.keep Try.underlying22 ty3 rfl hx1 rfl rfl rfl (fun v1 w2 hC5 => ?_)
 try dsimp only [List.set] at hC5
 refine WL_assign rfl rfl ?_
 refine WL_nil ?_
 refine W_ret ?_
 have hq2 := Option.some.inj hF
 subst hq2
 refine fn_ret1 rfl rfl ?_
 exact ⟨_, rfl, own_res hC5 0 rfl⟩

theorem c_M_copyLedger {w0 : World} (a1 : ((List Int) × Int × Int)) (u1 : Value) (g1 : RO [] w0 u1 a1.1) (rr : ((List Int) × Int × Int)) (hF : M.copyLedger a1 = some rr) :
 Calls Try.prog 93 [(.agg #[u1, (.int .i64 a1.2.1), (.int .i64 a1.2.2)])].toArray w0 fun e w' => ∃ v, e = .returned v ∧ Res w0 rr v w' := by
 refine calls_of_W Try.func93 rfl rfl ?_
 have hC0 := Ctx.start w0
 unfold M.copyLedger at hF
 refine W_seq_reg ?_
 refine WL_box (cs := [u1, (.int .i64 a1.2.1), (.int .i64 a1.2.2)]) hC0 rfl rfl rfl (fun b1 w1 hC1 hB1 => ?_)
 refine WL_alloc hC1 zero26 rfl rfl (fun b2 w2 hC2 hB2 => ?_)
 refine WL_nil ?_
 refine W_seq ?_
 refine W_drawn 9 rfl hmix (fun w3 hB3 => ?_)
 have hC3 := hC2.grow hB3
 refine WA_tk 0 (by kernel_rfl) rfl rfl (fl_field Try.underlying26 rfl rfl (fun w => ⟨_, Try.sizeOf22 w⟩) rfl) ?_
 refine WL_field Try.underlying26 rfl rfl (fun w => ⟨_, Try.sizeOf22 w⟩) rfl rfl ?_
 refine WL_nil ?_
 refine WA_tk 3 (by kernel_rfl) rfl rfl (fl_field Try.underlying26 rfl rfl (fun w => ⟨_, Try.sizeOf3 w⟩) rfl) ?_
 refine WL_field Try.underlying26 rfl rfl (fun w => ⟨_, Try.sizeOf3 w⟩) rfl rfl ?_
 refine WL_nil ?_
 refine WA_tk 5 (by kernel_rfl) rfl rfl (fl_field Try.underlying26 rfl rfl (fun w => ⟨_, Try.sizeOf3 w⟩) rfl) ?_
 refine WL_field Try.underlying26 rfl rfl (fun w => ⟨_, Try.sizeOf3 w⟩) rfl rfl ?_
 refine WL_nil ?_
 obtain ⟨x1, hr1, hF⟩ := bind_some hF
 refine WA.sub (l' := [(0, (.agg #[u1, (.int .i64 a1.2.1), (.int .i64 a1.2.2)])), (1, (ptr b1 0)), (2, (ptr b2 0)), (3, (ptr b1 0)), (6, (ptr b1 1)), (8, (ptr b1 2))]) ?_ ⟨rfl, rfl, rfl, rfl, rfl, rfl, trivial⟩
 refine WA_postsE [⟨1, [], fun vs => PW.val u1, []⟩, ⟨2, [], fun vs => PW.own x1, []⟩, ⟨4, [], fun vs => PW.val (.int .i64 a1.2.1), []⟩, ⟨6, [], fun vs => PW.val (.int .i64 a1.2.2), []⟩] [[], [1], [], []] 2 rfl (by kernel_rfl) (by kernel_rfl) rfl ?_ ?_
 ·refine StepsE_cons rfl ?_ ?_
  ·intro w5 hB5
   refine DepsE_nil ?_
   refine ⟨_, rfl, ?_⟩
   refine WL_load_box (hC3.grow hB5) 1 rfl rfl Try.isAgg22 rfl rfl ?_
   refine WL_nil ?_
   exact FinE_val (Below.refl _ _) rfl rfl ⟨rfl, rfl⟩
  refine StepsE_cons rfl ?_ ?_
  ·intro w5 hB5
   refine DepsE_cons rfl rfl rfl ?_
   rintro _ _ ⟨rfl, rfl⟩ _
   refine DepsE_nil ?_
   refine ⟨_, rfl, ?_⟩
   refine WL_call Try.call133 rfl rfl (c_Slices_Clone_Lint_int a1.1 u1 (g1.now (hC3.keep.then hB5)) x1 hr1) ?_
   rintro v1 w4 ⟨hB4, F1, hv1, hn1, hb1⟩
   refine WL_nil ?_
   exact FinE_own hB4 rfl rfl hv1 hn1 hb1 (Val.inh hv1)
  refine StepsE_cons rfl ?_ ?_
  ·intro w5 hB5
   refine DepsE_nil ?_
   refine ⟨_, rfl, ?_⟩
   refine WL_load_box (hC3.grow hB5) 1 rfl rfl Try.isAgg3 rfl rfl ?_
   refine WL_nil ?_
   exact FinE_val (Below.refl _ _) rfl rfl ⟨rfl, rfl⟩
  refine StepsE_cons rfl ?_ ?_
  ·intro w5 hB5
   refine DepsE_nil ?_
   refine ⟨_, rfl, ?_⟩
   refine WL_load_box (hC3.grow hB5) 1 rfl rfl Try.isAgg3 rfl rfl ?_
   refine WL_nil ?_
   exact FinE_val (Below.refl _ _) rfl rfl ⟨rfl, rfl⟩
  exact StepsE_nil
 intro w6 hB6
 refine AllE_cons rfl rfl rfl ?_
 rintro _ _ ⟨rfl, rfl⟩
 refine AllE_cons rfl rfl rfl ?_
 intro v1 F1 hv1
 refine AllE_cons rfl rfl rfl ?_
 rintro _ _ ⟨rfl, rfl⟩
 refine AllE_cons rfl rfl rfl ?_
 rintro _ _ ⟨rfl, rfl⟩
 refine AllE_nil ?_
 intro hn2 hb2
 have hC4 := hC3.pushL hB6 (Bs := [Item.own v1 (x1 : (List Int))]) (Fs := [F1]) ⟨F1, _, rfl, hv1, rfl⟩ (by simpa using hn2) (fun b h => (hb2 b (by simpa using h)).1)
 refine WA_tk 7 (by kernel_rfl) rfl rfl (fl_build (vs := [(0, v1), (1, (.int .i64 a1.2.1)), (2, (.int .i64 a1.2.2))]) rfl rfl (built26_0_1_2 (ro_cells (hC4.ro 0 rfl)) rfl rfl)) ?_
 refine WL_build (vs := [(0, v1), (1, (.int .i64 a1.2.1)), (2, (.int .i64 a1.2.2))]) rfl rfl rfl (built26_0_1_2 (ro_cells (hC4.ro 0 rfl)) rfl rfl) ?_
 refine WL_nil ?_
 refine WA_one 8 (by kernel_rfl) rfl ?_
 refine WL_store_box_agg (cs' := [v1, (.int .i64 a1.2.1), (.int .i64 a1.2.2)]) (new := [v1, (.int .i64 a1.2.1), (.int .i64 a1.2.2)]) hC4 1 rfl rfl (by intro v hv; simp only [List.mem_cons, List.not_mem_nil, or_false] at hv; rcases hv with rfl | rfl | rfl; exact (ro_one (hC4.ro 0 rfl)); exact rfl; exact rfl) rfl Try.sizeOf26 rfl rfl (fun w7 hC5 => ?_)
 try dsimp only [List.set] at hC5
 refine WL_nil ?_
 refine WA_done (by kernel_rfl) ?_
 refine nrm_normal ?_
 refine W_ret ?_
 have hq1 := Option.some.inj hF
 subst hq1
 refine fn_retG1 rfl (rv_cell_agg (cs' := [v1, (.int .i64 a1.2.1), (.int .i64 a1.2.2)]) hC5 (i := 1) rfl rfl rfl Try.isAgg26 Try.sizeOf26 rfl) ?_
 have hC6 := own_st26 v1 x1 a1.2.1 a1.2.2 hC5
 exact ⟨_, rfl, own_res hC6 0 rfl⟩

theorem c_M_isCost {w0 : World} (a1 : Int) (rr : Bool) (hF : M.isCost a1 = some rr) :
 Calls Try.prog 95 [(.int .i64 a1)].toArray w0 fun e w' => ∃ v, e = .returned v ∧ Res w0 rr v w' := by
 refine calls_of_W Try.func95 rfl rfl ?_
 have hC0 := Ctx.start w0
 unfold M.isCost at hF
 refine W_seq_reg ?_
 refine WL_assign rfl rfl ?_
 refine WL_nil ?_
 refine W_seq_reg ?_
 refine WL_move rfl rfl ?_
 obtain ⟨x1, hr1, hF⟩ := bind_some hF
 refine WL_call Try.call97 rfl rfl (c_M_within a1 0 99 x1 hr1) ?_
 intro _ w1 hv1
 obtain ⟨rfl, hB1⟩ := res_bool hv1
 have hC1 := hC0.grow hB1
 refine WL_assign rfl rfl ?_
 refine WL_nil ?_
 refine W_ret ?_
 have hq1 := Option.some.inj hF
 subst hq1
 refine fn_ret1 rfl rfl ?_
 exact ⟨_, rfl, bool_res hC1 _⟩

theorem c_Cmp_isNaN_int {w0 : World} (a1 : Int) (rr : Bool) (hF : Cmp.isNaN_int a1 = some rr) :
 Calls Try.prog 194 [(.int .i64 a1)].toArray w0 fun e w' => ∃ v, e = .returned v ∧ Res w0 rr v w' := by
 refine calls_of_W Try.func194 rfl rfl ?_
 have hC0 := Ctx.start w0
 unfold Cmp.isNaN_int at hF
 refine W_seq_reg ?_
 refine WL_assign rfl rfl ?_
 refine WL_nil ?_
 refine W_seq_reg ?_
 refine WL_move rfl rfl ?_
 refine WL_move rfl rfl ?_
 refine WL_neq rfl rfl rfl ?_
 refine WL_assign rfl rfl ?_
 refine WL_nil ?_
 refine W_ret ?_
 have hq1 := Option.some.inj hF
 subst hq1
 refine fn_ret1 rfl rfl ?_
 exact ⟨_, rfl, bool_res hC0 _⟩

theorem c_Cmp_Less_int {w0 : World} (a1 : Int) (a2 : Int) (rr : Bool) (hF : Cmp.Less_int a1 a2 = some rr) :
 Calls Try.prog 165 [(.int .i64 a1), (.int .i64 a2)].toArray w0 fun e w' => ∃ v, e = .returned v ∧ Res w0 rr v w' := by
 refine calls_of_W Try.func165 rfl rfl ?_
 have hC0 := Ctx.start w0
 unfold Cmp.Less_int at hF
 refine W_seq_reg ?_
 refine WL_assign rfl rfl ?_
 refine WL_nil ?_
 obtain ⟨r1, hr1, hF⟩ := bind_some hF
 refine W_cut (fun l w => ∃ x1 : Bool, x1 = r1 ∧ l = [(4, (.bool x1))] ∧ Below w0.heap.size w0 w ∧ Ctx [] w0 w []) ?_ ?_
 ·refine W_reg ?_
  refine WL_move rfl rfl ?_
  obtain ⟨x2, hr2, hr1⟩ := bind_some hr1
  refine WL_call Try.call194 rfl rfl (c_Cmp_isNaN_int a1 x2 hr2) ?_
  intro _ w2 hv1
  obtain ⟨rfl, hB2⟩ := res_bool hv1
  have hC2 := hC0.grow hB2
  refine WL_move rfl rfl ?_
  refine WL_fork (fun hc1 => ?_) (fun hc1 => ?_)
  ·replace hr1 := ite_t hr1 hc1
   refine WL_guard rfl rfl ?_
   refine WL_move rfl rfl ?_
   obtain ⟨x3, hr3, hr1⟩ := bind_some hr1
   refine WL_guard rfl rfl ?_
   refine WL_call Try.call194 rfl rfl (c_Cmp_isNaN_int a2 x3 hr3) ?_
   intro _ w3 hv2
   obtain ⟨rfl, hB3⟩ := res_bool hv2
   have hC3 := hC2.grow hB3
   refine WL_guard rfl rfl ?_
   refine WL_not rfl rfl ?_
   refine WL_pick_t rfl rfl rfl ?_
   refine WL_move rfl rfl ?_
   refine WL_fork (fun hc2 => ?_) (fun hc2 => ?_)
   ·replace hr1 := ite_t hr1 hc2
    refine WL_guard_skip rfl rfl (by simp) rfl ?_
    refine WL_guard_skip rfl rfl (by simp) rfl ?_
    refine WL_guard_skip rfl rfl (by simp) rfl ?_
    refine WL_pick_t rfl rfl rfl ?_
    refine WL_assign rfl rfl ?_
    refine WL_nil ?_
    have hq1 := Option.some.inj hr1
    subst hq1
    refine nrm_sub (l' := [(4, (.bool true))]) ⟨rfl, trivial⟩ ?_
    exact ⟨true, rfl, rfl, ((Keep.of hB2).then hB3).below, hC3⟩
   replace hr1 := ite_f hr1 hc2
   refine WL_guard rfl rfl ?_
   refine WL_move rfl rfl ?_
   refine WL_guard rfl rfl ?_
   refine WL_move rfl rfl ?_
   refine WL_guard rfl rfl ?_
   refine WL_lss rfl rfl rfl ?_
   refine WL_pick_f rfl rfl rfl ?_
   refine WL_assign rfl rfl ?_
   refine WL_nil ?_
   have hq2 := Option.some.inj hr1
   subst hq2
   refine nrm_sub (l' := [(4, (.bool (decide (a1 < a2))))]) ⟨rfl, trivial⟩ ?_
   exact ⟨(decide (a1 < a2)), rfl, rfl, ((Keep.of hB2).then hB3).below, hC3⟩
  replace hr1 := ite_f hr1 hc1
  refine WL_guard_skip rfl rfl (by simp) rfl ?_
  refine WL_guard_skip rfl rfl (by simp) rfl ?_
  refine WL_guard_skip rfl rfl (by simp) rfl ?_
  refine WL_pick_f rfl rfl rfl ?_
  refine WL_move rfl rfl ?_
  refine WL_guard rfl rfl ?_
  refine WL_move rfl rfl ?_
  refine WL_guard rfl rfl ?_
  refine WL_move rfl rfl ?_
  refine WL_guard rfl rfl ?_
  refine WL_lss rfl rfl rfl ?_
  refine WL_pick_f rfl rfl rfl ?_
  refine WL_assign rfl rfl ?_
  refine WL_nil ?_
  have hq3 := Option.some.inj hr1
  subst hq3
  refine nrm_sub (l' := [(4, (.bool (decide (a1 < a2))))]) ⟨rfl, trivial⟩ ?_
  exact ⟨(decide (a1 < a2)), rfl, rfl, (Keep.of hB2).below, hC2⟩
 rintro _ w1 ⟨x1, rfl, rfl, hB1, hC1⟩
 try dsimp only at hF
 refine W_ret ?_
 have hq4 := Option.some.inj hF
 subst hq4
 refine fn_ret1 rfl rfl ?_
 exact ⟨_, rfl, bool_res hC1 _⟩

theorem c_Slices_isNaN_int {w0 : World} (a1 : Int) (rr : Bool) (hF : Slices.isNaN_int a1 = some rr) :
 Calls Try.prog 166 [(.int .i64 a1)].toArray w0 fun e w' => ∃ v, e = .returned v ∧ Res w0 rr v w' := by
 refine calls_of_W Try.func166 rfl rfl ?_
 have hC0 := Ctx.start w0
 unfold Slices.isNaN_int at hF
 refine W_seq_reg ?_
 refine WL_assign rfl rfl ?_
 refine WL_nil ?_
 refine W_seq_reg ?_
 refine WL_move rfl rfl ?_
 refine WL_move rfl rfl ?_
 refine WL_neq rfl rfl rfl ?_
 refine WL_assign rfl rfl ?_
 refine WL_nil ?_
 refine W_ret ?_
 have hq1 := Option.some.inj hF
 subst hq1
 refine fn_ret1 rfl rfl ?_
 exact ⟨_, rfl, bool_res hC0 _⟩

theorem c_Slices_BinarySearch_Lint_int {w0 : World} (a1 : (List Int)) (u1 : Value) (g1 : RO [] w0 u1 a1) (a2 : Int) (rr : (Int × Bool)) (hF : Slices.BinarySearch_Lint_int a1 a2 = some rr) :
 Calls Try.prog 134 [u1, (.int .i64 a2)].toArray w0 fun e w' => ∃ v, e = .returned v ∧ Res2 w0 rr.1 rr.2 v w' := by
 refine calls_of_W Try.func134 rfl rfl ?_
 have hC0 := Ctx.start w0
 unfold Slices.BinarySearch_Lint_int at hF
 refine W_seq_reg ?_
 refine WL_assign rfl rfl ?_
 refine WL_assign rfl rfl ?_
 refine WL_nil ?_
 refine W_seq_reg ?_
 refine WL_move rfl rfl ?_
 refine WL_len Try.underlying22 g1 rfl rfl ?_
 refine WL_assign rfl rfl ?_
 refine WL_nil ?_
 refine W_seq_reg ?_
 refine WL_move rfl rfl ?_
 refine WL_assign rfl rfl ?_
 refine WL_assign rfl rfl ?_
 refine WL_nil ?_
 refine W_seq ?_
 obtain ⟨r1, hr1, hF⟩ := bind_some hF
 refine W_norm (fun l w => ∃ x3 : Int, x3 = r1 ∧ l = [(0, u1), (1, (.int .i64 a2)), (6, (.int .i64 (List.length a1 : Int))), (7, (.int .i64 x3))] ∧ Below w0.heap.size w0 w ∧ Ctx [] w0 w []) ?_ ?_
 ·refine W_block ?_
  refine W.sub (l' := [(0, u1), (1, (.int .i64 a2)), (6, (.int .i64 (List.length a1 : Int))), (7, (.int .i64 0)), (8, (.int .i64 (List.length a1 : Int)))]) ?_ ⟨rfl, rfl, rfl, rfl, rfl, trivial⟩
  refine W_loop (fun k l w => ∃ x1 : Int, ∃ x2 : Int, l = [(0, u1), (1, (.int .i64 a2)), (6, (.int .i64 (List.length a1 : Int))), (7, (.int .i64 x1)), (8, (.int .i64 x2))] ∧ Below w0.heap.size w0 w ∧ Ctx [] w0 w [] ∧ Slices.BinarySearch_Lint_int_l1 a1 a2 k x1 x2 = some r1) FUEL ⟨0, (List.length a1 : Int), rfl, (Below.refl _ _), hC0, hr1⟩ ?_
  clear hr1
  rintro k1 _ w1 ⟨x1, x2, rfl, hB1, hC1, hL1⟩
  cases k1 with
  | zero => rw [Slices.BinarySearch_Lint_int_l1] at hL1; cases hL1
  | succ k1 =>
   rw [Slices.BinarySearch_Lint_int_l1] at hL1
   refine W_seq ?_
   refine W_seq_reg ?_
   refine WL_move rfl rfl ?_
   refine WL_move rfl rfl ?_
   refine WL_lss rfl rfl rfl ?_
   refine WL_nil ?_
   refine W_cond rfl (fun hc1 => ?_) (fun hc1 => ?_)
   ·replace hL1 := ite_t hL1 hc1
    refine W_skip ?_
    refine nrm_normal ?_
    refine W_block ?_
    refine W_seq_reg ?_
    refine WL_move rfl rfl ?_
    refine WL_move rfl rfl ?_
    refine WL_add rfl rfl rfl ?_
    refine WL_conv_u64 Try.underlying3 Try.underlying194 rfl rfl ?_
    refine WL_shrU (by decide) rfl rfl rfl ?_
    refine WL_conv_i64 Try.underlying194 Try.underlying3 rfl rfl ?_
    refine WL_assign rfl rfl ?_
    refine WL_nil ?_
    refine W_seq_reg ?_
    refine WL_move rfl rfl ?_
    refine WL_move rfl rfl ?_
    obtain ⟨x4, hx1, hL1⟩ := bind_some hL1
    refine WL_index Try.underlying22 ty3 g1 hx1 rfl rfl rfl (fun b1 o1 h1 => ?_)
    refine WL_load ty3 h1 hC1.keep rfl rfl (fun v1 h2 => ?_)
    obtain rfl := ro_int h2
    refine WL_move rfl rfl ?_
    obtain ⟨x5, hr2, hL1⟩ := bind_some hL1
    refine WL_call Try.call165 rfl rfl (c_Cmp_Less_int x4 a2 x5 hr2) ?_
    intro _ w2 hv1
    obtain ⟨rfl, hB2⟩ := res_bool hv1
    have hC2 := hC1.grow hB2
    refine WL_nil ?_
    obtain ⟨r2, hr3, hL1⟩ := bind_some hL1
    refine W_norm (fun l w => ∃ x6 : Int, ∃ x7 : Int, (x6, x7) = r2 ∧ l = [(0, u1), (1, (.int .i64 a2)), (6, (.int .i64 (List.length a1 : Int))), (7, (.int .i64 x6)), (8, (.int .i64 x7))] ∧ Below w2.heap.size w2 w ∧ Ctx [] w0 w []) ?_ ?_
    ·refine W_cond rfl (fun hc2 => ?_) (fun hc2 => ?_)
     ·replace hr3 := ite_t hr3 hc2
      refine W_reg ?_
      refine WL_move rfl rfl ?_
      refine WL_add rfl rfl rfl ?_
      refine WL_assign rfl rfl ?_
      refine WL_nil ?_
      have hq1 := Option.some.inj hr3
      subst hq1
      refine nrm_sub (l' := [(0, u1), (1, (.int .i64 a2)), (6, (.int .i64 (List.length a1 : Int))), (7, (.int .i64 (w64 ((w64 (shr (wu64 (w64 (x1 + x2))) 1)) + 1)))), (8, (.int .i64 x2))]) ⟨rfl, rfl, rfl, rfl, rfl, trivial⟩ ?_
      exact ⟨w64 ((w64 (shr (wu64 (w64 (x1 + x2))) 1)) + 1), x2, rfl, rfl, (Below.refl _ _), hC2⟩
     replace hr3 := ite_f hr3 hc2
     refine W_reg ?_
     refine WL_move rfl rfl ?_
     refine WL_assign rfl rfl ?_
     refine WL_nil ?_
     have hq2 := Option.some.inj hr3
     subst hq2
     refine nrm_sub (l' := [(0, u1), (1, (.int .i64 a2)), (6, (.int .i64 (List.length a1 : Int))), (7, (.int .i64 x1)), (8, (.int .i64 (w64 (shr (wu64 (w64 (x1 + x2))) 1))))]) ⟨rfl, rfl, rfl, rfl, rfl, trivial⟩ ?_
     exact ⟨x1, w64 (shr (wu64 (w64 (x1 + x2))) 1), rfl, rfl, (Below.refl _ _), hC2⟩
    rintro l2 _ w3 hs2 ⟨x6, x7, rfl, rfl, hB3, hC3⟩
    try dsimp only at hL1
    refine blk_normal ?_
    refine nrm_subs (l2 := [(0, u1), (1, (.int .i64 a2)), (6, (.int .i64 (List.length a1 : Int))), (7, (.int .i64 x6)), (8, (.int .i64 x7))]) hs2 ⟨rfl, rfl, rfl, rfl, rfl, trivial⟩ ?_
    exact ⟨k1, Nat.lt_succ_self _, x6, x7, rfl, (((Keep.of hB1).then hB2).then hB3).below, hC3, hL1⟩
   replace hL1 := ite_f hL1 hc1
   refine W_exit ?_
   refine nrm_exit ?_
   refine nrm_exit ?_
   refine blk_exit ?_
   have hq3 := Option.some.inj hL1
   subst hq3
   refine nrm_sub (l' := [(0, u1), (1, (.int .i64 a2)), (6, (.int .i64 (List.length a1 : Int))), (7, (.int .i64 x1))]) ⟨rfl, rfl, rfl, rfl, trivial⟩ ?_
   exact ⟨x1, rfl, rfl, (Keep.of hB1).below, hC1⟩
 rintro l3 _ w4 hs3 ⟨x3, rfl, rfl, hB4, hC4⟩
 try dsimp only at hF
 refine nrm_sub' hs3 ?_
 clear hs3
 obtain ⟨r3, hr4, hF⟩ := bind_some hF
 refine W_cut (fun l w => ∃ x8 : Int, ∃ x9 : Bool, (x8, x9) = r3 ∧ l = [(4, (.int .i64 x8)), (5, (.bool x9))] ∧ Below w4.heap.size w4 w ∧ Ctx [] w0 w []) ?_ ?_
 ·refine W_reg ?_
  refine WL_move rfl rfl ?_
  refine WL_move rfl rfl ?_
  refine WL_move rfl rfl ?_
  refine WL_lss rfl rfl rfl ?_
  refine WL_move rfl rfl ?_
  refine WL_fork (fun hc3 => ?_) (fun hc3 => ?_)
  ·replace hr4 := ite_t hr4 hc3
   refine WL_guard rfl rfl ?_
   refine WL_move rfl rfl ?_
   refine WL_guard rfl rfl ?_
   refine WL_move rfl rfl ?_
   obtain ⟨x10, hx2, hr4⟩ := bind_some hr4
   refine WL_guard rfl rfl ?_
   refine WL_index Try.underlying22 ty3 g1 hx2 rfl rfl rfl (fun b2 o2 h3 => ?_)
   refine WL_guard rfl rfl ?_
   refine WL_load ty3 h3 hC4.keep rfl rfl (fun v2 h4 => ?_)
   obtain rfl := ro_int h4
   refine WL_guard rfl rfl ?_
   refine WL_move rfl rfl ?_
   refine WL_guard rfl rfl ?_
   refine WL_eql rfl rfl rfl ?_
   refine WL_guard rfl rfl ?_
   refine WL_move rfl rfl ?_
   refine WL_fork (fun hc4 => ?_) (fun hc4 => ?_)
   ·replace hr4 := ite_t hr4 hc4
    refine WL_guard_skip rfl rfl (by simp) rfl ?_
    refine WL_guard_skip rfl rfl (by simp) rfl ?_
    refine WL_guard_skip rfl rfl (by simp) rfl ?_
    refine WL_guard_skip rfl rfl (by simp) rfl ?_
    refine WL_guard_skip rfl rfl (by simp) rfl ?_
    refine WL_guard_skip rfl rfl (by simp) rfl ?_
    refine WL_guard_skip rfl rfl (by simp [undef]) rfl ?_
    refine WL_guard_skip rfl rfl (by simp [undef]) rfl ?_
    refine WL_guard_skip rfl rfl (by simp) rfl ?_
    refine WL_guard rfl rfl ?_
    refine WL_pick_t rfl rfl rfl ?_
    refine WL_pick_t rfl rfl rfl ?_
    refine WL_assign rfl rfl ?_
    refine WL_assign rfl rfl ?_
    refine WL_nil ?_
    have hq4 := Option.some.inj hr4
    subst hq4
    refine nrm_sub (l' := [(4, (.int .i64 x3)), (5, (.bool true))]) ⟨rfl, rfl, trivial⟩ ?_
    exact ⟨x3, true, rfl, rfl, (Below.refl _ _), hC4⟩
   replace hr4 := ite_f hr4 hc4
   refine WL_guard rfl rfl ?_
   refine WL_move rfl rfl ?_
   refine WL_guard rfl rfl ?_
   refine WL_move rfl rfl ?_
   obtain ⟨x11, hx3, hr4⟩ := bind_some hr4
   refine WL_guard rfl rfl ?_
   refine WL_index Try.underlying22 ty3 g1 hx3 rfl rfl rfl (fun b3 o3 h5 => ?_)
   refine WL_guard rfl rfl ?_
   refine WL_load ty3 h5 hC4.keep rfl rfl (fun v3 h6 => ?_)
   obtain rfl := ro_int h6
   obtain ⟨x12, hr5, hr4⟩ := bind_some hr4
   refine WL_guard rfl rfl ?_
   refine WL_call Try.call166 rfl rfl (c_Slices_isNaN_int x11 x12 hr5) ?_
   intro _ w6 hv2
   obtain ⟨rfl, hB6⟩ := res_bool hv2
   have hC6 := hC4.grow hB6
   refine WL_guard rfl rfl ?_
   refine WL_move rfl rfl ?_
   refine WL_fork (fun hc5 => ?_) (fun hc5 => ?_)
   ·replace hr4 := ite_t hr4 hc5
    refine WL_guard rfl rfl ?_
    refine WL_move rfl rfl ?_
    obtain ⟨x13, hr6, hr4⟩ := bind_some hr4
    refine WL_guard rfl rfl ?_
    refine WL_call Try.call166 rfl rfl (c_Slices_isNaN_int a2 x13 hr6) ?_
    intro _ w7 hv3
    obtain ⟨rfl, hB7⟩ := res_bool hv3
    have hC7 := hC6.grow hB7
    refine WL_guard rfl rfl ?_
    refine WL_pick_t rfl rfl rfl ?_
    refine WL_guard rfl rfl ?_
    refine WL_pick_f rfl rfl rfl ?_
    refine WL_pick_t rfl rfl rfl ?_
    refine WL_assign rfl rfl ?_
    refine WL_assign rfl rfl ?_
    refine WL_nil ?_
    have hq5 := Option.some.inj hr4
    subst hq5
    refine nrm_sub (l' := [(4, (.int .i64 x3)), (5, (.bool x13))]) ⟨rfl, rfl, trivial⟩ ?_
    exact ⟨x3, x13, rfl, rfl, ((Keep.of hB6).then hB7).below, hC7⟩
   replace hr4 := ite_f hr4 hc5
   refine WL_guard_skip rfl rfl (by simp) rfl ?_
   refine WL_guard_skip rfl rfl (by simp) rfl ?_
   refine WL_guard rfl rfl ?_
   refine WL_pick_f rfl rfl rfl ?_
   refine WL_guard rfl rfl ?_
   refine WL_pick_f rfl rfl rfl ?_
   refine WL_pick_t rfl rfl rfl ?_
   refine WL_assign rfl rfl ?_
   refine WL_assign rfl rfl ?_
   refine WL_nil ?_
   have hq6 := Option.some.inj hr4
   subst hq6
   refine nrm_sub (l' := [(4, (.int .i64 x3)), (5, (.bool false))]) ⟨rfl, rfl, trivial⟩ ?_
   exact ⟨x3, false, rfl, rfl, (Keep.of hB6).below, hC6⟩
  replace hr4 := ite_f hr4 hc3
  refine WL_guard_skip rfl rfl (by simp) rfl ?_
  refine WL_guard_skip rfl rfl (by simp) rfl ?_
  refine WL_guard_skip rfl rfl (by simp) rfl ?_
  refine WL_guard_skip rfl rfl (by simp) rfl ?_
  refine WL_guard_skip rfl rfl (by simp) rfl ?_
  refine WL_guard_skip rfl rfl (by simp) rfl ?_
  refine WL_guard_skip rfl rfl (by simp) rfl ?_
  refine WL_guard_skip rfl rfl (by simp [undef]) rfl ?_
  refine WL_guard_skip rfl rfl (by simp [undef]) rfl ?_
  refine WL_guard_skip rfl rfl (by simp [undef]) rfl ?_
  refine WL_guard_skip rfl rfl (by simp [undef]) rfl ?_
  refine WL_guard_skip rfl rfl (by simp [undef]) rfl ?_
  refine WL_guard_skip rfl rfl (by simp [undef]) rfl ?_
  refine WL_guard_skip rfl rfl (by simp [undef]) rfl ?_
  refine WL_guard_skip rfl rfl (by simp [undef]) rfl ?_
  refine WL_guard_skip rfl rfl (by simp [undef]) rfl ?_
  refine WL_guard_skip rfl rfl (by simp) rfl ?_
  refine WL_pick_f rfl rfl rfl ?_
  refine WL_assign rfl rfl ?_
  refine WL_assign rfl rfl ?_
  refine WL_nil ?_
  have hq7 := Option.some.inj hr4
  subst hq7
  refine nrm_sub (l' := [(4, (.int .i64 x3)), (5, (.bool false))]) ⟨rfl, rfl, trivial⟩ ?_
  exact ⟨x3, false, rfl, rfl, (Below.refl _ _), hC4⟩
 rintro _ w5 ⟨x8, x9, rfl, rfl, hB5, hC5⟩
 try dsimp only at hF
 refine W_ret ?_
 have hq8 := Option.some.inj hF
 subst hq8
 refine fn_ret2 rfl rfl rfl ?_
 have hC8 := hC5.triv (bool_val (x9))
 have hC9 := hC8.triv (int_val (x8))
 exact ⟨_, rfl, res2_of hC9⟩

theorem c_Slices_Reverse_Lint_int {w0 : World} {Fs : List (List Nat)} (a1 : (List Int)) (u1 : Value) (hH : Hold [Item.own u1 (a1 : (List Int))] w0 Fs) (hn : Fs.flatten.Nodup) (rr : (List Int)) (hF : Slices.Reverse_Lint_int a1 = some rr) :
 Calls Try.prog 203 [u1].toArray w0 fun e w' => ∃ v, e = .returned v ∧ v = (.tuple #[]) ∧ Ctx Fs.flatten w0 w' [Item.own u1 (rr : (List Int))] := by
 refine calls_of_W Try.func203 rfl rfl ?_
 have hC0 := Ctx.startIn hH hn
 unfold Slices.Reverse_Lint_int at hF
 refine W_seq_reg ?_
 refine WL_move rfl rfl ?_
 refine WL_len Try.underlying22 (hC0.ro 0 rfl) rfl rfl ?_
 refine WL_sub rfl rfl rfl ?_
 refine WL_assign rfl rfl ?_
 refine WL_assign rfl rfl ?_
 refine WL_nil ?_
 obtain ⟨r1, hr1, hF⟩ := bind_some hF
 refine W_norm (fun l w => ∃ x4 : (List Int), x4 = r1 ∧ l = [] ∧ Ctx Fs.flatten w0 w [Item.own u1 (x4 : (List Int))]) ?_ ?_
 ·refine W_block ?_
  refine W.sub (l' := [(0, u1), (2, (.int .i64 0)), (3, (.int .i64 (w64 ((List.length a1 : Int) - 1))))]) ?_ ⟨rfl, rfl, rfl, trivial⟩
  refine W_loop (fun k l w => ∃ x1 : (List Int), ∃ x2 : Int, ∃ x3 : Int, l = [(0, u1), (2, (.int .i64 x2)), (3, (.int .i64 x3))] ∧ Ctx Fs.flatten w0 w [Item.own u1 (x1 : (List Int))] ∧ Slices.Reverse_Lint_int_l1 k x1 x2 x3 = some r1) FUEL ⟨a1, 0, w64 ((List.length a1 : Int) - 1), rfl, hC0, hr1⟩ ?_
  clear hr1
  rintro k1 _ w1 ⟨x1, x2, x3, rfl, hC1, hL1⟩
  cases k1 with
  | zero => rw [Slices.Reverse_Lint_int_l1] at hL1; cases hL1
  | succ k1 =>
   rw [Slices.Reverse_Lint_int_l1] at hL1
   refine W_seq ?_
   refine W_seq_reg ?_
   refine WL_move rfl rfl ?_
   refine WL_move rfl rfl ?_
   refine WL_lss rfl rfl rfl ?_
   refine WL_nil ?_
   refine W_cond rfl (fun hc1 => ?_) (fun hc1 => ?_)
   ·replace hL1 := ite_t hL1 hc1
    refine W_skip ?_
    refine nrm_normal ?_
    refine W_seq ?_
    refine W_block ?_
    refine W_drawn 16 rfl hmix (fun w2 hB2 => ?_)
    have hC2 := hC1.grow hB2
    refine WA_tk 0 (by kernel_rfl) rfl rfl (fl_move rfl) ?_
    refine WL_move rfl rfl ?_
    refine WL_nil ?_
    refine WA_tk 1 (by kernel_rfl) rfl rfl (fl_move rfl) ?_
    refine WL_move rfl rfl ?_
    refine WL_nil ?_
    refine WA_tk 2 (by kernel_rfl) rfl rfl (fl_move rfl) ?_
    refine WL_move rfl rfl ?_
    refine WL_nil ?_
    refine WA_tk 3 (by kernel_rfl) rfl rfl (fl_move rfl) ?_
    refine WL_move rfl rfl ?_
    refine WL_nil ?_
    refine WA_tk 4 (by kernel_rfl) rfl rfl (fl_move rfl) ?_
    refine WL_move rfl rfl ?_
    refine WL_nil ?_
    refine WA_tk 5 (by kernel_rfl) rfl rfl (fl_move rfl) ?_
    refine WL_move rfl rfl ?_
    refine WL_nil ?_
    obtain ⟨x5, hx1, hL1⟩ := bind_some hL1
    refine WA_tk 6 (by kernel_rfl) rfl rfl (fl_index Try.underlying22 ty3 (hC2.ro 0 rfl) hx1 rfl rfl) ?_
    refine WL_index Try.underlying22 ty3 (hC2.ro 0 rfl) hx1 rfl rfl rfl (fun b1 o1 h1 => ?_)
    refine WL_nil ?_
    refine WA_tk 8 (by kernel_rfl) rfl rfl (fl_move rfl) ?_
    refine WL_move rfl rfl ?_
    refine WL_nil ?_
    refine WA_tk 9 (by kernel_rfl) rfl rfl (fl_move rfl) ?_
    refine WL_move rfl rfl ?_
    refine WL_nil ?_
    obtain ⟨x6, hx2, hL1⟩ := bind_some hL1
    refine WA_tk 10 (by kernel_rfl) rfl rfl (fl_index Try.underlying22 ty3 (hC2.ro 0 rfl) hx2 rfl rfl) ?_
    refine WL_index Try.underlying22 ty3 (hC2.ro 0 rfl) hx2 rfl rfl rfl (fun b2 o2 h2 => ?_)
    refine WL_nil ?_
    refine WA.sub (l' := [(0, u1), (2, (.int .i64 x2)), (3, (.int .i64 x3)), (7, (.int .i64 x2)), (8, (.int .i64 x3)), (9, (.bool (decide (x2 < x3)))), (14, u1), (15, (.int .i64 x2)), (16, u1), (17, (.int .i64 x3)), (18, u1), (19, (.int .i64 x3)), (20, (ptr b1 o1)), (22, u1), (23, (.int .i64 x2)), (24, (ptr b2 o2))]) ?_ ⟨rfl, rfl, rfl, rfl, rfl, rfl, rfl, rfl, rfl, rfl, rfl, rfl, rfl, rfl, rfl, rfl, trivial⟩
    refine WA_postsE [⟨7, [], fun vs => PW.val (.int .i64 x5), []⟩, ⟨11, [], fun vs => PW.val (.int .i64 x6), []⟩] [[], []] 4 rfl (by kernel_rfl) (by kernel_rfl) rfl ?_ ?_
    ·refine StepsE_cons rfl ?_ ?_
     ·intro w3 hB3
      refine DepsE_nil ?_
      refine ⟨_, rfl, ?_⟩
      refine WL_load ty3 h1 (Keep.of hB3) rfl rfl (fun v1 h3 => ?_)
      obtain rfl := ro_int h3
      refine WL_nil ?_
      exact FinE_val (Below.refl _ _) rfl rfl ⟨rfl, rfl⟩
     refine StepsE_cons rfl ?_ ?_
     ·intro w3 hB3
      refine DepsE_nil ?_
      refine ⟨_, rfl, ?_⟩
      refine WL_load ty3 h2 (Keep.of hB3) rfl rfl (fun v2 h4 => ?_)
      obtain rfl := ro_int h4
      refine WL_nil ?_
      exact FinE_val (Below.refl _ _) rfl rfl ⟨rfl, rfl⟩
     exact StepsE_nil
    intro w4 hB4
    refine AllE_cons rfl rfl rfl ?_
    rintro _ _ ⟨rfl, rfl⟩
    refine AllE_cons rfl rfl rfl ?_
    rintro _ _ ⟨rfl, rfl⟩
    refine AllE_nil ?_
    intro hn1 hb1
    have hC3 := hC2.grow hB4
    obtain ⟨x7, hx3, hL1⟩ := bind_some hL1
    refine WA_tk 12 (by kernel_rfl) rfl rfl (fl_index_own hC3 0 rfl Try.underlying22 ty3 hx3 rfl rfl) ?_
    refine WL_index_own hC3 0 rfl Try.underlying22 ty3 hx3 rfl rfl rfl (fun b3 hE1 => ?_)
    refine WL_nil ?_
    refine WA_one 13 (by kernel_rfl) rfl ?_
    have hC5 := hC3.triv (int_val (x5))
    refine WL_store_elem hC5 0 rfl ty3 hE1 hx3 rfl rfl rfl (fun w5 hC4 => ?_)
    try dsimp only [List.set] at hC4
    refine WL_nil ?_
    obtain ⟨x8, hx4, hL1⟩ := bind_some hL1
    refine WA_tk 14 (by kernel_rfl) rfl rfl (fl_index_own hC4 0 rfl Try.underlying22 ty3 hx4 rfl rfl) ?_
    refine WL_index_own hC4 0 rfl Try.underlying22 ty3 hx4 rfl rfl rfl (fun b4 hE2 => ?_)
    refine WL_nil ?_
    refine WA_one 15 (by kernel_rfl) rfl ?_
    have hC7 := hC4.triv (int_val (x6))
    refine WL_store_elem hC7 0 rfl ty3 hE2 hx4 rfl rfl rfl (fun w6 hC6 => ?_)
    try dsimp only [List.set] at hC6
    refine WL_nil ?_
    refine WA_done (by kernel_rfl) ?_
    refine blk_normal ?_
    refine nrm_normal ?_
    refine W_reg ?_
    refine WL_move rfl rfl ?_
    refine WL_add rfl rfl rfl ?_
    refine WL_move rfl rfl ?_
    refine WL_sub rfl rfl rfl ?_
    refine WL_assign rfl rfl ?_
    refine WL_assign rfl rfl ?_
    refine WL_nil ?_
    refine nrm_sub (l' := [(0, u1), (2, (.int .i64 (w64 (x2 + 1)))), (3, (.int .i64 (w64 (x3 - 1))))]) ⟨rfl, rfl, rfl, trivial⟩ ?_
    exact ⟨k1, Nat.lt_succ_self _, (List.set (List.set x1 (Int.toNat x2) x5) (Int.toNat x3) x6), w64 (x2 + 1), w64 (x3 - 1), rfl, hC6, hL1⟩
   replace hL1 := ite_f hL1 hc1
   refine W_exit ?_
   refine nrm_exit ?_
   refine nrm_exit ?_
   refine blk_exit ?_
   have hq1 := Option.some.inj hL1
   subst hq1
   refine nrm_sub (l' := []) trivial ?_
   exact ⟨x1, rfl, rfl, hC1⟩
 rintro l2 _ w7 hs2 ⟨x4, rfl, rfl, hC8⟩
 try dsimp only at hF
 have hq2 := Option.some.inj hF
 subst hq2
 refine fn_normG0 rfl ?_
 exact ⟨_, rfl, rfl, hC8⟩

end Go.Gx.Px
