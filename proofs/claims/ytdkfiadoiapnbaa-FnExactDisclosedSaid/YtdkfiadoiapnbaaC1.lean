/- The contracts of the Go functions against the pure functions, printed by program. Conditions: each says them. -/
import Derived.Test.YtdkfiadoiapnbaaTy
import Derived.Test.YtdkfiadoiapnbaaPure
set_option linter.unusedVariables false
set_option linter.unusedSimpArgs false
set_option maxRecDepth 100000
set_option maxHeartbeats 4000000
namespace Go.Gx.Px
open Go.Proofs Go.RowKit

theorem c_Q_szIntS {w0 : World} (a1 : (List Int)) (u1 : Value) (g1 : RO [] w0 u1 a1) (a2 : Int) (rr : Int) (hF : Q.szIntS a1 a2 = some rr) :
 Calls Try.prog 22 [u1, (.int .i64 a2)].toArray w0 fun e w' => ∃ v, e = .returned v ∧ Res w0 rr v w' := by
 refine calls_of_W Try.func22 rfl rfl ?_
 have hC0 := Ctx.start w0
 unfold Q.szIntS at hF
 refine W_seq_reg ?_
 refine WL_assign rfl rfl ?_
 refine WL_nil (W_seq_reg ?_)
 refine WL_move rfl rfl ?_
 refine WL_move rfl rfl ?_
 refine WL_len Try.underlying23 g1 rfl rfl ?_
 refine WL_sub rfl rfl rfl ?_
 refine WL_assign rfl rfl ?_
 refine WL_nil (W_seq (W_seq_reg ?_))
 refine WL_move rfl rfl ?_
 refine WL_lss rfl rfl rfl ?_
 refine WL_nil ?_
 refine W_cond rfl (fun hc1 => ?_) (fun hc1 => ?_)
 ·replace hF := ite_t hF hc1
  refine W_seq_reg ?_
  refine WL_assign rfl rfl ?_
  refine WL_nil (W_ret (nrm_ret ?_))
  have hq1 := Option.some.inj hF
  subst hq1
  refine fn_ret1 rfl rfl ?_
  exact ⟨_, rfl, int_res hC0 _⟩
 replace hF := ite_f hF hc1
 refine W_skip (nrm_normal (W_seq_reg ?_))
 refine WL_move rfl rfl ?_
 refine WL_assign rfl rfl ?_
 refine WL_nil (W_ret ?_)
 have hq2 := Option.some.inj hF
 subst hq2
 refine fn_ret1 rfl rfl ?_
 exact ⟨_, rfl, int_res hC0 _⟩

theorem c_Q_szMethod {w0 : World} (a1 : (Int × (List Int) × Int × Int × Int)) (u1 : Value) (g1 : RO [] w0 u1 a1.2.1) (a2 : Int) (rr : Int) (hF : Q.szMethod a1 a2 = some rr) :
 Calls Try.prog 21 [(.agg #[(.int .i64 a1.1), u1, (.int .i64 a1.2.2.1), (.int .i64 a1.2.2.2.1), (.int .i64 a1.2.2.2.2)]), (.int .i64 a2)].toArray w0 fun e w' => ∃ v, e = .returned v ∧ Res w0 rr v w' := by
 refine calls_of_W Try.func21 rfl rfl ?_
 have hC0 := Ctx.start w0
 unfold Q.szMethod at hF
 refine W_seq_reg ?_
 refine WL_boxK (cs := [(.int .i64 a1.1), u1, (.int .i64 a1.2.2.1), (.int .i64 a1.2.2.2.1), (.int .i64 a1.2.2.2.2)]) hC0 rfl rfl rfl (fun b1 w1 hC1 hB1 hN1 => ?_)
 refine WL_assign rfl rfl ?_
 refine WL_nil (W_seq_reg ?_)
 refine WL_field Try.underlying51 rfl rfl (fun w => ⟨_, Try.sizeOf23 w⟩) rfl rfl ?_
 refine WL_load_box hC1 0 rfl rfl Try.isAgg23 rfl rfl ?_
 refine WL_move rfl rfl ?_
 obtain ⟨x1, hr1, hF⟩ := bind_some hF
 refine WL_call Try.call22 rfl rfl (c_Q_szIntS a1.2.1 u1 (g1.now hC1.keep) a2 x1 hr1) ?_
 intro _ w2 hv1
 obtain ⟨rfl, hB2⟩ := res_int hv1
 have hC2 := hC1.grow hB2
 refine WL_assign rfl rfl ?_
 refine WL_nil (W_seq (W_seq_reg ?_))
 refine WL_move rfl rfl ?_
 refine WL_lss rfl rfl rfl ?_
 refine WL_nil ?_
 refine W_cond rfl (fun hc1 => ?_) (fun hc1 => ?_)
 ·replace hF := ite_t hF hc1
  refine W_seq_reg ?_
  refine WL_assign rfl rfl ?_
  refine WL_nil (W_ret (nrm_ret ?_))
  have hq1 := Option.some.inj hF
  subst hq1
  refine fn_ret1 rfl rfl ?_
  exact ⟨_, rfl, int_res hC2 _⟩
 replace hF := ite_f hF hc1
 refine W_skip (nrm_normal (W_seq_reg ?_))
 refine WL_move rfl rfl ?_
 refine WL_assign rfl rfl ?_
 refine WL_nil (W_ret ?_)
 have hq2 := Option.some.inj hF
 subst hq2
 refine fn_ret1 rfl rfl ?_
 exact ⟨_, rfl, int_res hC2 _⟩

theorem c_Q_szMethodS {w0 : World} (a1 : (List (Int × (List Int) × Int × Int × Int))) (u1 : Value) (g1 : RO [] w0 u1 a1) (a2 : Int) (rr : Int) (hF : Q.szMethodS a1 a2 = some rr) :
 Calls Try.prog 4 [u1, (.int .i64 a2)].toArray w0 fun e w' => ∃ v, e = .returned v ∧ Res w0 rr v w' := by
 refine calls_of_W Try.func4 rfl rfl ?_
 have hC0 := Ctx.start w0
 unfold Q.szMethodS at hF
 refine W_seq_reg ?_
 refine WL_assign rfl rfl ?_
 refine WL_nil (W_seq_reg ?_)
 refine WL_move rfl rfl ?_
 refine WL_move rfl rfl ?_
 refine WL_len Try.underlying22 g1 rfl rfl ?_
 refine WL_sub rfl rfl rfl ?_
 refine WL_assign rfl rfl ?_
 refine WL_nil (W_seq (W_seq_reg ?_))
 refine WL_move rfl rfl ?_
 refine WL_lss rfl rfl rfl ?_
 refine WL_nil ?_
 refine W_cond rfl (fun hc1 => ?_) (fun hc1 => ?_)
 ·replace hF := ite_t hF hc1
  refine W_seq_reg ?_
  refine WL_assign rfl rfl ?_
  refine WL_nil (W_ret (nrm_ret ?_))
  have hq1 := Option.some.inj hF
  subst hq1
  refine fn_ret1 rfl rfl ?_
  exact ⟨_, rfl, int_res hC0 _⟩
 replace hF := ite_f hF hc1
 refine W_skip (nrm_normal (W_seq (W_seq_reg ?_)))
 refine WL_assign rfl rfl ?_
 refine WL_nil ?_
 obtain ⟨r1, hr1, hF⟩ := bind_some hF
 refine W_norm (fun l w => ∃ x3 : Int, .inl x3 = r1 ∧ l = [(1, (.int .i64 x3))] ∧ Below w0.heap.size w0 w ∧ Ctx [] w0 w []) ?_ ?_
 ·refine W_block ?_
  refine W.sub (l' := [(0, u1), (1, (.int .i64 (w64 (a2 - (List.length a1 : Int))))), (5, (.int .i64 0))]) ?_ ⟨rfl, rfl, rfl, trivial⟩
  refine W_loop (fun k l w => ∃ x1 : Int, ∃ x2 : Int, l = [(0, u1), (1, (.int .i64 x1)), (5, (.int .i64 x2))] ∧ Below w0.heap.size w0 w ∧ Ctx [] w0 w [] ∧ Q.szMethodS_l1 a1 k x1 x2 = some r1) FUEL ⟨w64 (a2 - (List.length a1 : Int)), 0, rfl, (Below.refl _ _), hC0, hr1⟩ ?_
  clear hr1
  rintro k1 _ w1 ⟨x1, x2, rfl, hB1, hC1, hL1⟩
  cases k1 with
  | zero => rw [Q.szMethodS_l1] at hL1; cases hL1
  | succ k1 =>
   rw [Q.szMethodS_l1] at hL1
   refine W_seq (W_seq_reg ?_)
   refine WL_move rfl rfl ?_
   refine WL_move rfl rfl ?_
   refine WL_len Try.underlying22 g1 rfl rfl ?_
   refine WL_lss rfl rfl rfl ?_
   refine WL_nil ?_
   refine W_cond rfl (fun hc2 => ?_) (fun hc2 => ?_)
   ·replace hL1 := ite_t hL1 hc2
    refine W_skip (nrm_normal (W_seq (W_block (W_seq_reg ?_))))
    refine WL_move rfl rfl ?_
    refine WL_move rfl rfl ?_
    obtain ⟨x4, hx1, hL1⟩ := bind_some hL1
    refine WL_index Try.underlying22 ty51 g1 hx1 rfl rfl rfl (fun b1 o1 h1 => ?_)
    refine WL_load ty51 h1 hC1.keep rfl rfl (fun v1 h2 => ?_)
    obtain ⟨v2, rfl, h3⟩ := ro_st51 h2
    refine WL_move rfl rfl ?_
    obtain ⟨x5, hr2, hL1⟩ := bind_some hL1
    refine WL_call Try.call21 rfl rfl (c_Q_szMethod x4 v2 (h3.now hC1.keep) x1 x5 hr2) ?_
    intro _ w2 hv1
    obtain ⟨rfl, hB2⟩ := res_int hv1
    have hC2 := hC1.grow hB2
    refine WL_assign rfl rfl ?_
    refine WL_nil (W_seq_reg ?_)
    refine WL_move rfl rfl ?_
    refine WL_lss rfl rfl rfl ?_
    refine WL_nil ?_
    refine W_cond rfl (fun hc3 => ?_) (fun hc3 => ?_)
    ·replace hL1 := ite_t hL1 hc3
     refine W_seq_reg ?_
     refine WL_assign rfl rfl ?_
     refine WL_nil (W_ret (blk_ret (nrm_ret (nrm_ret (blk_ret (nrm_ret (nrm_ret ?_)))))))
     have hq2 := Option.some.inj hL1
     subst hq2
     dsimp only at hF
     have hq3 := Option.some.inj hF
     subst hq3
     refine fn_ret1 rfl rfl ?_
     exact ⟨_, rfl, int_res hC2 _⟩
    replace hL1 := ite_f hL1 hc3
    refine W_skip (blk_normal (nrm_normal (W_reg ?_)))
    refine WL_move rfl rfl ?_
    refine WL_add rfl rfl rfl ?_
    refine WL_assign rfl rfl ?_
    refine WL_nil ?_
    refine nrm_sub (l' := [(0, u1), (1, (.int .i64 x5)), (5, (.int .i64 (w64 (x2 + 1))))]) ⟨rfl, rfl, rfl, trivial⟩ ?_
    exact ⟨k1, Nat.lt_succ_self _, x5, w64 (x2 + 1), rfl, ((Keep.of hB1).then hB2).below, hC2, hL1⟩
   replace hL1 := ite_f hL1 hc2
   refine W_exit (nrm_exit (nrm_exit (blk_exit ?_)))
   have hq4 := Option.some.inj hL1
   subst hq4
   refine nrm_sub (l' := [(1, (.int .i64 x1))]) ⟨rfl, trivial⟩ ?_
   exact ⟨x1, rfl, rfl, (Keep.of hB1).below, hC1⟩
 rintro l2 _ w3 hs2 ⟨x3, rfl, rfl, hB3, hC3⟩
 try dsimp only at hF
 refine nrm_sub' hs2 ?_
 clear hs2
 refine W_seq_reg ?_
 refine WL_move rfl rfl ?_
 refine WL_assign rfl rfl ?_
 refine WL_nil (W_ret ?_)
 have hq5 := Option.some.inj hF
 subst hq5
 refine fn_ret1 rfl rfl ?_
 exact ⟨_, rfl, int_res hC3 _⟩

theorem c_Q_szAtom {w0 : World} (a1 : (Int × (List Int))) (u1 : Value) (g1 : RO [] w0 u1 a1.2) (a2 : Int) (rr : Int) (hF : Q.szAtom a1 a2 = some rr) :
 Calls Try.prog 39 [(.agg #[(.int .i64 a1.1), u1]), (.int .i64 a2)].toArray w0 fun e w' => ∃ v, e = .returned v ∧ Res w0 rr v w' := by
 refine calls_of_W Try.func39 rfl rfl ?_
 have hC0 := Ctx.start w0
 unfold Q.szAtom at hF
 refine W_seq_reg ?_
 refine WL_boxK (cs := [(.int .i64 a1.1), u1]) hC0 rfl rfl rfl (fun b1 w1 hC1 hB1 hN1 => ?_)
 refine WL_assign rfl rfl ?_
 refine WL_nil (W_seq_reg ?_)
 refine WL_field Try.underlying72 rfl rfl (fun w => ⟨_, Try.sizeOf23 w⟩) rfl rfl ?_
 refine WL_load_box hC1 0 rfl rfl Try.isAgg23 rfl rfl ?_
 refine WL_move rfl rfl ?_
 obtain ⟨x1, hr1, hF⟩ := bind_some hF
 refine WL_call Try.call22 rfl rfl (c_Q_szIntS a1.2 u1 (g1.now hC1.keep) a2 x1 hr1) ?_
 intro _ w2 hv1
 obtain ⟨rfl, hB2⟩ := res_int hv1
 have hC2 := hC1.grow hB2
 refine WL_assign rfl rfl ?_
 refine WL_nil (W_seq (W_seq_reg ?_))
 refine WL_move rfl rfl ?_
 refine WL_lss rfl rfl rfl ?_
 refine WL_nil ?_
 refine W_cond rfl (fun hc1 => ?_) (fun hc1 => ?_)
 ·replace hF := ite_t hF hc1
  refine W_seq_reg ?_
  refine WL_assign rfl rfl ?_
  refine WL_nil (W_ret (nrm_ret ?_))
  have hq1 := Option.some.inj hF
  subst hq1
  refine fn_ret1 rfl rfl ?_
  exact ⟨_, rfl, int_res hC2 _⟩
 replace hF := ite_f hF hc1
 refine W_skip (nrm_normal (W_seq_reg ?_))
 refine WL_move rfl rfl ?_
 refine WL_assign rfl rfl ?_
 refine WL_nil (W_ret ?_)
 have hq2 := Option.some.inj hF
 subst hq2
 refine fn_ret1 rfl rfl ?_
 exact ⟨_, rfl, int_res hC2 _⟩

theorem c_Q_szAtomS {w0 : World} (a1 : (List (Int × (List Int)))) (u1 : Value) (g1 : RO [] w0 u1 a1) (a2 : Int) (rr : Int) (hF : Q.szAtomS a1 a2 = some rr) :
 Calls Try.prog 23 [u1, (.int .i64 a2)].toArray w0 fun e w' => ∃ v, e = .returned v ∧ Res w0 rr v w' := by
 refine calls_of_W Try.func23 rfl rfl ?_
 have hC0 := Ctx.start w0
 unfold Q.szAtomS at hF
 refine W_seq_reg ?_
 refine WL_assign rfl rfl ?_
 refine WL_nil (W_seq_reg ?_)
 refine WL_move rfl rfl ?_
 refine WL_move rfl rfl ?_
 refine WL_len Try.underlying24 g1 rfl rfl ?_
 refine WL_sub rfl rfl rfl ?_
 refine WL_assign rfl rfl ?_
 refine WL_nil (W_seq (W_seq_reg ?_))
 refine WL_move rfl rfl ?_
 refine WL_lss rfl rfl rfl ?_
 refine WL_nil ?_
 refine W_cond rfl (fun hc1 => ?_) (fun hc1 => ?_)
 ·replace hF := ite_t hF hc1
  refine W_seq_reg ?_
  refine WL_assign rfl rfl ?_
  refine WL_nil (W_ret (nrm_ret ?_))
  have hq1 := Option.some.inj hF
  subst hq1
  refine fn_ret1 rfl rfl ?_
  exact ⟨_, rfl, int_res hC0 _⟩
 replace hF := ite_f hF hc1
 refine W_skip (nrm_normal (W_seq (W_seq_reg ?_)))
 refine WL_assign rfl rfl ?_
 refine WL_nil ?_
 obtain ⟨r1, hr1, hF⟩ := bind_some hF
 refine W_norm (fun l w => ∃ x3 : Int, .inl x3 = r1 ∧ l = [(1, (.int .i64 x3))] ∧ Below w0.heap.size w0 w ∧ Ctx [] w0 w []) ?_ ?_
 ·refine W_block ?_
  refine W.sub (l' := [(0, u1), (1, (.int .i64 (w64 (a2 - (List.length a1 : Int))))), (5, (.int .i64 0))]) ?_ ⟨rfl, rfl, rfl, trivial⟩
  refine W_loop (fun k l w => ∃ x1 : Int, ∃ x2 : Int, l = [(0, u1), (1, (.int .i64 x1)), (5, (.int .i64 x2))] ∧ Below w0.heap.size w0 w ∧ Ctx [] w0 w [] ∧ Q.szAtomS_l1 a1 k x1 x2 = some r1) FUEL ⟨w64 (a2 - (List.length a1 : Int)), 0, rfl, (Below.refl _ _), hC0, hr1⟩ ?_
  clear hr1
  rintro k1 _ w1 ⟨x1, x2, rfl, hB1, hC1, hL1⟩
  cases k1 with
  | zero => rw [Q.szAtomS_l1] at hL1; cases hL1
  | succ k1 =>
   rw [Q.szAtomS_l1] at hL1
   refine W_seq (W_seq_reg ?_)
   refine WL_move rfl rfl ?_
   refine WL_move rfl rfl ?_
   refine WL_len Try.underlying24 g1 rfl rfl ?_
   refine WL_lss rfl rfl rfl ?_
   refine WL_nil ?_
   refine W_cond rfl (fun hc2 => ?_) (fun hc2 => ?_)
   ·replace hL1 := ite_t hL1 hc2
    refine W_skip (nrm_normal (W_seq (W_block (W_seq_reg ?_))))
    refine WL_move rfl rfl ?_
    refine WL_move rfl rfl ?_
    obtain ⟨x4, hx1, hL1⟩ := bind_some hL1
    refine WL_index Try.underlying24 ty72 g1 hx1 rfl rfl rfl (fun b1 o1 h1 => ?_)
    refine WL_load ty72 h1 hC1.keep rfl rfl (fun v1 h2 => ?_)
    obtain ⟨v2, rfl, h3⟩ := ro_st72 h2
    refine WL_move rfl rfl ?_
    obtain ⟨x5, hr2, hL1⟩ := bind_some hL1
    refine WL_call Try.call39 rfl rfl (c_Q_szAtom x4 v2 (h3.now hC1.keep) x1 x5 hr2) ?_
    intro _ w2 hv1
    obtain ⟨rfl, hB2⟩ := res_int hv1
    have hC2 := hC1.grow hB2
    refine WL_assign rfl rfl ?_
    refine WL_nil (W_seq_reg ?_)
    refine WL_move rfl rfl ?_
    refine WL_lss rfl rfl rfl ?_
    refine WL_nil ?_
    refine W_cond rfl (fun hc3 => ?_) (fun hc3 => ?_)
    ·replace hL1 := ite_t hL1 hc3
     refine W_seq_reg ?_
     refine WL_assign rfl rfl ?_
     refine WL_nil (W_ret (blk_ret (nrm_ret (nrm_ret (blk_ret (nrm_ret (nrm_ret ?_)))))))
     have hq2 := Option.some.inj hL1
     subst hq2
     dsimp only at hF
     have hq3 := Option.some.inj hF
     subst hq3
     refine fn_ret1 rfl rfl ?_
     exact ⟨_, rfl, int_res hC2 _⟩
    replace hL1 := ite_f hL1 hc3
    refine W_skip (blk_normal (nrm_normal (W_reg ?_)))
    refine WL_move rfl rfl ?_
    refine WL_add rfl rfl rfl ?_
    refine WL_assign rfl rfl ?_
    refine WL_nil ?_
    refine nrm_sub (l' := [(0, u1), (1, (.int .i64 x5)), (5, (.int .i64 (w64 (x2 + 1))))]) ⟨rfl, rfl, rfl, trivial⟩ ?_
    exact ⟨k1, Nat.lt_succ_self _, x5, w64 (x2 + 1), rfl, ((Keep.of hB1).then hB2).below, hC2, hL1⟩
   replace hL1 := ite_f hL1 hc2
   refine W_exit (nrm_exit (nrm_exit (blk_exit ?_)))
   have hq4 := Option.some.inj hL1
   subst hq4
   refine nrm_sub (l' := [(1, (.int .i64 x1))]) ⟨rfl, trivial⟩ ?_
   exact ⟨x1, rfl, rfl, (Keep.of hB1).below, hC1⟩
 rintro l2 _ w3 hs2 ⟨x3, rfl, rfl, hB3, hC3⟩
 try dsimp only at hF
 refine nrm_sub' hs2 ?_
 clear hs2
 refine W_seq_reg ?_
 refine WL_move rfl rfl ?_
 refine WL_assign rfl rfl ?_
 refine WL_nil (W_ret ?_)
 have hq5 := Option.some.inj hF
 subst hq5
 refine fn_ret1 rfl rfl ?_
 exact ⟨_, rfl, int_res hC3 _⟩

theorem c_Q_szQuery {w0 : World} (a1 : ((List Int) × (List (Int × (List Int))))) (u1 : Value) (g1 : RO [] w0 u1 a1.1) (u2 : Value) (g2 : RO [] w0 u2 a1.2) (a2 : Int) (rr : Int) (hF : Q.szQuery a1 a2 = some rr) :
 Calls Try.prog 5 [(.agg #[u1, u2]), (.int .i64 a2)].toArray w0 fun e w' => ∃ v, e = .returned v ∧ Res w0 rr v w' := by
 refine calls_of_W Try.func5 rfl rfl ?_
 have hC0 := Ctx.start w0
 unfold Q.szQuery at hF
 refine W_seq_reg ?_
 refine WL_boxK (cs := [u1, u2]) hC0 rfl rfl rfl (fun b1 w1 hC1 hB1 hN1 => ?_)
 refine WL_assign rfl rfl ?_
 refine WL_nil (W_seq_reg ?_)
 refine WL_field Try.underlying26 rfl rfl (fun w => ⟨_, Try.sizeOf23 w⟩) rfl rfl ?_
 refine WL_load_box hC1 0 rfl rfl Try.isAgg23 rfl rfl ?_
 refine WL_move rfl rfl ?_
 obtain ⟨x1, hr1, hF⟩ := bind_some hF
 refine WL_call Try.call22 rfl rfl (c_Q_szIntS a1.1 u1 (g1.now hC1.keep) a2 x1 hr1) ?_
 intro _ w2 hv1
 obtain ⟨rfl, hB2⟩ := res_int hv1
 have hC2 := hC1.grow hB2
 refine WL_assign rfl rfl ?_
 refine WL_nil (W_seq (W_seq_reg ?_))
 refine WL_move rfl rfl ?_
 refine WL_lss rfl rfl rfl ?_
 refine WL_nil ?_
 refine W_cond rfl (fun hc1 => ?_) (fun hc1 => ?_)
 ·replace hF := ite_t hF hc1
  refine W_seq_reg ?_
  refine WL_assign rfl rfl ?_
  refine WL_nil (W_ret (nrm_ret ?_))
  have hq1 := Option.some.inj hF
  subst hq1
  refine fn_ret1 rfl rfl ?_
  exact ⟨_, rfl, int_res hC2 _⟩
 replace hF := ite_f hF hc1
 refine W_skip (nrm_normal (W_seq_reg ?_))
 refine WL_field Try.underlying26 rfl rfl (fun w => ⟨_, Try.sizeOf24 w⟩) rfl rfl ?_
 refine WL_load_box hC2 0 rfl rfl Try.isAgg24 rfl rfl ?_
 refine WL_move rfl rfl ?_
 obtain ⟨x2, hr2, hF⟩ := bind_some hF
 refine WL_call Try.call23 rfl rfl (c_Q_szAtomS a1.2 u2 (g2.now hC2.keep) x1 x2 hr2) ?_
 intro _ w3 hv2
 obtain ⟨rfl, hB3⟩ := res_int hv2
 have hC3 := hC2.grow hB3
 refine WL_assign rfl rfl ?_
 refine WL_nil (W_seq (W_seq_reg ?_))
 refine WL_move rfl rfl ?_
 refine WL_lss rfl rfl rfl ?_
 refine WL_nil ?_
 refine W_cond rfl (fun hc2 => ?_) (fun hc2 => ?_)
 ·replace hF := ite_t hF hc2
  refine W_seq_reg ?_
  refine WL_assign rfl rfl ?_
  refine WL_nil (W_ret (nrm_ret ?_))
  have hq2 := Option.some.inj hF
  subst hq2
  refine fn_ret1 rfl rfl ?_
  exact ⟨_, rfl, int_res hC3 _⟩
 replace hF := ite_f hF hc2
 refine W_skip (nrm_normal (W_seq_reg ?_))
 refine WL_move rfl rfl ?_
 refine WL_assign rfl rfl ?_
 refine WL_nil (W_ret ?_)
 have hq3 := Option.some.inj hF
 subst hq3
 refine fn_ret1 rfl rfl ?_
 exact ⟨_, rfl, int_res hC3 _⟩

theorem c_Q_szStepS {w0 : World} (a1 : (List (Int × Int))) (u1 : Value) (g1 : RO [] w0 u1 a1) (a2 : Int) (rr : Int) (hF : Q.szStepS a1 a2 = some rr) :
 Calls Try.prog 6 [u1, (.int .i64 a2)].toArray w0 fun e w' => ∃ v, e = .returned v ∧ Res w0 rr v w' := by
 refine calls_of_W Try.func6 rfl rfl ?_
 have hC0 := Ctx.start w0
 unfold Q.szStepS at hF
 refine W_seq_reg ?_
 refine WL_assign rfl rfl ?_
 refine WL_nil (W_seq_reg ?_)
 refine WL_move rfl rfl ?_
 refine WL_move rfl rfl ?_
 refine WL_len Try.underlying27 g1 rfl rfl ?_
 refine WL_sub rfl rfl rfl ?_
 refine WL_assign rfl rfl ?_
 refine WL_nil (W_seq (W_seq_reg ?_))
 refine WL_move rfl rfl ?_
 refine WL_lss rfl rfl rfl ?_
 refine WL_nil ?_
 refine W_cond rfl (fun hc1 => ?_) (fun hc1 => ?_)
 ·replace hF := ite_t hF hc1
  refine W_seq_reg ?_
  refine WL_assign rfl rfl ?_
  refine WL_nil (W_ret (nrm_ret ?_))
  have hq1 := Option.some.inj hF
  subst hq1
  refine fn_ret1 rfl rfl ?_
  exact ⟨_, rfl, int_res hC0 _⟩
 replace hF := ite_f hF hc1
 refine W_skip (nrm_normal (W_seq_reg ?_))
 refine WL_move rfl rfl ?_
 refine WL_assign rfl rfl ?_
 refine WL_nil (W_ret ?_)
 have hq2 := Option.some.inj hF
 subst hq2
 refine fn_ret1 rfl rfl ?_
 exact ⟨_, rfl, int_res hC0 _⟩

theorem c_S_l1In {w0 : World} (a1 : Int) (a2 : Int) (a3 : Int) (rr : Bool) (hF : S.l1In a1 a2 a3 = some rr) :
 Calls Try.prog 24 [(.int .i64 a1), (.int .i64 a2), (.int .i64 a3)].toArray w0 fun e w' => ∃ v, e = .returned v ∧ Res w0 rr v w' := by
 refine calls_of_W Try.func24 rfl rfl ?_
 have hC0 := Ctx.start w0
 unfold S.l1In at hF
 refine W_seq_reg ?_
 refine WL_assign rfl rfl ?_
 refine WL_nil ?_
 obtain ⟨r1, hr1, hF⟩ := bind_some hF
 refine W_cut (fun l w => ∃ x1 : Bool, x1 = r1 ∧ l = [(6, (.bool x1))] ∧ Below w0.heap.size w0 w ∧ Ctx [] w0 w []) ?_ ?_
 ·refine W_reg ?_
  refine WL_move rfl rfl ?_
  refine WL_move rfl rfl ?_
  refine WL_geq rfl rfl rfl ?_
  refine WL_move rfl rfl ?_
  refine WL_fork (fun hc1 => ?_) (fun hc1 => ?_)
  ·replace hr1 := ite_t hr1 hc1
   refine WL_guard rfl rfl ?_
   refine WL_move rfl rfl ?_
   refine WL_guard rfl rfl ?_
   refine WL_move rfl rfl ?_
   refine WL_guard rfl rfl ?_
   refine WL_leq rfl rfl rfl ?_
   refine WL_pick_t rfl rfl rfl ?_
   refine WL_assign rfl rfl ?_
   refine WL_nil ?_
   have hq1 := Option.some.inj hr1
   subst hq1
   refine nrm_sub (l' := [(6, (.bool (decide (a1 ≤ a3))))]) ⟨rfl, trivial⟩ ?_
   exact ⟨(decide (a1 ≤ a3)), rfl, rfl, (Below.refl _ _), hC0⟩
  replace hr1 := ite_f hr1 hc1
  refine WL_guard_skip rfl rfl (by simp) rfl ?_
  refine WL_guard_skip rfl rfl (by simp) rfl ?_
  refine WL_guard_skip rfl rfl (by simp) rfl ?_
  refine WL_pick_f rfl rfl rfl ?_
  refine WL_assign rfl rfl ?_
  refine WL_nil ?_
  have hq2 := Option.some.inj hr1
  subst hq2
  refine nrm_sub (l' := [(6, (.bool false))]) ⟨rfl, trivial⟩ ?_
  exact ⟨false, rfl, rfl, (Below.refl _ _), hC0⟩
 rintro _ w1 ⟨x1, rfl, rfl, hB1, hC1⟩
 try dsimp only at hF
 refine W_ret ?_
 have hq3 := Option.some.inj hF
 subst hq3
 refine fn_ret1 rfl rfl ?_
 exact ⟨_, rfl, bool_res hC1 _⟩

theorem c_S_l2Has {w0 : World} (a1 : (List Int)) (u1 : Value) (g1 : RO [] w0 u1 a1) (a2 : Int) (rr : Bool) (hF : S.l2Has a1 a2 = some rr) :
 Calls Try.prog 40 [u1, (.int .i64 a2)].toArray w0 fun e w' => ∃ v, e = .returned v ∧ Res w0 rr v w' := by
 refine calls_of_W Try.func40 rfl rfl ?_
 have hC0 := Ctx.start w0
 unfold S.l2Has at hF
 refine W_seq_reg ?_
 refine WL_assign rfl rfl ?_
 refine WL_nil (W_seq (W_seq_reg ?_))
 refine WL_assign rfl rfl ?_
 refine WL_nil ?_
 obtain ⟨r1, hr1, hF⟩ := bind_some hF
 refine W_norm (fun l w => .inl () = r1 ∧ l = [] ∧ Below w0.heap.size w0 w ∧ Ctx [] w0 w []) ?_ ?_
 ·refine W_block ?_
  refine W.sub (l' := [(0, u1), (1, (.int .i64 a2)), (5, (.int .i64 0))]) ?_ ⟨rfl, rfl, rfl, trivial⟩
  refine W_loop (fun k l w => ∃ x1 : Int, l = [(0, u1), (1, (.int .i64 a2)), (5, (.int .i64 x1))] ∧ Below w0.heap.size w0 w ∧ Ctx [] w0 w [] ∧ S.l2Has_l1 a1 a2 k x1 = some r1) FUEL ⟨0, rfl, (Below.refl _ _), hC0, hr1⟩ ?_
  clear hr1
  rintro k1 _ w1 ⟨x1, rfl, hB1, hC1, hL1⟩
  cases k1 with
  | zero => rw [S.l2Has_l1] at hL1; cases hL1
  | succ k1 =>
   rw [S.l2Has_l1] at hL1
   refine W_seq (W_seq_reg ?_)
   refine WL_move rfl rfl ?_
   refine WL_move rfl rfl ?_
   refine WL_len Try.underlying23 g1 rfl rfl ?_
   refine WL_lss rfl rfl rfl ?_
   refine WL_nil ?_
   refine W_cond rfl (fun hc1 => ?_) (fun hc1 => ?_)
   ·replace hL1 := ite_t hL1 hc1
    refine W_skip (nrm_normal (W_seq (W_block (W_seq_reg ?_))))
    refine WL_move rfl rfl ?_
    refine WL_move rfl rfl ?_
    obtain ⟨x2, hx1, hL1⟩ := bind_some hL1
    refine WL_index Try.underlying23 ty3 g1 hx1 rfl rfl rfl (fun b1 o1 h1 => ?_)
    refine WL_load ty3 h1 hC1.keep rfl rfl (fun v1 h2 => ?_)
    obtain rfl := ro_int h2
    refine WL_move rfl rfl ?_
    refine WL_eql rfl rfl rfl ?_
    refine WL_nil ?_
    refine W_cond rfl (fun hc2 => ?_) (fun hc2 => ?_)
    ·replace hL1 := ite_t hL1 hc2
     refine W_seq_reg ?_
     refine WL_assign rfl rfl ?_
     refine WL_nil (W_ret (blk_ret (nrm_ret (nrm_ret (blk_ret (nrm_ret (nrm_ret ?_)))))))
     have hq1 := Option.some.inj hL1
     subst hq1
     dsimp only at hF
     have hq2 := Option.some.inj hF
     subst hq2
     refine fn_ret1 rfl rfl ?_
     exact ⟨_, rfl, bool_res hC1 _⟩
    replace hL1 := ite_f hL1 hc2
    refine W_skip (blk_normal (nrm_normal (W_reg ?_)))
    refine WL_move rfl rfl ?_
    refine WL_add rfl rfl rfl ?_
    refine WL_assign rfl rfl ?_
    refine WL_nil ?_
    refine nrm_sub (l' := [(0, u1), (1, (.int .i64 a2)), (5, (.int .i64 (w64 (x1 + 1))))]) ⟨rfl, rfl, rfl, trivial⟩ ?_
    exact ⟨k1, Nat.lt_succ_self _, w64 (x1 + 1), rfl, (Keep.of hB1).below, hC1, hL1⟩
   replace hL1 := ite_f hL1 hc1
   refine W_exit (nrm_exit (nrm_exit (blk_exit ?_)))
   have hq3 := Option.some.inj hL1
   subst hq3
   refine nrm_sub (l' := []) trivial ?_
   exact ⟨rfl, rfl, (Keep.of hB1).below, hC1⟩
 rintro l2 _ w2 hs2 ⟨rfl, rfl, hB2, hC2⟩
 try dsimp only at hF
 refine nrm_sub' hs2 ?_
 clear hs2
 refine W_seq_reg ?_
 refine WL_assign rfl rfl ?_
 refine WL_nil (W_ret ?_)
 have hq4 := Option.some.inj hF
 subst hq4
 refine fn_ret1 rfl rfl ?_
 exact ⟨_, rfl, bool_res hC2 _⟩

theorem c_S_l3Put_own {w0 : World} {Fs : List (List Nat)} (a1 : (List Int)) (u1 : Value) (a2 : Int) (hH : Hold [Item.own u1 (a1 : (List Int))] w0 Fs) (hn : Fs.flatten.Nodup) (rr : (List Int)) (hF : S.l3Put a1 a2 = some rr) :
 Calls Try.prog 26 [u1, (.int .i64 a2)].toArray w0 fun e w' => ∃ v, e = .returned v ∧ ∃ q0 : Value, v = q0 ∧ Ctx Fs.flatten w0 w' [Item.own q0 (rr : (List Int))] := by
 refine calls_of_W Try.func26 rfl rfl ?_
 have hC0 := Ctx.startIn hH hn
 unfold S.l3Put at hF
 refine W_seq_reg ?_
 refine WL_assign rfl rfl ?_
 refine WL_nil (W_seq (W_seq_reg ?_))
 refine WL_move rfl rfl ?_
 refine WL_move rfl rfl ?_
 obtain ⟨x1, hr1, hF⟩ := bind_some hF
 refine WL_call Try.call40 rfl rfl (c_S_l2Has a1 u1 ((hC0.ro 0 rfl).now (Keep.refl _ _)) a2 x1 hr1) ?_
 intro _ w1 hv1
 obtain ⟨rfl, hB1⟩ := res_bool hv1
 have hC1 := hC0.grow hB1
 refine WL_nil ?_
 refine W_cond rfl (fun hc1 => ?_) (fun hc1 => ?_)
 ·replace hF := ite_t hF hc1
  refine W_seq_reg ?_
  refine WL_move rfl rfl ?_
  refine WL_assign rfl rfl ?_
  refine WL_nil (W_ret (nrm_ret ?_))
  have hq1 := Option.some.inj hF
  subst hq1
  refine fn_ret1 rfl rfl ?_
  exact ⟨_, rfl, _, rfl, hC1⟩
 replace hF := ite_f hF hc1
 refine W_skip (nrm_normal (W_seq_reg ?_))
 refine WL_buildSlice (vs := []) hC1 Try.underlying23 ty3 rfl rfl rfl rfl (by simp) rfl rfl (fun b1 w2 hC3 hB2 => ?_)
 have hC4 := hC3.row0 (α := Int)
 have hC5 := hC4.front 1 rfl
 dsimp only [List.eraseIdx, List.cons_append, List.nil_append, List.append_nil] at hC5
 have hC6 : Ctx Fs.flatten w0 w2 (Item.own (.slice (some ⟨b1, 0, none⟩) 0 0) (([] : List Int) : List Int) :: [Item.own u1 (a1 : (List Int))]) := hC5.rowOwn (by simp [maxLen])
 refine WL_assign rfl rfl ?_
 refine WL_nil (W_seq_reg ?_)
 refine WL_assign rfl rfl ?_
 refine WL_nil (W_seq (W_seq_reg ?_))
 refine WL_assign rfl rfl ?_
 refine WL_nil ?_
 obtain ⟨r1, hr2, hF⟩ := bind_some hF
 refine W_norm (fun l w => ∃ v2 : Value, ∃ x5 : (List Int), ∃ x6 : Bool, (x5, x6) = r1 ∧ l = [(1, (.int .i64 a2)), (5, v2), (6, (.bool x6))] ∧ Ctx Fs.flatten w0 w [Item.own v2 (x5 : (List Int)), Item.own u1 (a1 : (List Int))]) ?_ ?_
 ·refine W_block ?_
  refine W.sub (l' := [(0, u1), (1, (.int .i64 a2)), (5, (.slice (some ⟨b1, 0, none⟩) 0 0)), (6, (.bool false)), (7, (.int .i64 0))]) ?_ ⟨rfl, rfl, rfl, rfl, rfl, trivial⟩
  refine W_loop (fun k l w => ∃ v1 : Value, ∃ x2 : (List Int), ∃ x3 : Bool, ∃ x4 : Int, l = [(0, u1), (1, (.int .i64 a2)), (5, v1), (6, (.bool x3)), (7, (.int .i64 x4))] ∧ Ctx Fs.flatten w0 w [Item.own v1 (x2 : (List Int)), Item.own u1 (a1 : (List Int))] ∧ S.l3Put_l1 a1 a2 k x2 x3 x4 = some r1) FUEL ⟨(.slice (some ⟨b1, 0, none⟩) 0 0), ([] : List Int), false, 0, rfl, hC6, hr2⟩ ?_
  clear hr2
  rintro k1 _ w3 ⟨v1, x2, x3, x4, rfl, hC7, hL1⟩
  cases k1 with
  | zero => rw [S.l3Put_l1] at hL1; cases hL1
  | succ k1 =>
   rw [S.l3Put_l1] at hL1
   refine W_seq (W_seq_reg ?_)
   refine WL_move rfl rfl ?_
   refine WL_move rfl rfl ?_
   refine WL_len Try.underlying23 (hC7.ro 1 rfl) rfl rfl ?_
   refine WL_lss rfl rfl rfl ?_
   refine WL_nil ?_
   refine W_cond rfl (fun hc2 => ?_) (fun hc2 => ?_)
   ·replace hL1 := ite_t hL1 hc2
    refine W_skip (nrm_normal (W_seq (W_block (W_seq ?_))))
    obtain ⟨r2, hr3, hL1⟩ := bind_some hL1
    refine W_cut (fun l w => ∃ x7 : Bool, x7 = r2 ∧ l = [(0, u1), (1, (.int .i64 a2)), (5, v1), (6, (.bool x3)), (7, (.int .i64 x4)), (28, (.bool x7))] ∧ Below w3.heap.size w3 w ∧ Ctx Fs.flatten w0 w [Item.own v1 (x2 : (List Int)), Item.own u1 (a1 : (List Int))]) ?_ ?_
    ·refine W_reg ?_
     refine WL_move rfl rfl ?_
     refine WL_not rfl rfl ?_
     refine WL_move rfl rfl ?_
     refine WL_fork (fun hc3 => ?_) (fun hc3 => ?_)
     ·replace hr3 := ite_t hr3 hc3
      refine WL_guard rfl rfl ?_
      refine WL_move rfl rfl ?_
      refine WL_guard rfl rfl ?_
      refine WL_move rfl rfl ?_
      obtain ⟨x8, hx1, hr3⟩ := bind_some hr3
      refine WL_guard rfl rfl ?_
      refine WL_index Try.underlying23 ty3 (hC7.ro 1 rfl) hx1 rfl rfl rfl (fun b2 o1 h1 => ?_)
      refine WL_guard rfl rfl ?_
      refine WL_load ty3 h1 (Keep.refl _ _) rfl rfl (fun v3 h2 => ?_)
      obtain rfl := ro_int h2
      refine WL_guard rfl rfl ?_
      refine WL_move rfl rfl ?_
      refine WL_guard rfl rfl ?_
      refine WL_gtr rfl rfl rfl ?_
      refine WL_pick_t rfl rfl rfl ?_
      refine WL_nil ?_
      have hq2 := Option.some.inj hr3
      subst hq2
      refine nrm_sub (l' := [(0, u1), (1, (.int .i64 a2)), (5, v1), (6, (.bool x3)), (7, (.int .i64 x4)), (28, (.bool (decide (a2 < x8))))]) ⟨rfl, rfl, rfl, rfl, rfl, rfl, trivial⟩ ?_
      exact ⟨(decide (a2 < x8)), rfl, rfl, (Below.refl _ _), hC7⟩
     replace hr3 := ite_f hr3 hc3
     refine WL_guard_skip rfl rfl (by simp) rfl ?_
     refine WL_guard_skip rfl rfl (by simp) rfl ?_
     refine WL_guard_skip rfl rfl (by simp) rfl ?_
     refine WL_guard_skip rfl rfl (by simp) rfl ?_
     refine WL_guard_skip rfl rfl (by simp) rfl ?_
     refine WL_guard_skip rfl rfl (by simp) rfl ?_
     refine WL_pick_f rfl rfl rfl ?_
     refine WL_nil ?_
     have hq3 := Option.some.inj hr3
     subst hq3
     refine nrm_sub (l' := [(0, u1), (1, (.int .i64 a2)), (5, v1), (6, (.bool x3)), (7, (.int .i64 x4)), (28, (.bool false))]) ⟨rfl, rfl, rfl, rfl, rfl, rfl, trivial⟩ ?_
     exact ⟨false, rfl, rfl, (Below.refl _ _), hC7⟩
    rintro _ w4 ⟨x7, rfl, rfl, hB4, hC8⟩
    try dsimp only at hL1
    obtain ⟨r3, hr4, hL1⟩ := bind_some hL1
    refine W_norm (fun l w => ∃ v4 : Value, ∃ x9 : (List Int), ∃ x10 : Bool, (x9, x10) = r3 ∧ l = [(0, u1), (1, (.int .i64 a2)), (5, v4), (6, (.bool x10)), (7, (.int .i64 x4))] ∧ Ctx Fs.flatten w0 w [Item.own v4 (x9 : (List Int)), Item.own u1 (a1 : (List Int))]) ?_ ?_
    ·refine W_cond rfl (fun hc4 => ?_) (fun hc4 => ?_)
     ·replace hr4 := ite_t hr4 hc4
      refine W_seq_reg ?_
      refine WL_move rfl rfl ?_
      refine WL_move rfl rfl ?_
      refine WL_buildSlice (vs := [(.int .i64 a2)]) hC8 Try.underlying23 ty3 rfl rfl rfl rfl (by intro v hv; simp only [List.mem_cons, List.not_mem_nil, or_false] at hv; rcases hv with rfl <;> rfl) rfl rfl (fun b3 w6 hC10 hB6 => ?_)
      have hC11 := hC10.row0 (α := Int)
      have hC12 := hC11.triv (int_val (a2))
      have hC13 := hC12.row1
      have hC14 := hC13.front 1 rfl
      dsimp only [List.eraseIdx, List.cons_append, List.nil_append, List.append_nil] at hC14
      have hC15 : Ctx Fs.flatten w0 w6 (Item.own (.slice (some ⟨b3, 0, none⟩) 1 1) ([a2] : List Int) :: [Item.own v1 (x2 : (List Int)), Item.own u1 (a1 : (List Int))]) := hC14.rowOwn (by simp [maxLen])
      obtain ⟨x11, hx2, hr4⟩ := bind_some hr4
      refine WL_append_flat (α := Int) hC15 1 rfl (hC15.ro 0 rfl) (Keep.refl _ _) Try.underlying23 ty3 rfl hx2 rfl rfl rfl (fun v5 w7 hC16 => ?_)
      try dsimp only [List.set] at hC16
      refine WL_assign rfl rfl ?_
      refine WL_nil (W_reg ?_)
      refine WL_assign rfl rfl ?_
      refine WL_nil ?_
      have hq4 := Option.some.inj hr4
      subst hq4
      have hC17 := hC16.f2
      have hC18 := hC17.f2
      have hC19 := hC18.h2
      refine nrm_sub (l' := [(0, u1), (1, (.int .i64 a2)), (5, v5), (6, (.bool true)), (7, (.int .i64 x4))]) ⟨rfl, rfl, rfl, rfl, rfl, trivial⟩ ?_
      exact ⟨v5, x11, true, rfl, rfl, hC19⟩
     replace hr4 := ite_f hr4 hc4
     refine W_skip ?_
     have hq5 := Option.some.inj hr4
     subst hq5
     refine nrm_sub (l' := [(0, u1), (1, (.int .i64 a2)), (5, v1), (6, (.bool x3)), (7, (.int .i64 x4))]) ⟨rfl, rfl, rfl, rfl, rfl, trivial⟩ ?_
     exact ⟨v1, x2, x3, rfl, rfl, hC8⟩
    rintro l3 _ w5 hs3 ⟨v4, x9, x10, rfl, rfl, hC9⟩
    try dsimp only at hL1
    refine nrm_sub' hs3 ?_
    clear hs3
    refine W_reg ?_
    refine WL_move rfl rfl ?_
    refine WL_move rfl rfl ?_
    refine WL_move rfl rfl ?_
    obtain ⟨x12, hx3, hL1⟩ := bind_some hL1
    refine WL_index Try.underlying23 ty3 (hC9.ro 1 rfl) hx3 rfl rfl rfl (fun b4 o2 h3 => ?_)
    refine WL_load ty3 h3 (Keep.refl _ _) rfl rfl (fun v6 h4 => ?_)
    obtain rfl := ro_int h4
    refine WL_buildSlice (vs := [(.int .i64 x12)]) hC9 Try.underlying23 ty3 rfl rfl rfl rfl (by intro v hv; simp only [List.mem_cons, List.not_mem_nil, or_false] at hv; rcases hv with rfl <;> rfl) rfl rfl (fun b5 w9 hC20 hB7 => ?_)
    have hC21 := hC20.row0 (α := Int)
    have hC22 := hC21.triv (int_val (x12))
    have hC23 := hC22.row1
    have hC24 := hC23.front 1 rfl
    dsimp only [List.eraseIdx, List.cons_append, List.nil_append, List.append_nil] at hC24
    have hC25 : Ctx Fs.flatten w0 w9 (Item.own (.slice (some ⟨b5, 0, none⟩) 1 1) ([x12] : List Int) :: [Item.own v4 (x9 : (List Int)), Item.own u1 (a1 : (List Int))]) := hC24.rowOwn (by simp [maxLen])
    obtain ⟨x13, hx4, hL1⟩ := bind_some hL1
    refine WL_append_flat (α := Int) hC25 1 rfl (hC25.ro 0 rfl) (Keep.refl _ _) Try.underlying23 ty3 rfl hx4 rfl rfl rfl (fun v7 w10 hC26 => ?_)
    try dsimp only [List.set] at hC26
    refine WL_assign rfl rfl ?_
    refine WL_nil (blk_normal (nrm_normal (W_reg ?_)))
    refine WL_move rfl rfl ?_
    refine WL_add rfl rfl rfl ?_
    refine WL_assign rfl rfl ?_
    refine WL_nil ?_
    have hC27 := hC26.f2
    have hC28 := hC27.f2
    have hC29 := hC28.h2
    refine nrm_sub (l' := [(0, u1), (1, (.int .i64 a2)), (5, v7), (6, (.bool x10)), (7, (.int .i64 (w64 (x4 + 1))))]) ⟨rfl, rfl, rfl, rfl, rfl, trivial⟩ ?_
    exact ⟨k1, Nat.lt_succ_self _, v7, x13, x10, w64 (x4 + 1), rfl, hC29, hL1⟩
   replace hL1 := ite_f hL1 hc2
   refine W_exit (nrm_exit (nrm_exit (blk_exit ?_)))
   have hq6 := Option.some.inj hL1
   subst hq6
   refine nrm_sub (l' := [(1, (.int .i64 a2)), (5, v1), (6, (.bool x3))]) ⟨rfl, rfl, rfl, trivial⟩ ?_
   exact ⟨v1, x2, x3, rfl, rfl, hC7⟩
 rintro l4 _ w11 hs4 ⟨v2, x5, x6, rfl, rfl, hC30⟩
 try dsimp only at hF
 refine nrm_sub' hs4 ?_
 clear hs4
 refine W_seq (W_seq_reg ?_)
 refine WL_move rfl rfl ?_
 refine WL_not rfl rfl ?_
 refine WL_nil ?_
 obtain ⟨r4, hr5, hF⟩ := bind_some hF
 refine W_norm (fun l w => ∃ v8 : Value, ∃ x14 : (List Int), x14 = r4 ∧ l = [(5, v8)] ∧ Ctx Fs.flatten w0 w [Item.own v8 (x14 : (List Int)), Item.own u1 (a1 : (List Int))]) ?_ ?_
 ·refine W_cond rfl (fun hc5 => ?_) (fun hc5 => ?_)
  ·replace hr5 := ite_t hr5 hc5
   refine W_reg ?_
   refine WL_move rfl rfl ?_
   refine WL_move rfl rfl ?_
   refine WL_buildSlice (vs := [(.int .i64 a2)]) hC30 Try.underlying23 ty3 rfl rfl rfl rfl (by intro v hv; simp only [List.mem_cons, List.not_mem_nil, or_false] at hv; rcases hv with rfl <;> rfl) rfl rfl (fun b6 w13 hC32 hB10 => ?_)
   have hC33 := hC32.row0 (α := Int)
   have hC34 := hC33.triv (int_val (a2))
   have hC35 := hC34.row1
   have hC36 := hC35.front 1 rfl
   dsimp only [List.eraseIdx, List.cons_append, List.nil_append, List.append_nil] at hC36
   have hC37 : Ctx Fs.flatten w0 w13 (Item.own (.slice (some ⟨b6, 0, none⟩) 1 1) ([a2] : List Int) :: [Item.own v2 (x5 : (List Int)), Item.own u1 (a1 : (List Int))]) := hC36.rowOwn (by simp [maxLen])
   obtain ⟨x15, hx5, hr5⟩ := bind_some hr5
   refine WL_append_flat (α := Int) hC37 1 rfl (hC37.ro 0 rfl) (Keep.refl _ _) Try.underlying23 ty3 rfl hx5 rfl rfl rfl (fun v9 w14 hC38 => ?_)
   try dsimp only [List.set] at hC38
   refine WL_assign rfl rfl ?_
   refine WL_nil ?_
   have hq7 := Option.some.inj hr5
   subst hq7
   have hC39 := hC38.f2
   have hC40 := hC39.f2
   have hC41 := hC40.h2
   refine nrm_sub (l' := [(5, v9)]) ⟨rfl, trivial⟩ ?_
   exact ⟨v9, x15, rfl, rfl, hC41⟩
  replace hr5 := ite_f hr5 hc5
  refine W_skip ?_
  have hq8 := Option.some.inj hr5
  subst hq8
  refine nrm_sub (l' := [(5, v2)]) ⟨rfl, trivial⟩ ?_
  exact ⟨v2, x5, rfl, rfl, hC30⟩
 rintro l5 _ w12 hs5 ⟨v8, x14, rfl, rfl, hC31⟩
 try dsimp only at hF
 refine nrm_sub' hs5 ?_
 clear hs5
 refine W_seq_reg ?_
 refine WL_move rfl rfl ?_
 refine WL_assign rfl rfl ?_
 refine WL_nil (W_ret ?_)
 have hq9 := Option.some.inj hF
 subst hq9
 refine fn_ret1 rfl rfl ?_
 have hC43 := hC31.h1
 exact ⟨_, rfl, _, rfl, hC43⟩

theorem c_S_l30Passed {w0 : World} (a1 : (Int × (List Int) × Int × Int × Int)) (u1 : Value) (g1 : RO [] w0 u1 a1.2.1) (a2 : (Int × (List Int))) (u2 : Value) (g2 : RO [] w0 u2 a2.2) (rr : (List Int)) (hF : S.l30Passed a1 a2 = some rr) :
 Calls Try.prog 25 [(.agg #[(.int .i64 a1.1), u1, (.int .i64 a1.2.2.1), (.int .i64 a1.2.2.2.1), (.int .i64 a1.2.2.2.2)]), (.agg #[(.int .i64 a2.1), u2])].toArray w0 fun e w' => ∃ v, e = .returned v ∧ Res w0 rr v w' := by
 refine calls_of_W Try.func25 rfl rfl ?_
 have hC0 := Ctx.start w0
 unfold S.l30Passed at hF
 refine W_seq_reg ?_
 refine WL_boxK (cs := [(.int .i64 a1.1), u1, (.int .i64 a1.2.2.1), (.int .i64 a1.2.2.2.1), (.int .i64 a1.2.2.2.2)]) hC0 rfl rfl rfl (fun b1 w1 hC1 hB1 hN1 => ?_)
 refine WL_boxK (cs := [(.int .i64 a2.1), u2]) hC1 rfl rfl rfl (fun b2 w2 hC2 hB2 hN2 => ?_)
 refine WL_assign rfl rfl ?_
 refine WL_nil (W_seq_reg ?_)
 refine WL_buildSlice (vs := []) hC2 Try.underlying23 ty3 rfl rfl rfl rfl (by simp) rfl rfl (fun b3 w3 hC3 hB3 => ?_)
 have hC4 := hC3.row0 (α := Int)
 have hC5 := hC4.front 1 rfl
 dsimp only [List.eraseIdx, List.cons_append, List.nil_append, List.append_nil] at hC5
 have hC6 : Ctx [] w0 w3 (Item.own (.slice (some ⟨b3, 0, none⟩) 0 0) (([] : List Int) : List Int) :: [Item.box b2 [(.int .i64 a2.1), u2], Item.box b1 [(.int .i64 a1.1), u1, (.int .i64 a1.2.2.1), (.int .i64 a1.2.2.2.1), (.int .i64 a1.2.2.2.2)]]) := hC5.rowOwn (by simp [maxLen])
 refine WL_assign rfl rfl ?_
 refine WL_nil (W_seq (W_seq_reg ?_))
 refine WL_assign rfl rfl ?_
 refine WL_nil ?_
 obtain ⟨r1, hr1, hF⟩ := bind_some hF
 refine W_norm (fun l w => ∃ v2 : Value, ∃ x3 : (List Int), x3 = r1 ∧ l = [(5, v2)] ∧ Ctx [] w0 w [Item.own v2 (x3 : (List Int))]) ?_ ?_
 ·refine W_block ?_
  refine W.sub (l' := [(2, (ptr b1 0)), (3, (ptr b2 0)), (5, (.slice (some ⟨b3, 0, none⟩) 0 0)), (6, (.int .i64 0))]) ?_ ⟨rfl, rfl, rfl, rfl, trivial⟩
  refine W_loop (fun k l w => ∃ v1 : Value, ∃ x1 : (List Int), ∃ x2 : Int, l = [(2, (ptr b1 0)), (3, (ptr b2 0)), (5, v1), (6, (.int .i64 x2))] ∧ Ctx [] w0 w [Item.own v1 (x1 : (List Int)), Item.box b2 [(.int .i64 a2.1), u2], Item.box b1 [(.int .i64 a1.1), u1, (.int .i64 a1.2.2.1), (.int .i64 a1.2.2.2.1), (.int .i64 a1.2.2.2.2)]] ∧ S.l30Passed_l1 a1 a2 k x1 x2 = some r1) FUEL ⟨(.slice (some ⟨b3, 0, none⟩) 0 0), ([] : List Int), 0, rfl, hC6, hr1⟩ ?_
  clear hr1
  rintro k1 _ w4 ⟨v1, x1, x2, rfl, hC7, hL1⟩
  cases k1 with
  | zero => rw [S.l30Passed_l1] at hL1; cases hL1
  | succ k1 =>
   rw [S.l30Passed_l1] at hL1
   refine W_seq (W_seq_reg ?_)
   refine WL_move rfl rfl ?_
   refine WL_field Try.underlying57 rfl rfl (fun w => ⟨_, Try.sizeOf23 w⟩) rfl rfl ?_
   refine WL_load_box hC7 2 rfl rfl Try.isAgg23 rfl rfl ?_
   refine WL_len Try.underlying23 g1 rfl rfl ?_
   refine WL_lss rfl rfl rfl ?_
   refine WL_nil ?_
   refine W_cond rfl (fun hc1 => ?_) (fun hc1 => ?_)
   ·replace hL1 := ite_t hL1 hc1
    refine W_skip (nrm_normal (W_seq (W_block ?_)))
    obtain ⟨r2, hr2, hL1⟩ := bind_some hL1
    refine W_cut (fun l w => ∃ x4 : Bool, x4 = r2 ∧ l = [(2, (ptr b1 0)), (3, (ptr b2 0)), (5, v1), (6, (.int .i64 x2)), (36, (.bool x4))] ∧ Below w4.heap.size w4 w ∧ Ctx [] w0 w [Item.own v1 (x1 : (List Int)), Item.box b2 [(.int .i64 a2.1), u2], Item.box b1 [(.int .i64 a1.1), u1, (.int .i64 a1.2.2.1), (.int .i64 a1.2.2.2.1), (.int .i64 a1.2.2.2.2)]]) ?_ ?_
    ·refine W_drawn 22 rfl hmix (fun w6 hB6 => ?_)
     have hC9 := hC7.grow hB6
     refine WA_tk 0 (by kernel_rfl) rfl rfl (fl_field Try.underlying57 rfl rfl (fun w => ⟨_, Try.sizeOf23 w⟩) rfl) ?_
     refine WL_field Try.underlying57 rfl rfl (fun w => ⟨_, Try.sizeOf23 w⟩) rfl rfl ?_
     refine WL_nil ?_
     refine WA_tk 2 (by kernel_rfl) rfl rfl (fl_move rfl) ?_
     refine WL_move rfl rfl ?_
     refine WL_nil ?_
     refine WA_tk 5 (by kernel_rfl) rfl rfl (fl_field Try.underlying59 rfl rfl (fun w => ⟨_, Try.sizeOf23 w⟩) rfl) ?_
     refine WL_field Try.underlying59 rfl rfl (fun w => ⟨_, Try.sizeOf23 w⟩) rfl rfl ?_
     refine WL_nil ?_
     obtain ⟨x5, hx1, hr2⟩ := bind_some hr2
     refine WA.sub (l' := [(2, (ptr b1 0)), (3, (ptr b2 0)), (5, v1), (6, (.int .i64 x2)), (8, (.int .i64 x2)), (9, (ptr b1 1)), (10, u1), (11, (.int .i64 (List.length a1.2.1 : Int))), (12, (.bool (decide (x2 < (List.length a1.2.1 : Int))))), (15, (ptr b1 1)), (17, (.int .i64 x2)), (20, (ptr b2 1))]) ?_ ⟨rfl, rfl, rfl, rfl, rfl, rfl, rfl, rfl, rfl, rfl, rfl, rfl, trivial⟩
     refine WA_postsE [⟨1, [], fun vs => PW.val u1, []⟩, ⟨3, [], fun vs => PW.at [] w0 x5, []⟩, ⟨4, [], fun vs => PW.val (.int .i64 x5), []⟩, ⟨6, [], fun vs => PW.val u2, []⟩, ⟨7, [], fun vs => PW.val (.int .i64 (List.length a2.2 : Int)), []⟩, ⟨8, [], fun vs => PW.val (.int .i64 (w64 ((List.length a2.2 : Int) - 1))), []⟩] [[], [1], [3], [], [6], [7]] 13 rfl (by kernel_rfl) (by kernel_rfl) rfl ?_ ?_
     ·refine StepsE_cons rfl ?_ ?_
      ·intro w7 hB7
       refine DepsE_nil ?_
       refine ⟨_, rfl, ?_⟩
       refine WL_load_box (hC9.grow hB7) 2 rfl rfl Try.isAgg23 rfl rfl ?_
       refine WL_nil ?_
       exact FinE_val (Below.refl _ _) rfl rfl ⟨rfl, rfl⟩
      refine StepsE_cons rfl ?_ ?_
      ·intro w7 hB7
       refine DepsE_cons rfl rfl rfl ?_
       rintro _ _ ⟨rfl, rfl⟩ _
       refine DepsE_nil ?_
       refine ⟨_, rfl, ?_⟩
       refine WL_index Try.underlying23 ty3 g1 hx1 rfl rfl rfl (fun b4 o1 h1 => ?_)
       refine WL_nil ?_
       exact FinE_val (Below.refl _ _) rfl rfl ⟨rfl, _, _, rfl, h1⟩
      refine StepsE_cons rfl ?_ ?_
      ·intro w7 hB7
       refine DepsE_cons rfl rfl rfl ?_
       rintro _ _ ⟨rfl, b4, o1, rfl, h1⟩ _
       refine DepsE_nil ?_
       refine ⟨_, rfl, ?_⟩
       refine WL_load ty3 h1 (hC9.keep.then hB7) rfl rfl (fun v3 h2 => ?_)
       obtain rfl := ro_int h2
       refine WL_nil ?_
       exact FinE_val (Below.refl _ _) rfl rfl ⟨rfl, rfl⟩
      refine StepsE_cons rfl ?_ ?_
      ·intro w7 hB7
       refine DepsE_nil ?_
       refine ⟨_, rfl, ?_⟩
       refine WL_load_box (hC9.grow hB7) 1 rfl rfl Try.isAgg23 rfl rfl ?_
       refine WL_nil ?_
       exact FinE_val (Below.refl _ _) rfl rfl ⟨rfl, rfl⟩
      refine StepsE_cons rfl ?_ ?_
      ·intro w7 hB7
       refine DepsE_cons rfl rfl rfl ?_
       rintro _ _ ⟨rfl, rfl⟩ _
       refine DepsE_nil ?_
       refine ⟨_, rfl, ?_⟩
       refine WL_len Try.underlying23 g2 rfl rfl ?_
       refine WL_nil ?_
       exact FinE_val (Below.refl _ _) rfl rfl ⟨rfl, rfl⟩
      refine StepsE_cons rfl ?_ ?_
      ·intro w7 hB7
       refine DepsE_cons rfl rfl rfl ?_
       rintro _ _ ⟨rfl, rfl⟩ _
       refine DepsE_nil ?_
       refine ⟨_, rfl, ?_⟩
       refine WL_sub rfl rfl rfl ?_
       refine WL_nil ?_
       exact FinE_val (Below.refl _ _) rfl rfl ⟨rfl, rfl⟩
      exact StepsE_nil
     intro w9 hB8
     refine AllE_cons rfl rfl rfl ?_
     rintro _ _ ⟨rfl, rfl⟩
     refine AllE_cons rfl rfl rfl ?_
     rintro _ _ ⟨rfl, b4, o1, rfl, h1⟩
     refine AllE_cons rfl rfl rfl ?_
     rintro _ _ ⟨rfl, rfl⟩
     refine AllE_cons rfl rfl rfl ?_
     rintro _ _ ⟨rfl, rfl⟩
     refine AllE_cons rfl rfl rfl ?_
     rintro _ _ ⟨rfl, rfl⟩
     refine AllE_cons rfl rfl rfl ?_
     rintro _ _ ⟨rfl, rfl⟩
     refine AllE_nil ?_
     intro hn1 hb1
     have hC10 := hC9.grow hB8
     obtain ⟨x6, hr3, hr2⟩ := bind_some hr2
     refine WA_one 9 (by kernel_rfl) rfl ?_
     refine WL_call Try.call24 rfl rfl (c_S_l1In x5 0 (w64 ((List.length a2.2 : Int) - 1)) x6 hr3) ?_
     intro _ w10 hv1
     obtain ⟨rfl, hB9⟩ := res_bool hv1
     have hC11 := hC10.grow hB9
     refine WL_nil ?_
     refine WA_tk 10 (by kernel_rfl) rfl rfl (fl_move rfl) ?_
     refine WL_move rfl rfl ?_
     refine WL_nil ?_
     refine WA_fork (fun hc2 => ?_) (fun hc2 => ?_)
     ·replace hr2 := ite_t hr2 hc2
      refine WA_takeG 11 rfl (by kernel_rfl) (by kernel_rfl) (by kernel_rfl) rfl rfl rfl (fl_field Try.underlying59 rfl rfl (fun w => ⟨_, Try.sizeOf23 w⟩) rfl) ?_
      refine WL_guard rfl rfl ?_
      refine WL_field Try.underlying59 rfl rfl (fun w => ⟨_, Try.sizeOf23 w⟩) rfl rfl ?_
      refine WL_nil ?_
      refine WA_takeG 13 rfl (by kernel_rfl) (by kernel_rfl) (by kernel_rfl) rfl rfl rfl (fl_field Try.underlying57 rfl rfl (fun w => ⟨_, Try.sizeOf23 w⟩) rfl) ?_
      refine WL_guard rfl rfl ?_
      refine WL_field Try.underlying57 rfl rfl (fun w => ⟨_, Try.sizeOf23 w⟩) rfl rfl ?_
      refine WL_nil ?_
      refine WA_takeG 15 rfl (by kernel_rfl) (by kernel_rfl) (by kernel_rfl) rfl rfl rfl (fl_move rfl) ?_
      refine WL_guard rfl rfl ?_
      refine WL_move rfl rfl ?_
      refine WL_nil ?_
      obtain ⟨x7, hx2, hr2⟩ := bind_some hr2
      refine WA.sub (l' := [(2, (ptr b1 0)), (3, (ptr b2 0)), (5, v1), (6, (.int .i64 x2)), (8, (.int .i64 x2)), (9, (ptr b1 1)), (10, u1), (11, (.int .i64 (List.length a1.2.1 : Int))), (12, (.bool (decide (x2 < (List.length a1.2.1 : Int))))), (15, (ptr b1 1)), (16, u1), (17, (.int .i64 x2)), (18, (ptr b4 o1)), (19, (.int .i64 x5)), (20, (ptr b2 1)), (21, u2), (22, (.int .i64 (List.length a2.2 : Int))), (23, (.int .i64 (w64 ((List.length a2.2 : Int) - 1)))), (24, (.bool x6)), (25, (.bool true)), (26, (ptr b2 1)), (28, (ptr b1 1)), (30, (.int .i64 x2))]) ?_ ⟨rfl, rfl, rfl, rfl, rfl, rfl, rfl, rfl, rfl, rfl, rfl, rfl, rfl, rfl, rfl, rfl, rfl, rfl, rfl, rfl, rfl, rfl, rfl, trivial⟩
      refine WA_postsE [⟨12, [], fun vs => PW.val u2, []⟩, ⟨14, [], fun vs => PW.val u1, []⟩, ⟨16, [], fun vs => PW.at [] w0 x7, []⟩, ⟨17, [], fun vs => PW.val (.int .i64 x7), []⟩] [[], [], [14], [16]] 4 rfl (by kernel_rfl) (by kernel_rfl) rfl ?_ ?_
      ·refine StepsE_cons rfl ?_ ?_
       ·intro w11 hB10
        refine DepsE_nil ?_
        refine ⟨_, rfl, ?_⟩
        refine WL_guard rfl rfl ?_
        refine WL_load_box (hC11.grow hB10) 1 rfl rfl Try.isAgg23 rfl rfl ?_
        refine WL_nil ?_
        exact FinE_val (Below.refl _ _) rfl rfl ⟨rfl, rfl⟩
       refine StepsE_cons rfl ?_ ?_
       ·intro w11 hB10
        refine DepsE_nil ?_
        refine ⟨_, rfl, ?_⟩
        refine WL_guard rfl rfl ?_
        refine WL_load_box (hC11.grow hB10) 2 rfl rfl Try.isAgg23 rfl rfl ?_
        refine WL_nil ?_
        exact FinE_val (Below.refl _ _) rfl rfl ⟨rfl, rfl⟩
       refine StepsE_cons rfl ?_ ?_
       ·intro w11 hB10
        refine DepsE_cons rfl rfl rfl ?_
        rintro _ _ ⟨rfl, rfl⟩ _
        refine DepsE_nil ?_
        refine ⟨_, rfl, ?_⟩
        refine WL_guard rfl rfl ?_
        refine WL_index Try.underlying23 ty3 g1 hx2 rfl rfl rfl (fun b5 o2 h3 => ?_)
        refine WL_nil ?_
        exact FinE_val (Below.refl _ _) rfl rfl ⟨rfl, _, _, rfl, h3⟩
       refine StepsE_cons rfl ?_ ?_
       ·intro w11 hB10
        refine DepsE_cons rfl rfl rfl ?_
        rintro _ _ ⟨rfl, b5, o2, rfl, h3⟩ _
        refine DepsE_nil ?_
        refine ⟨_, rfl, ?_⟩
        refine WL_guard rfl rfl ?_
        refine WL_load ty3 h3 (hC11.keep.then hB10) rfl rfl (fun v4 h4 => ?_)
        obtain rfl := ro_int h4
        refine WL_nil ?_
        exact FinE_val (Below.refl _ _) rfl rfl ⟨rfl, rfl⟩
       exact StepsE_nil
      intro w12 hB11
      refine AllE_cons rfl rfl rfl ?_
      rintro _ _ ⟨rfl, rfl⟩
      refine AllE_cons rfl rfl rfl ?_
      rintro _ _ ⟨rfl, rfl⟩
      refine AllE_cons rfl rfl rfl ?_
      rintro _ _ ⟨rfl, b5, o2, rfl, h3⟩
      refine AllE_cons rfl rfl rfl ?_
      rintro _ _ ⟨rfl, rfl⟩
      refine AllE_nil ?_
      intro hn2 hb2
      have hC12 := hC11.grow hB11
      obtain ⟨x8, hx3, hr2⟩ := bind_some hr2
      refine WA_takeG 18 rfl (by kernel_rfl) (by kernel_rfl) (by kernel_rfl) rfl rfl rfl (fl_index Try.underlying23 ty3 g2 hx3 rfl rfl) ?_
      refine WL_guard rfl rfl ?_
      refine WL_index Try.underlying23 ty3 g2 hx3 rfl rfl rfl (fun b6 o3 h5 => ?_)
      refine WL_nil ?_
      refine WA_one 19 (by kernel_rfl) rfl ?_
      refine WL_guard rfl rfl ?_
      refine WL_load ty3 h5 hC12.keep rfl rfl (fun v5 h6 => ?_)
      obtain rfl := ro_int h6
      refine WL_nil ?_
      obtain ⟨x9, hr4, hr2⟩ := bind_some hr2
      refine WA_one 20 (by kernel_rfl) rfl ?_
      refine WL_guard rfl rfl ?_
      refine WL_call Try.call24 rfl rfl (c_S_l1In x8 0 9 x9 hr4) ?_
      intro _ w13 hv2
      obtain ⟨rfl, hB12⟩ := res_bool hv2
      have hC13 := hC12.grow hB12
      refine WL_nil ?_
      refine WA_tk 21 (by kernel_rfl) rfl rfl (fl_pick_t rfl rfl) ?_
      refine WL_pick_t rfl rfl rfl ?_
      refine WL_nil ?_
      refine WA_done (by kernel_rfl) ?_
      have hq1 := Option.some.inj hr2
      subst hq1
      refine nrm_sub (l' := [(2, (ptr b1 0)), (3, (ptr b2 0)), (5, v1), (6, (.int .i64 x2)), (36, (.bool x9))]) ⟨rfl, rfl, rfl, rfl, rfl, trivial⟩ ?_
      exact ⟨x9, rfl, rfl, (((((Keep.of hB6).then hB8).then hB9).then hB11).then hB12).below, hC13⟩
     replace hr2 := ite_f hr2 hc2
     refine WA_sk 11 (by kernel_rfl) rfl rfl rfl rfl (by simp) rfl rfl ?_
     refine WA_sk 12 (by kernel_rfl) rfl rfl rfl rfl (by simp) rfl rfl ?_
     refine WA_sk 13 (by kernel_rfl) rfl rfl rfl rfl (by simp) rfl rfl ?_
     refine WA_sk 14 (by kernel_rfl) rfl rfl rfl rfl (by simp) rfl rfl ?_
     refine WA_sk 15 (by kernel_rfl) rfl rfl rfl rfl (by simp) rfl rfl ?_
     refine WA_sk 16 (by kernel_rfl) rfl rfl rfl rfl (by simp) rfl rfl ?_
     refine WA_sk 17 (by kernel_rfl) rfl rfl rfl rfl (by simp) rfl rfl ?_
     refine WA_sk 18 (by kernel_rfl) rfl rfl rfl rfl (by simp) rfl rfl ?_
     refine WA_sk 19 (by kernel_rfl) rfl rfl rfl rfl (by simp) rfl rfl ?_
     refine WA_sk 20 (by kernel_rfl) rfl rfl rfl rfl (by simp) rfl rfl ?_
     refine WA_tk 21 (by kernel_rfl) rfl rfl (fl_pick_f rfl rfl) ?_
     refine WL_pick_f rfl rfl rfl ?_
     refine WL_nil ?_
     refine WA_done (by kernel_rfl) ?_
     have hq2 := Option.some.inj hr2
     subst hq2
     refine nrm_sub (l' := [(2, (ptr b1 0)), (3, (ptr b2 0)), (5, v1), (6, (.int .i64 x2)), (36, (.bool false))]) ⟨rfl, rfl, rfl, rfl, rfl, trivial⟩ ?_
     exact ⟨false, rfl, rfl, (((Keep.of hB6).then hB8).then hB9).below, hC11⟩
    rintro _ w5 ⟨x4, rfl, rfl, hB5, hC8⟩
    try dsimp only at hL1
    obtain ⟨r3, hr5, hL1⟩ := bind_some hL1
    refine W_norm (fun l w => ∃ v6 : Value, ∃ x10 : (List Int), x10 = r3 ∧ l = [(2, (ptr b1 0)), (3, (ptr b2 0)), (5, v6), (6, (.int .i64 x2))] ∧ Ctx [] w0 w [Item.own v6 (x10 : (List Int)), Item.box b2 [(.int .i64 a2.1), u2], Item.box b1 [(.int .i64 a1.1), u1, (.int .i64 a1.2.2.1), (.int .i64 a1.2.2.2.1), (.int .i64 a1.2.2.2.2)]]) ?_ ?_
    ·refine W_cond rfl (fun hc3 => ?_) (fun hc3 => ?_)
     ·replace hr5 := ite_t hr5 hc3
      refine W_drawn 12 rfl hmix (fun w15 hB14 => ?_)
      have hC15 := hC8.grow hB14
      refine WA_tk 0 (by kernel_rfl) rfl rfl (fl_move rfl) ?_
      refine WL_move rfl rfl ?_
      refine WL_nil ?_
      refine WA_tk 1 (by kernel_rfl) rfl rfl (fl_field Try.underlying59 rfl rfl (fun w => ⟨_, Try.sizeOf23 w⟩) rfl) ?_
      refine WL_field Try.underlying59 rfl rfl (fun w => ⟨_, Try.sizeOf23 w⟩) rfl rfl ?_
      refine WL_nil ?_
      refine WA_tk 3 (by kernel_rfl) rfl rfl (fl_field Try.underlying57 rfl rfl (fun w => ⟨_, Try.sizeOf23 w⟩) rfl) ?_
      refine WL_field Try.underlying57 rfl rfl (fun w => ⟨_, Try.sizeOf23 w⟩) rfl rfl ?_
      refine WL_nil ?_
      refine WA_tk 5 (by kernel_rfl) rfl rfl (fl_move rfl) ?_
      refine WL_move rfl rfl ?_
      refine WL_nil ?_
      obtain ⟨x11, hx4, hr5⟩ := bind_some hr5
      refine WA.sub (l' := [(2, (ptr b1 0)), (3, (ptr b2 0)), (5, v1), (6, (.int .i64 x2)), (36, (.bool x4)), (37, v1), (38, (ptr b2 1)), (40, (ptr b1 1)), (42, (.int .i64 x2))]) ?_ ⟨rfl, rfl, rfl, rfl, rfl, rfl, rfl, rfl, rfl, trivial⟩
      refine WA_postsE [⟨2, [], fun vs => PW.val u2, []⟩, ⟨4, [], fun vs => PW.val u1, []⟩, ⟨6, [], fun vs => PW.at [] w0 x11, []⟩, ⟨7, [], fun vs => PW.val (.int .i64 x11), []⟩] [[], [], [4], [6]] 4 rfl (by kernel_rfl) (by kernel_rfl) rfl ?_ ?_
      ·refine StepsE_cons rfl ?_ ?_
       ·intro w16 hB15
        refine DepsE_nil ?_
        refine ⟨_, rfl, ?_⟩
        refine WL_load_box (hC15.grow hB15) 1 rfl rfl Try.isAgg23 rfl rfl ?_
        refine WL_nil ?_
        exact FinE_val (Below.refl _ _) rfl rfl ⟨rfl, rfl⟩
       refine StepsE_cons rfl ?_ ?_
       ·intro w16 hB15
        refine DepsE_nil ?_
        refine ⟨_, rfl, ?_⟩
        refine WL_load_box (hC15.grow hB15) 2 rfl rfl Try.isAgg23 rfl rfl ?_
        refine WL_nil ?_
        exact FinE_val (Below.refl _ _) rfl rfl ⟨rfl, rfl⟩
       refine StepsE_cons rfl ?_ ?_
       ·intro w16 hB15
        refine DepsE_cons rfl rfl rfl ?_
        rintro _ _ ⟨rfl, rfl⟩ _
        refine DepsE_nil ?_
        refine ⟨_, rfl, ?_⟩
        refine WL_index Try.underlying23 ty3 g1 hx4 rfl rfl rfl (fun b7 o4 h7 => ?_)
        refine WL_nil ?_
        exact FinE_val (Below.refl _ _) rfl rfl ⟨rfl, _, _, rfl, h7⟩
       refine StepsE_cons rfl ?_ ?_
       ·intro w16 hB15
        refine DepsE_cons rfl rfl rfl ?_
        rintro _ _ ⟨rfl, b7, o4, rfl, h7⟩ _
        refine DepsE_nil ?_
        refine ⟨_, rfl, ?_⟩
        refine WL_load ty3 h7 (hC15.keep.then hB15) rfl rfl (fun v7 h8 => ?_)
        obtain rfl := ro_int h8
        refine WL_nil ?_
        exact FinE_val (Below.refl _ _) rfl rfl ⟨rfl, rfl⟩
       exact StepsE_nil
      intro w17 hB16
      refine AllE_cons rfl rfl rfl ?_
      rintro _ _ ⟨rfl, rfl⟩
      refine AllE_cons rfl rfl rfl ?_
      rintro _ _ ⟨rfl, rfl⟩
      refine AllE_cons rfl rfl rfl ?_
      rintro _ _ ⟨rfl, b7, o4, rfl, h7⟩
      refine AllE_cons rfl rfl rfl ?_
      rintro _ _ ⟨rfl, rfl⟩
      refine AllE_nil ?_
      intro hn3 hb3
      have hC16 := hC15.grow hB16
      obtain ⟨x12, hx5, hr5⟩ := bind_some hr5
      refine WA_tk 8 (by kernel_rfl) rfl rfl (fl_index Try.underlying23 ty3 g2 hx5 rfl rfl) ?_
      refine WL_index Try.underlying23 ty3 g2 hx5 rfl rfl rfl (fun b8 o5 h9 => ?_)
      refine WL_nil ?_
      refine WA_one 9 (by kernel_rfl) rfl ?_
      refine WL_load ty3 h9 hC16.keep rfl rfl (fun v8 h10 => ?_)
      obtain rfl := ro_int h10
      refine WL_nil ?_
      obtain ⟨x13, hr6, hr5⟩ := bind_some hr5
      refine WA_one 10 (by kernel_rfl) rfl ?_
      obtain ⟨Fs1, hH1, hn4, hF1, hO1, hb4⟩ := Ctx.lend2 (As := [Item.box b2 [(.int .i64 a2.1), u2], Item.box b1 [(.int .i64 a1.1), u1, (.int .i64 a1.2.2.1), (.int .i64 a1.2.2.2.1), (.int .i64 a1.2.2.2.2)]]) [Item.own v1 (x1 : (List Int))] hC16
      refine WL_call Try.call26 rfl rfl (c_S_l3Put_own x1 v1 x12 hH1 hn4 x13 hr6) ?_
      rintro v9 w18 ⟨_, rfl, hq3⟩
      have hC18 : Ctx [] w0 w18 [Item.own v9 (x13 : (List Int)), Item.box b2 [(.int .i64 a2.1), u2], Item.box b1 [(.int .i64 a1.1), u1, (.int .i64 a1.2.2.1), (.int .i64 a1.2.2.2.1), (.int .i64 a1.2.2.2.2)]] := hb4 _ _ hq3
      refine WL_nil ?_
      refine WA_tk 11 (by kernel_rfl) rfl rfl (fl_assign rfl) ?_
      refine WL_assign rfl rfl ?_
      refine WL_nil ?_
      refine WA_done (by kernel_rfl) ?_
      have hq4 := Option.some.inj hr5
      subst hq4
      refine nrm_sub (l' := [(2, (ptr b1 0)), (3, (ptr b2 0)), (5, v9), (6, (.int .i64 x2))]) ⟨rfl, rfl, rfl, rfl, trivial⟩ ?_
      exact ⟨v9, x13, rfl, rfl, hC18⟩
     replace hr5 := ite_f hr5 hc3
     refine W_skip ?_
     have hq5 := Option.some.inj hr5
     subst hq5
     refine nrm_sub (l' := [(2, (ptr b1 0)), (3, (ptr b2 0)), (5, v1), (6, (.int .i64 x2))]) ⟨rfl, rfl, rfl, rfl, trivial⟩ ?_
     exact ⟨v1, x1, rfl, rfl, hC8⟩
    rintro l3 _ w14 hs3 ⟨v6, x10, rfl, rfl, hC14⟩
    try dsimp only at hL1
    refine blk_normal ?_
    refine nrm_sub' hs3 ?_
    clear hs3
    refine W_reg ?_
    refine WL_move rfl rfl ?_
    refine WL_add rfl rfl rfl ?_
    refine WL_assign rfl rfl ?_
    refine WL_nil ?_
    refine nrm_sub (l' := [(2, (ptr b1 0)), (3, (ptr b2 0)), (5, v6), (6, (.int .i64 (w64 (x2 + 1))))]) ⟨rfl, rfl, rfl, rfl, trivial⟩ ?_
    exact ⟨k1, Nat.lt_succ_self _, v6, x10, w64 (x2 + 1), rfl, hC14, hL1⟩
   replace hL1 := ite_f hL1 hc1
   refine W_exit (nrm_exit (nrm_exit (blk_exit ?_)))
   have hq6 := Option.some.inj hL1
   subst hq6
   have hC19 := hC7.h1
   refine nrm_sub (l' := [(5, v1)]) ⟨rfl, trivial⟩ ?_
   exact ⟨v1, x1, rfl, rfl, hC19⟩
 rintro l4 _ w19 hs4 ⟨v2, x3, rfl, rfl, hC20⟩
 try dsimp only at hF
 refine nrm_sub' hs4 ?_
 clear hs4
 refine W_seq_reg ?_
 refine WL_move rfl rfl ?_
 refine WL_assign rfl rfl ?_
 refine WL_nil (W_ret ?_)
 have hq7 := Option.some.inj hF
 subst hq7
 refine fn_ret1 rfl rfl ?_
 exact ⟨_, rfl, own_res hC20 0 rfl⟩

theorem c_S_Disclosed {w0 : World} (a1 : (List (Int × (List Int) × Int × Int × Int))) (u1 : Value) (g1 : RO [] w0 u1 a1) (a2 : ((List Int) × (List (Int × (List Int))))) (u2 : Value) (g2 : RO [] w0 u2 a2.1) (u3 : Value) (g3 : RO [] w0 u3 a2.2) (a3 : (List (Int × Int))) (u4 : Value) (g4 : RO [] w0 u4 a3) (rr : (List Int)) (hF : S.Disclosed a1 a2 a3 = some rr) :
 Calls Try.prog 7 [u1, (.agg #[u2, u3]), u4].toArray w0 fun e w' => ∃ v, e = .returned v ∧ Res w0 rr v w' := by
 refine calls_of_W Try.func7 rfl rfl ?_
 have hC0 := Ctx.start w0
 unfold S.Disclosed at hF
 refine W_seq_reg ?_
 refine WL_boxK (cs := [u2, u3]) hC0 rfl rfl rfl (fun b1 w1 hC1 hB1 hN1 => ?_)
 refine WL_assign rfl rfl ?_
 refine WL_nil (W_seq_reg ?_)
 refine WL_buildSlice (vs := []) hC1 Try.underlying23 ty3 rfl rfl rfl rfl (by simp) rfl rfl (fun b2 w2 hC2 hB2 => ?_)
 have hC3 := hC2.row0 (α := Int)
 have hC4 := hC3.front 1 rfl
 dsimp only [List.eraseIdx, List.cons_append, List.nil_append, List.append_nil] at hC4
 have hC5 : Ctx [] w0 w2 (Item.own (.slice (some ⟨b2, 0, none⟩) 0 0) (([] : List Int) : List Int) :: [Item.box b1 [u2, u3]]) := hC4.rowOwn (by simp [maxLen])
 refine WL_assign rfl rfl ?_
 refine WL_nil (W_seq (W_seq_reg ?_))
 refine WL_assign rfl rfl ?_
 refine WL_nil ?_
 obtain ⟨r1, hr1, hF⟩ := bind_some hF
 refine W_norm (fun l w => ∃ v2 : Value, ∃ x3 : (List Int), x3 = r1 ∧ l = [(7, v2)] ∧ Ctx [] w0 w [Item.own v2 (x3 : (List Int))]) ?_ ?_
 ·refine W_block ?_
  refine W.sub (l' := [(0, u1), (2, u4), (4, (ptr b1 0)), (7, (.slice (some ⟨b2, 0, none⟩) 0 0)), (8, (.int .i64 0))]) ?_ ⟨rfl, rfl, rfl, rfl, rfl, trivial⟩
  refine W_loop (fun k l w => ∃ v1 : Value, ∃ x1 : (List Int), ∃ x2 : Int, l = [(0, u1), (2, u4), (4, (ptr b1 0)), (7, v1), (8, (.int .i64 x2))] ∧ Ctx [] w0 w [Item.own v1 (x1 : (List Int)), Item.box b1 [u2, u3]] ∧ S.Disclosed_l1 a3 a2 a1 k x1 x2 = some r1) FUEL ⟨(.slice (some ⟨b2, 0, none⟩) 0 0), ([] : List Int), 0, rfl, hC5, hr1⟩ ?_
  clear hr1
  rintro k1 _ w3 ⟨v1, x1, x2, rfl, hC6, hL1⟩
  cases k1 with
  | zero => rw [S.Disclosed_l1] at hL1; cases hL1
  | succ k1 =>
   rw [S.Disclosed_l1] at hL1
   refine W_seq (W_seq_reg ?_)
   refine WL_move rfl rfl ?_
   refine WL_move rfl rfl ?_
   refine WL_len Try.underlying38 g4 rfl rfl ?_
   refine WL_lss rfl rfl rfl ?_
   refine WL_nil ?_
   refine W_cond rfl (fun hc1 => ?_) (fun hc1 => ?_)
   ·replace hL1 := ite_t hL1 hc1
    refine W_skip (nrm_normal (W_seq (W_block (W_seq ?_))))
    obtain ⟨r2, hr2, hL1⟩ := bind_some hL1
    refine W_cut (fun l w => ∃ x4 : Bool, x4 = r2 ∧ l = [(0, u1), (2, u4), (4, (ptr b1 0)), (7, v1), (8, (.int .i64 x2)), (40, (.bool x4))] ∧ Below w3.heap.size w3 w ∧ Ctx [] w0 w [Item.own v1 (x1 : (List Int)), Item.box b1 [u2, u3]]) ?_ ?_
    ·refine W_drawn 23 rfl hmix (fun w5 hB5 => ?_)
     have hC8 := hC6.grow hB5
     refine WA_tk 0 (by kernel_rfl) rfl rfl (fl_move rfl) ?_
     refine WL_move rfl rfl ?_
     refine WL_nil ?_
     refine WA_tk 1 (by kernel_rfl) rfl rfl (fl_move rfl) ?_
     refine WL_move rfl rfl ?_
     refine WL_nil ?_
     obtain ⟨x5, hx1, hr2⟩ := bind_some hr2
     refine WA_tk 2 (by kernel_rfl) rfl rfl (fl_index Try.underlying38 ty55 g4 hx1 rfl rfl) ?_
     refine WL_index Try.underlying38 ty55 g4 hx1 rfl rfl rfl (fun b3 o1 h1 => ?_)
     refine WL_nil ?_
     refine WA_tk 3 (by kernel_rfl) rfl rfl (fl_field Try.underlying55 rfl rfl (fun w => ⟨_, Try.sizeOf3 w⟩) rfl) ?_
     refine WL_field Try.underlying55 rfl rfl (fun w => ⟨_, Try.sizeOf3 w⟩) rfl rfl ?_
     refine WL_nil ?_
     refine WA_tk 5 (by kernel_rfl) rfl rfl (fl_field Try.underlying36 rfl rfl (fun w => ⟨_, Try.sizeOf34 w⟩) rfl) ?_
     refine WL_field Try.underlying36 rfl rfl (fun w => ⟨_, Try.sizeOf34 w⟩) rfl rfl ?_
     refine WL_nil ?_
     refine WA.sub (l' := [(0, u1), (2, u4), (4, (ptr b1 0)), (7, v1), (8, (.int .i64 x2)), (12, (.int .i64 x2)), (13, u4), (14, (.int .i64 (List.length a3 : Int))), (15, (.bool (decide (x2 < (List.length a3 : Int))))), (18, u4), (19, (.int .i64 x2)), (20, (ptr b3 o1)), (21, (ptr b3 (o1 + 0))), (23, (ptr b1 1))]) ?_ ⟨rfl, rfl, rfl, rfl, rfl, rfl, rfl, rfl, rfl, rfl, rfl, rfl, rfl, rfl, trivial⟩
     refine WA_postsE [⟨4, [], fun vs => PW.val (.int .i64 x5.1), []⟩, ⟨6, [], fun vs => PW.val u3, []⟩, ⟨7, [], fun vs => PW.val (.int .i64 (List.length a2.2 : Int)), []⟩, ⟨8, [], fun vs => PW.val (.int .i64 (w64 ((List.length a2.2 : Int) - 1))), []⟩] [[], [], [6], [7]] 14 rfl (by kernel_rfl) (by kernel_rfl) rfl ?_ ?_
     ·refine StepsE_cons rfl ?_ ?_
      ·intro w6 hB6
       refine DepsE_nil ?_
       refine ⟨_, rfl, ?_⟩
       refine WL_load ty3 h1.fst (hC8.keep.then hB6) rfl rfl (fun v3 h2 => ?_)
       obtain rfl := ro_int h2
       refine WL_nil ?_
       exact FinE_val (Below.refl _ _) rfl rfl ⟨rfl, rfl⟩
      refine StepsE_cons rfl ?_ ?_
      ·intro w6 hB6
       refine DepsE_nil ?_
       refine ⟨_, rfl, ?_⟩
       refine WL_load_box (hC8.grow hB6) 1 rfl rfl Try.isAgg34 rfl rfl ?_
       refine WL_nil ?_
       exact FinE_val (Below.refl _ _) rfl rfl ⟨rfl, rfl⟩
      refine StepsE_cons rfl ?_ ?_
      ·intro w6 hB6
       refine DepsE_cons rfl rfl rfl ?_
       rintro _ _ ⟨rfl, rfl⟩ _
       refine DepsE_nil ?_
       refine ⟨_, rfl, ?_⟩
       refine WL_len Try.underlying34 g3 rfl rfl ?_
       refine WL_nil ?_
       exact FinE_val (Below.refl _ _) rfl rfl ⟨rfl, rfl⟩
      refine StepsE_cons rfl ?_ ?_
      ·intro w6 hB6
       refine DepsE_cons rfl rfl rfl ?_
       rintro _ _ ⟨rfl, rfl⟩ _
       refine DepsE_nil ?_
       refine ⟨_, rfl, ?_⟩
       refine WL_sub rfl rfl rfl ?_
       refine WL_nil ?_
       exact FinE_val (Below.refl _ _) rfl rfl ⟨rfl, rfl⟩
      exact StepsE_nil
     intro w7 hB7
     refine AllE_cons rfl rfl rfl ?_
     rintro _ _ ⟨rfl, rfl⟩
     refine AllE_cons rfl rfl rfl ?_
     rintro _ _ ⟨rfl, rfl⟩
     refine AllE_cons rfl rfl rfl ?_
     rintro _ _ ⟨rfl, rfl⟩
     refine AllE_cons rfl rfl rfl ?_
     rintro _ _ ⟨rfl, rfl⟩
     refine AllE_nil ?_
     intro hn1 hb1
     have hC9 := hC8.grow hB7
     obtain ⟨x6, hr3, hr2⟩ := bind_some hr2
     refine WA_one 9 (by kernel_rfl) rfl ?_
     refine WL_call Try.call24 rfl rfl (c_S_l1In x5.1 0 (w64 ((List.length a2.2 : Int) - 1)) x6 hr3) ?_
     intro _ w9 hv1
     obtain ⟨rfl, hB8⟩ := res_bool hv1
     have hC10 := hC9.grow hB8
     refine WL_nil ?_
     refine WA_tk 10 (by kernel_rfl) rfl rfl (fl_not rfl) ?_
     refine WL_not rfl rfl ?_
     refine WL_nil ?_
     refine WA_tk 11 (by kernel_rfl) rfl rfl (fl_move rfl) ?_
     refine WL_move rfl rfl ?_
     refine WL_nil ?_
     refine WA_fork (fun hc2 => ?_) (fun hc2 => ?_)
     ·replace hr2 := ite_t hr2 hc2
      refine WA_sk 12 (by kernel_rfl) rfl rfl rfl rfl (by simp) rfl rfl ?_
      refine WA_sk 13 (by kernel_rfl) rfl rfl rfl rfl (by simp) rfl rfl ?_
      refine WA_sk 14 (by kernel_rfl) rfl rfl rfl rfl (by simp) rfl rfl ?_
      refine WA_sk 15 (by kernel_rfl) rfl rfl rfl rfl (by simp) rfl rfl ?_
      refine WA_sk 16 (by kernel_rfl) rfl rfl rfl rfl (by simp) rfl rfl ?_
      refine WA_sk 17 (by kernel_rfl) rfl rfl rfl rfl (by simp) rfl rfl ?_
      refine WA_sk 18 (by kernel_rfl) rfl rfl rfl rfl (by simp) rfl rfl ?_
      refine WA_sk 19 (by kernel_rfl) rfl rfl rfl rfl (by simp) rfl rfl ?_
      refine WA_sk 20 (by kernel_rfl) rfl rfl rfl rfl (by simp) rfl rfl ?_
      refine WA_sk 21 (by kernel_rfl) rfl rfl rfl rfl (by simp) rfl rfl ?_
      refine WA_tk 22 (by kernel_rfl) rfl rfl (fl_pick_t rfl rfl) ?_
      refine WL_pick_t rfl rfl rfl ?_
      refine WL_nil ?_
      refine WA_done (by kernel_rfl) ?_
      have hq1 := Option.some.inj hr2
      subst hq1
      refine nrm_sub (l' := [(0, u1), (2, u4), (4, (ptr b1 0)), (7, v1), (8, (.int .i64 x2)), (40, (.bool true))]) ⟨rfl, rfl, rfl, rfl, rfl, rfl, trivial⟩ ?_
      exact ⟨true, rfl, rfl, (((Keep.of hB5).then hB7).then hB8).below, hC10⟩
     replace hr2 := ite_f hr2 hc2
     refine WA_takeG 12 rfl (by kernel_rfl) (by kernel_rfl) (by kernel_rfl) rfl rfl rfl (fl_move rfl) ?_
     refine WL_guard rfl rfl ?_
     refine WL_move rfl rfl ?_
     refine WL_nil ?_
     refine WA_takeG 13 rfl (by kernel_rfl) (by kernel_rfl) (by kernel_rfl) rfl rfl rfl (fl_move rfl) ?_
     refine WL_guard rfl rfl ?_
     refine WL_move rfl rfl ?_
     refine WL_nil ?_
     obtain ⟨x7, hx2, hr2⟩ := bind_some hr2
     refine WA_takeG 14 rfl (by kernel_rfl) (by kernel_rfl) (by kernel_rfl) rfl rfl rfl (fl_index Try.underlying38 ty55 g4 hx2 rfl rfl) ?_
     refine WL_guard rfl rfl ?_
     refine WL_index Try.underlying38 ty55 g4 hx2 rfl rfl rfl (fun b4 o2 h3 => ?_)
     refine WL_nil ?_
     refine WA_takeG 15 rfl (by kernel_rfl) (by kernel_rfl) (by kernel_rfl) rfl rfl rfl (fl_field Try.underlying55 rfl rfl (fun w => ⟨_, Try.sizeOf3 w⟩) rfl) ?_
     refine WL_guard rfl rfl ?_
     refine WL_field Try.underlying55 rfl rfl (fun w => ⟨_, Try.sizeOf3 w⟩) rfl rfl ?_
     refine WL_nil ?_
     refine WA_takeG 17 rfl (by kernel_rfl) (by kernel_rfl) (by kernel_rfl) rfl rfl rfl (fl_move rfl) ?_
     refine WL_guard rfl rfl ?_
     refine WL_move rfl rfl ?_
     refine WL_nil ?_
     refine WA_takeG 18 rfl (by kernel_rfl) (by kernel_rfl) (by kernel_rfl) rfl rfl rfl (fl_len Try.underlying32 g1 rfl) ?_
     refine WL_guard rfl rfl ?_
     refine WL_len Try.underlying32 g1 rfl rfl ?_
     refine WL_nil ?_
     refine WA_takeG 19 rfl (by kernel_rfl) (by kernel_rfl) (by kernel_rfl) rfl rfl rfl (fl_sub rfl rfl) ?_
     refine WL_guard rfl rfl ?_
     refine WL_sub rfl rfl rfl ?_
     refine WL_nil ?_
     refine WA_one 16 (by kernel_rfl) rfl ?_
     refine WL_guard rfl rfl ?_
     refine WL_load ty3 h3.snd hC10.keep rfl rfl (fun v4 h4 => ?_)
     obtain rfl := ro_int h4
     refine WL_nil ?_
     obtain ⟨x8, hr4, hr2⟩ := bind_some hr2
     refine WA_one 20 (by kernel_rfl) rfl ?_
     refine WL_guard rfl rfl ?_
     refine WL_call Try.call24 rfl rfl (c_S_l1In x7.2 0 (w64 ((List.length a1 : Int) - 1)) x8 hr4) ?_
     intro _ w10 hv2
     obtain ⟨rfl, hB9⟩ := res_bool hv2
     have hC11 := hC10.grow hB9
     refine WL_nil ?_
     refine WA_takeG 21 rfl (by kernel_rfl) (by kernel_rfl) (by kernel_rfl) rfl rfl rfl (fl_not rfl) ?_
     refine WL_guard rfl rfl ?_
     refine WL_not rfl rfl ?_
     refine WL_nil ?_
     refine WA_tk 22 (by kernel_rfl) rfl rfl (fl_pick_f rfl rfl) ?_
     refine WL_pick_f rfl rfl rfl ?_
     refine WL_nil ?_
     refine WA_done (by kernel_rfl) ?_
     have hq2 := Option.some.inj hr2
     subst hq2
     refine nrm_sub (l' := [(0, u1), (2, u4), (4, (ptr b1 0)), (7, v1), (8, (.int .i64 x2)), (40, (.bool (!x8)))]) ⟨rfl, rfl, rfl, rfl, rfl, rfl, trivial⟩ ?_
     exact ⟨(!x8), rfl, rfl, ((((Keep.of hB5).then hB7).then hB8).then hB9).below, hC11⟩
    rintro _ w4 ⟨x4, rfl, rfl, hB4, hC7⟩
    try dsimp only at hL1
    refine W_cond rfl (fun hc3 => ?_) (fun hc3 => ?_)
    ·replace hL1 := ite_t hL1 hc3
     refine W_exit (nrm_exit (blk_exit (nrm_normal (W_reg ?_))))
     refine WL_move rfl rfl ?_
     refine WL_add rfl rfl rfl ?_
     refine WL_assign rfl rfl ?_
     refine WL_nil ?_
     refine nrm_sub (l' := [(0, u1), (2, u4), (4, (ptr b1 0)), (7, v1), (8, (.int .i64 (w64 (x2 + 1))))]) ⟨rfl, rfl, rfl, rfl, rfl, trivial⟩ ?_
     exact ⟨k1, Nat.lt_succ_self _, v1, x1, w64 (x2 + 1), rfl, hC7, hL1⟩
    replace hL1 := ite_f hL1 hc3
    refine W_skip (nrm_normal (W_seq ?_))
    refine W_drawn 19 rfl hmix (fun w11 hB10 => ?_)
    have hC12 := hC7.grow hB10
    refine WA_tk 0 (by kernel_rfl) rfl rfl (fl_move rfl) ?_
    refine WL_move rfl rfl ?_
    refine WL_nil ?_
    refine WA_tk 1 (by kernel_rfl) rfl rfl (fl_move rfl) ?_
    refine WL_move rfl rfl ?_
    refine WL_nil ?_
    refine WA_tk 2 (by kernel_rfl) rfl rfl (fl_move rfl) ?_
    refine WL_move rfl rfl ?_
    refine WL_nil ?_
    obtain ⟨x9, hx3, hL1⟩ := bind_some hL1
    refine WA_tk 3 (by kernel_rfl) rfl rfl (fl_index Try.underlying38 ty55 g4 hx3 rfl rfl) ?_
    refine WL_index Try.underlying38 ty55 g4 hx3 rfl rfl rfl (fun b5 o3 h5 => ?_)
    refine WL_nil ?_
    refine WA_tk 4 (by kernel_rfl) rfl rfl (fl_field Try.underlying55 rfl rfl (fun w => ⟨_, Try.sizeOf3 w⟩) rfl) ?_
    refine WL_field Try.underlying55 rfl rfl (fun w => ⟨_, Try.sizeOf3 w⟩) rfl rfl ?_
    refine WL_nil ?_
    refine WA_tk 8 (by kernel_rfl) rfl rfl (fl_field Try.underlying36 rfl rfl (fun w => ⟨_, Try.sizeOf34 w⟩) rfl) ?_
    refine WL_field Try.underlying36 rfl rfl (fun w => ⟨_, Try.sizeOf34 w⟩) rfl rfl ?_
    refine WL_nil ?_
    refine WA_tk 10 (by kernel_rfl) rfl rfl (fl_move rfl) ?_
    refine WL_move rfl rfl ?_
    refine WL_nil ?_
    refine WA_tk 11 (by kernel_rfl) rfl rfl (fl_move rfl) ?_
    refine WL_move rfl rfl ?_
    refine WL_nil ?_
    obtain ⟨x10, hx4, hL1⟩ := bind_some hL1
    refine WA_tk 12 (by kernel_rfl) rfl rfl (fl_index Try.underlying38 ty55 g4 hx4 rfl rfl) ?_
    refine WL_index Try.underlying38 ty55 g4 hx4 rfl rfl rfl (fun b6 o4 h6 => ?_)
    refine WL_nil ?_
    refine WA_tk 13 (by kernel_rfl) rfl rfl (fl_field Try.underlying55 rfl rfl (fun w => ⟨_, Try.sizeOf3 w⟩) rfl) ?_
    refine WL_field Try.underlying55 rfl rfl (fun w => ⟨_, Try.sizeOf3 w⟩) rfl rfl ?_
    refine WL_nil ?_
    obtain ⟨x11, hx5, hL1⟩ := bind_some hL1
    obtain ⟨x12, hx6, hL1⟩ := bind_some hL1
    refine WA.sub (l' := [(0, u1), (2, u4), (4, (ptr b1 0)), (7, v1), (8, (.int .i64 x2)), (40, (.bool x4)), (41, u1), (42, u4), (43, (.int .i64 x2)), (44, (ptr b5 o3)), (45, (ptr b5 (o3 + 1))), (49, (ptr b1 1)), (51, u4), (52, (.int .i64 x2)), (53, (ptr b6 o4)), (54, (ptr b6 (o4 + 0)))]) ?_ ⟨rfl, rfl, rfl, rfl, rfl, rfl, rfl, rfl, rfl, rfl, rfl, rfl, rfl, rfl, rfl, rfl, trivial⟩
    refine WA_postsE [⟨5, [], fun vs => PW.val (.int .i64 x9.2), []⟩, ⟨6, [], fun vs => PW.at [] w0 x11, []⟩, ⟨7, [], fun vs => PW.ro [] w0 x11, []⟩, ⟨9, [], fun vs => PW.val u3, []⟩, ⟨14, [], fun vs => PW.val (.int .i64 x10.1), []⟩, ⟨15, [], fun vs => PW.at [] w0 x12, []⟩, ⟨16, [], fun vs => PW.ro [] w0 x12, []⟩] [[], [5], [6], [], [], [9, 14], [15]] 2 rfl (by kernel_rfl) (by kernel_rfl) rfl ?_ ?_
    ·refine StepsE_cons rfl ?_ ?_
     ·intro w12 hB11
      refine DepsE_nil ?_
      refine ⟨_, rfl, ?_⟩
      refine WL_load ty3 h5.snd (hC12.keep.then hB11) rfl rfl (fun v5 h7 => ?_)
      obtain rfl := ro_int h7
      refine WL_nil ?_
      exact FinE_val (Below.refl _ _) rfl rfl ⟨rfl, rfl⟩
     refine StepsE_cons rfl ?_ ?_
     ·intro w12 hB11
      refine DepsE_cons rfl rfl rfl ?_
      rintro _ _ ⟨rfl, rfl⟩ _
      refine DepsE_nil ?_
      refine ⟨_, rfl, ?_⟩
      refine WL_index Try.underlying32 ty57 g1 hx5 rfl rfl rfl (fun b7 o5 h8 => ?_)
      refine WL_nil ?_
      exact FinE_val (Below.refl _ _) rfl rfl ⟨rfl, _, _, rfl, h8⟩
     refine StepsE_cons rfl ?_ ?_
     ·intro w12 hB11
      refine DepsE_cons rfl rfl rfl ?_
      rintro _ _ ⟨rfl, b7, o5, rfl, h8⟩ _
      refine DepsE_nil ?_
      refine ⟨_, rfl, ?_⟩
      refine WL_load ty57 h8 (hC12.keep.then hB11) rfl rfl (fun v8 h11 => ?_)
      refine WL_nil ?_
      exact FinE_val (Below.refl _ _) rfl rfl ⟨rfl, h11⟩
     refine StepsE_cons rfl ?_ ?_
     ·intro w12 hB11
      refine DepsE_nil ?_
      refine ⟨_, rfl, ?_⟩
      refine WL_load_box (hC12.grow hB11) 1 rfl rfl Try.isAgg34 rfl rfl ?_
      refine WL_nil ?_
      exact FinE_val (Below.refl _ _) rfl rfl ⟨rfl, rfl⟩
     refine StepsE_cons rfl ?_ ?_
     ·intro w12 hB11
      refine DepsE_nil ?_
      refine ⟨_, rfl, ?_⟩
      refine WL_load ty3 h6.fst (hC12.keep.then hB11) rfl rfl (fun v9 h12 => ?_)
      obtain rfl := ro_int h12
      refine WL_nil ?_
      exact FinE_val (Below.refl _ _) rfl rfl ⟨rfl, rfl⟩
     refine StepsE_cons rfl ?_ ?_
     ·intro w12 hB11
      refine DepsE_cons rfl rfl rfl ?_
      rintro _ _ ⟨rfl, rfl⟩ _
      refine DepsE_cons rfl rfl rfl ?_
      rintro _ _ ⟨rfl, rfl⟩ _
      refine DepsE_nil ?_
      refine ⟨_, rfl, ?_⟩
      refine WL_index Try.underlying34 ty59 g3 hx6 rfl rfl rfl (fun b8 o6 h13 => ?_)
      refine WL_nil ?_
      exact FinE_val (Below.refl _ _) rfl rfl ⟨rfl, _, _, rfl, h13⟩
     refine StepsE_cons rfl ?_ ?_
     ·intro w12 hB11
      refine DepsE_cons rfl rfl rfl ?_
      rintro _ _ ⟨rfl, b8, o6, rfl, h13⟩ _
      refine DepsE_nil ?_
      refine ⟨_, rfl, ?_⟩
      refine WL_load ty59 h13 (hC12.keep.then hB11) rfl rfl (fun v12 h16 => ?_)
      refine WL_nil ?_
      exact FinE_val (Below.refl _ _) rfl rfl ⟨rfl, h16⟩
     exact StepsE_nil
    intro w13 hB12
    refine AllE_cons rfl rfl rfl ?_
    rintro _ _ ⟨rfl, rfl⟩
    refine AllE_cons rfl rfl rfl ?_
    rintro _ _ ⟨rfl, b7, o5, rfl, h8⟩
    refine AllE_cons rfl rfl rfl ?_
    rintro v8 _ ⟨rfl, h11⟩
    obtain ⟨v7, rfl, h10⟩ := ro_st57 h11
    refine AllE_cons rfl rfl rfl ?_
    rintro _ _ ⟨rfl, rfl⟩
    refine AllE_cons rfl rfl rfl ?_
    rintro _ _ ⟨rfl, rfl⟩
    refine AllE_cons rfl rfl rfl ?_
    rintro _ _ ⟨rfl, b8, o6, rfl, h13⟩
    refine AllE_cons rfl rfl rfl ?_
    rintro v12 _ ⟨rfl, h16⟩
    obtain ⟨v11, rfl, h15⟩ := ro_st59 h16
    refine AllE_nil ?_
    intro hn2 hb2
    have hC13 := hC12.grow hB12
    obtain ⟨x13, hr5, hL1⟩ := bind_some hL1
    refine WA_one 17 (by kernel_rfl) rfl ?_
    refine WL_call Try.call25 rfl rfl (c_S_l30Passed x11 v7 (h10.now hC13.keep) x12 v11 (h15.now hC13.keep) x13 hr5) ?_
    rintro v13 w14 ⟨hB13, F1, hv3, hn3, hb3⟩
    have hC14 := hC13.push hB13 (A := Item.own v13 x13) hv3 hn3 hb3
    refine WL_nil ?_
    refine WA_tk 18 (by kernel_rfl) rfl rfl (fl_assign rfl) ?_
    refine WL_assign rfl rfl ?_
    refine WL_nil ?_
    refine WA_done (by kernel_rfl) ?_
    refine nrm_normal (W_seq_reg ?_)
    refine WL_assign rfl rfl ?_
    refine WL_nil ?_
    obtain ⟨r3, hr6, hL1⟩ := bind_some hL1
    refine W_norm (fun l w => ∃ v15 : Value, ∃ x16 : (List Int), x16 = r3 ∧ l = [(0, u1), (2, u4), (4, (ptr b1 0)), (7, v15), (8, (.int .i64 x2))] ∧ Ctx [] w0 w [Item.own v15 (x16 : (List Int)), Item.box b1 [u2, u3]]) ?_ ?_
    ·refine W_block ?_
     refine W.sub (l' := [(0, u1), (2, u4), (4, (ptr b1 0)), (7, v1), (8, (.int .i64 x2)), (9, v13), (10, (.int .i64 0))]) ?_ ⟨rfl, rfl, rfl, rfl, rfl, rfl, rfl, trivial⟩
     refine W_loop (fun k l w => ∃ v14 : Value, ∃ x14 : (List Int), ∃ x15 : Int, l = [(0, u1), (2, u4), (4, (ptr b1 0)), (7, v14), (8, (.int .i64 x2)), (9, v13), (10, (.int .i64 x15))] ∧ Ctx [] w0 w [Item.own v13 (x13 : (List Int)), Item.own v14 (x14 : (List Int)), Item.box b1 [u2, u3]] ∧ S.Disclosed_l2 x13 k x14 x15 = some r3) FUEL ⟨v1, x1, 0, rfl, hC14, hr6⟩ ?_
     clear hr6
     rintro k2 _ w15 ⟨v14, x14, x15, rfl, hC15, hL2⟩
     cases k2 with
     | zero => rw [S.Disclosed_l2] at hL2; cases hL2
     | succ k2 =>
      rw [S.Disclosed_l2] at hL2
      refine W_seq (W_seq_reg ?_)
      refine WL_move rfl rfl ?_
      refine WL_move rfl rfl ?_
      refine WL_len Try.underlying23 (hC15.ro 0 rfl) rfl rfl ?_
      refine WL_lss rfl rfl rfl ?_
      refine WL_nil ?_
      refine W_cond rfl (fun hc4 => ?_) (fun hc4 => ?_)
      ·replace hL2 := ite_t hL2 hc4
       refine W_skip (nrm_normal (W_seq (W_block (W_reg ?_))))
       refine WL_move rfl rfl ?_
       refine WL_move rfl rfl ?_
       refine WL_move rfl rfl ?_
       obtain ⟨x17, hx7, hL2⟩ := bind_some hL2
       refine WL_index Try.underlying23 ty3 (hC15.ro 0 rfl) hx7 rfl rfl rfl (fun b9 o7 h17 => ?_)
       refine WL_load ty3 h17 (Keep.refl _ _) rfl rfl (fun v16 h18 => ?_)
       obtain rfl := ro_int h18
       obtain ⟨x18, hr7, hL2⟩ := bind_some hL2
       have hC16 := hC15.f1
       obtain ⟨Fs1, hH1, hn4, hF1, hO1, hb4⟩ := Ctx.lend2 (As := [Item.own v13 (x13 : (List Int)), Item.box b1 [u2, u3]]) [Item.own v14 (x14 : (List Int))] hC16
       refine WL_call Try.call26 rfl rfl (c_S_l3Put_own x14 v14 x17 hH1 hn4 x18 hr7) ?_
       rintro v17 w16 ⟨_, rfl, hq3⟩
       have hC17 : Ctx [] w0 w16 [Item.own v17 (x18 : (List Int)), Item.own v13 (x13 : (List Int)), Item.box b1 [u2, u3]] := hb4 _ _ hq3
       refine WL_assign rfl rfl ?_
       refine WL_nil (blk_normal (nrm_normal (W_reg ?_)))
       refine WL_move rfl rfl ?_
       refine WL_add rfl rfl rfl ?_
       refine WL_assign rfl rfl ?_
       refine WL_nil ?_
       have hC18 := hC17.f2
       have hC19 := hC18.f1
       have hC20 := hC19.f2
       refine nrm_sub (l' := [(0, u1), (2, u4), (4, (ptr b1 0)), (7, v17), (8, (.int .i64 x2)), (9, v13), (10, (.int .i64 (w64 (x15 + 1))))]) ⟨rfl, rfl, rfl, rfl, rfl, rfl, rfl, trivial⟩ ?_
       exact ⟨k2, Nat.lt_succ_self _, v17, x18, w64 (x15 + 1), rfl, hC20, hL2⟩
      replace hL2 := ite_f hL2 hc4
      refine W_exit (nrm_exit (nrm_exit (blk_exit ?_)))
      have hq4 := Option.some.inj hL2
      subst hq4
      have hC21 := hC15.f2
      have hC22 := hC21.f2
      have hC23 := hC22.h2
      refine nrm_sub (l' := [(0, u1), (2, u4), (4, (ptr b1 0)), (7, v14), (8, (.int .i64 x2))]) ⟨rfl, rfl, rfl, rfl, rfl, trivial⟩ ?_
      exact ⟨v14, x14, rfl, rfl, hC23⟩
    rintro l4 _ w17 hs4 ⟨v15, x16, rfl, rfl, hC24⟩
    try dsimp only at hL1
    refine blk_normal ?_
    refine nrm_sub' hs4 ?_
    clear hs4
    refine W_reg ?_
    refine WL_move rfl rfl ?_
    refine WL_add rfl rfl rfl ?_
    refine WL_assign rfl rfl ?_
    refine WL_nil ?_
    refine nrm_sub (l' := [(0, u1), (2, u4), (4, (ptr b1 0)), (7, v15), (8, (.int .i64 (w64 (x2 + 1))))]) ⟨rfl, rfl, rfl, rfl, rfl, trivial⟩ ?_
    exact ⟨k1, Nat.lt_succ_self _, v15, x16, w64 (x2 + 1), rfl, hC24, hL1⟩
   replace hL1 := ite_f hL1 hc1
   refine W_exit (nrm_exit (nrm_exit (blk_exit ?_)))
   have hq5 := Option.some.inj hL1
   subst hq5
   have hC25 := hC6.h1
   refine nrm_sub (l' := [(7, v1)]) ⟨rfl, trivial⟩ ?_
   exact ⟨v1, x1, rfl, rfl, hC25⟩
 rintro l5 _ w18 hs5 ⟨v2, x3, rfl, rfl, hC26⟩
 try dsimp only at hF
 refine nrm_sub' hs5 ?_
 clear hs5
 refine W_seq_reg ?_
 refine WL_move rfl rfl ?_
 refine WL_assign rfl rfl ?_
 refine WL_nil (W_ret ?_)
 have hq6 := Option.some.inj hF
 subst hq6
 refine fn_ret1 rfl rfl ?_
 exact ⟨_, rfl, own_res hC26 0 rfl⟩

theorem c_Q_toIntS {w0 : World} (a1 : (List Int)) (u1 : Value) (g1 : RO [] w0 u1 a1) (rr : (List Int)) (hF : Q.toIntS a1 = some rr) :
 Calls Try.prog 28 [u1].toArray w0 fun e w' => ∃ v, e = .returned v ∧ Res w0 rr v w' := by
 refine calls_of_W Try.func28 rfl rfl ?_
 have hC0 := Ctx.start w0
 unfold Q.toIntS at hF
 refine W_seq_reg ?_
 refine WL_assign rfl rfl ?_
 refine WL_nil (W_seq_reg ?_)
 refine WL_move rfl rfl ?_
 refine WL_len Try.underlying23 g1 rfl rfl ?_
 obtain ⟨x1, hx1, hF⟩ := bind_some hF
 refine WL_makeSlice hC0 Try.underlying23 ty3 rfl zc3 zr3 hx1 rfl rfl rfl (fun b1 w1 hC1 hB1 => ?_)
 refine WL_assign rfl rfl ?_
 refine WL_nil (W_seq (W_seq_reg ?_))
 refine WL_assign rfl rfl ?_
 refine WL_nil ?_
 obtain ⟨r1, hr1, hF⟩ := bind_some hF
 refine W_norm (fun l w => ∃ x4 : (List Int), x4 = r1 ∧ l = [(3, (.slice (some ⟨b1, 0, none⟩) (Int.toNat (List.length a1 : Int)) (Int.toNat (List.length a1 : Int))))] ∧ Ctx [] w0 w [Item.own (.slice (some ⟨b1, 0, none⟩) (Int.toNat (List.length a1 : Int)) (Int.toNat (List.length a1 : Int))) (x4 : (List Int))]) ?_ ?_
 ·refine W_block ?_
  refine W.sub (l' := [(0, u1), (3, (.slice (some ⟨b1, 0, none⟩) (Int.toNat (List.length a1 : Int)) (Int.toNat (List.length a1 : Int)))), (4, (.int .i64 0))]) ?_ ⟨rfl, rfl, rfl, trivial⟩
  refine W_loop (fun k l w => ∃ x2 : (List Int), ∃ x3 : Int, l = [(0, u1), (3, (.slice (some ⟨b1, 0, none⟩) (Int.toNat (List.length a1 : Int)) (Int.toNat (List.length a1 : Int)))), (4, (.int .i64 x3))] ∧ Ctx [] w0 w [Item.own (.slice (some ⟨b1, 0, none⟩) (Int.toNat (List.length a1 : Int)) (Int.toNat (List.length a1 : Int))) (x2 : (List Int))] ∧ Q.toIntS_l1 a1 k x2 x3 = some r1) FUEL ⟨x1, 0, rfl, hC1, hr1⟩ ?_
  clear hr1
  rintro k1 _ w2 ⟨x2, x3, rfl, hC2, hL1⟩
  cases k1 with
  | zero => rw [Q.toIntS_l1] at hL1; cases hL1
  | succ k1 =>
   rw [Q.toIntS_l1] at hL1
   refine W_seq (W_seq_reg ?_)
   refine WL_move rfl rfl ?_
   refine WL_move rfl rfl ?_
   refine WL_len Try.underlying23 g1 rfl rfl ?_
   refine WL_lss rfl rfl rfl ?_
   refine WL_nil ?_
   refine W_cond rfl (fun hc1 => ?_) (fun hc1 => ?_)
   ·replace hL1 := ite_t hL1 hc1
    refine W_skip (nrm_normal (W_seq (W_block (W_reg ?_))))
    refine WL_move rfl rfl ?_
    refine WL_move rfl rfl ?_
    refine WL_move rfl rfl ?_
    refine WL_move rfl rfl ?_
    obtain ⟨x5, hx2, hL1⟩ := bind_some hL1
    refine WL_index Try.underlying23 ty3 g1 hx2 rfl rfl rfl (fun b2 o1 h1 => ?_)
    refine WL_load ty3 h1 hC2.keep rfl rfl (fun v1 h2 => ?_)
    obtain rfl := ro_int h2
    obtain ⟨x6, hx3, hL1⟩ := bind_some hL1
    refine WL_index_own hC2 0 rfl Try.underlying23 ty3 hx3 rfl rfl rfl (fun b3 hE1 => ?_)
    have hC4 := hC2.triv (int_val (x5))
    refine WL_store_elem hC4 0 rfl ty3 hE1 hx3 rfl rfl rfl (fun w3 hC3 => ?_)
    try dsimp only [List.set] at hC3
    refine WL_nil (blk_normal (nrm_normal (W_reg ?_)))
    refine WL_move rfl rfl ?_
    refine WL_add rfl rfl rfl ?_
    refine WL_assign rfl rfl ?_
    refine WL_nil ?_
    refine nrm_sub (l' := [(0, u1), (3, (.slice (some ⟨b1, 0, none⟩) (Int.toNat (List.length a1 : Int)) (Int.toNat (List.length a1 : Int)))), (4, (.int .i64 (w64 (x3 + 1))))]) ⟨rfl, rfl, rfl, trivial⟩ ?_
    exact ⟨k1, Nat.lt_succ_self _, (List.set x2 (Int.toNat x3) x5), w64 (x3 + 1), rfl, hC3, hL1⟩
   replace hL1 := ite_f hL1 hc1
   refine W_exit (nrm_exit (nrm_exit (blk_exit ?_)))
   have hq1 := Option.some.inj hL1
   subst hq1
   refine nrm_sub (l' := [(3, (.slice (some ⟨b1, 0, none⟩) (Int.toNat (List.length a1 : Int)) (Int.toNat (List.length a1 : Int))))]) ⟨rfl, trivial⟩ ?_
   exact ⟨x2, rfl, rfl, hC2⟩
 rintro l2 _ w4 hs2 ⟨x4, rfl, rfl, hC5⟩
 try dsimp only at hF
 refine nrm_sub' hs2 ?_
 clear hs2
 refine W_seq_reg ?_
 refine WL_move rfl rfl ?_
 refine WL_assign rfl rfl ?_
 refine WL_nil (W_ret ?_)
 have hq2 := Option.some.inj hF
 subst hq2
 refine fn_ret1 rfl rfl ?_
 exact ⟨_, rfl, own_res hC5 0 rfl⟩

theorem c_Q_toMethod {w0 : World} (a1 : (Int × (List Int) × Int × Int × Int)) (u1 : Value) (g1 : RO [] w0 u1 a1.2.1) (rr : (Int × (List Int) × Int × Int × Int)) (hF : Q.toMethod a1 = some rr) :
 Calls Try.prog 27 [(.agg #[(.int .i64 a1.1), u1, (.int .i64 a1.2.2.1), (.int .i64 a1.2.2.2.1), (.int .i64 a1.2.2.2.2)])].toArray w0 fun e w' => ∃ v, e = .returned v ∧ Res w0 rr v w' := by
 refine calls_of_W Try.func27 rfl rfl ?_
 have hC0 := Ctx.start w0
 unfold Q.toMethod at hF
 refine W_seq_reg ?_
 refine WL_boxK (cs := [(.int .i64 a1.1), u1, (.int .i64 a1.2.2.1), (.int .i64 a1.2.2.2.1), (.int .i64 a1.2.2.2.2)]) hC0 rfl rfl rfl (fun b1 w1 hC1 hB1 hN1 => ?_)
 refine WL_allocK hC1 zero57 rfl rfl (fun b2 w2 hC2 hB2 hN2 => ?_)
 refine WL_nil (W_seq_reg ?_)
 refine WL_allocK hC2 zero57 rfl rfl (fun b3 w3 hC3 hB3 hN3 => ?_)
 refine WL_nil (W_seq_reg ?_)
 refine WL_field Try.underlying51 rfl rfl (fun w => ⟨_, Try.sizeOf3 w⟩) rfl rfl ?_
 refine WL_load_box hC3 2 rfl rfl Try.isAgg3 rfl rfl ?_
 refine WL_field Try.underlying57 rfl rfl (fun w => ⟨_, Try.sizeOf3 w⟩) rfl rfl ?_
 refine WL_store_boxK (cs' := [(.int .i64 a1.1), (.slice none 0 0), (.int .i64 0), (.int .i64 0), (.int .i64 0)]) hC3 0 rfl rfl rfl rfl Try.sizeOf3 rfl rfl (fun w4 hC4 hKp1 => ?_)
 try dsimp only [List.set] at hC4
 have hk1 := Keep.over (((Keep.of hB1).then hB2).then hB3) (Nat.le_trans ((Keep.of hB1).then hB2).size hN3) hKp1
 have hk2 := Keep.over ((Keep.of hB2).then hB3) (Nat.le_trans (Keep.of hB2).size hN3) hKp1
 have hk3 := Keep.over (Keep.of hB3) hN3 hKp1
 refine WL_nil (W_seq_reg ?_)
 refine WL_field Try.underlying51 rfl rfl (fun w => ⟨_, Try.sizeOf23 w⟩) rfl rfl ?_
 refine WL_load_box hC4 2 rfl rfl Try.isAgg23 rfl rfl ?_
 obtain ⟨x1, hr1, hF⟩ := bind_some hF
 refine WL_call Try.call28 rfl rfl (c_Q_toIntS a1.2.1 u1 (g1.now hC4.keep) x1 hr1) ?_
 rintro v1 w5 ⟨hB4, F1, hv1, hn1, hb1⟩
 have hC5 := hC4.push hB4 (A := Item.own v1 x1) hv1 hn1 hb1
 refine WL_field Try.underlying57 rfl rfl (fun w => ⟨_, Try.sizeOf23 w⟩) rfl rfl ?_
 refine WL_store_boxK (cs' := [(.int .i64 a1.1), v1, (.int .i64 0), (.int .i64 0), (.int .i64 0)]) hC5 1 rfl rfl (ro_one (hC5.ro 0 rfl)) rfl Try.sizeOf23 rfl rfl (fun w6 hC6 hKp2 => ?_)
 try dsimp only [List.set] at hC6
 have hk4 := Keep.over (hk1.then hB4) (Nat.le_trans ((Keep.of hB1).then hB2).size hN3) hKp2
 have hk5 := Keep.over (hk2.then hB4) (Nat.le_trans (Keep.of hB2).size hN3) hKp2
 have hk6 := Keep.over (hk3.then hB4) hN3 hKp2
 refine WL_nil (W_seq_reg ?_)
 refine WL_field Try.underlying51 rfl rfl (fun w => ⟨_, Try.sizeOf3 w⟩) rfl rfl ?_
 refine WL_load_box hC6 3 rfl rfl Try.isAgg3 rfl rfl ?_
 refine WL_field Try.underlying57 rfl rfl (fun w => ⟨_, Try.sizeOf3 w⟩) rfl rfl ?_
 refine WL_store_boxK (cs' := [(.int .i64 a1.1), v1, (.int .i64 a1.2.2.1), (.int .i64 0), (.int .i64 0)]) hC6 1 rfl rfl rfl rfl Try.sizeOf3 rfl rfl (fun w7 hC7 hKp3 => ?_)
 try dsimp only [List.set] at hC7
 have hk7 := Keep.over hk4 (Nat.le_trans ((Keep.of hB1).then hB2).size hN3) hKp3
 have hk8 := Keep.over hk5 (Nat.le_trans (Keep.of hB2).size hN3) hKp3
 have hk9 := Keep.over hk6 hN3 hKp3
 refine WL_nil (W_seq_reg ?_)
 refine WL_field Try.underlying51 rfl rfl (fun w => ⟨_, Try.sizeOf3 w⟩) rfl rfl ?_
 refine WL_load_box hC7 3 rfl rfl Try.isAgg3 rfl rfl ?_
 refine WL_field Try.underlying57 rfl rfl (fun w => ⟨_, Try.sizeOf3 w⟩) rfl rfl ?_
 refine WL_store_boxK (cs' := [(.int .i64 a1.1), v1, (.int .i64 a1.2.2.1), (.int .i64 a1.2.2.2.1), (.int .i64 0)]) hC7 1 rfl rfl rfl rfl Try.sizeOf3 rfl rfl (fun w9 hC8 hKp4 => ?_)
 try dsimp only [List.set] at hC8
 have hk10 := Keep.over hk7 (Nat.le_trans ((Keep.of hB1).then hB2).size hN3) hKp4
 have hk11 := Keep.over hk8 (Nat.le_trans (Keep.of hB2).size hN3) hKp4
 have hk12 := Keep.over hk9 hN3 hKp4
 refine WL_nil (W_seq_reg ?_)
 refine WL_field Try.underlying51 rfl rfl (fun w => ⟨_, Try.sizeOf3 w⟩) rfl rfl ?_
 refine WL_load_box hC8 3 rfl rfl Try.isAgg3 rfl rfl ?_
 refine WL_field Try.underlying57 rfl rfl (fun w => ⟨_, Try.sizeOf3 w⟩) rfl rfl ?_
 refine WL_store_boxK (cs' := [(.int .i64 a1.1), v1, (.int .i64 a1.2.2.1), (.int .i64 a1.2.2.2.1), (.int .i64 a1.2.2.2.2)]) hC8 1 rfl rfl rfl rfl Try.sizeOf3 rfl rfl (fun w10 hC9 hKp5 => ?_)
 try dsimp only [List.set] at hC9
 have hk13 := Keep.over hk10 (Nat.le_trans ((Keep.of hB1).then hB2).size hN3) hKp5
 have hk14 := Keep.over hk11 (Nat.le_trans (Keep.of hB2).size hN3) hKp5
 have hk15 := Keep.over hk12 hN3 hKp5
 refine WL_nil (W_seq_reg ?_)
 refine WL_load_box_agg [(.int .i64 a1.1), v1, (.int .i64 a1.2.2.1), (.int .i64 a1.2.2.2.1), (.int .i64 a1.2.2.2.2)] hC9 1 rfl rfl rfl Try.isAgg57 Try.sizeOf57 rfl rfl ?_
 refine WL_store_box_aggK (cs' := [(.int .i64 a1.1), v1, (.int .i64 a1.2.2.1), (.int .i64 a1.2.2.2.1), (.int .i64 a1.2.2.2.2)]) (new := [(.int .i64 a1.1), v1, (.int .i64 a1.2.2.1), (.int .i64 a1.2.2.2.1), (.int .i64 a1.2.2.2.2)]) hC9 2 rfl rfl (by intro v hv; simp only [List.mem_cons, List.not_mem_nil, or_false] at hv; rcases hv with rfl | rfl | rfl | rfl | rfl; exact rfl; exact (ro_one (hC9.ro 0 rfl)); exact rfl; exact rfl; exact rfl) rfl Try.sizeOf57 rfl rfl (fun w11 hC10 hKp6 => ?_)
 try dsimp only [List.set] at hC10
 have hk16 := Keep.over hk13 (Nat.le_trans (Keep.of hB1).size hN2) hKp6
 have hk17 := Keep.over hk14 hN2 hKp6
 refine WL_nil (W_ret ?_)
 have hq1 := Option.some.inj hF
 subst hq1
 refine fn_retG1 rfl (rv_cell_agg (cs' := [(.int .i64 a1.1), v1, (.int .i64 a1.2.2.1), (.int .i64 a1.2.2.2.1), (.int .i64 a1.2.2.2.2)]) hC10 (i := 2) rfl rfl rfl Try.isAgg57 Try.sizeOf57 rfl) ?_
 have hC11 := own_st57 a1.1 v1 x1 a1.2.2.1 a1.2.2.2.1 a1.2.2.2.2 hC10
 exact ⟨_, rfl, own_res hC11 0 rfl⟩

theorem c_Q_toMethodS {w0 : World} (a1 : (List (Int × (List Int) × Int × Int × Int))) (u1 : Value) (g1 : RO [] w0 u1 a1) (rr : (List (Int × (List Int) × Int × Int × Int))) (hF : Q.toMethodS a1 = some rr) :
 Calls Try.prog 8 [u1].toArray w0 fun e w' => ∃ v, e = .returned v ∧ Res w0 rr v w' := by
 refine calls_of_W Try.func8 rfl rfl ?_
 have hC0 := Ctx.start w0
 unfold Q.toMethodS at hF
 refine W_seq_reg ?_
 refine WL_assign rfl rfl ?_
 refine WL_nil (W_seq_reg ?_)
 refine WL_move rfl rfl ?_
 refine WL_len Try.underlying22 g1 rfl rfl ?_
 obtain ⟨x1, hx1, hF⟩ := bind_some hF
 refine WL_makeSlice hC0 Try.underlying32 ty57 rfl zc57 zr57 hx1 rfl rfl rfl (fun b1 w1 hC1 hB1 => ?_)
 refine WL_assign rfl rfl ?_
 refine WL_nil (W_seq (W_seq_reg ?_))
 refine WL_assign rfl rfl ?_
 refine WL_nil ?_
 obtain ⟨r1, hr1, hF⟩ := bind_some hF
 refine W_norm (fun l w => ∃ x4 : (List (Int × (List Int) × Int × Int × Int)), x4 = r1 ∧ l = [(3, (.slice (some ⟨b1, 0, none⟩) (Int.toNat (List.length a1 : Int)) (Int.toNat (List.length a1 : Int))))] ∧ Ctx [] w0 w [Item.own (.slice (some ⟨b1, 0, none⟩) (Int.toNat (List.length a1 : Int)) (Int.toNat (List.length a1 : Int))) (x4 : (List (Int × (List Int) × Int × Int × Int)))]) ?_ ?_
 ·refine W_block ?_
  refine W.sub (l' := [(0, u1), (3, (.slice (some ⟨b1, 0, none⟩) (Int.toNat (List.length a1 : Int)) (Int.toNat (List.length a1 : Int)))), (4, (.int .i64 0))]) ?_ ⟨rfl, rfl, rfl, trivial⟩
  refine W_loop (fun k l w => ∃ x2 : (List (Int × (List Int) × Int × Int × Int)), ∃ x3 : Int, l = [(0, u1), (3, (.slice (some ⟨b1, 0, none⟩) (Int.toNat (List.length a1 : Int)) (Int.toNat (List.length a1 : Int)))), (4, (.int .i64 x3))] ∧ Ctx [] w0 w [Item.own (.slice (some ⟨b1, 0, none⟩) (Int.toNat (List.length a1 : Int)) (Int.toNat (List.length a1 : Int))) (x2 : (List (Int × (List Int) × Int × Int × Int)))] ∧ Q.toMethodS_l1 a1 k x2 x3 = some r1) FUEL ⟨x1, 0, rfl, hC1, hr1⟩ ?_
  clear hr1
  rintro k1 _ w2 ⟨x2, x3, rfl, hC2, hL1⟩
  cases k1 with
  | zero => rw [Q.toMethodS_l1] at hL1; cases hL1
  | succ k1 =>
   rw [Q.toMethodS_l1] at hL1
   refine W_seq (W_seq_reg ?_)
   refine WL_move rfl rfl ?_
   refine WL_move rfl rfl ?_
   refine WL_len Try.underlying22 g1 rfl rfl ?_
   refine WL_lss rfl rfl rfl ?_
   refine WL_nil ?_
   refine W_cond rfl (fun hc1 => ?_) (fun hc1 => ?_)
   ·replace hL1 := ite_t hL1 hc1
    refine W_skip (nrm_normal (W_seq (W_block (W_reg ?_))))
    refine WL_move rfl rfl ?_
    refine WL_move rfl rfl ?_
    refine WL_move rfl rfl ?_
    refine WL_move rfl rfl ?_
    obtain ⟨x5, hx2, hL1⟩ := bind_some hL1
    refine WL_index Try.underlying22 ty51 g1 hx2 rfl rfl rfl (fun b2 o1 h1 => ?_)
    refine WL_load ty51 h1 hC2.keep rfl rfl (fun v1 h2 => ?_)
    obtain ⟨v2, rfl, h3⟩ := ro_st51 h2
    obtain ⟨x6, hr2, hL1⟩ := bind_some hL1
    refine WL_call Try.call27 rfl rfl (c_Q_toMethod x5 v2 (h3.now hC2.keep) x6 hr2) ?_
    rintro v3 w3 ⟨hB3, F1, hv1, hn1, hb1⟩
    have hC3 := hC2.push hB3 (A := Item.own v3 x6) hv1 hn1 hb1
    obtain ⟨v4, rfl, hC4⟩ := st57_own hC3
    obtain ⟨x7, hx3, hL1⟩ := bind_some hL1
    refine WL_index_own hC4 1 rfl Try.underlying32 ty57 hx3 rfl rfl rfl (fun b3 hE1 => ?_)
    have hC6 := own_st57 x6.1 v4 x6.2.1 x6.2.2.1 x6.2.2.2.1 x6.2.2.2.2 hC4
    refine WL_store_elem hC6 0 rfl ty57 hE1 hx3 rfl rfl rfl (fun w4 hC5 => ?_)
    try dsimp only [List.set] at hC5
    refine WL_nil (blk_normal (nrm_normal (W_reg ?_)))
    refine WL_move rfl rfl ?_
    refine WL_add rfl rfl rfl ?_
    refine WL_assign rfl rfl ?_
    refine WL_nil ?_
    refine nrm_sub (l' := [(0, u1), (3, (.slice (some ⟨b1, 0, none⟩) (Int.toNat (List.length a1 : Int)) (Int.toNat (List.length a1 : Int)))), (4, (.int .i64 (w64 (x3 + 1))))]) ⟨rfl, rfl, rfl, trivial⟩ ?_
    exact ⟨k1, Nat.lt_succ_self _, (List.set x2 (Int.toNat x3) (x6.1, x6.2.1, x6.2.2.1, x6.2.2.2.1, x6.2.2.2.2)), w64 (x3 + 1), rfl, hC5, hL1⟩
   replace hL1 := ite_f hL1 hc1
   refine W_exit (nrm_exit (nrm_exit (blk_exit ?_)))
   have hq1 := Option.some.inj hL1
   subst hq1
   refine nrm_sub (l' := [(3, (.slice (some ⟨b1, 0, none⟩) (Int.toNat (List.length a1 : Int)) (Int.toNat (List.length a1 : Int))))]) ⟨rfl, trivial⟩ ?_
   exact ⟨x2, rfl, rfl, hC2⟩
 rintro l2 _ w5 hs2 ⟨x4, rfl, rfl, hC8⟩
 try dsimp only at hF
 refine nrm_sub' hs2 ?_
 clear hs2
 refine W_seq_reg ?_
 refine WL_move rfl rfl ?_
 refine WL_assign rfl rfl ?_
 refine WL_nil (W_ret ?_)
 have hq2 := Option.some.inj hF
 subst hq2
 refine fn_ret1 rfl rfl ?_
 exact ⟨_, rfl, own_res hC8 0 rfl⟩

theorem c_Q_toAtom {w0 : World} (a1 : (Int × (List Int))) (u1 : Value) (g1 : RO [] w0 u1 a1.2) (rr : (Int × (List Int))) (hF : Q.toAtom a1 = some rr) :
 Calls Try.prog 41 [(.agg #[(.int .i64 a1.1), u1])].toArray w0 fun e w' => ∃ v, e = .returned v ∧ Res w0 rr v w' := by
 refine calls_of_W Try.func41 rfl rfl ?_
 have hC0 := Ctx.start w0
 unfold Q.toAtom at hF
 refine W_seq_reg ?_
 refine WL_boxK (cs := [(.int .i64 a1.1), u1]) hC0 rfl rfl rfl (fun b1 w1 hC1 hB1 hN1 => ?_)
 refine WL_allocK hC1 zero59 rfl rfl (fun b2 w2 hC2 hB2 hN2 => ?_)
 refine WL_nil (W_seq_reg ?_)
 refine WL_allocK hC2 zero59 rfl rfl (fun b3 w3 hC3 hB3 hN3 => ?_)
 refine WL_nil (W_seq_reg ?_)
 refine WL_field Try.underlying72 rfl rfl (fun w => ⟨_, Try.sizeOf3 w⟩) rfl rfl ?_
 refine WL_load_box hC3 2 rfl rfl Try.isAgg3 rfl rfl ?_
 refine WL_field Try.underlying59 rfl rfl (fun w => ⟨_, Try.sizeOf3 w⟩) rfl rfl ?_
 refine WL_store_boxK (cs' := [(.int .i64 a1.1), (.slice none 0 0)]) hC3 0 rfl rfl rfl rfl Try.sizeOf3 rfl rfl (fun w4 hC4 hKp1 => ?_)
 try dsimp only [List.set] at hC4
 have hk1 := Keep.over (((Keep.of hB1).then hB2).then hB3) (Nat.le_trans ((Keep.of hB1).then hB2).size hN3) hKp1
 have hk2 := Keep.over ((Keep.of hB2).then hB3) (Nat.le_trans (Keep.of hB2).size hN3) hKp1
 have hk3 := Keep.over (Keep.of hB3) hN3 hKp1
 refine WL_nil (W_seq_reg ?_)
 refine WL_field Try.underlying72 rfl rfl (fun w => ⟨_, Try.sizeOf23 w⟩) rfl rfl ?_
 refine WL_load_box hC4 2 rfl rfl Try.isAgg23 rfl rfl ?_
 obtain ⟨x1, hr1, hF⟩ := bind_some hF
 refine WL_call Try.call28 rfl rfl (c_Q_toIntS a1.2 u1 (g1.now hC4.keep) x1 hr1) ?_
 rintro v1 w5 ⟨hB4, F1, hv1, hn1, hb1⟩
 have hC5 := hC4.push hB4 (A := Item.own v1 x1) hv1 hn1 hb1
 refine WL_field Try.underlying59 rfl rfl (fun w => ⟨_, Try.sizeOf23 w⟩) rfl rfl ?_
 refine WL_store_boxK (cs' := [(.int .i64 a1.1), v1]) hC5 1 rfl rfl (ro_one (hC5.ro 0 rfl)) rfl Try.sizeOf23 rfl rfl (fun w6 hC6 hKp2 => ?_)
 try dsimp only [List.set] at hC6
 have hk4 := Keep.over (hk1.then hB4) (Nat.le_trans ((Keep.of hB1).then hB2).size hN3) hKp2
 have hk5 := Keep.over (hk2.then hB4) (Nat.le_trans (Keep.of hB2).size hN3) hKp2
 have hk6 := Keep.over (hk3.then hB4) hN3 hKp2
 refine WL_nil (W_seq_reg ?_)
 refine WL_load_box_agg [(.int .i64 a1.1), v1] hC6 1 rfl rfl rfl Try.isAgg59 Try.sizeOf59 rfl rfl ?_
 refine WL_store_box_aggK (cs' := [(.int .i64 a1.1), v1]) (new := [(.int .i64 a1.1), v1]) hC6 2 rfl rfl (by intro v hv; simp only [List.mem_cons, List.not_mem_nil, or_false] at hv; rcases hv with rfl | rfl; exact rfl; exact (ro_one (hC6.ro 0 rfl))) rfl Try.sizeOf59 rfl rfl (fun w7 hC7 hKp3 => ?_)
 try dsimp only [List.set] at hC7
 have hk7 := Keep.over hk4 (Nat.le_trans (Keep.of hB1).size hN2) hKp3
 have hk8 := Keep.over hk5 hN2 hKp3
 refine WL_nil (W_ret ?_)
 have hq1 := Option.some.inj hF
 subst hq1
 refine fn_retG1 rfl (rv_cell_agg (cs' := [(.int .i64 a1.1), v1]) hC7 (i := 2) rfl rfl rfl Try.isAgg59 Try.sizeOf59 rfl) ?_
 have hC8 := own_st59 a1.1 v1 x1 hC7
 exact ⟨_, rfl, own_res hC8 0 rfl⟩

theorem c_Q_toAtomS {w0 : World} (a1 : (List (Int × (List Int)))) (u1 : Value) (g1 : RO [] w0 u1 a1) (rr : (List (Int × (List Int)))) (hF : Q.toAtomS a1 = some rr) :
 Calls Try.prog 29 [u1].toArray w0 fun e w' => ∃ v, e = .returned v ∧ Res w0 rr v w' := by
 refine calls_of_W Try.func29 rfl rfl ?_
 have hC0 := Ctx.start w0
 unfold Q.toAtomS at hF
 refine W_seq_reg ?_
 refine WL_assign rfl rfl ?_
 refine WL_nil (W_seq_reg ?_)
 refine WL_move rfl rfl ?_
 refine WL_len Try.underlying24 g1 rfl rfl ?_
 obtain ⟨x1, hx1, hF⟩ := bind_some hF
 refine WL_makeSlice hC0 Try.underlying34 ty59 rfl zc59 zr59 hx1 rfl rfl rfl (fun b1 w1 hC1 hB1 => ?_)
 refine WL_assign rfl rfl ?_
 refine WL_nil (W_seq (W_seq_reg ?_))
 refine WL_assign rfl rfl ?_
 refine WL_nil ?_
 obtain ⟨r1, hr1, hF⟩ := bind_some hF
 refine W_norm (fun l w => ∃ x4 : (List (Int × (List Int))), x4 = r1 ∧ l = [(3, (.slice (some ⟨b1, 0, none⟩) (Int.toNat (List.length a1 : Int)) (Int.toNat (List.length a1 : Int))))] ∧ Ctx [] w0 w [Item.own (.slice (some ⟨b1, 0, none⟩) (Int.toNat (List.length a1 : Int)) (Int.toNat (List.length a1 : Int))) (x4 : (List (Int × (List Int))))]) ?_ ?_
 ·refine W_block ?_
  refine W.sub (l' := [(0, u1), (3, (.slice (some ⟨b1, 0, none⟩) (Int.toNat (List.length a1 : Int)) (Int.toNat (List.length a1 : Int)))), (4, (.int .i64 0))]) ?_ ⟨rfl, rfl, rfl, trivial⟩
  refine W_loop (fun k l w => ∃ x2 : (List (Int × (List Int))), ∃ x3 : Int, l = [(0, u1), (3, (.slice (some ⟨b1, 0, none⟩) (Int.toNat (List.length a1 : Int)) (Int.toNat (List.length a1 : Int)))), (4, (.int .i64 x3))] ∧ Ctx [] w0 w [Item.own (.slice (some ⟨b1, 0, none⟩) (Int.toNat (List.length a1 : Int)) (Int.toNat (List.length a1 : Int))) (x2 : (List (Int × (List Int))))] ∧ Q.toAtomS_l1 a1 k x2 x3 = some r1) FUEL ⟨x1, 0, rfl, hC1, hr1⟩ ?_
  clear hr1
  rintro k1 _ w2 ⟨x2, x3, rfl, hC2, hL1⟩
  cases k1 with
  | zero => rw [Q.toAtomS_l1] at hL1; cases hL1
  | succ k1 =>
   rw [Q.toAtomS_l1] at hL1
   refine W_seq (W_seq_reg ?_)
   refine WL_move rfl rfl ?_
   refine WL_move rfl rfl ?_
   refine WL_len Try.underlying24 g1 rfl rfl ?_
   refine WL_lss rfl rfl rfl ?_
   refine WL_nil ?_
   refine W_cond rfl (fun hc1 => ?_) (fun hc1 => ?_)
   ·replace hL1 := ite_t hL1 hc1
    refine W_skip (nrm_normal (W_seq (W_block (W_reg ?_))))
    refine WL_move rfl rfl ?_
    refine WL_move rfl rfl ?_
    refine WL_move rfl rfl ?_
    refine WL_move rfl rfl ?_
    obtain ⟨x5, hx2, hL1⟩ := bind_some hL1
    refine WL_index Try.underlying24 ty72 g1 hx2 rfl rfl rfl (fun b2 o1 h1 => ?_)
    refine WL_load ty72 h1 hC2.keep rfl rfl (fun v1 h2 => ?_)
    obtain ⟨v2, rfl, h3⟩ := ro_st72 h2
    obtain ⟨x6, hr2, hL1⟩ := bind_some hL1
    refine WL_call Try.call41 rfl rfl (c_Q_toAtom x5 v2 (h3.now hC2.keep) x6 hr2) ?_
    rintro v3 w3 ⟨hB3, F1, hv1, hn1, hb1⟩
    have hC3 := hC2.push hB3 (A := Item.own v3 x6) hv1 hn1 hb1
    obtain ⟨v4, rfl, hC4⟩ := st59_own hC3
    obtain ⟨x7, hx3, hL1⟩ := bind_some hL1
    refine WL_index_own hC4 1 rfl Try.underlying34 ty59 hx3 rfl rfl rfl (fun b3 hE1 => ?_)
    have hC6 := own_st59 x6.1 v4 x6.2 hC4
    refine WL_store_elem hC6 0 rfl ty59 hE1 hx3 rfl rfl rfl (fun w4 hC5 => ?_)
    try dsimp only [List.set] at hC5
    refine WL_nil (blk_normal (nrm_normal (W_reg ?_)))
    refine WL_move rfl rfl ?_
    refine WL_add rfl rfl rfl ?_
    refine WL_assign rfl rfl ?_
    refine WL_nil ?_
    refine nrm_sub (l' := [(0, u1), (3, (.slice (some ⟨b1, 0, none⟩) (Int.toNat (List.length a1 : Int)) (Int.toNat (List.length a1 : Int)))), (4, (.int .i64 (w64 (x3 + 1))))]) ⟨rfl, rfl, rfl, trivial⟩ ?_
    exact ⟨k1, Nat.lt_succ_self _, (List.set x2 (Int.toNat x3) (x6.1, x6.2)), w64 (x3 + 1), rfl, hC5, hL1⟩
   replace hL1 := ite_f hL1 hc1
   refine W_exit (nrm_exit (nrm_exit (blk_exit ?_)))
   have hq1 := Option.some.inj hL1
   subst hq1
   refine nrm_sub (l' := [(3, (.slice (some ⟨b1, 0, none⟩) (Int.toNat (List.length a1 : Int)) (Int.toNat (List.length a1 : Int))))]) ⟨rfl, trivial⟩ ?_
   exact ⟨x2, rfl, rfl, hC2⟩
 rintro l2 _ w5 hs2 ⟨x4, rfl, rfl, hC8⟩
 try dsimp only at hF
 refine nrm_sub' hs2 ?_
 clear hs2
 refine W_seq_reg ?_
 refine WL_move rfl rfl ?_
 refine WL_assign rfl rfl ?_
 refine WL_nil (W_ret ?_)
 have hq2 := Option.some.inj hF
 subst hq2
 refine fn_ret1 rfl rfl ?_
 exact ⟨_, rfl, own_res hC8 0 rfl⟩

theorem c_Q_toQuery {w0 : World} (a1 : ((List Int) × (List (Int × (List Int))))) (u1 : Value) (g1 : RO [] w0 u1 a1.1) (u2 : Value) (g2 : RO [] w0 u2 a1.2) (rr : ((List Int) × (List (Int × (List Int))))) (hF : Q.toQuery a1 = some rr) :
 Calls Try.prog 9 [(.agg #[u1, u2])].toArray w0 fun e w' => ∃ v, e = .returned v ∧ Res w0 rr v w' := by
 refine calls_of_W Try.func9 rfl rfl ?_
 have hC0 := Ctx.start w0
 unfold Q.toQuery at hF
 refine W_seq_reg ?_
 refine WL_boxK (cs := [u1, u2]) hC0 rfl rfl rfl (fun b1 w1 hC1 hB1 hN1 => ?_)
 refine WL_allocK hC1 zero36 rfl rfl (fun b2 w2 hC2 hB2 hN2 => ?_)
 refine WL_nil (W_seq_reg ?_)
 refine WL_allocK hC2 zero36 rfl rfl (fun b3 w3 hC3 hB3 hN3 => ?_)
 refine WL_nil (W_seq_reg ?_)
 refine WL_field Try.underlying26 rfl rfl (fun w => ⟨_, Try.sizeOf23 w⟩) rfl rfl ?_
 refine WL_load_box hC3 2 rfl rfl Try.isAgg23 rfl rfl ?_
 obtain ⟨x1, hr1, hF⟩ := bind_some hF
 refine WL_call Try.call28 rfl rfl (c_Q_toIntS a1.1 u1 (g1.now hC3.keep) x1 hr1) ?_
 rintro v1 w4 ⟨hB4, F1, hv1, hn1, hb1⟩
 have hC4 := hC3.push hB4 (A := Item.own v1 x1) hv1 hn1 hb1
 refine WL_field Try.underlying36 rfl rfl (fun w => ⟨_, Try.sizeOf23 w⟩) rfl rfl ?_
 refine WL_store_boxK (cs' := [v1, (.slice none 0 0)]) hC4 1 rfl rfl (ro_one (hC4.ro 0 rfl)) rfl Try.sizeOf23 rfl rfl (fun w5 hC5 hKp1 => ?_)
 try dsimp only [List.set] at hC5
 have hk1 := Keep.over ((((Keep.of hB1).then hB2).then hB3).then hB4) (Nat.le_trans ((Keep.of hB1).then hB2).size hN3) hKp1
 have hk2 := Keep.over (((Keep.of hB2).then hB3).then hB4) (Nat.le_trans (Keep.of hB2).size hN3) hKp1
 have hk3 := Keep.over ((Keep.of hB3).then hB4) hN3 hKp1
 refine WL_nil (W_seq_reg ?_)
 refine WL_field Try.underlying26 rfl rfl (fun w => ⟨_, Try.sizeOf24 w⟩) rfl rfl ?_
 refine WL_load_box hC5 3 rfl rfl Try.isAgg24 rfl rfl ?_
 obtain ⟨x2, hr2, hF⟩ := bind_some hF
 refine WL_call Try.call29 rfl rfl (c_Q_toAtomS a1.2 u2 (g2.now hC5.keep) x2 hr2) ?_
 rintro v2 w6 ⟨hB5, F2, hv2, hn2, hb2⟩
 have hC6 := hC5.push hB5 (A := Item.own v2 x2) hv2 hn2 hb2
 refine WL_field Try.underlying36 rfl rfl (fun w => ⟨_, Try.sizeOf34 w⟩) rfl rfl ?_
 refine WL_store_boxK (cs' := [v1, v2]) hC6 2 rfl rfl (ro_one (hC6.ro 0 rfl)) rfl Try.sizeOf34 rfl rfl (fun w7 hC7 hKp2 => ?_)
 try dsimp only [List.set] at hC7
 have hk4 := Keep.over (hk1.then hB5) (Nat.le_trans ((Keep.of hB1).then hB2).size hN3) hKp2
 have hk5 := Keep.over (hk2.then hB5) (Nat.le_trans (Keep.of hB2).size hN3) hKp2
 have hk6 := Keep.over (hk3.then hB5) hN3 hKp2
 refine WL_nil (W_seq_reg ?_)
 refine WL_load_box_agg [v1, v2] hC7 2 rfl rfl rfl Try.isAgg36 Try.sizeOf36 rfl rfl ?_
 refine WL_store_box_aggK (cs' := [v1, v2]) (new := [v1, v2]) hC7 3 rfl rfl (by intro v hv; simp only [List.mem_cons, List.not_mem_nil, or_false] at hv; rcases hv with rfl | rfl; exact (ro_one (hC7.ro 1 rfl)); exact (ro_one (hC7.ro 0 rfl))) rfl Try.sizeOf36 rfl rfl (fun w9 hC8 hKp3 => ?_)
 try dsimp only [List.set] at hC8
 have hk7 := Keep.over hk4 (Nat.le_trans (Keep.of hB1).size hN2) hKp3
 have hk8 := Keep.over hk5 hN2 hKp3
 refine WL_nil (W_ret ?_)
 have hq1 := Option.some.inj hF
 subst hq1
 refine fn_retG1 rfl (rv_cell_agg (cs' := [v1, v2]) hC8 (i := 3) rfl rfl rfl Try.isAgg36 Try.sizeOf36 rfl) ?_
 have hC11 := hC8.f1
 have hC9 := own_st36 v1 x1 v2 x2 hC11
 exact ⟨_, rfl, own_res hC9 0 rfl⟩

theorem c_Q_toStep {w0 : World} (a1 : (Int × Int)) (rr : (Int × Int)) (hF : Q.toStep a1 = some rr) :
 Calls Try.prog 30 [(.agg #[(.int .i64 a1.1), (.int .i64 a1.2)])].toArray w0 fun e w' => ∃ v, e = .returned v ∧ Res w0 rr v w' := by
 refine calls_of_W Try.func30 rfl rfl ?_
 have hC0 := Ctx.start w0
 unfold Q.toStep at hF
 refine W_seq_reg ?_
 refine WL_boxK (cs := [(.int .i64 a1.1), (.int .i64 a1.2)]) hC0 rfl rfl rfl (fun b1 w1 hC1 hB1 hN1 => ?_)
 refine WL_allocK hC1 zero55 rfl rfl (fun b2 w2 hC2 hB2 hN2 => ?_)
 refine WL_nil (W_seq_reg ?_)
 refine WL_allocK hC2 zero55 rfl rfl (fun b3 w3 hC3 hB3 hN3 => ?_)
 refine WL_nil (W_seq_reg ?_)
 refine WL_field Try.underlying65 rfl rfl (fun w => ⟨_, Try.sizeOf3 w⟩) rfl rfl ?_
 refine WL_load_box hC3 2 rfl rfl Try.isAgg3 rfl rfl ?_
 refine WL_field Try.underlying55 rfl rfl (fun w => ⟨_, Try.sizeOf3 w⟩) rfl rfl ?_
 refine WL_store_boxK (cs' := [(.int .i64 a1.1), (.int .i64 0)]) hC3 0 rfl rfl rfl rfl Try.sizeOf3 rfl rfl (fun w4 hC4 hKp1 => ?_)
 try dsimp only [List.set] at hC4
 have hk1 := Keep.over (((Keep.of hB1).then hB2).then hB3) (Nat.le_trans ((Keep.of hB1).then hB2).size hN3) hKp1
 have hk2 := Keep.over ((Keep.of hB2).then hB3) (Nat.le_trans (Keep.of hB2).size hN3) hKp1
 have hk3 := Keep.over (Keep.of hB3) hN3 hKp1
 refine WL_nil (W_seq_reg ?_)
 refine WL_field Try.underlying65 rfl rfl (fun w => ⟨_, Try.sizeOf3 w⟩) rfl rfl ?_
 refine WL_load_box hC4 2 rfl rfl Try.isAgg3 rfl rfl ?_
 refine WL_field Try.underlying55 rfl rfl (fun w => ⟨_, Try.sizeOf3 w⟩) rfl rfl ?_
 refine WL_store_boxK (cs' := [(.int .i64 a1.1), (.int .i64 a1.2)]) hC4 0 rfl rfl rfl rfl Try.sizeOf3 rfl rfl (fun w5 hC5 hKp2 => ?_)
 try dsimp only [List.set] at hC5
 have hk4 := Keep.over hk1 (Nat.le_trans ((Keep.of hB1).then hB2).size hN3) hKp2
 have hk5 := Keep.over hk2 (Nat.le_trans (Keep.of hB2).size hN3) hKp2
 have hk6 := Keep.over hk3 hN3 hKp2
 refine WL_nil (W_seq_reg ?_)
 refine WL_load_box_agg [(.int .i64 a1.1), (.int .i64 a1.2)] hC5 0 rfl rfl rfl Try.isAgg55 Try.sizeOf55 rfl rfl ?_
 refine WL_store_box_aggK (cs' := [(.int .i64 a1.1), (.int .i64 a1.2)]) (new := [(.int .i64 a1.1), (.int .i64 a1.2)]) hC5 1 rfl rfl (by intro v hv; simp only [List.mem_cons, List.not_mem_nil, or_false] at hv; rcases hv with rfl | rfl; exact rfl; exact rfl) rfl Try.sizeOf55 rfl rfl (fun w6 hC6 hKp3 => ?_)
 try dsimp only [List.set] at hC6
 have hk7 := Keep.over hk4 (Nat.le_trans (Keep.of hB1).size hN2) hKp3
 have hk8 := Keep.over hk5 hN2 hKp3
 refine WL_nil (W_ret ?_)
 have hq1 := Option.some.inj hF
 subst hq1
 refine fn_retG1 rfl (rv_cell_agg (cs' := [(.int .i64 a1.1), (.int .i64 a1.2)]) hC6 (i := 1) rfl rfl rfl Try.isAgg55 Try.sizeOf55 rfl) ?_
 have hC7 := own_st55 a1.1 a1.2 hC6
 exact ⟨_, rfl, own_res hC7 0 rfl⟩

theorem c_Q_toStepS {w0 : World} (a1 : (List (Int × Int))) (u1 : Value) (g1 : RO [] w0 u1 a1) (rr : (List (Int × Int))) (hF : Q.toStepS a1 = some rr) :
 Calls Try.prog 10 [u1].toArray w0 fun e w' => ∃ v, e = .returned v ∧ Res w0 rr v w' := by
 refine calls_of_W Try.func10 rfl rfl ?_
 have hC0 := Ctx.start w0
 unfold Q.toStepS at hF
 refine W_seq_reg ?_
 refine WL_assign rfl rfl ?_
 refine WL_nil (W_seq_reg ?_)
 refine WL_move rfl rfl ?_
 refine WL_len Try.underlying27 g1 rfl rfl ?_
 obtain ⟨x1, hx1, hF⟩ := bind_some hF
 refine WL_makeSlice hC0 Try.underlying38 ty55 rfl zc55 zr55 hx1 rfl rfl rfl (fun b1 w1 hC1 hB1 => ?_)
 refine WL_assign rfl rfl ?_
 refine WL_nil (W_seq (W_seq_reg ?_))
 refine WL_assign rfl rfl ?_
 refine WL_nil ?_
 obtain ⟨r1, hr1, hF⟩ := bind_some hF
 refine W_norm (fun l w => ∃ x4 : (List (Int × Int)), x4 = r1 ∧ l = [(3, (.slice (some ⟨b1, 0, none⟩) (Int.toNat (List.length a1 : Int)) (Int.toNat (List.length a1 : Int))))] ∧ Ctx [] w0 w [Item.own (.slice (some ⟨b1, 0, none⟩) (Int.toNat (List.length a1 : Int)) (Int.toNat (List.length a1 : Int))) (x4 : (List (Int × Int)))]) ?_ ?_
 ·refine W_block ?_
  refine W.sub (l' := [(0, u1), (3, (.slice (some ⟨b1, 0, none⟩) (Int.toNat (List.length a1 : Int)) (Int.toNat (List.length a1 : Int)))), (4, (.int .i64 0))]) ?_ ⟨rfl, rfl, rfl, trivial⟩
  refine W_loop (fun k l w => ∃ x2 : (List (Int × Int)), ∃ x3 : Int, l = [(0, u1), (3, (.slice (some ⟨b1, 0, none⟩) (Int.toNat (List.length a1 : Int)) (Int.toNat (List.length a1 : Int)))), (4, (.int .i64 x3))] ∧ Ctx [] w0 w [Item.own (.slice (some ⟨b1, 0, none⟩) (Int.toNat (List.length a1 : Int)) (Int.toNat (List.length a1 : Int))) (x2 : (List (Int × Int)))] ∧ Q.toStepS_l1 a1 k x2 x3 = some r1) FUEL ⟨x1, 0, rfl, hC1, hr1⟩ ?_
  clear hr1
  rintro k1 _ w2 ⟨x2, x3, rfl, hC2, hL1⟩
  cases k1 with
  | zero => rw [Q.toStepS_l1] at hL1; cases hL1
  | succ k1 =>
   rw [Q.toStepS_l1] at hL1
   refine W_seq (W_seq_reg ?_)
   refine WL_move rfl rfl ?_
   refine WL_move rfl rfl ?_
   refine WL_len Try.underlying27 g1 rfl rfl ?_
   refine WL_lss rfl rfl rfl ?_
   refine WL_nil ?_
   refine W_cond rfl (fun hc1 => ?_) (fun hc1 => ?_)
   ·replace hL1 := ite_t hL1 hc1
    refine W_skip (nrm_normal (W_seq (W_block (W_reg ?_))))
    refine WL_move rfl rfl ?_
    refine WL_move rfl rfl ?_
    refine WL_move rfl rfl ?_
    refine WL_move rfl rfl ?_
    obtain ⟨x5, hx2, hL1⟩ := bind_some hL1
    refine WL_index Try.underlying27 ty65 g1 hx2 rfl rfl rfl (fun b2 o1 h1 => ?_)
    refine WL_load ty65 h1 hC2.keep rfl rfl (fun v1 h2 => ?_)
    obtain rfl := ro_st65 h2
    obtain ⟨x6, hr2, hL1⟩ := bind_some hL1
    refine WL_call Try.call30 rfl rfl (c_Q_toStep x5 x6 hr2) ?_
    rintro v2 w3 ⟨hB3, F1, hv1, hn1, hb1⟩
    have hC3 := hC2.push hB3 (A := Item.own v2 x6) hv1 hn1 hb1
    obtain ⟨rfl, hC4⟩ := st55_own hC3
    obtain ⟨x7, hx3, hL1⟩ := bind_some hL1
    refine WL_index_own hC4 0 rfl Try.underlying38 ty55 hx3 rfl rfl rfl (fun b3 hE1 => ?_)
    have hC6 := own_st55 x6.1 x6.2 hC4
    refine WL_store_elem hC6 0 rfl ty55 hE1 hx3 rfl rfl rfl (fun w4 hC5 => ?_)
    try dsimp only [List.set] at hC5
    refine WL_nil (blk_normal (nrm_normal (W_reg ?_)))
    refine WL_move rfl rfl ?_
    refine WL_add rfl rfl rfl ?_
    refine WL_assign rfl rfl ?_
    refine WL_nil ?_
    refine nrm_sub (l' := [(0, u1), (3, (.slice (some ⟨b1, 0, none⟩) (Int.toNat (List.length a1 : Int)) (Int.toNat (List.length a1 : Int)))), (4, (.int .i64 (w64 (x3 + 1))))]) ⟨rfl, rfl, rfl, trivial⟩ ?_
    exact ⟨k1, Nat.lt_succ_self _, (List.set x2 (Int.toNat x3) (x6.1, x6.2)), w64 (x3 + 1), rfl, hC5, hL1⟩
   replace hL1 := ite_f hL1 hc1
   refine W_exit (nrm_exit (nrm_exit (blk_exit ?_)))
   have hq1 := Option.some.inj hL1
   subst hq1
   refine nrm_sub (l' := [(3, (.slice (some ⟨b1, 0, none⟩) (Int.toNat (List.length a1 : Int)) (Int.toNat (List.length a1 : Int))))]) ⟨rfl, trivial⟩ ?_
   exact ⟨x2, rfl, rfl, hC2⟩
 rintro l2 _ w5 hs2 ⟨x4, rfl, rfl, hC7⟩
 try dsimp only at hF
 refine nrm_sub' hs2 ?_
 clear hs2
 refine W_seq_reg ?_
 refine WL_move rfl rfl ?_
 refine WL_assign rfl rfl ?_
 refine WL_nil (W_ret ?_)
 have hq2 := Option.some.inj hF
 subst hq2
 refine fn_ret1 rfl rfl ?_
 exact ⟨_, rfl, own_res hC7 0 rfl⟩

theorem c_M_within {w0 : World} (a1 : Int) (a2 : Int) (a3 : Int) (rr : Bool) (hF : M.within a1 a2 a3 = some rr) :
 Calls Try.prog 31 [(.int .i64 a1), (.int .i64 a2), (.int .i64 a3)].toArray w0 fun e w' => ∃ v, e = .returned v ∧ Res w0 rr v w' := by
 refine calls_of_W Try.func31 rfl rfl ?_
 have hC0 := Ctx.start w0
 unfold M.within at hF
 refine W_seq_reg ?_
 refine WL_assign rfl rfl ?_
 refine WL_nil ?_
 obtain ⟨r1, hr1, hF⟩ := bind_some hF
 refine W_cut (fun l w => ∃ x1 : Bool, x1 = r1 ∧ l = [(6, (.bool x1))] ∧ Below w0.heap.size w0 w ∧ Ctx [] w0 w []) ?_ ?_
 ·refine W_reg ?_
  refine WL_move rfl rfl ?_
  refine WL_move rfl rfl ?_
  refine WL_geq rfl rfl rfl ?_
  refine WL_move rfl rfl ?_
  refine WL_fork (fun hc1 => ?_) (fun hc1 => ?_)
  ·replace hr1 := ite_t hr1 hc1
   refine WL_guard rfl rfl ?_
   refine WL_move rfl rfl ?_
   refine WL_guard rfl rfl ?_
   refine WL_move rfl rfl ?_
   refine WL_guard rfl rfl ?_
   refine WL_leq rfl rfl rfl ?_
   refine WL_pick_t rfl rfl rfl ?_
   refine WL_assign rfl rfl ?_
   refine WL_nil ?_
   have hq1 := Option.some.inj hr1
   subst hq1
   refine nrm_sub (l' := [(6, (.bool (decide (a1 ≤ a3))))]) ⟨rfl, trivial⟩ ?_
   exact ⟨(decide (a1 ≤ a3)), rfl, rfl, (Below.refl _ _), hC0⟩
  replace hr1 := ite_f hr1 hc1
  refine WL_guard_skip rfl rfl (by simp) rfl ?_
  refine WL_guard_skip rfl rfl (by simp) rfl ?_
  refine WL_guard_skip rfl rfl (by simp) rfl ?_
  refine WL_pick_f rfl rfl rfl ?_
  refine WL_assign rfl rfl ?_
  refine WL_nil ?_
  have hq2 := Option.some.inj hr1
  subst hq2
  refine nrm_sub (l' := [(6, (.bool false))]) ⟨rfl, trivial⟩ ?_
  exact ⟨false, rfl, rfl, (Below.refl _ _), hC0⟩
 rintro _ w1 ⟨x1, rfl, rfl, hB1, hC1⟩
 try dsimp only at hF
 refine W_ret ?_
 have hq3 := Option.some.inj hF
 subst hq3
 refine fn_ret1 rfl rfl ?_
 exact ⟨_, rfl, bool_res hC1 _⟩

theorem c_M_isValue {w0 : World} (a1 : Int) (rr : Bool) (hF : M.isValue a1 = some rr) :
 Calls Try.prog 42 [(.int .i64 a1)].toArray w0 fun e w' => ∃ v, e = .returned v ∧ Res w0 rr v w' := by
 refine calls_of_W Try.func42 rfl rfl ?_
 have hC0 := Ctx.start w0
 unfold M.isValue at hF
 refine W_seq_reg ?_
 refine WL_assign rfl rfl ?_
 refine WL_nil (W_seq_reg ?_)
 refine WL_move rfl rfl ?_
 obtain ⟨x1, hr1, hF⟩ := bind_some hF
 refine WL_call Try.call31 rfl rfl (c_M_within a1 0 9 x1 hr1) ?_
 intro _ w1 hv1
 obtain ⟨rfl, hB1⟩ := res_bool hv1
 have hC1 := hC0.grow hB1
 refine WL_assign rfl rfl ?_
 refine WL_nil (W_ret ?_)
 have hq1 := Option.some.inj hF
 subst hq1
 refine fn_ret1 rfl rfl ?_
 exact ⟨_, rfl, bool_res hC1 _⟩

theorem c_M_passed {w0 : World} (a1 : (Int × (List Int) × Int × Int × Int)) (u1 : Value) (g1 : RO [] w0 u1 a1.2.1) (a2 : (Int × (List Int))) (u2 : Value) (g2 : RO [] w0 u2 a2.2) (rr : (List Int)) (hF : M.passed a1 a2 = some rr) :
 Calls Try.prog 32 [(.agg #[(.int .i64 a1.1), u1, (.int .i64 a1.2.2.1), (.int .i64 a1.2.2.2.1), (.int .i64 a1.2.2.2.2)]), (.agg #[(.int .i64 a2.1), u2])].toArray w0 fun e w' => ∃ v, e = .returned v ∧ Res w0 rr v w' := by
 refine calls_of_W Try.func32 rfl rfl ?_
 have hC0 := Ctx.start w0
 unfold M.passed at hF
 refine W_seq_reg ?_
 refine WL_boxK (cs := [(.int .i64 a1.1), u1, (.int .i64 a1.2.2.1), (.int .i64 a1.2.2.2.1), (.int .i64 a1.2.2.2.2)]) hC0 rfl rfl rfl (fun b1 w1 hC1 hB1 hN1 => ?_)
 refine WL_boxK (cs := [(.int .i64 a2.1), u2]) hC1 rfl rfl rfl (fun b2 w2 hC2 hB2 hN2 => ?_)
 refine WL_assign rfl rfl ?_
 refine WL_nil (W_seq_reg ?_)
 refine WL_buildSlice (vs := []) hC2 Try.underlying23 ty3 rfl rfl rfl rfl (by simp) rfl rfl (fun b3 w3 hC3 hB3 => ?_)
 have hC4 := hC3.row0 (α := Int)
 have hC5 := hC4.front 1 rfl
 dsimp only [List.eraseIdx, List.cons_append, List.nil_append, List.append_nil] at hC5
 have hC6 : Ctx [] w0 w3 (Item.own (.slice (some ⟨b3, 0, none⟩) 0 0) (([] : List Int) : List Int) :: [Item.box b2 [(.int .i64 a2.1), u2], Item.box b1 [(.int .i64 a1.1), u1, (.int .i64 a1.2.2.1), (.int .i64 a1.2.2.2.1), (.int .i64 a1.2.2.2.2)]]) := hC5.rowOwn (by simp [maxLen])
 refine WL_assign rfl rfl ?_
 refine WL_nil (W_seq (W_seq_reg ?_))
 refine WL_field Try.underlying57 rfl rfl (fun w => ⟨_, Try.sizeOf23 w⟩) rfl rfl ?_
 refine WL_load_box hC6 2 rfl rfl Try.isAgg23 rfl rfl ?_
 refine WL_len Try.underlying23 g1 rfl rfl ?_
 refine WL_move rfl rfl ?_
 refine WL_nil ?_
 obtain ⟨r1, hr1, hF⟩ := bind_some hF
 refine W_norm (fun l w => ∃ v2 : Value, ∃ x3 : (List Int), x3 = r1 ∧ l = [(5, v2)] ∧ Ctx [] w0 w [Item.own v2 (x3 : (List Int))]) ?_ ?_
 ·refine W_block ?_
  have hC23 := hC6.f1
  have hC24 := hC23.f1
  have hC25 := hC24.h2
  refine W.sub (l' := [(3, (ptr b2 0)), (5, (.slice (some ⟨b3, 0, none⟩) 0 0)), (10, u1), (11, (.int .i64 (List.length a1.2.1 : Int))), (12, (.int .i64 0))]) ?_ ⟨rfl, rfl, rfl, rfl, rfl, trivial⟩
  refine W_loop (fun k l w => ∃ v1 : Value, ∃ x1 : (List Int), ∃ x2 : Int, l = [(3, (ptr b2 0)), (5, v1), (10, u1), (11, (.int .i64 (List.length a1.2.1 : Int))), (12, (.int .i64 x2))] ∧ Ctx [] w0 w [Item.own v1 (x1 : (List Int)), Item.box b2 [(.int .i64 a2.1), u2]] ∧ M.passed_l1 a1 a2 k x1 x2 = some r1) FUEL ⟨(.slice (some ⟨b3, 0, none⟩) 0 0), ([] : List Int), 0, rfl, hC25, hr1⟩ ?_
  clear hr1
  rintro k1 _ w4 ⟨v1, x1, x2, rfl, hC7, hL1⟩
  cases k1 with
  | zero => rw [M.passed_l1] at hL1; cases hL1
  | succ k1 =>
   rw [M.passed_l1] at hL1
   refine W_seq_reg ?_
   refine WL_lss rfl rfl rfl ?_
   refine WL_nil (W_seq ?_)
   refine W_cond rfl (fun hc1 => ?_) (fun hc1 => ?_)
   ·replace hL1 := ite_t hL1 hc1
    refine W_skip (nrm_normal (W_seq (W_block (W_seq_reg ?_))))
    obtain ⟨x4, hx1, hL1⟩ := bind_some hL1
    refine WL_index Try.underlying23 ty3 g1 hx1 rfl rfl rfl (fun b4 o1 h1 => ?_)
    refine WL_load ty3 h1 hC7.keep rfl rfl (fun v3 h2 => ?_)
    obtain rfl := ro_int h2
    refine WL_assign rfl rfl ?_
    refine WL_nil ?_
    obtain ⟨r2, hr2, hL1⟩ := bind_some hL1
    refine W_cut (fun l w => ∃ x5 : Bool, x5 = r2 ∧ l = [(3, (ptr b2 0)), (5, v1), (7, (.int .i64 x4)), (10, u1), (11, (.int .i64 (List.length a1.2.1 : Int))), (12, (.int .i64 x2)), (29, (.bool x5))] ∧ Below w4.heap.size w4 w ∧ Ctx [] w0 w [Item.own v1 (x1 : (List Int)), Item.box b2 [(.int .i64 a2.1), u2]]) ?_ ?_
    ·refine W_reg ?_
     refine WL_move rfl rfl ?_
     refine WL_field Try.underlying59 rfl rfl (fun w => ⟨_, Try.sizeOf23 w⟩) rfl rfl ?_
     refine WL_load_box hC7 1 rfl rfl Try.isAgg23 rfl rfl ?_
     refine WL_len Try.underlying23 g2 rfl rfl ?_
     refine WL_sub rfl rfl rfl ?_
     obtain ⟨x6, hr3, hr2⟩ := bind_some hr2
     refine WL_call Try.call31 rfl rfl (c_M_within x4 0 (w64 ((List.length a2.2 : Int) - 1)) x6 hr3) ?_
     intro _ w6 hv1
     obtain ⟨rfl, hB6⟩ := res_bool hv1
     have hC9 := hC7.grow hB6
     refine WL_move rfl rfl ?_
     refine WL_fork (fun hc2 => ?_) (fun hc2 => ?_)
     ·replace hr2 := ite_t hr2 hc2
      refine WL_guard rfl rfl ?_
      refine WL_field Try.underlying59 rfl rfl (fun w => ⟨_, Try.sizeOf23 w⟩) rfl rfl ?_
      refine WL_guard rfl rfl ?_
      refine WL_load_box hC9 1 rfl rfl Try.isAgg23 rfl rfl ?_
      refine WL_guard rfl rfl ?_
      refine WL_move rfl rfl ?_
      obtain ⟨x7, hx2, hr2⟩ := bind_some hr2
      refine WL_guard rfl rfl ?_
      refine WL_index Try.underlying23 ty3 g2 hx2 rfl rfl rfl (fun b5 o2 h3 => ?_)
      refine WL_guard rfl rfl ?_
      refine WL_load ty3 h3 hC9.keep rfl rfl (fun v4 h4 => ?_)
      obtain rfl := ro_int h4
      obtain ⟨x8, hr4, hr2⟩ := bind_some hr2
      refine WL_guard rfl rfl ?_
      refine WL_call Try.call42 rfl rfl (c_M_isValue x7 x8 hr4) ?_
      intro _ w7 hv2
      obtain ⟨rfl, hB7⟩ := res_bool hv2
      have hC10 := hC9.grow hB7
      refine WL_pick_t rfl rfl rfl ?_
      refine WL_nil ?_
      have hq1 := Option.some.inj hr2
      subst hq1
      refine nrm_sub (l' := [(3, (ptr b2 0)), (5, v1), (7, (.int .i64 x4)), (10, u1), (11, (.int .i64 (List.length a1.2.1 : Int))), (12, (.int .i64 x2)), (29, (.bool x8))]) ⟨rfl, rfl, rfl, rfl, rfl, rfl, rfl, trivial⟩ ?_
      exact ⟨x8, rfl, rfl, ((Keep.of hB6).then hB7).below, hC10⟩
     replace hr2 := ite_f hr2 hc2
     refine WL_guard_skip rfl rfl (by simp) rfl ?_
     refine WL_guard_skip rfl rfl (by simp) rfl ?_
     refine WL_guard_skip rfl rfl (by simp) rfl ?_
     refine WL_guard_skip rfl rfl (by simp) rfl ?_
     refine WL_guard_skip rfl rfl (by simp) rfl ?_
     refine WL_guard_skip rfl rfl (by simp) rfl ?_
     refine WL_pick_f rfl rfl rfl ?_
     refine WL_nil ?_
     have hq2 := Option.some.inj hr2
     subst hq2
     refine nrm_sub (l' := [(3, (ptr b2 0)), (5, v1), (7, (.int .i64 x4)), (10, u1), (11, (.int .i64 (List.length a1.2.1 : Int))), (12, (.int .i64 x2)), (29, (.bool false))]) ⟨rfl, rfl, rfl, rfl, rfl, rfl, rfl, trivial⟩ ?_
     exact ⟨false, rfl, rfl, (Keep.of hB6).below, hC9⟩
    rintro _ w5 ⟨x5, rfl, rfl, hB5, hC8⟩
    try dsimp only at hL1
    obtain ⟨r3, hr5, hL1⟩ := bind_some hL1
    refine W_norm (fun l w => ∃ v5 : Value, ∃ x9 : (List Int), x9 = r3 ∧ l = [(3, (ptr b2 0)), (5, v5), (10, u1), (11, (.int .i64 (List.length a1.2.1 : Int))), (12, (.int .i64 x2))] ∧ Ctx [] w0 w [Item.own v5 (x9 : (List Int)), Item.box b2 [(.int .i64 a2.1), u2]]) ?_ ?_
    ·refine W_cond rfl (fun hc3 => ?_) (fun hc3 => ?_)
     ·replace hr5 := ite_t hr5 hc3
      refine W_reg ?_
      refine WL_move rfl rfl ?_
      refine WL_field Try.underlying59 rfl rfl (fun w => ⟨_, Try.sizeOf23 w⟩) rfl rfl ?_
      refine WL_load_box hC8 1 rfl rfl Try.isAgg23 rfl rfl ?_
      refine WL_move rfl rfl ?_
      obtain ⟨x10, hx3, hr5⟩ := bind_some hr5
      refine WL_index Try.underlying23 ty3 g2 hx3 rfl rfl rfl (fun b6 o3 h5 => ?_)
      refine WL_load ty3 h5 hC8.keep rfl rfl (fun v6 h6 => ?_)
      obtain rfl := ro_int h6
      refine WL_buildSlice (vs := [(.int .i64 x10)]) hC8 Try.underlying23 ty3 rfl rfl rfl rfl (by intro v hv; simp only [List.mem_cons, List.not_mem_nil, or_false] at hv; rcases hv with rfl <;> rfl) rfl rfl (fun b7 w10 hC12 hB9 => ?_)
      have hC13 := hC12.row0 (α := Int)
      have hC14 := hC13.triv (int_val (x10))
      have hC15 := hC14.row1
      have hC16 := hC15.front 1 rfl
      dsimp only [List.eraseIdx, List.cons_append, List.nil_append, List.append_nil] at hC16
      have hC17 : Ctx [] w0 w10 (Item.own (.slice (some ⟨b7, 0, none⟩) 1 1) ([x10] : List Int) :: [Item.own v1 (x1 : (List Int)), Item.box b2 [(.int .i64 a2.1), u2]]) := hC16.rowOwn (by simp [maxLen])
      obtain ⟨x11, hx4, hr5⟩ := bind_some hr5
      refine WL_append_flat (α := Int) hC17 1 rfl (hC17.ro 0 rfl) (Keep.refl _ _) Try.underlying23 ty3 rfl hx4 rfl rfl rfl (fun v7 w11 hC18 => ?_)
      try dsimp only [List.set] at hC18
      refine WL_assign rfl rfl ?_
      refine WL_nil ?_
      have hq3 := Option.some.inj hr5
      subst hq3
      have hC19 := hC18.f2
      have hC20 := hC19.f2
      have hC21 := hC20.h2
      refine nrm_sub (l' := [(3, (ptr b2 0)), (5, v7), (10, u1), (11, (.int .i64 (List.length a1.2.1 : Int))), (12, (.int .i64 x2))]) ⟨rfl, rfl, rfl, rfl, rfl, trivial⟩ ?_
      exact ⟨v7, x11, rfl, rfl, hC21⟩
     replace hr5 := ite_f hr5 hc3
     refine W_skip ?_
     have hq4 := Option.some.inj hr5
     subst hq4
     refine nrm_sub (l' := [(3, (ptr b2 0)), (5, v1), (10, u1), (11, (.int .i64 (List.length a1.2.1 : Int))), (12, (.int .i64 x2))]) ⟨rfl, rfl, rfl, rfl, rfl, trivial⟩ ?_
     exact ⟨v1, x1, rfl, rfl, hC8⟩
    rintro l3 _ w9 hs3 ⟨v5, x9, rfl, rfl, hC11⟩
    try dsimp only at hL1
    refine blk_normal ?_
    refine nrm_sub' hs3 ?_
    clear hs3
    refine W_reg ?_
    refine WL_add rfl rfl rfl ?_
    refine WL_move rfl rfl ?_
    refine WL_nil ?_
    refine nrm_sub (l' := [(3, (ptr b2 0)), (5, v5), (10, u1), (11, (.int .i64 (List.length a1.2.1 : Int))), (12, (.int .i64 (w64 (x2 + 1))))]) ⟨rfl, rfl, rfl, rfl, rfl, trivial⟩ ?_
    exact ⟨k1, Nat.lt_succ_self _, v5, x9, w64 (x2 + 1), rfl, hC11, hL1⟩
   replace hL1 := ite_f hL1 hc1
   refine W_exit (nrm_exit (nrm_exit (blk_exit ?_)))
   have hq5 := Option.some.inj hL1
   subst hq5
   have hC22 := hC7.h1
   refine nrm_sub (l' := [(5, v1)]) ⟨rfl, trivial⟩ ?_
   exact ⟨v1, x1, rfl, rfl, hC22⟩
 rintro l4 _ w12 hs4 ⟨v2, x3, rfl, rfl, hC26⟩
 try dsimp only at hF
 refine nrm_sub' hs4 ?_
 clear hs4
 refine W_seq_reg ?_
 refine WL_move rfl rfl ?_
 refine WL_assign rfl rfl ?_
 refine WL_nil (W_ret ?_)
 have hq6 := Option.some.inj hF
 subst hq6
 refine fn_ret1 rfl rfl ?_
 exact ⟨_, rfl, own_res hC26 0 rfl⟩

theorem c_Slices_Sort_Lint_int {Fs : List (List Nat)} {w0 : World} (a1 : (List Int)) (u1 : Value) (hH : Hold [Item.own u1 (a1 : (List Int))] w0 Fs) (hn : Fs.flatten.Nodup) (rr : (List Int)) (hF : Slices.Sort_Lint_int a1 = some rr) :
    Calls Try.prog 33 [u1].toArray w0 fun e w' => ∃ v, e = .returned v ∧ v = (.tuple #[]) ∧ Ctx Fs.flatten w0 w' [Item.own u1 (rr : (List Int))] := sort_calls Try.lays189 a1 u1 hH hn rr hF

theorem c_Slices_Compact_Lint_int {Fs : List (List Nat)} {w0 : World} (a1 : (List Int)) (u1 : Value) (hH : Hold [Item.own u1 (a1 : (List Int))] w0 Fs) (hn : Fs.flatten.Nodup) (rr : (List Int)) (hF : Slices.Compact_Lint_int a1 = some rr) :
    Calls Try.prog 34 [u1].toArray w0 fun e w' => ∃ v, e = .returned v ∧ ∃ q0 : Value, v = q0 ∧ Ctx Fs.flatten w0 w' [Item.own q0 (rr : (List Int))] := compact_calls Try.laysNm220 a1 u1 hH hn rr hF

theorem c_M_Disclosed {w0 : World} (a1 : (List (Int × (List Int) × Int × Int × Int))) (u1 : Value) (g1 : RO [] w0 u1 a1) (a2 : ((List Int) × (List (Int × (List Int))))) (u2 : Value) (g2 : RO [] w0 u2 a2.1) (u3 : Value) (g3 : RO [] w0 u3 a2.2) (a3 : (List (Int × Int))) (u4 : Value) (g4 : RO [] w0 u4 a3) (rr : (List Int)) (hF : M.Disclosed a1 a2 a3 = some rr) :
 Calls Try.prog 11 [u1, (.agg #[u2, u3]), u4].toArray w0 fun e w' => ∃ v, e = .returned v ∧ Res w0 rr v w' := by
 refine calls_of_W Try.func11 rfl rfl ?_
 have hC0 := Ctx.start w0
 unfold M.Disclosed at hF
 refine W_seq_reg ?_
 refine WL_boxK (cs := [u2, u3]) hC0 rfl rfl rfl (fun b1 w1 hC1 hB1 hN1 => ?_)
 refine WL_assign rfl rfl ?_
 refine WL_nil (W_seq_reg ?_)
 refine WL_buildSlice (vs := []) hC1 Try.underlying23 ty3 rfl rfl rfl rfl (by simp) rfl rfl (fun b2 w2 hC2 hB2 => ?_)
 have hC3 := hC2.row0 (α := Int)
 have hC4 := hC3.front 1 rfl
 dsimp only [List.eraseIdx, List.cons_append, List.nil_append, List.append_nil] at hC4
 have hC5 : Ctx [] w0 w2 (Item.own (.slice (some ⟨b2, 0, none⟩) 0 0) (([] : List Int) : List Int) :: [Item.box b1 [u2, u3]]) := hC4.rowOwn (by simp [maxLen])
 refine WL_assign rfl rfl ?_
 refine WL_nil (W_seq (W_seq_reg ?_))
 refine WL_move rfl rfl ?_
 refine WL_len Try.underlying38 g4 rfl rfl ?_
 refine WL_move rfl rfl ?_
 refine WL_nil ?_
 obtain ⟨r1, hr1, hF⟩ := bind_some hF
 refine W_norm (fun l w => ∃ v2 : Value, ∃ x3 : (List Int), x3 = r1 ∧ l = [(7, v2)] ∧ Ctx [] w0 w [Item.own v2 (x3 : (List Int))]) ?_ ?_
 ·refine W_block ?_
  refine W.sub (l' := [(0, u1), (4, (ptr b1 0)), (7, (.slice (some ⟨b2, 0, none⟩) 0 0)), (11, u4), (12, (.int .i64 (List.length a3 : Int))), (13, (.int .i64 0))]) ?_ ⟨rfl, rfl, rfl, rfl, rfl, rfl, trivial⟩
  refine W_loop (fun k l w => ∃ v1 : Value, ∃ x1 : (List Int), ∃ x2 : Int, l = [(0, u1), (4, (ptr b1 0)), (7, v1), (11, u4), (12, (.int .i64 (List.length a3 : Int))), (13, (.int .i64 x2))] ∧ Ctx [] w0 w [Item.own v1 (x1 : (List Int)), Item.box b1 [u2, u3]] ∧ M.Disclosed_l1 a3 a2 a1 k x1 x2 = some r1) FUEL ⟨(.slice (some ⟨b2, 0, none⟩) 0 0), ([] : List Int), 0, rfl, hC5, hr1⟩ ?_
  clear hr1
  rintro k1 _ w3 ⟨v1, x1, x2, rfl, hC6, hL1⟩
  cases k1 with
  | zero => rw [M.Disclosed_l1] at hL1; cases hL1
  | succ k1 =>
   rw [M.Disclosed_l1] at hL1
   refine W_seq_reg ?_
   refine WL_lss rfl rfl rfl ?_
   refine WL_nil (W_seq ?_)
   refine W_cond rfl (fun hc1 => ?_) (fun hc1 => ?_)
   ·replace hL1 := ite_t hL1 hc1
    refine W_skip (nrm_normal (W_seq (W_block (W_seq_reg ?_))))
    obtain ⟨x4, hx1, hL1⟩ := bind_some hL1
    refine WL_index Try.underlying38 ty55 g4 hx1 rfl rfl rfl (fun b3 o1 h1 => ?_)
    refine WL_load ty55 h1 hC6.keep rfl rfl (fun v3 h2 => ?_)
    obtain rfl := ro_st55 h2
    refine WL_allocK hC6 zero55 rfl rfl (fun b4 w4 hC7 hB4 hN2 => ?_)
    refine WL_store_box_aggK (cs' := [(.int .i64 x4.1), (.int .i64 x4.2)]) (new := [(.int .i64 x4.1), (.int .i64 x4.2)]) hC7 0 rfl rfl (by intro v hv; simp only [List.mem_cons, List.not_mem_nil, or_false] at hv; rcases hv with rfl | rfl; exact rfl; exact rfl) rfl Try.sizeOf55 rfl rfl (fun w5 hC8 hKp1 => ?_)
    try dsimp only [List.set] at hC8
    have hk1 := Keep.over (Keep.of hB4) hN2 hKp1
    refine WL_nil ?_
    obtain ⟨r2, hr2, hL1⟩ := bind_some hL1
    refine W_cut (fun l w => ∃ x5 : Bool, x5 = r2 ∧ l = [(0, u1), (4, (ptr b1 0)), (7, v1), (9, (ptr b4 0)), (11, u4), (12, (.int .i64 (List.length a3 : Int))), (13, (.int .i64 x2)), (31, (.bool x5))] ∧ Below w5.heap.size w5 w ∧ Ctx [] w0 w [Item.box b4 [(.int .i64 x4.1), (.int .i64 x4.2)], Item.own v1 (x1 : (List Int)), Item.box b1 [u2, u3]]) ?_ ?_
    ·refine W_reg ?_
     refine WL_field Try.underlying55 rfl rfl (fun w => ⟨_, Try.sizeOf3 w⟩) rfl rfl ?_
     refine WL_load_box hC8 0 rfl rfl Try.isAgg3 rfl rfl ?_
     refine WL_field Try.underlying36 rfl rfl (fun w => ⟨_, Try.sizeOf34 w⟩) rfl rfl ?_
     refine WL_load_box hC8 2 rfl rfl Try.isAgg34 rfl rfl ?_
     refine WL_len Try.underlying34 g3 rfl rfl ?_
     refine WL_sub rfl rfl rfl ?_
     obtain ⟨x6, hr3, hr2⟩ := bind_some hr2
     refine WL_call Try.call31 rfl rfl (c_M_within x4.1 0 (w64 ((List.length a2.2 : Int) - 1)) x6 hr3) ?_
     intro _ w7 hv1
     obtain ⟨rfl, hB6⟩ := res_bool hv1
     have hC10 := hC8.grow hB6
     refine WL_move rfl rfl ?_
     refine WL_fork (fun hc2 => ?_) (fun hc2 => ?_)
     ·replace hr2 := ite_t hr2 hc2
      refine WL_guard rfl rfl ?_
      refine WL_field Try.underlying55 rfl rfl (fun w => ⟨_, Try.sizeOf3 w⟩) rfl rfl ?_
      refine WL_guard rfl rfl ?_
      refine WL_load_box hC10 0 rfl rfl Try.isAgg3 rfl rfl ?_
      refine WL_guard rfl rfl ?_
      refine WL_move rfl rfl ?_
      refine WL_guard rfl rfl ?_
      refine WL_len Try.underlying32 g1 rfl rfl ?_
      refine WL_guard rfl rfl ?_
      refine WL_sub rfl rfl rfl ?_
      obtain ⟨x7, hr4, hr2⟩ := bind_some hr2
      refine WL_guard rfl rfl ?_
      refine WL_call Try.call31 rfl rfl (c_M_within x4.2 0 (w64 ((List.length a1 : Int) - 1)) x7 hr4) ?_
      intro _ w9 hv2
      obtain ⟨rfl, hB7⟩ := res_bool hv2
      have hC11 := hC10.grow hB7
      refine WL_pick_t rfl rfl rfl ?_
      refine WL_nil ?_
      have hq1 := Option.some.inj hr2
      subst hq1
      refine nrm_sub (l' := [(0, u1), (4, (ptr b1 0)), (7, v1), (9, (ptr b4 0)), (11, u4), (12, (.int .i64 (List.length a3 : Int))), (13, (.int .i64 x2)), (31, (.bool x7))]) ⟨rfl, rfl, rfl, rfl, rfl, rfl, rfl, rfl, trivial⟩ ?_
      exact ⟨x7, rfl, rfl, ((Keep.of hB6).then hB7).below, hC11⟩
     replace hr2 := ite_f hr2 hc2
     refine WL_guard_skip rfl rfl (by simp) rfl ?_
     refine WL_guard_skip rfl rfl (by simp) rfl ?_
     refine WL_guard_skip rfl rfl (by simp) rfl ?_
     refine WL_guard_skip rfl rfl (by simp) rfl ?_
     refine WL_guard_skip rfl rfl (by simp) rfl ?_
     refine WL_guard_skip rfl rfl (by simp) rfl ?_
     refine WL_pick_f rfl rfl rfl ?_
     refine WL_nil ?_
     have hq2 := Option.some.inj hr2
     subst hq2
     refine nrm_sub (l' := [(0, u1), (4, (ptr b1 0)), (7, v1), (9, (ptr b4 0)), (11, u4), (12, (.int .i64 (List.length a3 : Int))), (13, (.int .i64 x2)), (31, (.bool false))]) ⟨rfl, rfl, rfl, rfl, rfl, rfl, rfl, rfl, trivial⟩ ?_
     exact ⟨false, rfl, rfl, (Keep.of hB6).below, hC10⟩
    rintro _ w6 ⟨x5, rfl, rfl, hB5, hC9⟩
    try dsimp only at hL1
    obtain ⟨r3, hr5, hL1⟩ := bind_some hL1
    refine W_norm (fun l w => ∃ v4 : Value, ∃ x8 : (List Int), x8 = r3 ∧ l = [(0, u1), (4, (ptr b1 0)), (7, v4), (11, u4), (12, (.int .i64 (List.length a3 : Int))), (13, (.int .i64 x2))] ∧ Ctx [] w0 w [Item.own v4 (x8 : (List Int)), Item.box b1 [u2, u3]]) ?_ ?_
    ·refine W_cond rfl (fun hc3 => ?_) (fun hc3 => ?_)
     ·replace hr5 := ite_t hr5 hc3
      refine W_drawn 15 rfl hmix (fun w11 hB9 => ?_)
      have hC13 := hC9.grow hB9
      refine WA_tk 0 (by kernel_rfl) rfl rfl (fl_move rfl) ?_
      refine WL_move rfl rfl ?_
      refine WL_nil ?_
      refine WA_tk 1 (by kernel_rfl) rfl rfl (fl_move rfl) ?_
      refine WL_move rfl rfl ?_
      refine WL_nil ?_
      refine WA_tk 2 (by kernel_rfl) rfl rfl (fl_field Try.underlying55 rfl rfl (fun w => ⟨_, Try.sizeOf3 w⟩) rfl) ?_
      refine WL_field Try.underlying55 rfl rfl (fun w => ⟨_, Try.sizeOf3 w⟩) rfl rfl ?_
      refine WL_nil ?_
      refine WA_tk 6 (by kernel_rfl) rfl rfl (fl_field Try.underlying36 rfl rfl (fun w => ⟨_, Try.sizeOf34 w⟩) rfl) ?_
      refine WL_field Try.underlying36 rfl rfl (fun w => ⟨_, Try.sizeOf34 w⟩) rfl rfl ?_
      refine WL_nil ?_
      refine WA_tk 8 (by kernel_rfl) rfl rfl (fl_field Try.underlying55 rfl rfl (fun w => ⟨_, Try.sizeOf3 w⟩) rfl) ?_
      refine WL_field Try.underlying55 rfl rfl (fun w => ⟨_, Try.sizeOf3 w⟩) rfl rfl ?_
      refine WL_nil ?_
      obtain ⟨x9, hx2, hr5⟩ := bind_some hr5
      obtain ⟨x10, hx3, hr5⟩ := bind_some hr5
      refine WA.sub (l' := [(0, u1), (4, (ptr b1 0)), (7, v1), (9, (ptr b4 0)), (11, u4), (12, (.int .i64 (List.length a3 : Int))), (13, (.int .i64 x2)), (31, (.bool x5)), (32, v1), (33, u1), (34, (ptr b4 1)), (38, (ptr b1 1)), (40, (ptr b4 0))]) ?_ ⟨rfl, rfl, rfl, rfl, rfl, rfl, rfl, rfl, rfl, rfl, rfl, rfl, rfl, trivial⟩
      refine WA_postsE [⟨3, [], fun vs => PW.val (.int .i64 x4.2), []⟩, ⟨4, [], fun vs => PW.at [] w0 x9, []⟩, ⟨5, [], fun vs => PW.ro [] w0 x9, []⟩, ⟨7, [], fun vs => PW.val u3, []⟩, ⟨9, [], fun vs => PW.val (.int .i64 x4.1), []⟩, ⟨10, [], fun vs => PW.at [] w0 x10, []⟩, ⟨11, [], fun vs => PW.ro [] w0 x10, []⟩] [[], [3], [4], [], [], [7, 9], [10]] 3 rfl (by kernel_rfl) (by kernel_rfl) rfl ?_ ?_
      ·refine StepsE_cons rfl ?_ ?_
       ·intro w12 hB10
        refine DepsE_nil ?_
        refine ⟨_, rfl, ?_⟩
        refine WL_load_box (hC13.grow hB10) 0 rfl rfl Try.isAgg3 rfl rfl ?_
        refine WL_nil ?_
        exact FinE_val (Below.refl _ _) rfl rfl ⟨rfl, rfl⟩
       refine StepsE_cons rfl ?_ ?_
       ·intro w12 hB10
        refine DepsE_cons rfl rfl rfl ?_
        rintro _ _ ⟨rfl, rfl⟩ _
        refine DepsE_nil ?_
        refine ⟨_, rfl, ?_⟩
        refine WL_index Try.underlying32 ty57 g1 hx2 rfl rfl rfl (fun b5 o2 h3 => ?_)
        refine WL_nil ?_
        exact FinE_val (Below.refl _ _) rfl rfl ⟨rfl, _, _, rfl, h3⟩
       refine StepsE_cons rfl ?_ ?_
       ·intro w12 hB10
        refine DepsE_cons rfl rfl rfl ?_
        rintro _ _ ⟨rfl, b5, o2, rfl, h3⟩ _
        refine DepsE_nil ?_
        refine ⟨_, rfl, ?_⟩
        refine WL_load ty57 h3 (hC13.keep.then hB10) rfl rfl (fun v7 h6 => ?_)
        refine WL_nil ?_
        exact FinE_val (Below.refl _ _) rfl rfl ⟨rfl, h6⟩
       refine StepsE_cons rfl ?_ ?_
       ·intro w12 hB10
        refine DepsE_nil ?_
        refine ⟨_, rfl, ?_⟩
        refine WL_load_box (hC13.grow hB10) 2 rfl rfl Try.isAgg34 rfl rfl ?_
        refine WL_nil ?_
        exact FinE_val (Below.refl _ _) rfl rfl ⟨rfl, rfl⟩
       refine StepsE_cons rfl ?_ ?_
       ·intro w12 hB10
        refine DepsE_nil ?_
        refine ⟨_, rfl, ?_⟩
        refine WL_load_box (hC13.grow hB10) 0 rfl rfl Try.isAgg3 rfl rfl ?_
        refine WL_nil ?_
        exact FinE_val (Below.refl _ _) rfl rfl ⟨rfl, rfl⟩
       refine StepsE_cons rfl ?_ ?_
       ·intro w12 hB10
        refine DepsE_cons rfl rfl rfl ?_
        rintro _ _ ⟨rfl, rfl⟩ _
        refine DepsE_cons rfl rfl rfl ?_
        rintro _ _ ⟨rfl, rfl⟩ _
        refine DepsE_nil ?_
        refine ⟨_, rfl, ?_⟩
        refine WL_index Try.underlying34 ty59 g3 hx3 rfl rfl rfl (fun b6 o3 h7 => ?_)
        refine WL_nil ?_
        exact FinE_val (Below.refl _ _) rfl rfl ⟨rfl, _, _, rfl, h7⟩
       refine StepsE_cons rfl ?_ ?_
       ·intro w12 hB10
        refine DepsE_cons rfl rfl rfl ?_
        rintro _ _ ⟨rfl, b6, o3, rfl, h7⟩ _
        refine DepsE_nil ?_
        refine ⟨_, rfl, ?_⟩
        refine WL_load ty59 h7 (hC13.keep.then hB10) rfl rfl (fun v10 h10 => ?_)
        refine WL_nil ?_
        exact FinE_val (Below.refl _ _) rfl rfl ⟨rfl, h10⟩
       exact StepsE_nil
      intro w13 hB11
      refine AllE_cons rfl rfl rfl ?_
      rintro _ _ ⟨rfl, rfl⟩
      refine AllE_cons rfl rfl rfl ?_
      rintro _ _ ⟨rfl, b5, o2, rfl, h3⟩
      refine AllE_cons rfl rfl rfl ?_
      rintro v7 _ ⟨rfl, h6⟩
      obtain ⟨v6, rfl, h5⟩ := ro_st57 h6
      refine AllE_cons rfl rfl rfl ?_
      rintro _ _ ⟨rfl, rfl⟩
      refine AllE_cons rfl rfl rfl ?_
      rintro _ _ ⟨rfl, rfl⟩
      refine AllE_cons rfl rfl rfl ?_
      rintro _ _ ⟨rfl, b6, o3, rfl, h7⟩
      refine AllE_cons rfl rfl rfl ?_
      rintro v10 _ ⟨rfl, h10⟩
      obtain ⟨v9, rfl, h9⟩ := ro_st59 h10
      refine AllE_nil ?_
      intro hn1 hb1
      have hC14 := hC13.grow hB11
      obtain ⟨x11, hr6, hr5⟩ := bind_some hr5
      refine WA_one 12 (by kernel_rfl) rfl ?_
      refine WL_call Try.call32 rfl rfl (c_M_passed x9 v6 (h5.now hC14.keep) x10 v9 (h9.now hC14.keep) x11 hr6) ?_
      rintro v11 w14 ⟨hB12, F1, hv3, hn2, hb2⟩
      have hC15 := hC14.push hB12 (A := Item.own v11 x11) hv3 hn2 hb2
      refine WL_nil ?_
      obtain ⟨x12, hx4, hr5⟩ := bind_some hr5
      refine WA_one 13 (by kernel_rfl) rfl ?_
      refine WL_append_flat8 b8_3 (α := Int) hC15 2 rfl (hC15.ro 0 rfl) (Keep.refl _ _) Try.underlying23 ty3 rfl hx4 rfl rfl rfl (fun v12 w15 hC16 => ?_)
      try dsimp only [List.set] at hC16
      refine WL_nil ?_
      refine WA_tk 14 (by kernel_rfl) rfl rfl (fl_assign rfl) ?_
      refine WL_assign rfl rfl ?_
      refine WL_nil ?_
      refine WA_done (by kernel_rfl) ?_
      have hq3 := Option.some.inj hr5
      subst hq3
      have hC17 := hC16.f3
      have hC18 := hC17.f3
      have hC19 := hC18.h2
      refine nrm_sub (l' := [(0, u1), (4, (ptr b1 0)), (7, v12), (11, u4), (12, (.int .i64 (List.length a3 : Int))), (13, (.int .i64 x2))]) ⟨rfl, rfl, rfl, rfl, rfl, rfl, trivial⟩ ?_
      exact ⟨v12, x12, rfl, rfl, hC19⟩
     replace hr5 := ite_f hr5 hc3
     refine W_skip ?_
     have hq4 := Option.some.inj hr5
     subst hq4
     have hC20 := hC9.f2
     have hC21 := hC20.f2
     have hC22 := hC21.h2
     refine nrm_sub (l' := [(0, u1), (4, (ptr b1 0)), (7, v1), (11, u4), (12, (.int .i64 (List.length a3 : Int))), (13, (.int .i64 x2))]) ⟨rfl, rfl, rfl, rfl, rfl, rfl, trivial⟩ ?_
     exact ⟨v1, x1, rfl, rfl, hC22⟩
    rintro l3 _ w10 hs3 ⟨v4, x8, rfl, rfl, hC12⟩
    try dsimp only at hL1
    refine blk_normal ?_
    refine nrm_sub' hs3 ?_
    clear hs3
    refine W_reg ?_
    refine WL_add rfl rfl rfl ?_
    refine WL_move rfl rfl ?_
    refine WL_nil ?_
    refine nrm_sub (l' := [(0, u1), (4, (ptr b1 0)), (7, v4), (11, u4), (12, (.int .i64 (List.length a3 : Int))), (13, (.int .i64 (w64 (x2 + 1))))]) ⟨rfl, rfl, rfl, rfl, rfl, rfl, trivial⟩ ?_
    exact ⟨k1, Nat.lt_succ_self _, v4, x8, w64 (x2 + 1), rfl, hC12, hL1⟩
   replace hL1 := ite_f hL1 hc1
   refine W_exit (nrm_exit (nrm_exit (blk_exit ?_)))
   have hq5 := Option.some.inj hL1
   subst hq5
   have hC23 := hC6.h1
   refine nrm_sub (l' := [(7, v1)]) ⟨rfl, trivial⟩ ?_
   exact ⟨v1, x1, rfl, rfl, hC23⟩
 rintro l4 _ w16 hs4 ⟨v2, x3, rfl, rfl, hC24⟩
 try dsimp only at hF
 refine nrm_sub' hs4 ?_
 clear hs4
 refine W_seq_reg ?_
 refine WL_move rfl rfl ?_
 obtain ⟨x13, hr7, hF⟩ := bind_some hF
 obtain ⟨Fs1, hH1, hn3, hF1, hO1, hb3⟩ := Ctx.lend2 (As := []) [Item.own v2 (x3 : (List Int))] hC24
 refine WL_call Try.call33 rfl rfl (c_Slices_Sort_Lint_int x3 v2 hH1 hn3 x13 hr7) ?_
 rintro _ w17 ⟨rfl, hq6⟩
 have hC26 : Ctx [] w0 w17 [Item.own v2 (x13 : (List Int))] := hb3 _ _ hq6
 refine WL_nil (W_seq_reg ?_)
 refine WL_move rfl rfl ?_
 obtain ⟨x14, hr8, hF⟩ := bind_some hF
 obtain ⟨Fs2, hH2, hn4, hF2, hO2, hb4⟩ := Ctx.lend2 (As := []) [Item.own v2 (x13 : (List Int))] hC26
 refine WL_call Try.call34 rfl rfl (c_Slices_Compact_Lint_int x13 v2 hH2 hn4 x14 hr8) ?_
 rintro v13 w18 ⟨_, rfl, hq7⟩
 have hC28 : Ctx [] w0 w18 [Item.own v13 (x14 : (List Int))] := hb4 _ _ hq7
 refine WL_assign rfl rfl ?_
 refine WL_nil (W_ret ?_)
 have hq8 := Option.some.inj hF
 subst hq8
 refine fn_ret1 rfl rfl ?_
 exact ⟨_, rfl, own_res hC28 0 rfl⟩

theorem c_Q_eqIntS {w0 : World} (a1 : (List Int)) (u1 : Value) (g1 : RO [] w0 u1 a1) (a2 : (List Int)) (u2 : Value) (g2 : RO [] w0 u2 a2) (rr : Bool) (hF : Q.eqIntS a1 a2 = some rr) :
 Calls Try.prog 12 [u1, u2].toArray w0 fun e w' => ∃ v, e = .returned v ∧ Res w0 rr v w' := by
 refine calls_of_W Try.func12 rfl rfl ?_
 have hC0 := Ctx.start w0
 unfold Q.eqIntS at hF
 refine W_seq_reg ?_
 refine WL_assign rfl rfl ?_
 refine WL_nil (W_seq (W_seq_reg ?_))
 refine WL_move rfl rfl ?_
 refine WL_len Try.underlying23 g1 rfl rfl ?_
 refine WL_move rfl rfl ?_
 refine WL_len Try.underlying23 g2 rfl rfl ?_
 refine WL_neq rfl rfl rfl ?_
 refine WL_nil ?_
 refine W_cond rfl (fun hc1 => ?_) (fun hc1 => ?_)
 ·replace hF := ite_t hF hc1
  refine W_seq_reg ?_
  refine WL_assign rfl rfl ?_
  refine WL_nil (W_ret (nrm_ret ?_))
  have hq1 := Option.some.inj hF
  subst hq1
  refine fn_ret1 rfl rfl ?_
  exact ⟨_, rfl, bool_res hC0 _⟩
 replace hF := ite_f hF hc1
 refine W_skip (nrm_normal (W_seq (W_seq_reg ?_)))
 refine WL_assign rfl rfl ?_
 refine WL_nil ?_
 obtain ⟨r1, hr1, hF⟩ := bind_some hF
 refine W_norm (fun l w => .inl () = r1 ∧ l = [] ∧ Below w0.heap.size w0 w ∧ Ctx [] w0 w []) ?_ ?_
 ·refine W_block ?_
  refine W.sub (l' := [(0, u1), (1, u2), (5, (.int .i64 0))]) ?_ ⟨rfl, rfl, rfl, trivial⟩
  refine W_loop (fun k l w => ∃ x1 : Int, l = [(0, u1), (1, u2), (5, (.int .i64 x1))] ∧ Below w0.heap.size w0 w ∧ Ctx [] w0 w [] ∧ Q.eqIntS_l1 a1 a2 k x1 = some r1) FUEL ⟨0, rfl, (Below.refl _ _), hC0, hr1⟩ ?_
  clear hr1
  rintro k1 _ w1 ⟨x1, rfl, hB1, hC1, hL1⟩
  cases k1 with
  | zero => rw [Q.eqIntS_l1] at hL1; cases hL1
  | succ k1 =>
   rw [Q.eqIntS_l1] at hL1
   refine W_seq (W_seq_reg ?_)
   refine WL_move rfl rfl ?_
   refine WL_move rfl rfl ?_
   refine WL_len Try.underlying23 g1 rfl rfl ?_
   refine WL_lss rfl rfl rfl ?_
   refine WL_nil ?_
   refine W_cond rfl (fun hc2 => ?_) (fun hc2 => ?_)
   ·replace hL1 := ite_t hL1 hc2
    refine W_skip (nrm_normal (W_seq (W_block (W_seq ?_))))
    refine W_drawn 9 rfl hmix (fun w2 hB2 => ?_)
    have hC2 := hC1.grow hB2
    refine WA_tk 0 (by kernel_rfl) rfl rfl (fl_move rfl) ?_
    refine WL_move rfl rfl ?_
    refine WL_nil ?_
    refine WA_tk 1 (by kernel_rfl) rfl rfl (fl_move rfl) ?_
    refine WL_move rfl rfl ?_
    refine WL_nil ?_
    obtain ⟨x2, hx1, hL1⟩ := bind_some hL1
    refine WA_tk 2 (by kernel_rfl) rfl rfl (fl_index Try.underlying23 ty3 g1 hx1 rfl rfl) ?_
    refine WL_index Try.underlying23 ty3 g1 hx1 rfl rfl rfl (fun b1 o1 h1 => ?_)
    refine WL_nil ?_
    refine WA_tk 4 (by kernel_rfl) rfl rfl (fl_move rfl) ?_
    refine WL_move rfl rfl ?_
    refine WL_nil ?_
    refine WA_tk 5 (by kernel_rfl) rfl rfl (fl_move rfl) ?_
    refine WL_move rfl rfl ?_
    refine WL_nil ?_
    obtain ⟨x3, hx2, hL1⟩ := bind_some hL1
    refine WA_tk 6 (by kernel_rfl) rfl rfl (fl_index Try.underlying23 ty3 g2 hx2 rfl rfl) ?_
    refine WL_index Try.underlying23 ty3 g2 hx2 rfl rfl rfl (fun b2 o2 h2 => ?_)
    refine WL_nil ?_
    refine WA.sub (l' := [(0, u1), (1, u2), (5, (.int .i64 x1)), (11, (.int .i64 x1)), (12, u1), (13, (.int .i64 (List.length a1 : Int))), (14, (.bool (decide (x1 < (List.length a1 : Int))))), (17, u1), (18, (.int .i64 x1)), (19, (ptr b1 o1)), (21, u2), (22, (.int .i64 x1)), (23, (ptr b2 o2))]) ?_ ⟨rfl, rfl, rfl, rfl, rfl, rfl, rfl, rfl, rfl, rfl, rfl, rfl, rfl, trivial⟩
    refine WA_postsE [⟨3, [], fun vs => PW.val (.int .i64 x2), []⟩, ⟨7, [], fun vs => PW.val (.int .i64 x3), []⟩] [[], []] 1 rfl (by kernel_rfl) (by kernel_rfl) rfl ?_ ?_
    ·refine StepsE_cons rfl ?_ ?_
     ·intro w3 hB3
      refine DepsE_nil ?_
      refine ⟨_, rfl, ?_⟩
      refine WL_load ty3 h1 (hC2.keep.then hB3) rfl rfl (fun v1 h3 => ?_)
      obtain rfl := ro_int h3
      refine WL_nil ?_
      exact FinE_val (Below.refl _ _) rfl rfl ⟨rfl, rfl⟩
     refine StepsE_cons rfl ?_ ?_
     ·intro w3 hB3
      refine DepsE_nil ?_
      refine ⟨_, rfl, ?_⟩
      refine WL_load ty3 h2 (hC2.keep.then hB3) rfl rfl (fun v2 h4 => ?_)
      obtain rfl := ro_int h4
      refine WL_nil ?_
      exact FinE_val (Below.refl _ _) rfl rfl ⟨rfl, rfl⟩
     exact StepsE_nil
    intro w4 hB4
    refine AllE_cons rfl rfl rfl ?_
    rintro _ _ ⟨rfl, rfl⟩
    refine AllE_cons rfl rfl rfl ?_
    rintro _ _ ⟨rfl, rfl⟩
    refine AllE_nil ?_
    intro hn1 hb1
    have hC3 := hC2.grow hB4
    refine WA_tk 8 (by kernel_rfl) rfl rfl (fl_neq rfl rfl) ?_
    refine WL_neq rfl rfl rfl ?_
    refine WL_nil ?_
    refine WA_done (by kernel_rfl) ?_
    refine nrm_normal ?_
    refine W_cond rfl (fun hc3 => ?_) (fun hc3 => ?_)
    ·replace hL1 := ite_t hL1 hc3
     refine W_seq_reg ?_
     refine WL_assign rfl rfl ?_
     refine WL_nil (W_ret (blk_ret (nrm_ret (nrm_ret (blk_ret (nrm_ret (nrm_ret ?_)))))))
     have hq2 := Option.some.inj hL1
     subst hq2
     dsimp only at hF
     have hq3 := Option.some.inj hF
     subst hq3
     refine fn_ret1 rfl rfl ?_
     exact ⟨_, rfl, bool_res hC3 _⟩
    replace hL1 := ite_f hL1 hc3
    refine W_skip (blk_normal (nrm_normal (W_reg ?_)))
    refine WL_move rfl rfl ?_
    refine WL_add rfl rfl rfl ?_
    refine WL_assign rfl rfl ?_
    refine WL_nil ?_
    refine nrm_sub (l' := [(0, u1), (1, u2), (5, (.int .i64 (w64 (x1 + 1))))]) ⟨rfl, rfl, rfl, trivial⟩ ?_
    exact ⟨k1, Nat.lt_succ_self _, w64 (x1 + 1), rfl, (((Keep.of hB1).then hB2).then hB4).below, hC3, hL1⟩
   replace hL1 := ite_f hL1 hc2
   refine W_exit (nrm_exit (nrm_exit (blk_exit ?_)))
   have hq4 := Option.some.inj hL1
   subst hq4
   refine nrm_sub (l' := []) trivial ?_
   exact ⟨rfl, rfl, (Keep.of hB1).below, hC1⟩
 rintro l2 _ w5 hs2 ⟨rfl, rfl, hB5, hC4⟩
 try dsimp only at hF
 refine nrm_sub' hs2 ?_
 clear hs2
 refine W_seq_reg ?_
 refine WL_assign rfl rfl ?_
 refine WL_nil (W_ret ?_)
 have hq5 := Option.some.inj hF
 subst hq5
 refine fn_ret1 rfl rfl ?_
 exact ⟨_, rfl, bool_res hC4 _⟩

theorem c_Q_eqMethod {w0 : World} (a1 : (Int × (List Int) × Int × Int × Int)) (u1 : Value) (g1 : RO [] w0 u1 a1.2.1) (a2 : (Int × (List Int) × Int × Int × Int)) (u2 : Value) (g2 : RO [] w0 u2 a2.2.1) (rr : Bool) (hF : Q.eqMethod a1 a2 = some rr) :
 Calls Try.prog 35 [(.agg #[(.int .i64 a1.1), u1, (.int .i64 a1.2.2.1), (.int .i64 a1.2.2.2.1), (.int .i64 a1.2.2.2.2)]), (.agg #[(.int .i64 a2.1), u2, (.int .i64 a2.2.2.1), (.int .i64 a2.2.2.2.1), (.int .i64 a2.2.2.2.2)])].toArray w0 fun e w' => ∃ v, e = .returned v ∧ Res w0 rr v w' := by
 refine calls_of_W Try.func35 rfl rfl ?_
 have hC0 := Ctx.start w0
 unfold Q.eqMethod at hF
 refine W_seq_reg ?_
 refine WL_boxK (cs := [(.int .i64 a1.1), u1, (.int .i64 a1.2.2.1), (.int .i64 a1.2.2.2.1), (.int .i64 a1.2.2.2.2)]) hC0 rfl rfl rfl (fun b1 w1 hC1 hB1 hN1 => ?_)
 refine WL_boxK (cs := [(.int .i64 a2.1), u2, (.int .i64 a2.2.2.1), (.int .i64 a2.2.2.2.1), (.int .i64 a2.2.2.2.2)]) hC1 rfl rfl rfl (fun b2 w2 hC2 hB2 hN2 => ?_)
 refine WL_assign rfl rfl ?_
 refine WL_nil (W_seq (W_seq_reg ?_))
 refine WL_field Try.underlying57 rfl rfl (fun w => ⟨_, Try.sizeOf3 w⟩) rfl rfl ?_
 refine WL_load_box hC2 1 rfl rfl Try.isAgg3 rfl rfl ?_
 refine WL_field Try.underlying57 rfl rfl (fun w => ⟨_, Try.sizeOf3 w⟩) rfl rfl ?_
 refine WL_load_box hC2 0 rfl rfl Try.isAgg3 rfl rfl ?_
 refine WL_neq rfl rfl rfl ?_
 refine WL_nil ?_
 refine W_cond rfl (fun hc1 => ?_) (fun hc1 => ?_)
 ·replace hF := ite_t hF hc1
  refine W_seq_reg ?_
  refine WL_assign rfl rfl ?_
  refine WL_nil (W_ret (nrm_ret ?_))
  have hq1 := Option.some.inj hF
  subst hq1
  refine fn_ret1 rfl rfl ?_
  exact ⟨_, rfl, bool_res hC2 _⟩
 replace hF := ite_f hF hc1
 refine W_skip (nrm_normal (W_seq (W_seq_reg ?_)))
 refine WL_field Try.underlying57 rfl rfl (fun w => ⟨_, Try.sizeOf23 w⟩) rfl rfl ?_
 refine WL_load_box hC2 1 rfl rfl Try.isAgg23 rfl rfl ?_
 refine WL_field Try.underlying57 rfl rfl (fun w => ⟨_, Try.sizeOf23 w⟩) rfl rfl ?_
 refine WL_load_box hC2 0 rfl rfl Try.isAgg23 rfl rfl ?_
 obtain ⟨x1, hr1, hF⟩ := bind_some hF
 refine WL_call Try.call12 rfl rfl (c_Q_eqIntS a1.2.1 u1 (g1.now hC2.keep) a2.2.1 u2 (g2.now hC2.keep) x1 hr1) ?_
 intro _ w3 hv1
 obtain ⟨rfl, hB3⟩ := res_bool hv1
 have hC3 := hC2.grow hB3
 refine WL_not rfl rfl ?_
 refine WL_nil ?_
 refine W_cond rfl (fun hc2 => ?_) (fun hc2 => ?_)
 ·replace hF := ite_t hF hc2
  refine W_seq_reg ?_
  refine WL_assign rfl rfl ?_
  refine WL_nil (W_ret (nrm_ret ?_))
  have hq2 := Option.some.inj hF
  subst hq2
  refine fn_ret1 rfl rfl ?_
  exact ⟨_, rfl, bool_res hC3 _⟩
 replace hF := ite_f hF hc2
 refine W_skip (nrm_normal (W_seq (W_seq_reg ?_)))
 refine WL_field Try.underlying57 rfl rfl (fun w => ⟨_, Try.sizeOf3 w⟩) rfl rfl ?_
 refine WL_load_box hC3 1 rfl rfl Try.isAgg3 rfl rfl ?_
 refine WL_field Try.underlying57 rfl rfl (fun w => ⟨_, Try.sizeOf3 w⟩) rfl rfl ?_
 refine WL_load_box hC3 0 rfl rfl Try.isAgg3 rfl rfl ?_
 refine WL_neq rfl rfl rfl ?_
 refine WL_nil ?_
 refine W_cond rfl (fun hc3 => ?_) (fun hc3 => ?_)
 ·replace hF := ite_t hF hc3
  refine W_seq_reg ?_
  refine WL_assign rfl rfl ?_
  refine WL_nil (W_ret (nrm_ret ?_))
  have hq3 := Option.some.inj hF
  subst hq3
  refine fn_ret1 rfl rfl ?_
  exact ⟨_, rfl, bool_res hC3 _⟩
 replace hF := ite_f hF hc3
 refine W_skip (nrm_normal (W_seq (W_seq_reg ?_)))
 refine WL_field Try.underlying57 rfl rfl (fun w => ⟨_, Try.sizeOf3 w⟩) rfl rfl ?_
 refine WL_load_box hC3 1 rfl rfl Try.isAgg3 rfl rfl ?_
 refine WL_field Try.underlying57 rfl rfl (fun w => ⟨_, Try.sizeOf3 w⟩) rfl rfl ?_
 refine WL_load_box hC3 0 rfl rfl Try.isAgg3 rfl rfl ?_
 refine WL_neq rfl rfl rfl ?_
 refine WL_nil ?_
 refine W_cond rfl (fun hc4 => ?_) (fun hc4 => ?_)
 ·replace hF := ite_t hF hc4
  refine W_seq_reg ?_
  refine WL_assign rfl rfl ?_
  refine WL_nil (W_ret (nrm_ret ?_))
  have hq4 := Option.some.inj hF
  subst hq4
  refine fn_ret1 rfl rfl ?_
  exact ⟨_, rfl, bool_res hC3 _⟩
 replace hF := ite_f hF hc4
 refine W_skip (nrm_normal (W_seq (W_seq_reg ?_)))
 refine WL_field Try.underlying57 rfl rfl (fun w => ⟨_, Try.sizeOf3 w⟩) rfl rfl ?_
 refine WL_load_box hC3 1 rfl rfl Try.isAgg3 rfl rfl ?_
 refine WL_field Try.underlying57 rfl rfl (fun w => ⟨_, Try.sizeOf3 w⟩) rfl rfl ?_
 refine WL_load_box hC3 0 rfl rfl Try.isAgg3 rfl rfl ?_
 refine WL_neq rfl rfl rfl ?_
 refine WL_nil ?_
 refine W_cond rfl (fun hc5 => ?_) (fun hc5 => ?_)
 ·replace hF := ite_t hF hc5
  refine W_seq_reg ?_
  refine WL_assign rfl rfl ?_
  refine WL_nil (W_ret (nrm_ret ?_))
  have hq5 := Option.some.inj hF
  subst hq5
  refine fn_ret1 rfl rfl ?_
  exact ⟨_, rfl, bool_res hC3 _⟩
 replace hF := ite_f hF hc5
 refine W_skip (nrm_normal (W_seq_reg ?_))
 refine WL_assign rfl rfl ?_
 refine WL_nil (W_ret ?_)
 have hq6 := Option.some.inj hF
 subst hq6
 refine fn_ret1 rfl rfl ?_
 exact ⟨_, rfl, bool_res hC3 _⟩

theorem c_Q_eqMethodS {w0 : World} (a1 : (List (Int × (List Int) × Int × Int × Int))) (u1 : Value) (g1 : RO [] w0 u1 a1) (a2 : (List (Int × (List Int) × Int × Int × Int))) (u2 : Value) (g2 : RO [] w0 u2 a2) (rr : Bool) (hF : Q.eqMethodS a1 a2 = some rr) :
 Calls Try.prog 13 [u1, u2].toArray w0 fun e w' => ∃ v, e = .returned v ∧ Res w0 rr v w' := by
 refine calls_of_W Try.func13 rfl rfl ?_
 have hC0 := Ctx.start w0
 unfold Q.eqMethodS at hF
 refine W_seq_reg ?_
 refine WL_assign rfl rfl ?_
 refine WL_nil (W_seq (W_seq_reg ?_))
 refine WL_move rfl rfl ?_
 refine WL_len Try.underlying32 g1 rfl rfl ?_
 refine WL_move rfl rfl ?_
 refine WL_len Try.underlying32 g2 rfl rfl ?_
 refine WL_neq rfl rfl rfl ?_
 refine WL_nil ?_
 refine W_cond rfl (fun hc1 => ?_) (fun hc1 => ?_)
 ·replace hF := ite_t hF hc1
  refine W_seq_reg ?_
  refine WL_assign rfl rfl ?_
  refine WL_nil (W_ret (nrm_ret ?_))
  have hq1 := Option.some.inj hF
  subst hq1
  refine fn_ret1 rfl rfl ?_
  exact ⟨_, rfl, bool_res hC0 _⟩
 replace hF := ite_f hF hc1
 refine W_skip (nrm_normal (W_seq (W_seq_reg ?_)))
 refine WL_assign rfl rfl ?_
 refine WL_nil ?_
 obtain ⟨r1, hr1, hF⟩ := bind_some hF
 refine W_norm (fun l w => .inl () = r1 ∧ l = [] ∧ Below w0.heap.size w0 w ∧ Ctx [] w0 w []) ?_ ?_
 ·refine W_block ?_
  refine W.sub (l' := [(0, u1), (1, u2), (5, (.int .i64 0))]) ?_ ⟨rfl, rfl, rfl, trivial⟩
  refine W_loop (fun k l w => ∃ x1 : Int, l = [(0, u1), (1, u2), (5, (.int .i64 x1))] ∧ Below w0.heap.size w0 w ∧ Ctx [] w0 w [] ∧ Q.eqMethodS_l1 a1 a2 k x1 = some r1) FUEL ⟨0, rfl, (Below.refl _ _), hC0, hr1⟩ ?_
  clear hr1
  rintro k1 _ w1 ⟨x1, rfl, hB1, hC1, hL1⟩
  cases k1 with
  | zero => rw [Q.eqMethodS_l1] at hL1; cases hL1
  | succ k1 =>
   rw [Q.eqMethodS_l1] at hL1
   refine W_seq (W_seq_reg ?_)
   refine WL_move rfl rfl ?_
   refine WL_move rfl rfl ?_
   refine WL_len Try.underlying32 g1 rfl rfl ?_
   refine WL_lss rfl rfl rfl ?_
   refine WL_nil ?_
   refine W_cond rfl (fun hc2 => ?_) (fun hc2 => ?_)
   ·replace hL1 := ite_t hL1 hc2
    refine W_skip (nrm_normal (W_seq (W_block (W_seq ?_))))
    refine W_drawn 10 rfl hmix (fun w2 hB2 => ?_)
    have hC2 := hC1.grow hB2
    refine WA_tk 0 (by kernel_rfl) rfl rfl (fl_move rfl) ?_
    refine WL_move rfl rfl ?_
    refine WL_nil ?_
    refine WA_tk 1 (by kernel_rfl) rfl rfl (fl_move rfl) ?_
    refine WL_move rfl rfl ?_
    refine WL_nil ?_
    obtain ⟨x2, hx1, hL1⟩ := bind_some hL1
    refine WA_tk 2 (by kernel_rfl) rfl rfl (fl_index Try.underlying32 ty57 g1 hx1 rfl rfl) ?_
    refine WL_index Try.underlying32 ty57 g1 hx1 rfl rfl rfl (fun b1 o1 h1 => ?_)
    refine WL_nil ?_
    refine WA_tk 4 (by kernel_rfl) rfl rfl (fl_move rfl) ?_
    refine WL_move rfl rfl ?_
    refine WL_nil ?_
    refine WA_tk 5 (by kernel_rfl) rfl rfl (fl_move rfl) ?_
    refine WL_move rfl rfl ?_
    refine WL_nil ?_
    obtain ⟨x3, hx2, hL1⟩ := bind_some hL1
    refine WA_tk 6 (by kernel_rfl) rfl rfl (fl_index Try.underlying32 ty57 g2 hx2 rfl rfl) ?_
    refine WL_index Try.underlying32 ty57 g2 hx2 rfl rfl rfl (fun b2 o2 h2 => ?_)
    refine WL_nil ?_
    refine WA.sub (l' := [(0, u1), (1, u2), (5, (.int .i64 x1)), (11, (.int .i64 x1)), (12, u1), (13, (.int .i64 (List.length a1 : Int))), (14, (.bool (decide (x1 < (List.length a1 : Int))))), (17, u1), (18, (.int .i64 x1)), (19, (ptr b1 o1)), (21, u2), (22, (.int .i64 x1)), (23, (ptr b2 o2))]) ?_ ⟨rfl, rfl, rfl, rfl, rfl, rfl, rfl, rfl, rfl, rfl, rfl, rfl, rfl, trivial⟩
    refine WA_postsE [⟨3, [], fun vs => PW.ro [] w0 x2, []⟩, ⟨7, [], fun vs => PW.ro [] w0 x3, []⟩] [[], []] 2 rfl (by kernel_rfl) (by kernel_rfl) rfl ?_ ?_
    ·refine StepsE_cons rfl ?_ ?_
     ·intro w3 hB3
      refine DepsE_nil ?_
      refine ⟨_, rfl, ?_⟩
      refine WL_load ty57 h1 (hC2.keep.then hB3) rfl rfl (fun v3 h5 => ?_)
      refine WL_nil ?_
      exact FinE_val (Below.refl _ _) rfl rfl ⟨rfl, h5⟩
     refine StepsE_cons rfl ?_ ?_
     ·intro w3 hB3
      refine DepsE_nil ?_
      refine ⟨_, rfl, ?_⟩
      refine WL_load ty57 h2 (hC2.keep.then hB3) rfl rfl (fun v6 h8 => ?_)
      refine WL_nil ?_
      exact FinE_val (Below.refl _ _) rfl rfl ⟨rfl, h8⟩
     exact StepsE_nil
    intro w4 hB4
    refine AllE_cons rfl rfl rfl ?_
    rintro v3 _ ⟨rfl, h5⟩
    obtain ⟨v2, rfl, h4⟩ := ro_st57 h5
    refine AllE_cons rfl rfl rfl ?_
    rintro v6 _ ⟨rfl, h8⟩
    obtain ⟨v5, rfl, h7⟩ := ro_st57 h8
    refine AllE_nil ?_
    intro hn1 hb1
    have hC3 := hC2.grow hB4
    obtain ⟨x4, hr2, hL1⟩ := bind_some hL1
    refine WA_one 8 (by kernel_rfl) rfl ?_
    refine WL_call Try.call35 rfl rfl (c_Q_eqMethod x2 v2 (h4.now hC3.keep) x3 v5 (h7.now hC3.keep) x4 hr2) ?_
    intro _ w5 hv1
    obtain ⟨rfl, hB5⟩ := res_bool hv1
    have hC4 := hC3.grow hB5
    refine WL_nil ?_
    refine WA_tk 9 (by kernel_rfl) rfl rfl (fl_not rfl) ?_
    refine WL_not rfl rfl ?_
    refine WL_nil ?_
    refine WA_done (by kernel_rfl) ?_
    refine nrm_normal ?_
    refine W_cond rfl (fun hc3 => ?_) (fun hc3 => ?_)
    ·replace hL1 := ite_t hL1 hc3
     refine W_seq_reg ?_
     refine WL_assign rfl rfl ?_
     refine WL_nil (W_ret (blk_ret (nrm_ret (nrm_ret (blk_ret (nrm_ret (nrm_ret ?_)))))))
     have hq2 := Option.some.inj hL1
     subst hq2
     dsimp only at hF
     have hq3 := Option.some.inj hF
     subst hq3
     refine fn_ret1 rfl rfl ?_
     exact ⟨_, rfl, bool_res hC4 _⟩
    replace hL1 := ite_f hL1 hc3
    refine W_skip (blk_normal (nrm_normal (W_reg ?_)))
    refine WL_move rfl rfl ?_
    refine WL_add rfl rfl rfl ?_
    refine WL_assign rfl rfl ?_
    refine WL_nil ?_
    refine nrm_sub (l' := [(0, u1), (1, u2), (5, (.int .i64 (w64 (x1 + 1))))]) ⟨rfl, rfl, rfl, trivial⟩ ?_
    exact ⟨k1, Nat.lt_succ_self _, w64 (x1 + 1), rfl, ((((Keep.of hB1).then hB2).then hB4).then hB5).below, hC4, hL1⟩
   replace hL1 := ite_f hL1 hc2
   refine W_exit (nrm_exit (nrm_exit (blk_exit ?_)))
   have hq4 := Option.some.inj hL1
   subst hq4
   refine nrm_sub (l' := []) trivial ?_
   exact ⟨rfl, rfl, (Keep.of hB1).below, hC1⟩
 rintro l2 _ w6 hs2 ⟨rfl, rfl, hB6, hC5⟩
 try dsimp only at hF
 refine nrm_sub' hs2 ?_
 clear hs2
 refine W_seq_reg ?_
 refine WL_assign rfl rfl ?_
 refine WL_nil (W_ret ?_)
 have hq5 := Option.some.inj hF
 subst hq5
 refine fn_ret1 rfl rfl ?_
 exact ⟨_, rfl, bool_res hC5 _⟩

theorem c_Q_eqAtom {w0 : World} (a1 : (Int × (List Int))) (u1 : Value) (g1 : RO [] w0 u1 a1.2) (a2 : (Int × (List Int))) (u2 : Value) (g2 : RO [] w0 u2 a2.2) (rr : Bool) (hF : Q.eqAtom a1 a2 = some rr) :
 Calls Try.prog 45 [(.agg #[(.int .i64 a1.1), u1]), (.agg #[(.int .i64 a2.1), u2])].toArray w0 fun e w' => ∃ v, e = .returned v ∧ Res w0 rr v w' := by
 refine calls_of_W Try.func45 rfl rfl ?_
 have hC0 := Ctx.start w0
 unfold Q.eqAtom at hF
 refine W_seq_reg ?_
 refine WL_boxK (cs := [(.int .i64 a1.1), u1]) hC0 rfl rfl rfl (fun b1 w1 hC1 hB1 hN1 => ?_)
 refine WL_boxK (cs := [(.int .i64 a2.1), u2]) hC1 rfl rfl rfl (fun b2 w2 hC2 hB2 hN2 => ?_)
 refine WL_assign rfl rfl ?_
 refine WL_nil (W_seq (W_seq_reg ?_))
 refine WL_field Try.underlying59 rfl rfl (fun w => ⟨_, Try.sizeOf3 w⟩) rfl rfl ?_
 refine WL_load_box hC2 1 rfl rfl Try.isAgg3 rfl rfl ?_
 refine WL_field Try.underlying59 rfl rfl (fun w => ⟨_, Try.sizeOf3 w⟩) rfl rfl ?_
 refine WL_load_box hC2 0 rfl rfl Try.isAgg3 rfl rfl ?_
 refine WL_neq rfl rfl rfl ?_
 refine WL_nil ?_
 refine W_cond rfl (fun hc1 => ?_) (fun hc1 => ?_)
 ·replace hF := ite_t hF hc1
  refine W_seq_reg ?_
  refine WL_assign rfl rfl ?_
  refine WL_nil (W_ret (nrm_ret ?_))
  have hq1 := Option.some.inj hF
  subst hq1
  refine fn_ret1 rfl rfl ?_
  exact ⟨_, rfl, bool_res hC2 _⟩
 replace hF := ite_f hF hc1
 refine W_skip (nrm_normal (W_seq (W_seq_reg ?_)))
 refine WL_field Try.underlying59 rfl rfl (fun w => ⟨_, Try.sizeOf23 w⟩) rfl rfl ?_
 refine WL_load_box hC2 1 rfl rfl Try.isAgg23 rfl rfl ?_
 refine WL_field Try.underlying59 rfl rfl (fun w => ⟨_, Try.sizeOf23 w⟩) rfl rfl ?_
 refine WL_load_box hC2 0 rfl rfl Try.isAgg23 rfl rfl ?_
 obtain ⟨x1, hr1, hF⟩ := bind_some hF
 refine WL_call Try.call12 rfl rfl (c_Q_eqIntS a1.2 u1 (g1.now hC2.keep) a2.2 u2 (g2.now hC2.keep) x1 hr1) ?_
 intro _ w3 hv1
 obtain ⟨rfl, hB3⟩ := res_bool hv1
 have hC3 := hC2.grow hB3
 refine WL_not rfl rfl ?_
 refine WL_nil ?_
 refine W_cond rfl (fun hc2 => ?_) (fun hc2 => ?_)
 ·replace hF := ite_t hF hc2
  refine W_seq_reg ?_
  refine WL_assign rfl rfl ?_
  refine WL_nil (W_ret (nrm_ret ?_))
  have hq2 := Option.some.inj hF
  subst hq2
  refine fn_ret1 rfl rfl ?_
  exact ⟨_, rfl, bool_res hC3 _⟩
 replace hF := ite_f hF hc2
 refine W_skip (nrm_normal (W_seq_reg ?_))
 refine WL_assign rfl rfl ?_
 refine WL_nil (W_ret ?_)
 have hq3 := Option.some.inj hF
 subst hq3
 refine fn_ret1 rfl rfl ?_
 exact ⟨_, rfl, bool_res hC3 _⟩

theorem c_Q_eqAtomS {w0 : World} (a1 : (List (Int × (List Int)))) (u1 : Value) (g1 : RO [] w0 u1 a1) (a2 : (List (Int × (List Int)))) (u2 : Value) (g2 : RO [] w0 u2 a2) (rr : Bool) (hF : Q.eqAtomS a1 a2 = some rr) :
 Calls Try.prog 36 [u1, u2].toArray w0 fun e w' => ∃ v, e = .returned v ∧ Res w0 rr v w' := by
 refine calls_of_W Try.func36 rfl rfl ?_
 have hC0 := Ctx.start w0
 unfold Q.eqAtomS at hF
 refine W_seq_reg ?_
 refine WL_assign rfl rfl ?_
 refine WL_nil (W_seq (W_seq_reg ?_))
 refine WL_move rfl rfl ?_
 refine WL_len Try.underlying34 g1 rfl rfl ?_
 refine WL_move rfl rfl ?_
 refine WL_len Try.underlying34 g2 rfl rfl ?_
 refine WL_neq rfl rfl rfl ?_
 refine WL_nil ?_
 refine W_cond rfl (fun hc1 => ?_) (fun hc1 => ?_)
 ·replace hF := ite_t hF hc1
  refine W_seq_reg ?_
  refine WL_assign rfl rfl ?_
  refine WL_nil (W_ret (nrm_ret ?_))
  have hq1 := Option.some.inj hF
  subst hq1
  refine fn_ret1 rfl rfl ?_
  exact ⟨_, rfl, bool_res hC0 _⟩
 replace hF := ite_f hF hc1
 refine W_skip (nrm_normal (W_seq (W_seq_reg ?_)))
 refine WL_assign rfl rfl ?_
 refine WL_nil ?_
 obtain ⟨r1, hr1, hF⟩ := bind_some hF
 refine W_norm (fun l w => .inl () = r1 ∧ l = [] ∧ Below w0.heap.size w0 w ∧ Ctx [] w0 w []) ?_ ?_
 ·refine W_block ?_
  refine W.sub (l' := [(0, u1), (1, u2), (5, (.int .i64 0))]) ?_ ⟨rfl, rfl, rfl, trivial⟩
  refine W_loop (fun k l w => ∃ x1 : Int, l = [(0, u1), (1, u2), (5, (.int .i64 x1))] ∧ Below w0.heap.size w0 w ∧ Ctx [] w0 w [] ∧ Q.eqAtomS_l1 a1 a2 k x1 = some r1) FUEL ⟨0, rfl, (Below.refl _ _), hC0, hr1⟩ ?_
  clear hr1
  rintro k1 _ w1 ⟨x1, rfl, hB1, hC1, hL1⟩
  cases k1 with
  | zero => rw [Q.eqAtomS_l1] at hL1; cases hL1
  | succ k1 =>
   rw [Q.eqAtomS_l1] at hL1
   refine W_seq (W_seq_reg ?_)
   refine WL_move rfl rfl ?_
   refine WL_move rfl rfl ?_
   refine WL_len Try.underlying34 g1 rfl rfl ?_
   refine WL_lss rfl rfl rfl ?_
   refine WL_nil ?_
   refine W_cond rfl (fun hc2 => ?_) (fun hc2 => ?_)
   ·replace hL1 := ite_t hL1 hc2
    refine W_skip (nrm_normal (W_seq (W_block (W_seq ?_))))
    refine W_drawn 10 rfl hmix (fun w2 hB2 => ?_)
    have hC2 := hC1.grow hB2
    refine WA_tk 0 (by kernel_rfl) rfl rfl (fl_move rfl) ?_
    refine WL_move rfl rfl ?_
    refine WL_nil ?_
    refine WA_tk 1 (by kernel_rfl) rfl rfl (fl_move rfl) ?_
    refine WL_move rfl rfl ?_
    refine WL_nil ?_
    obtain ⟨x2, hx1, hL1⟩ := bind_some hL1
    refine WA_tk 2 (by kernel_rfl) rfl rfl (fl_index Try.underlying34 ty59 g1 hx1 rfl rfl) ?_
    refine WL_index Try.underlying34 ty59 g1 hx1 rfl rfl rfl (fun b1 o1 h1 => ?_)
    refine WL_nil ?_
    refine WA_tk 4 (by kernel_rfl) rfl rfl (fl_move rfl) ?_
    refine WL_move rfl rfl ?_
    refine WL_nil ?_
    refine WA_tk 5 (by kernel_rfl) rfl rfl (fl_move rfl) ?_
    refine WL_move rfl rfl ?_
    refine WL_nil ?_
    obtain ⟨x3, hx2, hL1⟩ := bind_some hL1
    refine WA_tk 6 (by kernel_rfl) rfl rfl (fl_index Try.underlying34 ty59 g2 hx2 rfl rfl) ?_
    refine WL_index Try.underlying34 ty59 g2 hx2 rfl rfl rfl (fun b2 o2 h2 => ?_)
    refine WL_nil ?_
    refine WA.sub (l' := [(0, u1), (1, u2), (5, (.int .i64 x1)), (11, (.int .i64 x1)), (12, u1), (13, (.int .i64 (List.length a1 : Int))), (14, (.bool (decide (x1 < (List.length a1 : Int))))), (17, u1), (18, (.int .i64 x1)), (19, (ptr b1 o1)), (21, u2), (22, (.int .i64 x1)), (23, (ptr b2 o2))]) ?_ ⟨rfl, rfl, rfl, rfl, rfl, rfl, rfl, rfl, rfl, rfl, rfl, rfl, rfl, trivial⟩
    refine WA_postsE [⟨3, [], fun vs => PW.ro [] w0 x2, []⟩, ⟨7, [], fun vs => PW.ro [] w0 x3, []⟩] [[], []] 2 rfl (by kernel_rfl) (by kernel_rfl) rfl ?_ ?_
    ·refine StepsE_cons rfl ?_ ?_
     ·intro w3 hB3
      refine DepsE_nil ?_
      refine ⟨_, rfl, ?_⟩
      refine WL_load ty59 h1 (hC2.keep.then hB3) rfl rfl (fun v3 h5 => ?_)
      refine WL_nil ?_
      exact FinE_val (Below.refl _ _) rfl rfl ⟨rfl, h5⟩
     refine StepsE_cons rfl ?_ ?_
     ·intro w3 hB3
      refine DepsE_nil ?_
      refine ⟨_, rfl, ?_⟩
      refine WL_load ty59 h2 (hC2.keep.then hB3) rfl rfl (fun v6 h8 => ?_)
      refine WL_nil ?_
      exact FinE_val (Below.refl _ _) rfl rfl ⟨rfl, h8⟩
     exact StepsE_nil
    intro w4 hB4
    refine AllE_cons rfl rfl rfl ?_
    rintro v3 _ ⟨rfl, h5⟩
    obtain ⟨v2, rfl, h4⟩ := ro_st59 h5
    refine AllE_cons rfl rfl rfl ?_
    rintro v6 _ ⟨rfl, h8⟩
    obtain ⟨v5, rfl, h7⟩ := ro_st59 h8
    refine AllE_nil ?_
    intro hn1 hb1
    have hC3 := hC2.grow hB4
    obtain ⟨x4, hr2, hL1⟩ := bind_some hL1
    refine WA_one 8 (by kernel_rfl) rfl ?_
    refine WL_call Try.call45 rfl rfl (c_Q_eqAtom x2 v2 (h4.now hC3.keep) x3 v5 (h7.now hC3.keep) x4 hr2) ?_
    intro _ w5 hv1
    obtain ⟨rfl, hB5⟩ := res_bool hv1
    have hC4 := hC3.grow hB5
    refine WL_nil ?_
    refine WA_tk 9 (by kernel_rfl) rfl rfl (fl_not rfl) ?_
    refine WL_not rfl rfl ?_
    refine WL_nil ?_
    refine WA_done (by kernel_rfl) ?_
    refine nrm_normal ?_
    refine W_cond rfl (fun hc3 => ?_) (fun hc3 => ?_)
    ·replace hL1 := ite_t hL1 hc3
     refine W_seq_reg ?_
     refine WL_assign rfl rfl ?_
     refine WL_nil (W_ret (blk_ret (nrm_ret (nrm_ret (blk_ret (nrm_ret (nrm_ret ?_)))))))
     have hq2 := Option.some.inj hL1
     subst hq2
     dsimp only at hF
     have hq3 := Option.some.inj hF
     subst hq3
     refine fn_ret1 rfl rfl ?_
     exact ⟨_, rfl, bool_res hC4 _⟩
    replace hL1 := ite_f hL1 hc3
    refine W_skip (blk_normal (nrm_normal (W_reg ?_)))
    refine WL_move rfl rfl ?_
    refine WL_add rfl rfl rfl ?_
    refine WL_assign rfl rfl ?_
    refine WL_nil ?_
    refine nrm_sub (l' := [(0, u1), (1, u2), (5, (.int .i64 (w64 (x1 + 1))))]) ⟨rfl, rfl, rfl, trivial⟩ ?_
    exact ⟨k1, Nat.lt_succ_self _, w64 (x1 + 1), rfl, ((((Keep.of hB1).then hB2).then hB4).then hB5).below, hC4, hL1⟩
   replace hL1 := ite_f hL1 hc2
   refine W_exit (nrm_exit (nrm_exit (blk_exit ?_)))
   have hq4 := Option.some.inj hL1
   subst hq4
   refine nrm_sub (l' := []) trivial ?_
   exact ⟨rfl, rfl, (Keep.of hB1).below, hC1⟩
 rintro l2 _ w6 hs2 ⟨rfl, rfl, hB6, hC5⟩
 try dsimp only at hF
 refine nrm_sub' hs2 ?_
 clear hs2
 refine W_seq_reg ?_
 refine WL_assign rfl rfl ?_
 refine WL_nil (W_ret ?_)
 have hq5 := Option.some.inj hF
 subst hq5
 refine fn_ret1 rfl rfl ?_
 exact ⟨_, rfl, bool_res hC5 _⟩

theorem c_Q_eqQuery {w0 : World} (a1 : ((List Int) × (List (Int × (List Int))))) (u1 : Value) (g1 : RO [] w0 u1 a1.1) (u2 : Value) (g2 : RO [] w0 u2 a1.2) (a2 : ((List Int) × (List (Int × (List Int))))) (u3 : Value) (g3 : RO [] w0 u3 a2.1) (u4 : Value) (g4 : RO [] w0 u4 a2.2) (rr : Bool) (hF : Q.eqQuery a1 a2 = some rr) :
 Calls Try.prog 14 [(.agg #[u1, u2]), (.agg #[u3, u4])].toArray w0 fun e w' => ∃ v, e = .returned v ∧ Res w0 rr v w' := by
 refine calls_of_W Try.func14 rfl rfl ?_
 have hC0 := Ctx.start w0
 unfold Q.eqQuery at hF
 refine W_seq_reg ?_
 refine WL_boxK (cs := [u1, u2]) hC0 rfl rfl rfl (fun b1 w1 hC1 hB1 hN1 => ?_)
 refine WL_boxK (cs := [u3, u4]) hC1 rfl rfl rfl (fun b2 w2 hC2 hB2 hN2 => ?_)
 refine WL_assign rfl rfl ?_
 refine WL_nil (W_seq (W_seq_reg ?_))
 refine WL_field Try.underlying36 rfl rfl (fun w => ⟨_, Try.sizeOf23 w⟩) rfl rfl ?_
 refine WL_load_box hC2 1 rfl rfl Try.isAgg23 rfl rfl ?_
 refine WL_field Try.underlying36 rfl rfl (fun w => ⟨_, Try.sizeOf23 w⟩) rfl rfl ?_
 refine WL_load_box hC2 0 rfl rfl Try.isAgg23 rfl rfl ?_
 obtain ⟨x1, hr1, hF⟩ := bind_some hF
 refine WL_call Try.call12 rfl rfl (c_Q_eqIntS a1.1 u1 (g1.now hC2.keep) a2.1 u3 (g3.now hC2.keep) x1 hr1) ?_
 intro _ w3 hv1
 obtain ⟨rfl, hB3⟩ := res_bool hv1
 have hC3 := hC2.grow hB3
 refine WL_not rfl rfl ?_
 refine WL_nil ?_
 refine W_cond rfl (fun hc1 => ?_) (fun hc1 => ?_)
 ·replace hF := ite_t hF hc1
  refine W_seq_reg ?_
  refine WL_assign rfl rfl ?_
  refine WL_nil (W_ret (nrm_ret ?_))
  have hq1 := Option.some.inj hF
  subst hq1
  refine fn_ret1 rfl rfl ?_
  exact ⟨_, rfl, bool_res hC3 _⟩
 replace hF := ite_f hF hc1
 refine W_skip (nrm_normal (W_seq (W_seq_reg ?_)))
 refine WL_field Try.underlying36 rfl rfl (fun w => ⟨_, Try.sizeOf34 w⟩) rfl rfl ?_
 refine WL_load_box hC3 1 rfl rfl Try.isAgg34 rfl rfl ?_
 refine WL_field Try.underlying36 rfl rfl (fun w => ⟨_, Try.sizeOf34 w⟩) rfl rfl ?_
 refine WL_load_box hC3 0 rfl rfl Try.isAgg34 rfl rfl ?_
 obtain ⟨x2, hr2, hF⟩ := bind_some hF
 refine WL_call Try.call36 rfl rfl (c_Q_eqAtomS a1.2 u2 (g2.now hC3.keep) a2.2 u4 (g4.now hC3.keep) x2 hr2) ?_
 intro _ w4 hv2
 obtain ⟨rfl, hB4⟩ := res_bool hv2
 have hC4 := hC3.grow hB4
 refine WL_not rfl rfl ?_
 refine WL_nil ?_
 refine W_cond rfl (fun hc2 => ?_) (fun hc2 => ?_)
 ·replace hF := ite_t hF hc2
  refine W_seq_reg ?_
  refine WL_assign rfl rfl ?_
  refine WL_nil (W_ret (nrm_ret ?_))
  have hq2 := Option.some.inj hF
  subst hq2
  refine fn_ret1 rfl rfl ?_
  exact ⟨_, rfl, bool_res hC4 _⟩
 replace hF := ite_f hF hc2
 refine W_skip (nrm_normal (W_seq_reg ?_))
 refine WL_assign rfl rfl ?_
 refine WL_nil (W_ret ?_)
 have hq3 := Option.some.inj hF
 subst hq3
 refine fn_ret1 rfl rfl ?_
 exact ⟨_, rfl, bool_res hC4 _⟩

theorem c_Q_eqStep {w0 : World} (a1 : (Int × Int)) (a2 : (Int × Int)) (rr : Bool) (hF : Q.eqStep a1 a2 = some rr) :
 Calls Try.prog 37 [(.agg #[(.int .i64 a1.1), (.int .i64 a1.2)]), (.agg #[(.int .i64 a2.1), (.int .i64 a2.2)])].toArray w0 fun e w' => ∃ v, e = .returned v ∧ Res w0 rr v w' := by
 refine calls_of_W Try.func37 rfl rfl ?_
 have hC0 := Ctx.start w0
 unfold Q.eqStep at hF
 refine W_seq_reg ?_
 refine WL_boxK (cs := [(.int .i64 a1.1), (.int .i64 a1.2)]) hC0 rfl rfl rfl (fun b1 w1 hC1 hB1 hN1 => ?_)
 refine WL_boxK (cs := [(.int .i64 a2.1), (.int .i64 a2.2)]) hC1 rfl rfl rfl (fun b2 w2 hC2 hB2 hN2 => ?_)
 refine WL_assign rfl rfl ?_
 refine WL_nil (W_seq (W_seq_reg ?_))
 refine WL_field Try.underlying55 rfl rfl (fun w => ⟨_, Try.sizeOf3 w⟩) rfl rfl ?_
 refine WL_load_box hC2 1 rfl rfl Try.isAgg3 rfl rfl ?_
 refine WL_field Try.underlying55 rfl rfl (fun w => ⟨_, Try.sizeOf3 w⟩) rfl rfl ?_
 refine WL_load_box hC2 0 rfl rfl Try.isAgg3 rfl rfl ?_
 refine WL_neq rfl rfl rfl ?_
 refine WL_nil ?_
 refine W_cond rfl (fun hc1 => ?_) (fun hc1 => ?_)
 ·replace hF := ite_t hF hc1
  refine W_seq_reg ?_
  refine WL_assign rfl rfl ?_
  refine WL_nil (W_ret (nrm_ret ?_))
  have hq1 := Option.some.inj hF
  subst hq1
  refine fn_ret1 rfl rfl ?_
  exact ⟨_, rfl, bool_res hC2 _⟩
 replace hF := ite_f hF hc1
 refine W_skip (nrm_normal (W_seq (W_seq_reg ?_)))
 refine WL_field Try.underlying55 rfl rfl (fun w => ⟨_, Try.sizeOf3 w⟩) rfl rfl ?_
 refine WL_load_box hC2 1 rfl rfl Try.isAgg3 rfl rfl ?_
 refine WL_field Try.underlying55 rfl rfl (fun w => ⟨_, Try.sizeOf3 w⟩) rfl rfl ?_
 refine WL_load_box hC2 0 rfl rfl Try.isAgg3 rfl rfl ?_
 refine WL_neq rfl rfl rfl ?_
 refine WL_nil ?_
 refine W_cond rfl (fun hc2 => ?_) (fun hc2 => ?_)
 ·replace hF := ite_t hF hc2
  refine W_seq_reg ?_
  refine WL_assign rfl rfl ?_
  refine WL_nil (W_ret (nrm_ret ?_))
  have hq2 := Option.some.inj hF
  subst hq2
  refine fn_ret1 rfl rfl ?_
  exact ⟨_, rfl, bool_res hC2 _⟩
 replace hF := ite_f hF hc2
 refine W_skip (nrm_normal (W_seq_reg ?_))
 refine WL_assign rfl rfl ?_
 refine WL_nil (W_ret ?_)
 have hq3 := Option.some.inj hF
 subst hq3
 refine fn_ret1 rfl rfl ?_
 exact ⟨_, rfl, bool_res hC2 _⟩

theorem c_Q_eqStepS {w0 : World} (a1 : (List (Int × Int))) (u1 : Value) (g1 : RO [] w0 u1 a1) (a2 : (List (Int × Int))) (u2 : Value) (g2 : RO [] w0 u2 a2) (rr : Bool) (hF : Q.eqStepS a1 a2 = some rr) :
 Calls Try.prog 15 [u1, u2].toArray w0 fun e w' => ∃ v, e = .returned v ∧ Res w0 rr v w' := by
 refine calls_of_W Try.func15 rfl rfl ?_
 have hC0 := Ctx.start w0
 unfold Q.eqStepS at hF
 refine W_seq_reg ?_
 refine WL_assign rfl rfl ?_
 refine WL_nil (W_seq (W_seq_reg ?_))
 refine WL_move rfl rfl ?_
 refine WL_len Try.underlying38 g1 rfl rfl ?_
 refine WL_move rfl rfl ?_
 refine WL_len Try.underlying38 g2 rfl rfl ?_
 refine WL_neq rfl rfl rfl ?_
 refine WL_nil ?_
 refine W_cond rfl (fun hc1 => ?_) (fun hc1 => ?_)
 ·replace hF := ite_t hF hc1
  refine W_seq_reg ?_
  refine WL_assign rfl rfl ?_
  refine WL_nil (W_ret (nrm_ret ?_))
  have hq1 := Option.some.inj hF
  subst hq1
  refine fn_ret1 rfl rfl ?_
  exact ⟨_, rfl, bool_res hC0 _⟩
 replace hF := ite_f hF hc1
 refine W_skip (nrm_normal (W_seq (W_seq_reg ?_)))
 refine WL_assign rfl rfl ?_
 refine WL_nil ?_
 obtain ⟨r1, hr1, hF⟩ := bind_some hF
 refine W_norm (fun l w => .inl () = r1 ∧ l = [] ∧ Below w0.heap.size w0 w ∧ Ctx [] w0 w []) ?_ ?_
 ·refine W_block ?_
  refine W.sub (l' := [(0, u1), (1, u2), (5, (.int .i64 0))]) ?_ ⟨rfl, rfl, rfl, trivial⟩
  refine W_loop (fun k l w => ∃ x1 : Int, l = [(0, u1), (1, u2), (5, (.int .i64 x1))] ∧ Below w0.heap.size w0 w ∧ Ctx [] w0 w [] ∧ Q.eqStepS_l1 a1 a2 k x1 = some r1) FUEL ⟨0, rfl, (Below.refl _ _), hC0, hr1⟩ ?_
  clear hr1
  rintro k1 _ w1 ⟨x1, rfl, hB1, hC1, hL1⟩
  cases k1 with
  | zero => rw [Q.eqStepS_l1] at hL1; cases hL1
  | succ k1 =>
   rw [Q.eqStepS_l1] at hL1
   refine W_seq (W_seq_reg ?_)
   refine WL_move rfl rfl ?_
   refine WL_move rfl rfl ?_
   refine WL_len Try.underlying38 g1 rfl rfl ?_
   refine WL_lss rfl rfl rfl ?_
   refine WL_nil ?_
   refine W_cond rfl (fun hc2 => ?_) (fun hc2 => ?_)
   ·replace hL1 := ite_t hL1 hc2
    refine W_skip (nrm_normal (W_seq (W_block (W_seq ?_))))
    refine W_drawn 10 rfl hmix (fun w2 hB2 => ?_)
    have hC2 := hC1.grow hB2
    refine WA_tk 0 (by kernel_rfl) rfl rfl (fl_move rfl) ?_
    refine WL_move rfl rfl ?_
    refine WL_nil ?_
    refine WA_tk 1 (by kernel_rfl) rfl rfl (fl_move rfl) ?_
    refine WL_move rfl rfl ?_
    refine WL_nil ?_
    obtain ⟨x2, hx1, hL1⟩ := bind_some hL1
    refine WA_tk 2 (by kernel_rfl) rfl rfl (fl_index Try.underlying38 ty55 g1 hx1 rfl rfl) ?_
    refine WL_index Try.underlying38 ty55 g1 hx1 rfl rfl rfl (fun b1 o1 h1 => ?_)
    refine WL_nil ?_
    refine WA_tk 4 (by kernel_rfl) rfl rfl (fl_move rfl) ?_
    refine WL_move rfl rfl ?_
    refine WL_nil ?_
    refine WA_tk 5 (by kernel_rfl) rfl rfl (fl_move rfl) ?_
    refine WL_move rfl rfl ?_
    refine WL_nil ?_
    obtain ⟨x3, hx2, hL1⟩ := bind_some hL1
    refine WA_tk 6 (by kernel_rfl) rfl rfl (fl_index Try.underlying38 ty55 g2 hx2 rfl rfl) ?_
    refine WL_index Try.underlying38 ty55 g2 hx2 rfl rfl rfl (fun b2 o2 h2 => ?_)
    refine WL_nil ?_
    refine WA.sub (l' := [(0, u1), (1, u2), (5, (.int .i64 x1)), (11, (.int .i64 x1)), (12, u1), (13, (.int .i64 (List.length a1 : Int))), (14, (.bool (decide (x1 < (List.length a1 : Int))))), (17, u1), (18, (.int .i64 x1)), (19, (ptr b1 o1)), (21, u2), (22, (.int .i64 x1)), (23, (ptr b2 o2))]) ?_ ⟨rfl, rfl, rfl, rfl, rfl, rfl, rfl, rfl, rfl, rfl, rfl, rfl, rfl, trivial⟩
    refine WA_postsE [⟨3, [], fun vs => PW.val (.agg #[(.int .i64 x2.1), (.int .i64 x2.2)]), []⟩, ⟨7, [], fun vs => PW.val (.agg #[(.int .i64 x3.1), (.int .i64 x3.2)]), []⟩] [[], []] 2 rfl (by kernel_rfl) (by kernel_rfl) rfl ?_ ?_
    ·refine StepsE_cons rfl ?_ ?_
     ·intro w3 hB3
      refine DepsE_nil ?_
      refine ⟨_, rfl, ?_⟩
      refine WL_load ty55 h1 (hC2.keep.then hB3) rfl rfl (fun v1 h3 => ?_)
      obtain rfl := ro_st55 h3
      refine WL_nil ?_
      exact FinE_val (Below.refl _ _) rfl rfl ⟨rfl, rfl⟩
     refine StepsE_cons rfl ?_ ?_
     ·intro w3 hB3
      refine DepsE_nil ?_
      refine ⟨_, rfl, ?_⟩
      refine WL_load ty55 h2 (hC2.keep.then hB3) rfl rfl (fun v2 h4 => ?_)
      obtain rfl := ro_st55 h4
      refine WL_nil ?_
      exact FinE_val (Below.refl _ _) rfl rfl ⟨rfl, rfl⟩
     exact StepsE_nil
    intro w4 hB4
    refine AllE_cons rfl rfl rfl ?_
    rintro _ _ ⟨rfl, rfl⟩
    refine AllE_cons rfl rfl rfl ?_
    rintro _ _ ⟨rfl, rfl⟩
    refine AllE_nil ?_
    intro hn1 hb1
    have hC3 := hC2.grow hB4
    obtain ⟨x4, hr2, hL1⟩ := bind_some hL1
    refine WA_one 8 (by kernel_rfl) rfl ?_
    refine WL_call Try.call37 rfl rfl (c_Q_eqStep x2 x3 x4 hr2) ?_
    intro _ w5 hv1
    obtain ⟨rfl, hB5⟩ := res_bool hv1
    have hC4 := hC3.grow hB5
    refine WL_nil ?_
    refine WA_tk 9 (by kernel_rfl) rfl rfl (fl_not rfl) ?_
    refine WL_not rfl rfl ?_
    refine WL_nil ?_
    refine WA_done (by kernel_rfl) ?_
    refine nrm_normal ?_
    refine W_cond rfl (fun hc3 => ?_) (fun hc3 => ?_)
    ·replace hL1 := ite_t hL1 hc3
     refine W_seq_reg ?_
     refine WL_assign rfl rfl ?_
     refine WL_nil (W_ret (blk_ret (nrm_ret (nrm_ret (blk_ret (nrm_ret (nrm_ret ?_)))))))
     have hq2 := Option.some.inj hL1
     subst hq2
     dsimp only at hF
     have hq3 := Option.some.inj hF
     subst hq3
     refine fn_ret1 rfl rfl ?_
     exact ⟨_, rfl, bool_res hC4 _⟩
    replace hL1 := ite_f hL1 hc3
    refine W_skip (blk_normal (nrm_normal (W_reg ?_)))
    refine WL_move rfl rfl ?_
    refine WL_add rfl rfl rfl ?_
    refine WL_assign rfl rfl ?_
    refine WL_nil ?_
    refine nrm_sub (l' := [(0, u1), (1, u2), (5, (.int .i64 (w64 (x1 + 1))))]) ⟨rfl, rfl, rfl, trivial⟩ ?_
    exact ⟨k1, Nat.lt_succ_self _, w64 (x1 + 1), rfl, ((((Keep.of hB1).then hB2).then hB4).then hB5).below, hC4, hL1⟩
   replace hL1 := ite_f hL1 hc2
   refine W_exit (nrm_exit (nrm_exit (blk_exit ?_)))
   have hq4 := Option.some.inj hL1
   subst hq4
   refine nrm_sub (l' := []) trivial ?_
   exact ⟨rfl, rfl, (Keep.of hB1).below, hC1⟩
 rintro l2 _ w6 hs2 ⟨rfl, rfl, hB6, hC5⟩
 try dsimp only at hF
 refine nrm_sub' hs2 ?_
 clear hs2
 refine W_seq_reg ?_
 refine WL_assign rfl rfl ?_
 refine WL_nil (W_ret ?_)
 have hq5 := Option.some.inj hF
 subst hq5
 refine fn_ret1 rfl rfl ?_
 exact ⟨_, rfl, bool_res hC5 _⟩

theorem c_Q_markIntS {w0 : World} {Fs : List (List Nat)} (a1 : (List Int)) (u1 : Value) (a2 : Int) (hH : Hold [Item.own u1 (a1 : (List Int))] w0 Fs) (hn : Fs.flatten.Nodup) (rr : (Int × (List Int))) (hF : Q.markIntS a1 a2 = some rr) :
 Calls Try.prog 19 [u1, (.int .i64 a2)].toArray w0 fun e w' => ∃ v, e = .returned v ∧ v = (.int .i64 rr.1) ∧ Ctx Fs.flatten w0 w' [Item.own u1 (rr.2 : (List Int))] := by
 refine calls_of_W Try.func19 rfl rfl ?_
 have hC0 := Ctx.startIn hH hn
 unfold Q.markIntS at hF
 refine W_seq_reg ?_
 refine WL_assign rfl rfl ?_
 refine WL_nil (W_seq (W_seq_reg ?_))
 refine WL_assign rfl rfl ?_
 refine WL_nil ?_
 obtain ⟨r1, hr1, hF⟩ := bind_some hF
 refine W_norm (fun l w => ∃ x4 : (List Int), ∃ x5 : Int, (x4, x5) = r1 ∧ l = [(1, (.int .i64 x5))] ∧ Ctx Fs.flatten w0 w [Item.own u1 (x4 : (List Int))]) ?_ ?_
 ·refine W_block ?_
  refine W.sub (l' := [(0, u1), (1, (.int .i64 a2)), (5, (.int .i64 0))]) ?_ ⟨rfl, rfl, rfl, trivial⟩
  refine W_loop (fun k l w => ∃ x1 : (List Int), ∃ x2 : Int, ∃ x3 : Int, l = [(0, u1), (1, (.int .i64 x2)), (5, (.int .i64 x3))] ∧ Ctx Fs.flatten w0 w [Item.own u1 (x1 : (List Int))] ∧ Q.markIntS_l1 k x1 x2 x3 = some r1) FUEL ⟨a1, a2, 0, rfl, hC0, hr1⟩ ?_
  clear hr1
  rintro k1 _ w1 ⟨x1, x2, x3, rfl, hC1, hL1⟩
  cases k1 with
  | zero => rw [Q.markIntS_l1] at hL1; cases hL1
  | succ k1 =>
   rw [Q.markIntS_l1] at hL1
   refine W_seq (W_seq_reg ?_)
   refine WL_move rfl rfl ?_
   refine WL_move rfl rfl ?_
   refine WL_len Try.underlying23 (hC1.ro 0 rfl) rfl rfl ?_
   refine WL_lss rfl rfl rfl ?_
   refine WL_nil ?_
   refine W_cond rfl (fun hc1 => ?_) (fun hc1 => ?_)
   ·replace hL1 := ite_t hL1 hc1
    refine W_skip (nrm_normal (W_seq (W_block (W_seq_reg ?_))))
    refine WL_move rfl rfl ?_
    refine WL_move rfl rfl ?_
    refine WL_move rfl rfl ?_
    obtain ⟨x6, hx1, hL1⟩ := bind_some hL1
    refine WL_index_own hC1 0 rfl Try.underlying23 ty3 hx1 rfl rfl rfl (fun b1 hE1 => ?_)
    have hC3 := hC1.triv (int_val (x2))
    refine WL_store_elem hC3 0 rfl ty3 hE1 hx1 rfl rfl rfl (fun w2 hC2 => ?_)
    try dsimp only [List.set] at hC2
    refine WL_nil (W_reg ?_)
    refine WL_move rfl rfl ?_
    refine WL_add rfl rfl rfl ?_
    refine WL_assign rfl rfl ?_
    refine WL_nil (blk_normal (nrm_normal (W_reg ?_)))
    refine WL_move rfl rfl ?_
    refine WL_add rfl rfl rfl ?_
    refine WL_assign rfl rfl ?_
    refine WL_nil ?_
    refine nrm_sub (l' := [(0, u1), (1, (.int .i64 (w64 (x2 + 1)))), (5, (.int .i64 (w64 (x3 + 1))))]) ⟨rfl, rfl, rfl, trivial⟩ ?_
    exact ⟨k1, Nat.lt_succ_self _, (List.set x1 (Int.toNat x3) x2), w64 (x2 + 1), w64 (x3 + 1), rfl, hC2, hL1⟩
   replace hL1 := ite_f hL1 hc1
   refine W_exit (nrm_exit (nrm_exit (blk_exit ?_)))
   have hq1 := Option.some.inj hL1
   subst hq1
   refine nrm_sub (l' := [(1, (.int .i64 x2))]) ⟨rfl, trivial⟩ ?_
   exact ⟨x1, x2, rfl, rfl, hC1⟩
 rintro l2 _ w3 hs2 ⟨x4, x5, rfl, rfl, hC4⟩
 try dsimp only at hF
 refine nrm_sub' hs2 ?_
 clear hs2
 refine W_seq_reg ?_
 refine WL_move rfl rfl ?_
 refine WL_assign rfl rfl ?_
 refine WL_nil (W_ret ?_)
 have hq2 := Option.some.inj hF
 subst hq2
 refine fn_ret1 rfl rfl ?_
 exact ⟨_, rfl, rfl, hC4⟩

theorem c_Q_markMethodS {w0 : World} {Fs : List (List Nat)} (a1 : (List (Int × (List Int) × Int × Int × Int))) (u1 : Value) (a2 : Int) (hH : Hold [Item.own u1 (a1 : (List (Int × (List Int) × Int × Int × Int)))] w0 Fs) (hn : Fs.flatten.Nodup) (rr : (Int × (List (Int × (List Int) × Int × Int × Int)))) (hF : Q.markMethodS a1 a2 = some rr) :
 Calls Try.prog 16 [u1, (.int .i64 a2)].toArray w0 fun e w' => ∃ v, e = .returned v ∧ v = (.int .i64 rr.1) ∧ Ctx Fs.flatten w0 w' [Item.own u1 (rr.2 : (List (Int × (List Int) × Int × Int × Int)))] := by
 refine calls_of_W Try.func16 rfl rfl ?_
 have hC0 := Ctx.startIn hH hn
 unfold Q.markMethodS at hF
 refine W_seq_reg ?_
 refine WL_assign rfl rfl ?_
 refine WL_nil (W_seq (W_seq_reg ?_))
 refine WL_assign rfl rfl ?_
 refine WL_nil ?_
 obtain ⟨r1, hr1, hF⟩ := bind_some hF
 refine W_norm (fun l w => ∃ x4 : (List (Int × (List Int) × Int × Int × Int)), ∃ x5 : Int, (x4, x5) = r1 ∧ l = [(1, (.int .i64 x5))] ∧ Ctx Fs.flatten w0 w [Item.own u1 (x4 : (List (Int × (List Int) × Int × Int × Int)))]) ?_ ?_
 ·refine W_block ?_
  refine W.sub (l' := [(0, u1), (1, (.int .i64 a2)), (5, (.int .i64 0))]) ?_ ⟨rfl, rfl, rfl, trivial⟩
  refine W_loop (fun k l w => ∃ x1 : (List (Int × (List Int) × Int × Int × Int)), ∃ x2 : Int, ∃ x3 : Int, l = [(0, u1), (1, (.int .i64 x2)), (5, (.int .i64 x3))] ∧ Ctx Fs.flatten w0 w [Item.own u1 (x1 : (List (Int × (List Int) × Int × Int × Int)))] ∧ Q.markMethodS_l1 k x1 x2 x3 = some r1) FUEL ⟨a1, a2, 0, rfl, hC0, hr1⟩ ?_
  clear hr1
  rintro k1 _ w1 ⟨x1, x2, x3, rfl, hC1, hL1⟩
  cases k1 with
  | zero => rw [Q.markMethodS_l1] at hL1; cases hL1
  | succ k1 =>
   rw [Q.markMethodS_l1] at hL1
   refine W_seq (W_seq_reg ?_)
   refine WL_move rfl rfl ?_
   refine WL_move rfl rfl ?_
   refine WL_len Try.underlying32 (hC1.ro 0 rfl) rfl rfl ?_
   refine WL_lss rfl rfl rfl ?_
   refine WL_nil ?_
   refine W_cond rfl (fun hc1 => ?_) (fun hc1 => ?_)
   ·replace hL1 := ite_t hL1 hc1
    refine W_skip (nrm_normal (W_seq (W_block (W_seq_reg ?_))))
    refine WL_move rfl rfl ?_
    refine WL_move rfl rfl ?_
    refine WL_move rfl rfl ?_
    obtain ⟨x6, hx1, hL1⟩ := bind_some hL1
    refine WL_index_own hC1 0 rfl Try.underlying32 ty57 hx1 rfl rfl rfl (fun b1 hE1 => ?_)
    refine WL_field Try.underlying57 rfl rfl (fun w => ⟨_, Try.sizeOf3 w⟩) rfl rfl ?_
    obtain ⟨cs1, hC3⟩ := hC1.openElem hx1
    obtain ⟨v1, he1, hC4⟩ := st57_own (hC3.cellsOwn rfl)
    obtain rfl := cells_of_agg he1
    refine WL_store_hole (fo := 0) (cs' := [(.int .i64 x2), v1, (.int .i64 x6.2.2.1), (.int .i64 x6.2.2.2.1), (.int .i64 x6.2.2.2.2)]) hC4 1 rfl hE1 rfl rfl rfl rfl Try.sizeOf3 rfl rfl (fun w2 hC2 => ?_)
    try dsimp only [List.set] at hC2
    have hC5 := hC2.f1
    have hC7 := hC5.f1
    have hC6 := own_st57 x2 v1 x6.2.1 x6.2.2.1 x6.2.2.2.1 x6.2.2.2.2 hC7
    have hC8 := hC6.ownCells.closeElem
    refine WL_nil (W_seq_reg ?_)
    refine WL_move rfl rfl ?_
    refine WL_add rfl rfl rfl ?_
    refine WL_assign rfl rfl ?_
    refine WL_nil (W_seq_reg ?_)
    refine WL_move rfl rfl ?_
    refine WL_move rfl rfl ?_
    obtain ⟨x7, hx2, hL1⟩ := bind_some hL1
    refine WL_index_own hC8 0 rfl Try.underlying32 ty57 hx2 rfl rfl rfl (fun b2 hE2 => ?_)
    refine WL_field Try.underlying57 rfl rfl (fun w => ⟨_, Try.sizeOf23 w⟩) rfl rfl ?_
    obtain ⟨cs2, hC9⟩ := hC8.openElem hx2
    obtain ⟨v2, he2, hC10⟩ := st57_own (hC9.cellsOwn rfl)
    obtain rfl := cells_of_agg he2
    refine WL_load_hole (fo := 1) hC10 1 rfl hE2 rfl rfl Try.isAgg23 rfl rfl ?_
    refine WL_move rfl rfl ?_
    obtain ⟨x8, hr2, hL1⟩ := bind_some hL1
    obtain ⟨Fs1, hH1, hn1, hF1, hO1, hb1⟩ := Ctx.lend2 (As := [Item.hole u1 ((List.set x1 (Int.toNat x3) (x2, x6.2.1, x6.2.2.1, x6.2.2.2.1, x6.2.2.2.2)) : (List (Int × (List Int) × Int × Int × Int))) (Int.toNat x3) [(.int .i64 x7.1), v2, (.int .i64 x7.2.2.1), (.int .i64 x7.2.2.2.1), (.int .i64 x7.2.2.2.2)]]) [Item.own v2 (x7.2.1 : (List Int))] hC10
    refine WL_call Try.call19 rfl rfl (c_Q_markIntS x7.2.1 v2 (w64 (x2 + 1)) hH1 hn1 x8 hr2) ?_
    rintro _ w3 ⟨rfl, hq1⟩
    have hC12 : Ctx Fs.flatten w0 w3 [Item.own v2 (x8.2 : (List Int)), Item.hole u1 ((List.set x1 (Int.toNat x3) (x2, x6.2.1, x6.2.2.1, x6.2.2.2.1, x6.2.2.2.2)) : (List (Int × (List Int) × Int × Int × Int))) (Int.toNat x3) [(.int .i64 x7.1), v2, (.int .i64 x7.2.2.1), (.int .i64 x7.2.2.2.1), (.int .i64 x7.2.2.2.2)]] := hb1 _ _ hq1
    have hC13 := hC12.f1
    have hC15 := hC13.f1
    have hC14 := own_st57 x7.1 v2 x8.2 x7.2.2.1 x7.2.2.2.1 x7.2.2.2.2 hC15
    have hC16 := hC14.ownCells.closeElem
    refine WL_assign rfl rfl ?_
    refine WL_nil (W_seq_reg ?_)
    refine WL_move rfl rfl ?_
    refine WL_move rfl rfl ?_
    refine WL_move rfl rfl ?_
    obtain ⟨x9, hx3, hL1⟩ := bind_some hL1
    refine WL_index_own hC16 0 rfl Try.underlying32 ty57 hx3 rfl rfl rfl (fun b3 hE3 => ?_)
    refine WL_field Try.underlying57 rfl rfl (fun w => ⟨_, Try.sizeOf3 w⟩) rfl rfl ?_
    obtain ⟨cs3, hC18⟩ := hC16.openElem hx3
    obtain ⟨v3, he3, hC19⟩ := st57_own (hC18.cellsOwn rfl)
    obtain rfl := cells_of_agg he3
    refine WL_store_hole (fo := 2) (cs' := [(.int .i64 x9.1), v3, (.int .i64 x8.1), (.int .i64 x9.2.2.2.1), (.int .i64 x9.2.2.2.2)]) hC19 1 rfl hE3 rfl rfl rfl rfl Try.sizeOf3 rfl rfl (fun w4 hC17 => ?_)
    try dsimp only [List.set] at hC17
    have hC20 := hC17.f1
    have hC22 := hC20.f1
    have hC21 := own_st57 x9.1 v3 x9.2.1 x8.1 x9.2.2.2.1 x9.2.2.2.2 hC22
    have hC23 := hC21.ownCells.closeElem
    refine WL_nil (W_seq_reg ?_)
    refine WL_move rfl rfl ?_
    refine WL_add rfl rfl rfl ?_
    refine WL_assign rfl rfl ?_
    refine WL_nil (W_seq_reg ?_)
    refine WL_move rfl rfl ?_
    refine WL_move rfl rfl ?_
    refine WL_move rfl rfl ?_
    obtain ⟨x10, hx4, hL1⟩ := bind_some hL1
    refine WL_index_own hC23 0 rfl Try.underlying32 ty57 hx4 rfl rfl rfl (fun b4 hE4 => ?_)
    refine WL_field Try.underlying57 rfl rfl (fun w => ⟨_, Try.sizeOf3 w⟩) rfl rfl ?_
    obtain ⟨cs4, hC25⟩ := hC23.openElem hx4
    obtain ⟨v4, he4, hC26⟩ := st57_own (hC25.cellsOwn rfl)
    obtain rfl := cells_of_agg he4
    refine WL_store_hole (fo := 3) (cs' := [(.int .i64 x10.1), v4, (.int .i64 x10.2.2.1), (.int .i64 (w64 (x8.1 + 1))), (.int .i64 x10.2.2.2.2)]) hC26 1 rfl hE4 rfl rfl rfl rfl Try.sizeOf3 rfl rfl (fun w5 hC24 => ?_)
    try dsimp only [List.set] at hC24
    have hC27 := hC24.f1
    have hC29 := hC27.f1
    have hC28 := own_st57 x10.1 v4 x10.2.1 x10.2.2.1 (w64 (x8.1 + 1)) x10.2.2.2.2 hC29
    have hC30 := hC28.ownCells.closeElem
    refine WL_nil (W_seq_reg ?_)
    refine WL_move rfl rfl ?_
    refine WL_add rfl rfl rfl ?_
    refine WL_assign rfl rfl ?_
    refine WL_nil (W_seq_reg ?_)
    refine WL_move rfl rfl ?_
    refine WL_move rfl rfl ?_
    refine WL_move rfl rfl ?_
    obtain ⟨x11, hx5, hL1⟩ := bind_some hL1
    refine WL_index_own hC30 0 rfl Try.underlying32 ty57 hx5 rfl rfl rfl (fun b5 hE5 => ?_)
    refine WL_field Try.underlying57 rfl rfl (fun w => ⟨_, Try.sizeOf3 w⟩) rfl rfl ?_
    obtain ⟨cs5, hC32⟩ := hC30.openElem hx5
    obtain ⟨v5, he5, hC33⟩ := st57_own (hC32.cellsOwn rfl)
    obtain rfl := cells_of_agg he5
    refine WL_store_hole (fo := 4) (cs' := [(.int .i64 x11.1), v5, (.int .i64 x11.2.2.1), (.int .i64 x11.2.2.2.1), (.int .i64 (w64 ((w64 (x8.1 + 1)) + 1)))]) hC33 1 rfl hE5 rfl rfl rfl rfl Try.sizeOf3 rfl rfl (fun w6 hC31 => ?_)
    try dsimp only [List.set] at hC31
    have hC34 := hC31.f1
    have hC36 := hC34.f1
    have hC35 := own_st57 x11.1 v5 x11.2.1 x11.2.2.1 x11.2.2.2.1 (w64 ((w64 (x8.1 + 1)) + 1)) hC36
    have hC37 := hC35.ownCells.closeElem
    refine WL_nil (W_reg ?_)
    refine WL_move rfl rfl ?_
    refine WL_add rfl rfl rfl ?_
    refine WL_assign rfl rfl ?_
    refine WL_nil (blk_normal (nrm_normal (W_reg ?_)))
    refine WL_move rfl rfl ?_
    refine WL_add rfl rfl rfl ?_
    refine WL_assign rfl rfl ?_
    refine WL_nil ?_
    refine nrm_sub (l' := [(0, u1), (1, (.int .i64 (w64 ((w64 ((w64 (x8.1 + 1)) + 1)) + 1)))), (5, (.int .i64 (w64 (x3 + 1))))]) ⟨rfl, rfl, rfl, trivial⟩ ?_
    exact ⟨k1, Nat.lt_succ_self _, (List.set (List.set (List.set (List.set (List.set x1 (Int.toNat x3) (x2, x6.2.1, x6.2.2.1, x6.2.2.2.1, x6.2.2.2.2)) (Int.toNat x3) (x7.1, x8.2, x7.2.2.1, x7.2.2.2.1, x7.2.2.2.2)) (Int.toNat x3) (x9.1, x9.2.1, x8.1, x9.2.2.2.1, x9.2.2.2.2)) (Int.toNat x3) (x10.1, x10.2.1, x10.2.2.1, w64 (x8.1 + 1), x10.2.2.2.2)) (Int.toNat x3) (x11.1, x11.2.1, x11.2.2.1, x11.2.2.2.1, w64 ((w64 (x8.1 + 1)) + 1))), w64 ((w64 ((w64 (x8.1 + 1)) + 1)) + 1), w64 (x3 + 1), rfl, hC37, hL1⟩
   replace hL1 := ite_f hL1 hc1
   refine W_exit (nrm_exit (nrm_exit (blk_exit ?_)))
   have hq2 := Option.some.inj hL1
   subst hq2
   refine nrm_sub (l' := [(1, (.int .i64 x2))]) ⟨rfl, trivial⟩ ?_
   exact ⟨x1, x2, rfl, rfl, hC1⟩
 rintro l2 _ w7 hs2 ⟨x4, x5, rfl, rfl, hC38⟩
 try dsimp only at hF
 refine nrm_sub' hs2 ?_
 clear hs2
 refine W_seq_reg ?_
 refine WL_move rfl rfl ?_
 refine WL_assign rfl rfl ?_
 refine WL_nil (W_ret ?_)
 have hq3 := Option.some.inj hF
 subst hq3
 refine fn_ret1 rfl rfl ?_
 exact ⟨_, rfl, rfl, hC38⟩

theorem c_Q_markAtomS {w0 : World} {Fs : List (List Nat)} (a1 : (List (Int × (List Int)))) (u1 : Value) (a2 : Int) (hH : Hold [Item.own u1 (a1 : (List (Int × (List Int))))] w0 Fs) (hn : Fs.flatten.Nodup) (rr : (Int × (List (Int × (List Int))))) (hF : Q.markAtomS a1 a2 = some rr) :
 Calls Try.prog 38 [u1, (.int .i64 a2)].toArray w0 fun e w' => ∃ v, e = .returned v ∧ v = (.int .i64 rr.1) ∧ Ctx Fs.flatten w0 w' [Item.own u1 (rr.2 : (List (Int × (List Int))))] := by
 refine calls_of_W Try.func38 rfl rfl ?_
 have hC0 := Ctx.startIn hH hn
 unfold Q.markAtomS at hF
 refine W_seq_reg ?_
 refine WL_assign rfl rfl ?_
 refine WL_nil (W_seq (W_seq_reg ?_))
 refine WL_assign rfl rfl ?_
 refine WL_nil ?_
 obtain ⟨r1, hr1, hF⟩ := bind_some hF
 refine W_norm (fun l w => ∃ x4 : (List (Int × (List Int))), ∃ x5 : Int, (x4, x5) = r1 ∧ l = [(1, (.int .i64 x5))] ∧ Ctx Fs.flatten w0 w [Item.own u1 (x4 : (List (Int × (List Int))))]) ?_ ?_
 ·refine W_block ?_
  refine W.sub (l' := [(0, u1), (1, (.int .i64 a2)), (5, (.int .i64 0))]) ?_ ⟨rfl, rfl, rfl, trivial⟩
  refine W_loop (fun k l w => ∃ x1 : (List (Int × (List Int))), ∃ x2 : Int, ∃ x3 : Int, l = [(0, u1), (1, (.int .i64 x2)), (5, (.int .i64 x3))] ∧ Ctx Fs.flatten w0 w [Item.own u1 (x1 : (List (Int × (List Int))))] ∧ Q.markAtomS_l1 k x1 x2 x3 = some r1) FUEL ⟨a1, a2, 0, rfl, hC0, hr1⟩ ?_
  clear hr1
  rintro k1 _ w1 ⟨x1, x2, x3, rfl, hC1, hL1⟩
  cases k1 with
  | zero => rw [Q.markAtomS_l1] at hL1; cases hL1
  | succ k1 =>
   rw [Q.markAtomS_l1] at hL1
   refine W_seq (W_seq_reg ?_)
   refine WL_move rfl rfl ?_
   refine WL_move rfl rfl ?_
   refine WL_len Try.underlying34 (hC1.ro 0 rfl) rfl rfl ?_
   refine WL_lss rfl rfl rfl ?_
   refine WL_nil ?_
   refine W_cond rfl (fun hc1 => ?_) (fun hc1 => ?_)
   ·replace hL1 := ite_t hL1 hc1
    refine W_skip (nrm_normal (W_seq (W_block (W_seq_reg ?_))))
    refine WL_move rfl rfl ?_
    refine WL_move rfl rfl ?_
    refine WL_move rfl rfl ?_
    obtain ⟨x6, hx1, hL1⟩ := bind_some hL1
    refine WL_index_own hC1 0 rfl Try.underlying34 ty59 hx1 rfl rfl rfl (fun b1 hE1 => ?_)
    refine WL_field Try.underlying59 rfl rfl (fun w => ⟨_, Try.sizeOf3 w⟩) rfl rfl ?_
    obtain ⟨cs1, hC3⟩ := hC1.openElem hx1
    obtain ⟨v1, he1, hC4⟩ := st59_own (hC3.cellsOwn rfl)
    obtain rfl := cells_of_agg he1
    refine WL_store_hole (fo := 0) (cs' := [(.int .i64 x2), v1]) hC4 1 rfl hE1 rfl rfl rfl rfl Try.sizeOf3 rfl rfl (fun w2 hC2 => ?_)
    try dsimp only [List.set] at hC2
    have hC5 := hC2.f1
    have hC7 := hC5.f1
    have hC6 := own_st59 x2 v1 x6.2 hC7
    have hC8 := hC6.ownCells.closeElem
    refine WL_nil (W_seq_reg ?_)
    refine WL_move rfl rfl ?_
    refine WL_add rfl rfl rfl ?_
    refine WL_assign rfl rfl ?_
    refine WL_nil (W_reg ?_)
    refine WL_move rfl rfl ?_
    refine WL_move rfl rfl ?_
    obtain ⟨x7, hx2, hL1⟩ := bind_some hL1
    refine WL_index_own hC8 0 rfl Try.underlying34 ty59 hx2 rfl rfl rfl (fun b2 hE2 => ?_)
    refine WL_field Try.underlying59 rfl rfl (fun w => ⟨_, Try.sizeOf23 w⟩) rfl rfl ?_
    obtain ⟨cs2, hC9⟩ := hC8.openElem hx2
    obtain ⟨v2, he2, hC10⟩ := st59_own (hC9.cellsOwn rfl)
    obtain rfl := cells_of_agg he2
    refine WL_load_hole (fo := 1) hC10 1 rfl hE2 rfl rfl Try.isAgg23 rfl rfl ?_
    refine WL_move rfl rfl ?_
    obtain ⟨x8, hr2, hL1⟩ := bind_some hL1
    obtain ⟨Fs1, hH1, hn1, hF1, hO1, hb1⟩ := Ctx.lend2 (As := [Item.hole u1 ((List.set x1 (Int.toNat x3) (x2, x6.2)) : (List (Int × (List Int)))) (Int.toNat x3) [(.int .i64 x7.1), v2]]) [Item.own v2 (x7.2 : (List Int))] hC10
    refine WL_call Try.call19 rfl rfl (c_Q_markIntS x7.2 v2 (w64 (x2 + 1)) hH1 hn1 x8 hr2) ?_
    rintro _ w3 ⟨rfl, hq1⟩
    have hC12 : Ctx Fs.flatten w0 w3 [Item.own v2 (x8.2 : (List Int)), Item.hole u1 ((List.set x1 (Int.toNat x3) (x2, x6.2)) : (List (Int × (List Int)))) (Int.toNat x3) [(.int .i64 x7.1), v2]] := hb1 _ _ hq1
    have hC13 := hC12.f1
    have hC15 := hC13.f1
    have hC14 := own_st59 x7.1 v2 x8.2 hC15
    have hC16 := hC14.ownCells.closeElem
    refine WL_assign rfl rfl ?_
    refine WL_nil (blk_normal (nrm_normal (W_reg ?_)))
    refine WL_move rfl rfl ?_
    refine WL_add rfl rfl rfl ?_
    refine WL_assign rfl rfl ?_
    refine WL_nil ?_
    refine nrm_sub (l' := [(0, u1), (1, (.int .i64 x8.1)), (5, (.int .i64 (w64 (x3 + 1))))]) ⟨rfl, rfl, rfl, trivial⟩ ?_
    exact ⟨k1, Nat.lt_succ_self _, (List.set (List.set x1 (Int.toNat x3) (x2, x6.2)) (Int.toNat x3) (x7.1, x8.2)), x8.1, w64 (x3 + 1), rfl, hC16, hL1⟩
   replace hL1 := ite_f hL1 hc1
   refine W_exit (nrm_exit (nrm_exit (blk_exit ?_)))
   have hq2 := Option.some.inj hL1
   subst hq2
   refine nrm_sub (l' := [(1, (.int .i64 x2))]) ⟨rfl, trivial⟩ ?_
   exact ⟨x1, x2, rfl, rfl, hC1⟩
 rintro l2 _ w4 hs2 ⟨x4, x5, rfl, rfl, hC17⟩
 try dsimp only at hF
 refine nrm_sub' hs2 ?_
 clear hs2
 refine W_seq_reg ?_
 refine WL_move rfl rfl ?_
 refine WL_assign rfl rfl ?_
 refine WL_nil (W_ret ?_)
 have hq3 := Option.some.inj hF
 subst hq3
 refine fn_ret1 rfl rfl ?_
 exact ⟨_, rfl, rfl, hC17⟩

theorem c_Q_markQuery {w0 : World} {Fs : List (List Nat)} (a1 : ((List Int) × (List (Int × (List Int))))) (u1 : Value) (u2 : Value) (a2 : Int) (hH : Hold [Item.own u1 (a1.1 : (List Int)), Item.own u2 (a1.2 : (List (Int × (List Int))))] w0 Fs) (hn : Fs.flatten.Nodup) (rr : (Int × ((List Int) × (List (Int × (List Int)))))) (hF : Q.markQuery a1 a2 = some rr) :
 Calls Try.prog 17 [(.agg #[u1, u2]), (.int .i64 a2)].toArray w0 fun e w' => ∃ v, e = .returned v ∧ v = (.int .i64 rr.1) ∧ Ctx Fs.flatten w0 w' [Item.own u1 (rr.2.1 : (List Int)), Item.own u2 (rr.2.2 : (List (Int × (List Int))))] := by
 refine calls_of_W Try.func17 rfl rfl ?_
 have hC0 := Ctx.startIn hH hn
 unfold Q.markQuery at hF
 refine W_seq_reg ?_
 refine WL_boxK (cs := [u1, u2]) hC0 rfl rfl rfl (fun b1 w1 hC1 hB1 hN1 => ?_)
 refine WL_assign rfl rfl ?_
 refine WL_nil (W_seq_reg ?_)
 refine WL_field Try.underlying36 rfl rfl (fun w => ⟨_, Try.sizeOf23 w⟩) rfl rfl ?_
 refine WL_load_box hC1 0 rfl rfl Try.isAgg23 rfl rfl ?_
 refine WL_move rfl rfl ?_
 obtain ⟨x1, hr1, hF⟩ := bind_some hF
 have hC2 := hC1.f1
 obtain ⟨Fs1, hH1, hn1, hF1, hO1, hb1⟩ := Ctx.lend2 (As := [Item.box b1 [u1, u2], Item.own u2 (a1.2 : (List (Int × (List Int))))]) [Item.own u1 (a1.1 : (List Int))] hC2
 refine WL_call Try.call19 rfl rfl (c_Q_markIntS a1.1 u1 a2 hH1 hn1 x1 hr1) ?_
 rintro _ w2 ⟨rfl, hq1⟩
 have hC3 : Ctx Fs.flatten w0 w2 [Item.own u1 (x1.2 : (List Int)), Item.box b1 [u1, u2], Item.own u2 (a1.2 : (List (Int × (List Int))))] := hb1 _ _ hq1
 refine WL_assign rfl rfl ?_
 refine WL_nil (W_seq_reg ?_)
 refine WL_field Try.underlying36 rfl rfl (fun w => ⟨_, Try.sizeOf34 w⟩) rfl rfl ?_
 refine WL_load_box hC3 1 rfl rfl Try.isAgg34 rfl rfl ?_
 refine WL_move rfl rfl ?_
 obtain ⟨x2, hr2, hF⟩ := bind_some hF
 have hC4 := hC3.f2
 obtain ⟨Fs2, hH2, hn2, hF2, hO2, hb2⟩ := Ctx.lend2 (As := [Item.own u1 (x1.2 : (List Int)), Item.box b1 [u1, u2]]) [Item.own u2 (a1.2 : (List (Int × (List Int))))] hC4
 refine WL_call Try.call38 rfl rfl (c_Q_markAtomS a1.2 u2 x1.1 hH2 hn2 x2 hr2) ?_
 rintro _ w3 ⟨rfl, hq2⟩
 have hC5 : Ctx Fs.flatten w0 w3 [Item.own u2 (x2.2 : (List (Int × (List Int)))), Item.own u1 (x1.2 : (List Int)), Item.box b1 [u1, u2]] := hb2 _ _ hq2
 refine WL_assign rfl rfl ?_
 refine WL_nil (W_seq_reg ?_)
 refine WL_move rfl rfl ?_
 refine WL_assign rfl rfl ?_
 refine WL_nil (W_ret ?_)
 have hq3 := Option.some.inj hF
 subst hq3
 refine fn_ret1 rfl rfl ?_
 have hC6 := hC5.f1
 have hC7 := hC6.h2
 exact ⟨_, rfl, rfl, hC7⟩

theorem c_Q_markStepS {w0 : World} {Fs : List (List Nat)} (a1 : (List (Int × Int))) (u1 : Value) (a2 : Int) (hH : Hold [Item.own u1 (a1 : (List (Int × Int)))] w0 Fs) (hn : Fs.flatten.Nodup) (rr : (Int × (List (Int × Int)))) (hF : Q.markStepS a1 a2 = some rr) :
 Calls Try.prog 18 [u1, (.int .i64 a2)].toArray w0 fun e w' => ∃ v, e = .returned v ∧ v = (.int .i64 rr.1) ∧ Ctx Fs.flatten w0 w' [Item.own u1 (rr.2 : (List (Int × Int)))] := by
 refine calls_of_W Try.func18 rfl rfl ?_
 have hC0 := Ctx.startIn hH hn
 unfold Q.markStepS at hF
 refine W_seq_reg ?_
 refine WL_assign rfl rfl ?_
 refine WL_nil (W_seq (W_seq_reg ?_))
 refine WL_assign rfl rfl ?_
 refine WL_nil ?_
 obtain ⟨r1, hr1, hF⟩ := bind_some hF
 refine W_norm (fun l w => ∃ x4 : (List (Int × Int)), ∃ x5 : Int, (x4, x5) = r1 ∧ l = [(1, (.int .i64 x5))] ∧ Ctx Fs.flatten w0 w [Item.own u1 (x4 : (List (Int × Int)))]) ?_ ?_
 ·refine W_block ?_
  refine W.sub (l' := [(0, u1), (1, (.int .i64 a2)), (5, (.int .i64 0))]) ?_ ⟨rfl, rfl, rfl, trivial⟩
  refine W_loop (fun k l w => ∃ x1 : (List (Int × Int)), ∃ x2 : Int, ∃ x3 : Int, l = [(0, u1), (1, (.int .i64 x2)), (5, (.int .i64 x3))] ∧ Ctx Fs.flatten w0 w [Item.own u1 (x1 : (List (Int × Int)))] ∧ Q.markStepS_l1 k x1 x2 x3 = some r1) FUEL ⟨a1, a2, 0, rfl, hC0, hr1⟩ ?_
  clear hr1
  rintro k1 _ w1 ⟨x1, x2, x3, rfl, hC1, hL1⟩
  cases k1 with
  | zero => rw [Q.markStepS_l1] at hL1; cases hL1
  | succ k1 =>
   rw [Q.markStepS_l1] at hL1
   refine W_seq (W_seq_reg ?_)
   refine WL_move rfl rfl ?_
   refine WL_move rfl rfl ?_
   refine WL_len Try.underlying38 (hC1.ro 0 rfl) rfl rfl ?_
   refine WL_lss rfl rfl rfl ?_
   refine WL_nil ?_
   refine W_cond rfl (fun hc1 => ?_) (fun hc1 => ?_)
   ·replace hL1 := ite_t hL1 hc1
    refine W_skip (nrm_normal (W_seq (W_block (W_seq_reg ?_))))
    refine WL_move rfl rfl ?_
    refine WL_move rfl rfl ?_
    refine WL_move rfl rfl ?_
    obtain ⟨x6, hx1, hL1⟩ := bind_some hL1
    refine WL_index_own hC1 0 rfl Try.underlying38 ty55 hx1 rfl rfl rfl (fun b1 hE1 => ?_)
    refine WL_field Try.underlying55 rfl rfl (fun w => ⟨_, Try.sizeOf3 w⟩) rfl rfl ?_
    obtain ⟨cs1, hC3⟩ := hC1.openElem hx1
    obtain ⟨he1, hC4⟩ := st55_own (hC3.cellsOwn rfl)
    obtain rfl := cells_of_agg he1
    refine WL_store_hole (fo := 0) (cs' := [(.int .i64 x2), (.int .i64 x6.2)]) hC4 0 rfl hE1 rfl rfl rfl rfl Try.sizeOf3 rfl rfl (fun w2 hC2 => ?_)
    try dsimp only [List.set] at hC2
    have hC5 := own_st55 x2 x6.2 hC2
    have hC6 := hC5.ownCells.closeElem
    refine WL_nil (W_seq_reg ?_)
    refine WL_move rfl rfl ?_
    refine WL_add rfl rfl rfl ?_
    refine WL_assign rfl rfl ?_
    refine WL_nil (W_seq_reg ?_)
    refine WL_move rfl rfl ?_
    refine WL_move rfl rfl ?_
    refine WL_move rfl rfl ?_
    obtain ⟨x7, hx2, hL1⟩ := bind_some hL1
    refine WL_index_own hC6 0 rfl Try.underlying38 ty55 hx2 rfl rfl rfl (fun b2 hE2 => ?_)
    refine WL_field Try.underlying55 rfl rfl (fun w => ⟨_, Try.sizeOf3 w⟩) rfl rfl ?_
    obtain ⟨cs2, hC8⟩ := hC6.openElem hx2
    obtain ⟨he2, hC9⟩ := st55_own (hC8.cellsOwn rfl)
    obtain rfl := cells_of_agg he2
    refine WL_store_hole (fo := 1) (cs' := [(.int .i64 x7.1), (.int .i64 (w64 (x2 + 1)))]) hC9 0 rfl hE2 rfl rfl rfl rfl Try.sizeOf3 rfl rfl (fun w3 hC7 => ?_)
    try dsimp only [List.set] at hC7
    have hC10 := own_st55 x7.1 (w64 (x2 + 1)) hC7
    have hC11 := hC10.ownCells.closeElem
    refine WL_nil (W_reg ?_)
    refine WL_move rfl rfl ?_
    refine WL_add rfl rfl rfl ?_
    refine WL_assign rfl rfl ?_
    refine WL_nil (blk_normal (nrm_normal (W_reg ?_)))
    refine WL_move rfl rfl ?_
    refine WL_add rfl rfl rfl ?_
    refine WL_assign rfl rfl ?_
    refine WL_nil ?_
    refine nrm_sub (l' := [(0, u1), (1, (.int .i64 (w64 ((w64 (x2 + 1)) + 1)))), (5, (.int .i64 (w64 (x3 + 1))))]) ⟨rfl, rfl, rfl, trivial⟩ ?_
    exact ⟨k1, Nat.lt_succ_self _, (List.set (List.set x1 (Int.toNat x3) (x2, x6.2)) (Int.toNat x3) (x7.1, w64 (x2 + 1))), w64 ((w64 (x2 + 1)) + 1), w64 (x3 + 1), rfl, hC11, hL1⟩
   replace hL1 := ite_f hL1 hc1
   refine W_exit (nrm_exit (nrm_exit (blk_exit ?_)))
   have hq1 := Option.some.inj hL1
   subst hq1
   refine nrm_sub (l' := [(1, (.int .i64 x2))]) ⟨rfl, trivial⟩ ?_
   exact ⟨x1, x2, rfl, rfl, hC1⟩
 rintro l2 _ w4 hs2 ⟨x4, x5, rfl, rfl, hC12⟩
 try dsimp only at hF
 refine nrm_sub' hs2 ?_
 clear hs2
 refine W_seq_reg ?_
 refine WL_move rfl rfl ?_
 refine WL_assign rfl rfl ?_
 refine WL_nil (W_ret ?_)
 have hq2 := Option.some.inj hF
 subst hq2
 refine fn_ret1 rfl rfl ?_
 exact ⟨_, rfl, rfl, hC12⟩

end Go.Gx.Px
