/- The contracts of the Go functions against the pure functions, printed by program. Conditions: each says them. -/
import Derived.Test.YtngpabaocflipaaGreatC2
set_option linter.unusedVariables false
set_option linter.unusedSimpArgs false
set_option maxRecDepth 100000
set_option maxHeartbeats 4000000
namespace Go.Gx.Px
open Go.Proofs Go.RowKit

theorem c_S_SmallestRemoval {w0 : World} (a1 : (List Int)) (u1 : Value) (g1 : RO [] w0 u1 a1) (a2 : (List (Int × (List Int) × Int × Int × Int))) (u2 : Value) (g2 : RO [] w0 u2 a2) (a3 : (List ((Int × (List Int)) × (List (Int × (List Int)))))) (u3 : Value) (g3 : RO [] w0 u3 a3) (rr : ((List Int) × Bool)) (hF : S.SmallestRemoval a1 a2 a3 = some rr) :
 Calls Tryz.prog 36 [u1, u2, u3].toArray w0 fun e w' => ∃ v, e = .returned v ∧ Res2 w0 rr.1 rr.2 v w' := by
 refine calls_of_W Tryz.func36 rfl rfl ?_
 have hC0 := Ctx.start w0
 unfold S.SmallestRemoval at hF
 refine W_seq_reg ?_
 refine WL_assign rfl rfl ?_
 refine WL_assign rfl rfl ?_
 refine WL_nil (W_seq_reg ?_)
 refine WL_buildSlice (vs := []) hC0 Tryz.underlying24 ty3 rfl rfl rfl rfl (by simp) rfl rfl (fun b1 w1 hC1 hB1 => ?_)
 have hC2 := hC1.row0 (α := Int)
 have hC3 := hC2.front 1 rfl
 dsimp only [List.eraseIdx, List.cons_append, List.nil_append, List.append_nil] at hC3
 have hC4 : Ctx [] w0 w1 (Item.own (.slice (some ⟨b1, 0, none⟩) 0 0) (([] : List Int) : List Int) :: []) := hC3.rowOwn (by simp [maxLen])
 refine WL_assign rfl rfl ?_
 refine WL_nil (W_seq_reg ?_)
 refine WL_assign rfl rfl ?_
 refine WL_nil (W_seq ?_)
 obtain ⟨r1, hr1, hF⟩ := bind_some hF
 refine W_cut (fun l w => ∃ x1 : Bool, x1 = r1 ∧ l = [(0, u1), (1, u2), (2, u3), (8, (.slice (some ⟨b1, 0, none⟩) 0 0)), (9, (.bool false)), (21, (.bool x1))] ∧ Below w1.heap.size w1 w ∧ Ctx [] w0 w [Item.own (.slice (some ⟨b1, 0, none⟩) 0 0) (([] : List Int) : (List Int))]) ?_ ?_
 ·refine W_reg ?_
  refine WL_move rfl rfl ?_
  refine WL_move rfl rfl ?_
  obtain ⟨x2, hr2, hr1⟩ := bind_some hr1
  refine WL_call Tryz.call18 rfl rfl (c_S_AreMethods a1 u1 (g1.now hC4.keep) a2 u2 (g2.now hC4.keep) x2 hr2) ?_
  intro _ w3 hv1
  obtain ⟨rfl, hB3⟩ := res_bool hv1
  have hC6 := hC4.grow hB3
  refine WL_not rfl rfl ?_
  refine WL_move rfl rfl ?_
  refine WL_fork (fun hc1 => ?_) (fun hc1 => ?_)
  ·replace hr1 := ite_t hr1 hc1
   refine WL_guard_skip rfl rfl (by simp) rfl ?_
   refine WL_guard_skip rfl rfl (by simp) rfl ?_
   refine WL_guard_skip rfl rfl (by simp) rfl ?_
   refine WL_pick_t rfl rfl rfl ?_
   refine WL_nil ?_
   have hq1 := Option.some.inj hr1
   subst hq1
   refine nrm_sub (l' := [(0, u1), (1, u2), (2, u3), (8, (.slice (some ⟨b1, 0, none⟩) 0 0)), (9, (.bool false)), (21, (.bool true))]) ⟨rfl, rfl, rfl, rfl, rfl, rfl, trivial⟩ ?_
   exact ⟨true, rfl, rfl, (Keep.of hB3).below, hC6⟩
  replace hr1 := ite_f hr1 hc1
  refine WL_guard rfl rfl ?_
  refine WL_move rfl rfl ?_
  refine WL_guard rfl rfl ?_
  refine WL_len Tryz.underlying26 g3 rfl rfl ?_
  refine WL_guard rfl rfl ?_
  refine WL_gtr rfl rfl rfl ?_
  refine WL_pick_f rfl rfl rfl ?_
  refine WL_nil ?_
  have hq2 := Option.some.inj hr1
  subst hq2
  refine nrm_sub (l' := [(0, u1), (1, u2), (2, u3), (8, (.slice (some ⟨b1, 0, none⟩) 0 0)), (9, (.bool false)), (21, (.bool (decide (8 < (List.length a3 : Int)))))]) ⟨rfl, rfl, rfl, rfl, rfl, rfl, trivial⟩ ?_
  exact ⟨(decide (8 < (List.length a3 : Int))), rfl, rfl, (Keep.of hB3).below, hC6⟩
 rintro _ w2 ⟨x1, rfl, rfl, hB2, hC5⟩
 try dsimp only at hF
 refine W_cond rfl (fun hc2 => ?_) (fun hc2 => ?_)
 ·replace hF := ite_t hF hc2
  refine W_seq_reg ?_
  refine WL_move rfl rfl ?_
  refine WL_assign rfl rfl ?_
  refine WL_assign rfl rfl ?_
  refine WL_nil (W_ret (nrm_ret ?_))
  have hq3 := Option.some.inj hF
  subst hq3
  refine fn_ret2 rfl rfl rfl ?_
  have hC7 := hC5.triv (bool_val (false))
  have hC8 := hC7.f1
  exact ⟨_, rfl, res2_of hC8⟩
 replace hF := ite_f hF hc2
 refine W_skip (nrm_normal (W_seq (W_seq_reg ?_)))
 refine WL_assign rfl rfl ?_
 refine WL_nil ?_
 obtain ⟨r2, hr3, hF⟩ := bind_some hF
 refine W_norm (fun l w => ∃ v2 : Value, ∃ x6 : (List Int), ∃ x7 : Bool, (x6, x7) = r2 ∧ l = [(8, v2), (9, (.bool x7))] ∧ Below w2.heap.size w2 w ∧ Ctx [] w0 w [Item.own v2 (x6 : (List Int))]) ?_ ?_
 ·refine W_block ?_
  refine W.sub (l' := [(0, u1), (1, u2), (2, u3), (8, (.slice (some ⟨b1, 0, none⟩) 0 0)), (9, (.bool false)), (10, (.int .i64 0))]) ?_ ⟨rfl, rfl, rfl, rfl, rfl, rfl, trivial⟩
  refine W_loop (fun k l w => ∃ v1 : Value, ∃ x3 : (List Int), ∃ x4 : Bool, ∃ x5 : Int, l = [(0, u1), (1, u2), (2, u3), (8, v1), (9, (.bool x4)), (10, (.int .i64 x5))] ∧ Below w2.heap.size w2 w ∧ Ctx [] w0 w [Item.own v1 (x3 : (List Int))] ∧ S.SmallestRemoval_l1 a3 a1 a2 k x3 x4 x5 = some r2) FUEL ⟨(.slice (some ⟨b1, 0, none⟩) 0 0), ([] : List Int), false, 0, rfl, (Below.refl _ _), hC5, hr3⟩ ?_
  clear hr3
  rintro k1 _ w4 ⟨v1, x3, x4, x5, rfl, hB4, hC9, hL1⟩
  cases k1 with
  | zero => rw [S.SmallestRemoval_l1] at hL1; cases hL1
  | succ k1 =>
   rw [S.SmallestRemoval_l1] at hL1
   refine W_seq (W_seq_reg ?_)
   refine WL_move rfl rfl ?_
   refine WL_move rfl rfl ?_
   refine WL_len Tryz.underlying26 g3 rfl rfl ?_
   obtain ⟨_, hx1, hL1⟩ := bind_some hL1
   refine WL_shl (nn_some hx1) rfl rfl rfl ?_
   refine WL_lss rfl rfl rfl ?_
   refine WL_nil ?_
   refine W_cond rfl (fun hc3 => ?_) (fun hc3 => ?_)
   ·replace hL1 := ite_t hL1 hc3
    refine W_skip (nrm_normal (W_seq (W_block (W_seq_reg ?_))))
    refine WL_move rfl rfl ?_
    refine WL_move rfl rfl ?_
    refine WL_len Tryz.underlying26 g3 rfl rfl ?_
    obtain ⟨x8, hr4, hL1⟩ := bind_some hL1
    refine WL_call Tryz.call105 rfl rfl (c_S_l15Set x5 (List.length a3 : Int) x8 hr4) ?_
    rintro v3 w5 ⟨hB5, F1, hv2, hn1, hb1⟩
    have hC10 := hC9.push hB5 (A := Item.own v3 x8) hv2 hn1 hb1
    refine WL_assign rfl rfl ?_
    refine WL_nil (W_seq ?_)
    obtain ⟨r3, hr5, hL1⟩ := bind_some hL1
    refine W_cut (fun l w => ∃ x9 : Bool, x9 = r3 ∧ l = [(0, u1), (1, u2), (2, u3), (8, v1), (9, (.bool x4)), (10, (.int .i64 x5)), (11, v3), (40, (.bool x9))] ∧ Below w5.heap.size w5 w ∧ Ctx [] w0 w [Item.own v3 (x8 : (List Int)), Item.own v1 (x3 : (List Int))]) ?_ ?_
    ·refine W_reg ?_
     refine WL_move rfl rfl ?_
     refine WL_move rfl rfl ?_
     refine WL_fork (fun hc4 => ?_) (fun hc4 => ?_)
     ·replace hr5 := ite_t hr5 hc4
      refine WL_guard rfl rfl ?_
      refine WL_move rfl rfl ?_
      refine WL_guard rfl rfl ?_
      refine WL_move rfl rfl ?_
      obtain ⟨x10, hr6, hr5⟩ := bind_some hr5
      refine WL_guard rfl rfl ?_
      refine WL_call Tryz.call106 rfl rfl (c_S_l15Less x8 v3 ((hC10.ro 0 rfl).now (Keep.refl _ _)) x3 v1 ((hC10.ro 1 rfl).now (Keep.refl _ _)) x10 hr6) ?_
      intro _ w7 hv3
      obtain ⟨rfl, hB7⟩ := res_bool hv3
      have hC12 := hC10.grow hB7
      refine WL_guard rfl rfl ?_
      refine WL_not rfl rfl ?_
      refine WL_pick_t rfl rfl rfl ?_
      refine WL_nil ?_
      have hq4 := Option.some.inj hr5
      subst hq4
      refine nrm_sub (l' := [(0, u1), (1, u2), (2, u3), (8, v1), (9, (.bool x4)), (10, (.int .i64 x5)), (11, v3), (40, (.bool (!x10)))]) ⟨rfl, rfl, rfl, rfl, rfl, rfl, rfl, rfl, trivial⟩ ?_
      exact ⟨(!x10), rfl, rfl, (Keep.of hB7).below, hC12⟩
     replace hr5 := ite_f hr5 hc4
     refine WL_guard_skip rfl rfl (by simp) rfl ?_
     refine WL_guard_skip rfl rfl (by simp) rfl ?_
     refine WL_guard_skip rfl rfl (by simp) rfl ?_
     refine WL_guard_skip rfl rfl (by simp) rfl ?_
     refine WL_pick_f rfl rfl rfl ?_
     refine WL_nil ?_
     have hq5 := Option.some.inj hr5
     subst hq5
     refine nrm_sub (l' := [(0, u1), (1, u2), (2, u3), (8, v1), (9, (.bool x4)), (10, (.int .i64 x5)), (11, v3), (40, (.bool false))]) ⟨rfl, rfl, rfl, rfl, rfl, rfl, rfl, rfl, trivial⟩ ?_
     exact ⟨false, rfl, rfl, (Below.refl _ _), hC10⟩
    rintro _ w6 ⟨x9, rfl, rfl, hB6, hC11⟩
    try dsimp only at hL1
    refine W_cond rfl (fun hc5 => ?_) (fun hc5 => ?_)
    ·replace hL1 := ite_t hL1 hc5
     refine W_exit (nrm_exit (blk_exit (nrm_normal (W_reg ?_))))
     refine WL_move rfl rfl ?_
     refine WL_add rfl rfl rfl ?_
     refine WL_assign rfl rfl ?_
     refine WL_nil ?_
     have hC13 := hC11.f1
     have hC14 := hC13.h1
     refine nrm_sub (l' := [(0, u1), (1, u2), (2, u3), (8, v1), (9, (.bool x4)), (10, (.int .i64 (w64 (x5 + 1))))]) ⟨rfl, rfl, rfl, rfl, rfl, rfl, trivial⟩ ?_
     exact ⟨k1, Nat.lt_succ_self _, v1, x3, x4, w64 (x5 + 1), rfl, (((Keep.of hB4).then hB5).then hB6).below, hC14, hL1⟩
    replace hL1 := ite_f hL1 hc5
    refine W_skip (nrm_normal (W_seq_reg ?_))
    refine WL_move rfl rfl ?_
    refine WL_move rfl rfl ?_
    refine WL_move rfl rfl ?_
    refine WL_move rfl rfl ?_
    obtain ⟨x11, hr7, hL1⟩ := bind_some hL1
    refine WL_call Tryz.call107 rfl rfl (c_S_Without a3 u3 (g3.now hC11.keep) x8 v3 ((hC11.ro 0 rfl).now (Keep.refl _ _)) x11 hr7) ?_
    rintro v4 w9 ⟨hB8, F2, hv4, hn2, hb2⟩
    have hC15 := hC11.push hB8 (A := Item.own v4 x11) hv4 hn2 hb2
    obtain ⟨x12, hr8, hL1⟩ := bind_some hL1
    refine WL_call Tryz.call17 rfl rfl (c_S_IsConsistent a1 u1 (g1.now hC15.keep) a2 u2 (g2.now hC15.keep) x11 v4 ((hC15.ro 0 rfl).now (Keep.refl _ _)) x12 hr8) ?_
    intro _ w10 hv5
    obtain ⟨rfl, hB9⟩ := res_bool hv5
    have hC16 := hC15.grow hB9
    refine WL_nil ?_
    obtain ⟨r4, hr9, hL1⟩ := bind_some hL1
    refine W_norm (fun l w => ∃ v5 : Value, ∃ x13 : (List Int), ∃ x14 : Bool, (x13, x14) = r4 ∧ l = [(0, u1), (1, u2), (2, u3), (8, v5), (9, (.bool x14)), (10, (.int .i64 x5))] ∧ Below w10.heap.size w10 w ∧ Ctx [] w0 w [Item.own v5 (x13 : (List Int))]) ?_ ?_
    ·refine W_cond rfl (fun hc6 => ?_) (fun hc6 => ?_)
     ·replace hr9 := ite_t hr9 hc6
      refine W_seq_reg ?_
      refine WL_move rfl rfl ?_
      refine WL_assign rfl rfl ?_
      refine WL_nil (W_reg ?_)
      refine WL_assign rfl rfl ?_
      refine WL_nil ?_
      have hq6 := Option.some.inj hr9
      subst hq6
      have hC18 := hC16.f1
      have hC19 := hC18.h1
      refine nrm_sub (l' := [(0, u1), (1, u2), (2, u3), (8, v3), (9, (.bool true)), (10, (.int .i64 x5))]) ⟨rfl, rfl, rfl, rfl, rfl, rfl, trivial⟩ ?_
      exact ⟨v3, x8, true, rfl, rfl, (Below.refl _ _), hC19⟩
     replace hr9 := ite_f hr9 hc6
     refine W_skip ?_
     have hq7 := Option.some.inj hr9
     subst hq7
     have hC20 := hC16.f2
     have hC21 := hC20.h1
     refine nrm_sub (l' := [(0, u1), (1, u2), (2, u3), (8, v1), (9, (.bool x4)), (10, (.int .i64 x5))]) ⟨rfl, rfl, rfl, rfl, rfl, rfl, trivial⟩ ?_
     exact ⟨v1, x3, x4, rfl, rfl, (Below.refl _ _), hC21⟩
    rintro l4 _ w11 hs4 ⟨v5, x13, x14, rfl, rfl, hB10, hC17⟩
    try dsimp only at hL1
    refine blk_normal ?_
    refine nrm_sub' hs4 ?_
    clear hs4
    refine W_reg ?_
    refine WL_move rfl rfl ?_
    refine WL_add rfl rfl rfl ?_
    refine WL_assign rfl rfl ?_
    refine WL_nil ?_
    refine nrm_sub (l' := [(0, u1), (1, u2), (2, u3), (8, v5), (9, (.bool x14)), (10, (.int .i64 (w64 (x5 + 1))))]) ⟨rfl, rfl, rfl, rfl, rfl, rfl, trivial⟩ ?_
    exact ⟨k1, Nat.lt_succ_self _, v5, x13, x14, w64 (x5 + 1), rfl, ((((((Keep.of hB4).then hB5).then hB6).then hB8).then hB9).then hB10).below, hC17, hL1⟩
   replace hL1 := ite_f hL1 hc3
   refine W_exit (nrm_exit (nrm_exit (blk_exit ?_)))
   have hq8 := Option.some.inj hL1
   subst hq8
   refine nrm_sub (l' := [(8, v1), (9, (.bool x4))]) ⟨rfl, rfl, trivial⟩ ?_
   exact ⟨v1, x3, x4, rfl, rfl, (Keep.of hB4).below, hC9⟩
 rintro l5 _ w12 hs5 ⟨v2, x6, x7, rfl, rfl, hB11, hC22⟩
 try dsimp only at hF
 refine nrm_sub' hs5 ?_
 clear hs5
 refine W_seq_reg ?_
 refine WL_move rfl rfl ?_
 refine WL_move rfl rfl ?_
 refine WL_assign rfl rfl ?_
 refine WL_assign rfl rfl ?_
 refine WL_nil (W_ret ?_)
 have hq9 := Option.some.inj hF
 subst hq9
 refine fn_ret2 rfl rfl rfl ?_
 have hC23 := hC22.triv (bool_val (x7))
 have hC24 := hC23.f1
 exact ⟨_, rfl, res2_of hC24⟩

theorem c_S_l2Ints {w0 : World} (a1 : (List Int)) (u1 : Value) (g1 : RO [] w0 u1 a1) (a2 : (List Int)) (u2 : Value) (g2 : RO [] w0 u2 a2) (rr : Bool) (hF : S.l2Ints a1 a2 = some rr) :
 Calls Tryz.prog 163 [u1, u2].toArray w0 fun e w' => ∃ v, e = .returned v ∧ Res w0 rr v w' := by
 refine calls_of_W Tryz.func163 rfl rfl ?_
 have hC0 := Ctx.start w0
 unfold S.l2Ints at hF
 refine W_seq_reg ?_
 refine WL_assign rfl rfl ?_
 refine WL_nil (W_seq (W_seq_reg ?_))
 refine WL_move rfl rfl ?_
 refine WL_len Tryz.underlying24 g1 rfl rfl ?_
 refine WL_move rfl rfl ?_
 refine WL_len Tryz.underlying24 g2 rfl rfl ?_
 refine WL_neq rfl rfl rfl ?_
 refine WL_nil ?_
 refine W_cond rfl (fun hc1 => ?_) (fun hc1 => ?_)
 ·replace hF := ite_t hF hc1
  refine W_seq_reg ?_
  refine WL_assign rfl rfl ?_
  refine WL_nil (W_ret (nrm_ret ?_))
  have hq1 := Option.some.inj hF
  subst hq1
  refine fn_ret1 rfl rfl ?_
  exact ⟨_, rfl, bool_res hC0 _⟩
 replace hF := ite_f hF hc1
 refine W_skip (nrm_normal (W_seq (W_seq_reg ?_)))
 refine WL_assign rfl rfl ?_
 refine WL_nil ?_
 obtain ⟨r1, hr1, hF⟩ := bind_some hF
 refine W_norm (fun l w => .inl () = r1 ∧ l = [] ∧ Below w0.heap.size w0 w ∧ Ctx [] w0 w []) ?_ ?_
 ·refine W_block ?_
  refine W.sub (l' := [(0, u1), (1, u2), (5, (.int .i64 0))]) ?_ ⟨rfl, rfl, rfl, trivial⟩
  refine W_loop (fun k l w => ∃ x1 : Int, l = [(0, u1), (1, u2), (5, (.int .i64 x1))] ∧ Below w0.heap.size w0 w ∧ Ctx [] w0 w [] ∧ S.l2Ints_l1 a1 a2 k x1 = some r1) FUEL ⟨0, rfl, (Below.refl _ _), hC0, hr1⟩ ?_
  clear hr1
  rintro k1 _ w1 ⟨x1, rfl, hB1, hC1, hL1⟩
  cases k1 with
  | zero => rw [S.l2Ints_l1] at hL1; cases hL1
  | succ k1 =>
   rw [S.l2Ints_l1] at hL1
   refine W_seq (W_seq_reg ?_)
   refine WL_move rfl rfl ?_
   refine WL_move rfl rfl ?_
   refine WL_len Tryz.underlying24 g1 rfl rfl ?_
   refine WL_lss rfl rfl rfl ?_
   refine WL_nil ?_
   refine W_cond rfl (fun hc2 => ?_) (fun hc2 => ?_)
   ·replace hL1 := ite_t hL1 hc2
    refine W_skip (nrm_normal (W_seq (W_block (W_seq ?_))))
    refine W_drawn 9 rfl hmix (fun w2 hB2 => ?_)
    have hC2 := hC1.grow hB2
    refine WA_tk 0 (by kernel_rfl) rfl rfl (fl_move rfl) ?_
    refine WL_move rfl rfl ?_
    refine WL_nil ?_
    refine WA_tk 1 (by kernel_rfl) rfl rfl (fl_move rfl) ?_
    refine WL_move rfl rfl ?_
    refine WL_nil ?_
    obtain ⟨x2, hx1, hL1⟩ := bind_some hL1
    refine WA_tk 2 (by kernel_rfl) rfl rfl (fl_index Tryz.underlying24 ty3 g1 hx1 rfl rfl) ?_
    refine WL_index Tryz.underlying24 ty3 g1 hx1 rfl rfl rfl (fun b1 o1 h1 => ?_)
    refine WL_nil ?_
    refine WA_tk 4 (by kernel_rfl) rfl rfl (fl_move rfl) ?_
    refine WL_move rfl rfl ?_
    refine WL_nil ?_
    refine WA_tk 5 (by kernel_rfl) rfl rfl (fl_move rfl) ?_
    refine WL_move rfl rfl ?_
    refine WL_nil ?_
    obtain ⟨x3, hx2, hL1⟩ := bind_some hL1
    refine WA_tk 6 (by kernel_rfl) rfl rfl (fl_index Tryz.underlying24 ty3 g2 hx2 rfl rfl) ?_
    refine WL_index Tryz.underlying24 ty3 g2 hx2 rfl rfl rfl (fun b2 o2 h2 => ?_)
    refine WL_nil ?_
    refine WA.sub (l' := [(0, u1), (1, u2), (5, (.int .i64 x1)), (11, (.int .i64 x1)), (12, u1), (13, (.int .i64 (List.length a1 : Int))), (14, (.bool (decide (x1 < (List.length a1 : Int))))), (17, u1), (18, (.int .i64 x1)), (19, (ptr b1 o1)), (21, u2), (22, (.int .i64 x1)), (23, (ptr b2 o2))]) ?_ ⟨rfl, rfl, rfl, rfl, rfl, rfl, rfl, rfl, rfl, rfl, rfl, rfl, rfl, trivial⟩
    refine WA_postsE [⟨3, [], fun vs => PW.val (.int .i64 x2), []⟩, ⟨7, [], fun vs => PW.val (.int .i64 x3), []⟩] [[], []] 1 rfl (by kernel_rfl) (by kernel_rfl) rfl ?_ ?_
    ·refine StepsE_cons rfl ?_ ?_
     ·intro w3 hB3
      refine DepsE_nil ?_
      refine ⟨_, rfl, ?_⟩
      refine WL_load ty3 h1 (hC2.keep.then hB3) rfl rfl (fun v1 h3 => ?_)
      obtain rfl := ro_int h3
      refine WL_nil ?_
      exact FinE_val (Below.refl _ _) rfl rfl ⟨rfl, rfl⟩
     refine StepsE_cons rfl ?_ ?_
     ·intro w3 hB3
      refine DepsE_nil ?_
      refine ⟨_, rfl, ?_⟩
      refine WL_load ty3 h2 (hC2.keep.then hB3) rfl rfl (fun v2 h4 => ?_)
      obtain rfl := ro_int h4
      refine WL_nil ?_
      exact FinE_val (Below.refl _ _) rfl rfl ⟨rfl, rfl⟩
     exact StepsE_nil
    intro w4 hB4
    refine AllE_cons rfl rfl rfl ?_
    rintro _ _ ⟨rfl, rfl⟩
    refine AllE_cons rfl rfl rfl ?_
    rintro _ _ ⟨rfl, rfl⟩
    refine AllE_nil ?_
    intro hn1 hb1
    have hC3 := hC2.grow hB4
    refine WA_tk 8 (by kernel_rfl) rfl rfl (fl_neq rfl rfl) ?_
    refine WL_neq rfl rfl rfl ?_
    refine WL_nil ?_
    refine WA_done (by kernel_rfl) ?_
    refine nrm_normal ?_
    refine W_cond rfl (fun hc3 => ?_) (fun hc3 => ?_)
    ·replace hL1 := ite_t hL1 hc3
     refine W_seq_reg ?_
     refine WL_assign rfl rfl ?_
     refine WL_nil (W_ret (blk_ret (nrm_ret (nrm_ret (blk_ret (nrm_ret (nrm_ret ?_)))))))
     have hq2 := Option.some.inj hL1
     subst hq2
     dsimp only at hF
     have hq3 := Option.some.inj hF
     subst hq3
     refine fn_ret1 rfl rfl ?_
     exact ⟨_, rfl, bool_res hC3 _⟩
    replace hL1 := ite_f hL1 hc3
    refine W_skip (blk_normal (nrm_normal (W_reg ?_)))
    refine WL_move rfl rfl ?_
    refine WL_add rfl rfl rfl ?_
    refine WL_assign rfl rfl ?_
    refine WL_nil ?_
    refine nrm_sub (l' := [(0, u1), (1, u2), (5, (.int .i64 (w64 (x1 + 1))))]) ⟨rfl, rfl, rfl, trivial⟩ ?_
    exact ⟨k1, Nat.lt_succ_self _, w64 (x1 + 1), rfl, (((Keep.of hB1).then hB2).then hB4).below, hC3, hL1⟩
   replace hL1 := ite_f hL1 hc2
   refine W_exit (nrm_exit (nrm_exit (blk_exit ?_)))
   have hq4 := Option.some.inj hL1
   subst hq4
   refine nrm_sub (l' := []) trivial ?_
   exact ⟨rfl, rfl, (Keep.of hB1).below, hC1⟩
 rintro l2 _ w5 hs2 ⟨rfl, rfl, hB5, hC4⟩
 try dsimp only at hF
 refine nrm_sub' hs2 ?_
 clear hs2
 refine W_seq_reg ?_
 refine WL_assign rfl rfl ?_
 refine WL_nil (W_ret ?_)
 have hq5 := Option.some.inj hF
 subst hq5
 refine fn_ret1 rfl rfl ?_
 exact ⟨_, rfl, bool_res hC4 _⟩

theorem c_S_AddTuple {w0 : World} (a1 : (List (List Int))) (u1 : Value) (g1 : RO [] w0 u1 a1) (a2 : (List Int)) (u2 : Value) (g2 : RO [] w0 u2 a2) (rr : (List (List Int))) (hF : S.AddTuple a1 a2 = some rr) :
 Calls Tryz.prog 117 [u1, u2].toArray w0 fun e w' => ∃ v, e = .returned v ∧ Res w0 rr v w' := by
 refine calls_of_W Tryz.func117 rfl rfl ?_
 have hC0 := Ctx.start w0
 unfold S.AddTuple at hF
 refine W_seq_reg ?_
 refine WL_assign rfl rfl ?_
 refine WL_nil (W_seq_reg ?_)
 refine WL_buildSlice (vs := []) hC0 Tryz.underlying77 ty24 rfl rfl rfl rfl (by simp) rfl rfl (fun b1 w1 hC1 hB1 => ?_)
 have hC2 := hC1.row0 (α := (List Int))
 have hC3 := hC2.front 1 rfl
 dsimp only [List.eraseIdx, List.cons_append, List.nil_append, List.append_nil] at hC3
 have hC4 : Ctx [] w0 w1 (Item.own (.slice (some ⟨b1, 0, none⟩) 0 0) (([] : List (List Int)) : List (List Int)) :: []) := hC3.rowOwn (by simp [maxLen])
 refine WL_assign rfl rfl ?_
 refine WL_nil (W_seq_reg ?_)
 refine WL_assign rfl rfl ?_
 refine WL_nil (W_seq (W_seq_reg ?_))
 refine WL_assign rfl rfl ?_
 refine WL_nil ?_
 obtain ⟨r1, hr1, hF⟩ := bind_some hF
 refine W_norm (fun l w => ∃ x3 : Bool, x3 = r1 ∧ l = [(0, u1), (1, u2), (5, (.slice (some ⟨b1, 0, none⟩) 0 0)), (6, (.bool x3))] ∧ Below w1.heap.size w1 w ∧ Ctx [] w0 w [Item.own (.slice (some ⟨b1, 0, none⟩) 0 0) (([] : List (List Int)) : (List (List Int)))]) ?_ ?_
 ·refine W_block ?_
  refine W.sub (l' := [(0, u1), (1, u2), (5, (.slice (some ⟨b1, 0, none⟩) 0 0)), (6, (.bool false)), (7, (.int .i64 0))]) ?_ ⟨rfl, rfl, rfl, rfl, rfl, trivial⟩
  refine W_loop (fun k l w => ∃ x1 : Bool, ∃ x2 : Int, l = [(0, u1), (1, u2), (5, (.slice (some ⟨b1, 0, none⟩) 0 0)), (6, (.bool x1)), (7, (.int .i64 x2))] ∧ Below w1.heap.size w1 w ∧ Ctx [] w0 w [Item.own (.slice (some ⟨b1, 0, none⟩) 0 0) (([] : List (List Int)) : (List (List Int)))] ∧ S.AddTuple_l1 a1 a2 k x1 x2 = some r1) FUEL ⟨false, 0, rfl, (Below.refl _ _), hC4, hr1⟩ ?_
  clear hr1
  rintro k1 _ w2 ⟨x1, x2, rfl, hB2, hC5, hL1⟩
  cases k1 with
  | zero => rw [S.AddTuple_l1] at hL1; cases hL1
  | succ k1 =>
   rw [S.AddTuple_l1] at hL1
   refine W_seq (W_seq_reg ?_)
   refine WL_move rfl rfl ?_
   refine WL_move rfl rfl ?_
   refine WL_len Tryz.underlying77 g1 rfl rfl ?_
   refine WL_lss rfl rfl rfl ?_
   refine WL_nil ?_
   refine W_cond rfl (fun hc1 => ?_) (fun hc1 => ?_)
   ·replace hL1 := ite_t hL1 hc1
    refine W_skip (nrm_normal (W_seq (W_block ?_)))
    obtain ⟨r2, hr2, hL1⟩ := bind_some hL1
    refine W_norm (fun l w => ∃ x4 : Bool, x4 = r2 ∧ l = [(0, u1), (1, u2), (5, (.slice (some ⟨b1, 0, none⟩) 0 0)), (6, (.bool x4)), (7, (.int .i64 x2))] ∧ Below w2.heap.size w2 w ∧ Ctx [] w0 w [Item.own (.slice (some ⟨b1, 0, none⟩) 0 0) (([] : List (List Int)) : (List (List Int)))]) ?_ ?_
    ·refine W_reg ?_
     refine WL_move rfl rfl ?_
     refine WL_move rfl rfl ?_
     refine WL_fork (fun hc2 => ?_) (fun hc2 => ?_)
     ·replace hr2 := ite_t hr2 hc2
      refine WL_guard_skip rfl rfl (by simp) rfl ?_
      refine WL_guard_skip rfl rfl (by simp) rfl ?_
      refine WL_guard_skip rfl rfl (by simp) rfl ?_
      refine WL_guard_skip rfl rfl (by simp) rfl ?_
      refine WL_guard_skip rfl rfl (by simp) rfl ?_
      refine WL_guard_skip rfl rfl (by simp) rfl ?_
      refine WL_pick_t rfl rfl rfl ?_
      refine WL_assign rfl rfl ?_
      refine WL_nil ?_
      have hq1 := Option.some.inj hr2
      subst hq1
      refine nrm_sub (l' := [(0, u1), (1, u2), (5, (.slice (some ⟨b1, 0, none⟩) 0 0)), (6, (.bool true)), (7, (.int .i64 x2))]) ⟨rfl, rfl, rfl, rfl, rfl, trivial⟩ ?_
      exact ⟨true, rfl, rfl, (Below.refl _ _), hC5⟩
     replace hr2 := ite_f hr2 hc2
     refine WL_guard rfl rfl ?_
     refine WL_move rfl rfl ?_
     refine WL_guard rfl rfl ?_
     refine WL_move rfl rfl ?_
     obtain ⟨x5, hx1, hr2⟩ := bind_some hr2
     refine WL_guard rfl rfl ?_
     refine WL_index Tryz.underlying77 ty24 g1 hx1 rfl rfl rfl (fun b2 o1 h1 => ?_)
     refine WL_guard rfl rfl ?_
     refine WL_load ty24 h1 hC5.keep rfl rfl (fun v1 h2 => ?_)
     refine WL_guard rfl rfl ?_
     refine WL_move rfl rfl ?_
     obtain ⟨x6, hr3, hr2⟩ := bind_some hr2
     refine WL_guard rfl rfl ?_
     refine WL_call Tryz.call163 rfl rfl (c_S_l2Ints x5 v1 (h2.now hC5.keep) a2 u2 (g2.now hC5.keep) x6 hr3) ?_
     intro _ w4 hv1
     obtain ⟨rfl, hB4⟩ := res_bool hv1
     have hC7 := hC5.grow hB4
     refine WL_pick_f rfl rfl rfl ?_
     refine WL_assign rfl rfl ?_
     refine WL_nil ?_
     have hq2 := Option.some.inj hr2
     subst hq2
     refine nrm_sub (l' := [(0, u1), (1, u2), (5, (.slice (some ⟨b1, 0, none⟩) 0 0)), (6, (.bool x6)), (7, (.int .i64 x2))]) ⟨rfl, rfl, rfl, rfl, rfl, trivial⟩ ?_
     exact ⟨x6, rfl, rfl, (Keep.of hB4).below, hC7⟩
    rintro l2 _ w3 hs2 ⟨x4, rfl, rfl, hB3, hC6⟩
    try dsimp only at hL1
    refine blk_normal ?_
    refine nrm_sub' hs2 ?_
    clear hs2
    refine W_reg ?_
    refine WL_move rfl rfl ?_
    refine WL_add rfl rfl rfl ?_
    refine WL_assign rfl rfl ?_
    refine WL_nil ?_
    refine nrm_sub (l' := [(0, u1), (1, u2), (5, (.slice (some ⟨b1, 0, none⟩) 0 0)), (6, (.bool x4)), (7, (.int .i64 (w64 (x2 + 1))))]) ⟨rfl, rfl, rfl, rfl, rfl, trivial⟩ ?_
    exact ⟨k1, Nat.lt_succ_self _, x4, w64 (x2 + 1), rfl, ((Keep.of hB2).then hB3).below, hC6, hL1⟩
   replace hL1 := ite_f hL1 hc1
   refine W_exit (nrm_exit (nrm_exit (blk_exit ?_)))
   have hq3 := Option.some.inj hL1
   subst hq3
   refine nrm_sub (l' := [(0, u1), (1, u2), (5, (.slice (some ⟨b1, 0, none⟩) 0 0)), (6, (.bool x1))]) ⟨rfl, rfl, rfl, rfl, trivial⟩ ?_
   exact ⟨x1, rfl, rfl, (Keep.of hB2).below, hC5⟩
 rintro l3 _ w5 hs3 ⟨x3, rfl, rfl, hB5, hC8⟩
 try dsimp only at hF
 refine nrm_sub' hs3 ?_
 clear hs3
 refine W_seq (W_seq_reg ?_)
 refine WL_assign rfl rfl ?_
 refine WL_nil ?_
 obtain ⟨r3, hr4, hF⟩ := bind_some hF
 refine W_norm (fun l w => ∃ v3 : Value, ∃ x10 : (List (List Int)), ∃ x11 : Bool, (x10, x11) = r3 ∧ l = [(1, u2), (5, v3), (6, (.bool x11))] ∧ Ctx [] w0 w [Item.own v3 (x10 : (List (List Int)))]) ?_ ?_
 ·refine W_block ?_
  refine W.sub (l' := [(0, u1), (1, u2), (5, (.slice (some ⟨b1, 0, none⟩) 0 0)), (6, (.bool x3)), (8, (.int .i64 0))]) ?_ ⟨rfl, rfl, rfl, rfl, rfl, trivial⟩
  refine W_loop (fun k l w => ∃ v2 : Value, ∃ x7 : (List (List Int)), ∃ x8 : Bool, ∃ x9 : Int, l = [(0, u1), (1, u2), (5, v2), (6, (.bool x8)), (8, (.int .i64 x9))] ∧ Ctx [] w0 w [Item.own v2 (x7 : (List (List Int)))] ∧ S.AddTuple_l2 a1 a2 k x7 x8 x9 = some r3) FUEL ⟨(.slice (some ⟨b1, 0, none⟩) 0 0), ([] : List (List Int)), x3, 0, rfl, hC8, hr4⟩ ?_
  clear hr4
  rintro k2 _ w6 ⟨v2, x7, x8, x9, rfl, hC9, hL2⟩
  cases k2 with
  | zero => rw [S.AddTuple_l2] at hL2; cases hL2
  | succ k2 =>
   rw [S.AddTuple_l2] at hL2
   refine W_seq (W_seq_reg ?_)
   refine WL_move rfl rfl ?_
   refine WL_move rfl rfl ?_
   refine WL_len Tryz.underlying77 g1 rfl rfl ?_
   refine WL_lss rfl rfl rfl ?_
   refine WL_nil ?_
   refine W_cond rfl (fun hc3 => ?_) (fun hc3 => ?_)
   ·replace hL2 := ite_t hL2 hc3
    refine W_skip (nrm_normal (W_seq (W_block (W_seq ?_))))
    obtain ⟨r4, hr5, hL2⟩ := bind_some hL2
    refine W_cut (fun l w => ∃ x12 : Bool, x12 = r4 ∧ l = [(0, u1), (1, u2), (5, v2), (6, (.bool x8)), (8, (.int .i64 x9)), (40, (.bool x12))] ∧ Below w6.heap.size w6 w ∧ Ctx [] w0 w [Item.own v2 (x7 : (List (List Int)))]) ?_ ?_
    ·refine W_reg ?_
     refine WL_move rfl rfl ?_
     refine WL_not rfl rfl ?_
     refine WL_move rfl rfl ?_
     refine WL_fork (fun hc4 => ?_) (fun hc4 => ?_)
     ·replace hr5 := ite_t hr5 hc4
      refine WL_guard rfl rfl ?_
      refine WL_move rfl rfl ?_
      refine WL_guard rfl rfl ?_
      refine WL_move rfl rfl ?_
      refine WL_guard rfl rfl ?_
      refine WL_move rfl rfl ?_
      obtain ⟨x13, hx2, hr5⟩ := bind_some hr5
      refine WL_guard rfl rfl ?_
      refine WL_index Tryz.underlying77 ty24 g1 hx2 rfl rfl rfl (fun b3 o2 h3 => ?_)
      refine WL_guard rfl rfl ?_
      refine WL_load ty24 h3 hC9.keep rfl rfl (fun v4 h4 => ?_)
      obtain ⟨x14, hr6, hr5⟩ := bind_some hr5
      refine WL_guard rfl rfl ?_
      refine WL_call Tryz.call153 rfl rfl (c_S_l4Less a2 u2 (g2.now hC9.keep) x13 v4 (h4.now hC9.keep) x14 hr6) ?_
      intro _ w9 hv2
      obtain ⟨rfl, hB8⟩ := res_bool hv2
      have hC11 := hC9.grow hB8
      refine WL_pick_t rfl rfl rfl ?_
      refine WL_nil ?_
      have hq4 := Option.some.inj hr5
      subst hq4
      refine nrm_sub (l' := [(0, u1), (1, u2), (5, v2), (6, (.bool x8)), (8, (.int .i64 x9)), (40, (.bool x14))]) ⟨rfl, rfl, rfl, rfl, rfl, rfl, trivial⟩ ?_
      exact ⟨x14, rfl, rfl, (Keep.of hB8).below, hC11⟩
     replace hr5 := ite_f hr5 hc4
     refine WL_guard_skip rfl rfl (by simp) rfl ?_
     refine WL_guard_skip rfl rfl (by simp) rfl ?_
     refine WL_guard_skip rfl rfl (by simp) rfl ?_
     refine WL_guard_skip rfl rfl (by simp) rfl ?_
     refine WL_guard_skip rfl rfl (by simp) rfl ?_
     refine WL_guard_skip rfl rfl (by simp) rfl ?_
     refine WL_pick_f rfl rfl rfl ?_
     refine WL_nil ?_
     have hq5 := Option.some.inj hr5
     subst hq5
     refine nrm_sub (l' := [(0, u1), (1, u2), (5, v2), (6, (.bool x8)), (8, (.int .i64 x9)), (40, (.bool false))]) ⟨rfl, rfl, rfl, rfl, rfl, rfl, trivial⟩ ?_
     exact ⟨false, rfl, rfl, (Below.refl _ _), hC9⟩
    rintro _ w7 ⟨x12, rfl, rfl, hB7, hC10⟩
    try dsimp only at hL2
    obtain ⟨r5, hr7, hL2⟩ := bind_some hL2
    refine W_norm (fun l w => ∃ v5 : Value, ∃ x15 : (List (List Int)), ∃ x16 : Bool, (x15, x16) = r5 ∧ l = [(0, u1), (1, u2), (5, v5), (6, (.bool x16)), (8, (.int .i64 x9))] ∧ Ctx [] w0 w [Item.own v5 (x15 : (List (List Int)))]) ?_ ?_
    ·refine W_cond rfl (fun hc5 => ?_) (fun hc5 => ?_)
     ·replace hr7 := ite_t hr7 hc5
      refine W_seq_reg ?_
      refine WL_move rfl rfl ?_
      refine WL_buildSlice (vs := []) hC10 Tryz.underlying24 ty3 rfl rfl rfl rfl (by simp) rfl rfl (fun b4 w11 hC13 hB10 => ?_)
      have hC14 := hC13.row0 (α := Int)
      have hC15 := hC14.front 1 rfl
      dsimp only [List.eraseIdx, List.cons_append, List.nil_append, List.append_nil] at hC15
      have hC16 : Ctx [] w0 w11 (Item.own (.slice (some ⟨b4, 0, none⟩) 0 0) (([] : List Int) : List Int) :: [Item.own v2 (x7 : (List (List Int)))]) := hC15.rowOwn (by simp [maxLen])
      refine WL_move rfl rfl ?_
      obtain ⟨x17, hx3, hr7⟩ := bind_some hr7
      refine WL_append_flat (α := Int) hC16 0 rfl g2 hC16.keep Tryz.underlying24 ty3 rfl hx3 rfl rfl rfl (fun v6 w12 hC17 => ?_)
      try dsimp only [List.set] at hC17
      refine WL_buildSlice (vs := [v6]) hC17 Tryz.underlying77 ty24 rfl rfl rfl rfl (by intro v hv; simp only [List.mem_cons, List.not_mem_nil, or_false] at hv; rcases hv with rfl; exact (by rw [ro_cells (hC17.ro 0 rfl)]; rfl)) (by simp only [List.flatMap_cons, List.flatMap_nil, ro_cells (hC17.ro 0 rfl)]; rfl) rfl (fun b5 w13 hC18 hB11 => ?_)
      have hC19 := hC18.row0 (α := (List Int))
      have hC20 := hC19.f2
      have hz1 := ro_cells (hC20.ro 0 rfl)
      have hC21 := hC20.row1
      rw [hz1] at hC21
      have hC22 := hC21.front 1 rfl
      dsimp only [List.eraseIdx, List.cons_append, List.nil_append, List.append_nil] at hC22
      have hC23 : Ctx [] w0 w13 (Item.own (.slice (some ⟨b5, 0, none⟩) 1 1) ([x17] : List (List Int)) :: [Item.own v2 (x7 : (List (List Int)))]) := hC22.rowOwn (by simp [maxLen])
      obtain ⟨x18, hx4, hr7⟩ := bind_some hr7
      refine WL_append_head hC23 0 rfl Tryz.underlying77 ty24 rfl hx4 rfl rfl rfl (fun v7 w14 hC24 => ?_)
      try dsimp only [List.set] at hC24
      refine WL_assign rfl rfl ?_
      refine WL_nil (W_reg ?_)
      refine WL_assign rfl rfl ?_
      refine WL_nil ?_
      have hq6 := Option.some.inj hr7
      subst hq6
      refine nrm_sub (l' := [(0, u1), (1, u2), (5, v7), (6, (.bool true)), (8, (.int .i64 x9))]) ⟨rfl, rfl, rfl, rfl, rfl, trivial⟩ ?_
      exact ⟨v7, x18, true, rfl, rfl, hC24⟩
     replace hr7 := ite_f hr7 hc5
     refine W_skip ?_
     have hq7 := Option.some.inj hr7
     subst hq7
     refine nrm_sub (l' := [(0, u1), (1, u2), (5, v2), (6, (.bool x8)), (8, (.int .i64 x9))]) ⟨rfl, rfl, rfl, rfl, rfl, trivial⟩ ?_
     exact ⟨v2, x7, x8, rfl, rfl, hC10⟩
    rintro l6 _ w10 hs6 ⟨v5, x15, x16, rfl, rfl, hC12⟩
    try dsimp only at hL2
    refine nrm_sub' hs6 ?_
    clear hs6
    refine W_reg ?_
    refine WL_move rfl rfl ?_
    refine WL_buildSlice (vs := []) hC12 Tryz.underlying24 ty3 rfl rfl rfl rfl (by simp) rfl rfl (fun b6 w15 hC26 hB12 => ?_)
    have hC27 := hC26.row0 (α := Int)
    have hC28 := hC27.front 1 rfl
    dsimp only [List.eraseIdx, List.cons_append, List.nil_append, List.append_nil] at hC28
    have hC29 : Ctx [] w0 w15 (Item.own (.slice (some ⟨b6, 0, none⟩) 0 0) (([] : List Int) : List Int) :: [Item.own v5 (x15 : (List (List Int)))]) := hC28.rowOwn (by simp [maxLen])
    refine WL_move rfl rfl ?_
    refine WL_move rfl rfl ?_
    obtain ⟨x19, hx5, hL2⟩ := bind_some hL2
    refine WL_index Tryz.underlying77 ty24 g1 hx5 rfl rfl rfl (fun b7 o3 h5 => ?_)
    refine WL_load ty24 h5 hC29.keep rfl rfl (fun v8 h6 => ?_)
    obtain ⟨x20, hx6, hL2⟩ := bind_some hL2
    refine WL_append_flat (α := Int) hC29 0 rfl h6 hC29.keep Tryz.underlying24 ty3 rfl hx6 rfl rfl rfl (fun v9 w16 hC30 => ?_)
    try dsimp only [List.set] at hC30
    refine WL_buildSlice (vs := [v9]) hC30 Tryz.underlying77 ty24 rfl rfl rfl rfl (by intro v hv; simp only [List.mem_cons, List.not_mem_nil, or_false] at hv; rcases hv with rfl; exact (by rw [ro_cells (hC30.ro 0 rfl)]; rfl)) (by simp only [List.flatMap_cons, List.flatMap_nil, ro_cells (hC30.ro 0 rfl)]; rfl) rfl (fun b8 w17 hC31 hB13 => ?_)
    have hC32 := hC31.row0 (α := (List Int))
    have hC33 := hC32.f2
    have hz2 := ro_cells (hC33.ro 0 rfl)
    have hC34 := hC33.row1
    rw [hz2] at hC34
    have hC35 := hC34.front 1 rfl
    dsimp only [List.eraseIdx, List.cons_append, List.nil_append, List.append_nil] at hC35
    have hC36 : Ctx [] w0 w17 (Item.own (.slice (some ⟨b8, 0, none⟩) 1 1) ([x20] : List (List Int)) :: [Item.own v5 (x15 : (List (List Int)))]) := hC35.rowOwn (by simp [maxLen])
    obtain ⟨x21, hx7, hL2⟩ := bind_some hL2
    refine WL_append_head hC36 0 rfl Tryz.underlying77 ty24 rfl hx7 rfl rfl rfl (fun v10 w18 hC37 => ?_)
    try dsimp only [List.set] at hC37
    refine WL_assign rfl rfl ?_
    refine WL_nil (blk_normal (nrm_normal (W_reg ?_)))
    refine WL_move rfl rfl ?_
    refine WL_add rfl rfl rfl ?_
    refine WL_assign rfl rfl ?_
    refine WL_nil ?_
    refine nrm_sub (l' := [(0, u1), (1, u2), (5, v10), (6, (.bool x16)), (8, (.int .i64 (w64 (x9 + 1))))]) ⟨rfl, rfl, rfl, rfl, rfl, trivial⟩ ?_
    exact ⟨k2, Nat.lt_succ_self _, v10, x21, x16, w64 (x9 + 1), rfl, hC37, hL2⟩
   replace hL2 := ite_f hL2 hc3
   refine W_exit (nrm_exit (nrm_exit (blk_exit ?_)))
   have hq8 := Option.some.inj hL2
   subst hq8
   refine nrm_sub (l' := [(1, u2), (5, v2), (6, (.bool x8))]) ⟨rfl, rfl, rfl, trivial⟩ ?_
   exact ⟨v2, x7, x8, rfl, rfl, hC9⟩
 rintro l7 _ w19 hs7 ⟨v3, x10, x11, rfl, rfl, hC39⟩
 try dsimp only at hF
 refine nrm_sub' hs7 ?_
 clear hs7
 refine W_seq (W_seq_reg ?_)
 refine WL_move rfl rfl ?_
 refine WL_not rfl rfl ?_
 refine WL_nil ?_
 obtain ⟨r6, hr8, hF⟩ := bind_some hF
 refine W_norm (fun l w => ∃ v11 : Value, ∃ x22 : (List (List Int)), x22 = r6 ∧ l = [(5, v11)] ∧ Ctx [] w0 w [Item.own v11 (x22 : (List (List Int)))]) ?_ ?_
 ·refine W_cond rfl (fun hc6 => ?_) (fun hc6 => ?_)
  ·replace hr8 := ite_t hr8 hc6
   refine W_reg ?_
   refine WL_move rfl rfl ?_
   refine WL_buildSlice (vs := []) hC39 Tryz.underlying24 ty3 rfl rfl rfl rfl (by simp) rfl rfl (fun b9 w21 hC41 hB16 => ?_)
   have hC42 := hC41.row0 (α := Int)
   have hC43 := hC42.front 1 rfl
   dsimp only [List.eraseIdx, List.cons_append, List.nil_append, List.append_nil] at hC43
   have hC44 : Ctx [] w0 w21 (Item.own (.slice (some ⟨b9, 0, none⟩) 0 0) (([] : List Int) : List Int) :: [Item.own v3 (x10 : (List (List Int)))]) := hC43.rowOwn (by simp [maxLen])
   refine WL_move rfl rfl ?_
   obtain ⟨x23, hx8, hr8⟩ := bind_some hr8
   refine WL_append_flat (α := Int) hC44 0 rfl g2 hC44.keep Tryz.underlying24 ty3 rfl hx8 rfl rfl rfl (fun v12 w22 hC45 => ?_)
   try dsimp only [List.set] at hC45
   refine WL_buildSlice (vs := [v12]) hC45 Tryz.underlying77 ty24 rfl rfl rfl rfl (by intro v hv; simp only [List.mem_cons, List.not_mem_nil, or_false] at hv; rcases hv with rfl; exact (by rw [ro_cells (hC45.ro 0 rfl)]; rfl)) (by simp only [List.flatMap_cons, List.flatMap_nil, ro_cells (hC45.ro 0 rfl)]; rfl) rfl (fun b10 w23 hC46 hB17 => ?_)
   have hC47 := hC46.row0 (α := (List Int))
   have hC48 := hC47.f2
   have hz3 := ro_cells (hC48.ro 0 rfl)
   have hC49 := hC48.row1
   rw [hz3] at hC49
   have hC50 := hC49.front 1 rfl
   dsimp only [List.eraseIdx, List.cons_append, List.nil_append, List.append_nil] at hC50
   have hC51 : Ctx [] w0 w23 (Item.own (.slice (some ⟨b10, 0, none⟩) 1 1) ([x23] : List (List Int)) :: [Item.own v3 (x10 : (List (List Int)))]) := hC50.rowOwn (by simp [maxLen])
   obtain ⟨x24, hx9, hr8⟩ := bind_some hr8
   refine WL_append_head hC51 0 rfl Tryz.underlying77 ty24 rfl hx9 rfl rfl rfl (fun v13 w24 hC52 => ?_)
   try dsimp only [List.set] at hC52
   refine WL_assign rfl rfl ?_
   refine WL_nil ?_
   have hq9 := Option.some.inj hr8
   subst hq9
   refine nrm_sub (l' := [(5, v13)]) ⟨rfl, trivial⟩ ?_
   exact ⟨v13, x24, rfl, rfl, hC52⟩
  replace hr8 := ite_f hr8 hc6
  refine W_skip ?_
  have hq10 := Option.some.inj hr8
  subst hq10
  refine nrm_sub (l' := [(5, v3)]) ⟨rfl, trivial⟩ ?_
  exact ⟨v3, x10, rfl, rfl, hC39⟩
 rintro l8 _ w20 hs8 ⟨v11, x22, rfl, rfl, hC40⟩
 try dsimp only at hF
 refine nrm_sub' hs8 ?_
 clear hs8
 refine W_seq_reg ?_
 refine WL_move rfl rfl ?_
 refine WL_assign rfl rfl ?_
 refine WL_nil (W_ret ?_)
 have hq11 := Option.some.inj hF
 subst hq11
 refine fn_ret1 rfl rfl ?_
 exact ⟨_, rfl, own_res hC40 0 rfl⟩

theorem c_S_AllRemovals {w0 : World} (a1 : (List Int)) (u1 : Value) (g1 : RO [] w0 u1 a1) (a2 : (List (Int × (List Int) × Int × Int × Int))) (u2 : Value) (g2 : RO [] w0 u2 a2) (a3 : (List ((Int × (List Int)) × (List (Int × (List Int)))))) (u3 : Value) (g3 : RO [] w0 u3 a3) (rr : (List (List Int))) (hF : S.AllRemovals a1 a2 a3 = some rr) :
 Calls Tryz.prog 55 [u1, u2, u3].toArray w0 fun e w' => ∃ v, e = .returned v ∧ Res w0 rr v w' := by
 refine calls_of_W Tryz.func55 rfl rfl ?_
 have hC0 := Ctx.start w0
 unfold S.AllRemovals at hF
 refine W_seq_reg ?_
 refine WL_assign rfl rfl ?_
 refine WL_nil (W_seq_reg ?_)
 refine WL_buildSlice (vs := []) hC0 Tryz.underlying77 ty24 rfl rfl rfl rfl (by simp) rfl rfl (fun b1 w1 hC1 hB1 => ?_)
 have hC2 := hC1.row0 (α := (List Int))
 have hC3 := hC2.front 1 rfl
 dsimp only [List.eraseIdx, List.cons_append, List.nil_append, List.append_nil] at hC3
 have hC4 : Ctx [] w0 w1 (Item.own (.slice (some ⟨b1, 0, none⟩) 0 0) (([] : List (List Int)) : List (List Int)) :: []) := hC3.rowOwn (by simp [maxLen])
 refine WL_assign rfl rfl ?_
 refine WL_nil (W_seq_reg ?_)
 refine WL_move rfl rfl ?_
 refine WL_move rfl rfl ?_
 refine WL_move rfl rfl ?_
 obtain ⟨x1, hr1, hF⟩ := bind_some hF
 refine WL_call Tryz.call36 rfl rfl (c_S_SmallestRemoval a1 u1 (g1.now hC4.keep) a2 u2 (g2.now hC4.keep) a3 u3 (g3.now hC4.keep) x1 hr1) ?_
 rintro _ w2 ⟨hB2, v1, v2, F1, F2, rfl, hv1, hv2, hn1, hb1⟩
 obtain ⟨rfl, rfl⟩ := val_bool hv2
 have hC5 := hC4.pushL hB2 (Bs := [Item.own v1 x1.1]) (Fs := [F1]) ⟨F1, _, rfl, hv1, rfl⟩ (by simpa using hn1) (fun b h => hb1 b (by simpa using h))
 refine WL_move rfl rfl ?_
 refine WL_extract rfl rfl rfl ?_
 refine WL_extract rfl rfl rfl ?_
 refine WL_assign rfl rfl ?_
 refine WL_assign rfl rfl ?_
 refine WL_nil (W_seq (W_seq_reg ?_))
 refine WL_assign rfl rfl ?_
 refine WL_nil ?_
 obtain ⟨r1, hr2, hF⟩ := bind_some hF
 refine W_norm (fun l w => ∃ v4 : Value, ∃ x4 : (List (List Int)), x4 = r1 ∧ l = [(7, v4)] ∧ Below w2.heap.size w2 w ∧ Ctx [] w0 w [Item.own v4 (x4 : (List (List Int)))]) ?_ ?_
 ·refine W_block ?_
  refine W.sub (l' := [(0, u1), (1, u2), (2, u3), (7, (.slice (some ⟨b1, 0, none⟩) 0 0)), (8, v1), (9, (.bool x1.2)), (10, (.int .i64 0))]) ?_ ⟨rfl, rfl, rfl, rfl, rfl, rfl, rfl, trivial⟩
  refine W_loop (fun k l w => ∃ v3 : Value, ∃ x2 : (List (List Int)), ∃ x3 : Int, l = [(0, u1), (1, u2), (2, u3), (7, v3), (8, v1), (9, (.bool x1.2)), (10, (.int .i64 x3))] ∧ Below w2.heap.size w2 w ∧ Ctx [] w0 w [Item.own v1 (x1.1 : (List Int)), Item.own v3 (x2 : (List (List Int)))] ∧ S.AllRemovals_l1 a3 x1 a1 a2 k x2 x3 = some r1) FUEL ⟨(.slice (some ⟨b1, 0, none⟩) 0 0), ([] : List (List Int)), 0, rfl, (Below.refl _ _), hC5, hr2⟩ ?_
  clear hr2
  rintro k1 _ w3 ⟨v3, x2, x3, rfl, hB3, hC6, hL1⟩
  cases k1 with
  | zero => rw [S.AllRemovals_l1] at hL1; cases hL1
  | succ k1 =>
   rw [S.AllRemovals_l1] at hL1
   refine W_seq ?_
   obtain ⟨r2, hr3, hL1⟩ := bind_some hL1
   refine W_cut (fun l w => ∃ x5 : Bool, x5 = r2 ∧ l = [(0, u1), (1, u2), (2, u3), (7, v3), (8, v1), (9, (.bool x1.2)), (10, (.int .i64 x3)), (27, (.bool x5))] ∧ Below w3.heap.size w3 w ∧ Ctx [] w0 w [Item.own v1 (x1.1 : (List Int)), Item.own v3 (x2 : (List (List Int)))]) ?_ ?_
   ·refine W_reg ?_
    refine WL_move rfl rfl ?_
    refine WL_move rfl rfl ?_
    refine WL_len Tryz.underlying26 g3 rfl rfl ?_
    obtain ⟨_, hx1, hr3⟩ := bind_some hr3
    refine WL_shl (nn_some hx1) rfl rfl rfl ?_
    refine WL_lss rfl rfl rfl ?_
    refine WL_move rfl rfl ?_
    refine WL_fork (fun hc1 => ?_) (fun hc1 => ?_)
    ·replace hr3 := ite_t hr3 hc1
     refine WL_guard rfl rfl ?_
     refine WL_move rfl rfl ?_
     refine WL_pick_t rfl rfl rfl ?_
     refine WL_nil ?_
     have hq1 := Option.some.inj hr3
     subst hq1
     refine nrm_sub (l' := [(0, u1), (1, u2), (2, u3), (7, v3), (8, v1), (9, (.bool x1.2)), (10, (.int .i64 x3)), (27, (.bool x1.2))]) ⟨rfl, rfl, rfl, rfl, rfl, rfl, rfl, rfl, trivial⟩ ?_
     exact ⟨x1.2, rfl, rfl, (Below.refl _ _), hC6⟩
    replace hr3 := ite_f hr3 hc1
    refine WL_guard_skip rfl rfl (by simp) rfl ?_
    refine WL_pick_f rfl rfl rfl ?_
    refine WL_nil ?_
    have hq2 := Option.some.inj hr3
    subst hq2
    refine nrm_sub (l' := [(0, u1), (1, u2), (2, u3), (7, v3), (8, v1), (9, (.bool x1.2)), (10, (.int .i64 x3)), (27, (.bool false))]) ⟨rfl, rfl, rfl, rfl, rfl, rfl, rfl, rfl, trivial⟩ ?_
    exact ⟨false, rfl, rfl, (Below.refl _ _), hC6⟩
   rintro _ w4 ⟨x5, rfl, rfl, hB4, hC7⟩
   try dsimp only at hL1
   refine W_cond rfl (fun hc2 => ?_) (fun hc2 => ?_)
   ·replace hL1 := ite_t hL1 hc2
    refine W_skip (nrm_normal (W_seq (W_block (W_seq_reg ?_))))
    refine WL_move rfl rfl ?_
    refine WL_move rfl rfl ?_
    refine WL_len Tryz.underlying26 g3 rfl rfl ?_
    obtain ⟨x6, hr4, hL1⟩ := bind_some hL1
    refine WL_call Tryz.call105 rfl rfl (c_S_l15Set x3 (List.length a3 : Int) x6 hr4) ?_
    rintro v5 w5 ⟨hB5, F3, hv3, hn2, hb2⟩
    have hC8 := hC7.push hB5 (A := Item.own v5 x6) hv3 hn2 hb2
    refine WL_assign rfl rfl ?_
    refine WL_nil ?_
    obtain ⟨r3, hr5, hL1⟩ := bind_some hL1
    refine W_cut (fun l w => ∃ x7 : Bool, x7 = r3 ∧ l = [(0, u1), (1, u2), (2, u3), (7, v3), (8, v1), (9, (.bool x1.2)), (10, (.int .i64 x3)), (11, v5), (46, (.bool x7))] ∧ Below w5.heap.size w5 w ∧ Ctx [] w0 w [Item.own v5 (x6 : (List Int)), Item.own v1 (x1.1 : (List Int)), Item.own v3 (x2 : (List (List Int)))]) ?_ ?_
    ·refine W_reg ?_
     refine WL_move rfl rfl ?_
     refine WL_len Tryz.underlying24 (hC8.ro 0 rfl) rfl rfl ?_
     refine WL_move rfl rfl ?_
     refine WL_len Tryz.underlying24 (hC8.ro 1 rfl) rfl rfl ?_
     refine WL_eql rfl rfl rfl ?_
     refine WL_move rfl rfl ?_
     refine WL_fork (fun hc3 => ?_) (fun hc3 => ?_)
     ·replace hr5 := ite_t hr5 hc3
      refine WL_guard rfl rfl ?_
      refine WL_move rfl rfl ?_
      refine WL_guard rfl rfl ?_
      refine WL_move rfl rfl ?_
      refine WL_guard rfl rfl ?_
      refine WL_move rfl rfl ?_
      refine WL_guard rfl rfl ?_
      refine WL_move rfl rfl ?_
      obtain ⟨x8, hr6, hr5⟩ := bind_some hr5
      refine WL_guard rfl rfl ?_
      refine WL_call Tryz.call107 rfl rfl (c_S_Without a3 u3 (g3.now hC8.keep) x6 v5 ((hC8.ro 0 rfl).now (Keep.refl _ _)) x8 hr6) ?_
      rintro v6 w7 ⟨hB7, F4, hv4, hn3, hb3⟩
      have hC10 := hC8.push hB7 (A := Item.own v6 x8) hv4 hn3 hb3
      obtain ⟨x9, hr7, hr5⟩ := bind_some hr5
      refine WL_guard rfl rfl ?_
      refine WL_call Tryz.call17 rfl rfl (c_S_IsConsistent a1 u1 (g1.now hC10.keep) a2 u2 (g2.now hC10.keep) x8 v6 ((hC10.ro 0 rfl).now (Keep.refl _ _)) x9 hr7) ?_
      intro _ w9 hv5
      obtain ⟨rfl, hB8⟩ := res_bool hv5
      have hC11 := hC10.grow hB8
      refine WL_pick_t rfl rfl rfl ?_
      refine WL_nil ?_
      have hq3 := Option.some.inj hr5
      subst hq3
      have hC12 := hC11.f3
      have hC13 := hC12.f3
      have hC14 := hC13.f3
      have hC15 := hC14.h3
      refine nrm_sub (l' := [(0, u1), (1, u2), (2, u3), (7, v3), (8, v1), (9, (.bool x1.2)), (10, (.int .i64 x3)), (11, v5), (46, (.bool x9))]) ⟨rfl, rfl, rfl, rfl, rfl, rfl, rfl, rfl, rfl, trivial⟩ ?_
      exact ⟨x9, rfl, rfl, ((Keep.of hB7).then hB8).below, hC15⟩
     replace hr5 := ite_f hr5 hc3
     refine WL_guard_skip rfl rfl (by simp) rfl ?_
     refine WL_guard_skip rfl rfl (by simp) rfl ?_
     refine WL_guard_skip rfl rfl (by simp) rfl ?_
     refine WL_guard_skip rfl rfl (by simp) rfl ?_
     refine WL_guard_skip rfl rfl (by simp) rfl ?_
     refine WL_guard_skip rfl rfl (by simp) rfl ?_
     refine WL_pick_f rfl rfl rfl ?_
     refine WL_nil ?_
     have hq4 := Option.some.inj hr5
     subst hq4
     refine nrm_sub (l' := [(0, u1), (1, u2), (2, u3), (7, v3), (8, v1), (9, (.bool x1.2)), (10, (.int .i64 x3)), (11, v5), (46, (.bool false))]) ⟨rfl, rfl, rfl, rfl, rfl, rfl, rfl, rfl, rfl, trivial⟩ ?_
     exact ⟨false, rfl, rfl, (Below.refl _ _), hC8⟩
    rintro _ w6 ⟨x7, rfl, rfl, hB6, hC9⟩
    try dsimp only at hL1
    obtain ⟨r4, hr8, hL1⟩ := bind_some hL1
    refine W_norm (fun l w => ∃ v7 : Value, ∃ x10 : (List (List Int)), x10 = r4 ∧ l = [(0, u1), (1, u2), (2, u3), (7, v7), (8, v1), (9, (.bool x1.2)), (10, (.int .i64 x3))] ∧ Below w6.heap.size w6 w ∧ Ctx [] w0 w [Item.own v1 (x1.1 : (List Int)), Item.own v7 (x10 : (List (List Int)))]) ?_ ?_
    ·refine W_cond rfl (fun hc4 => ?_) (fun hc4 => ?_)
     ·replace hr8 := ite_t hr8 hc4
      refine W_reg ?_
      refine WL_move rfl rfl ?_
      refine WL_move rfl rfl ?_
      obtain ⟨x11, hr9, hr8⟩ := bind_some hr8
      refine WL_call Tryz.call117 rfl rfl (c_S_AddTuple x2 v3 ((hC9.ro 2 rfl).now (Keep.refl _ _)) x6 v5 ((hC9.ro 0 rfl).now (Keep.refl _ _)) x11 hr9) ?_
      rintro v8 w11 ⟨hB10, F5, hv6, hn4, hb4⟩
      have hC17 := hC9.push hB10 (A := Item.own v8 x11) hv6 hn4 hb4
      refine WL_assign rfl rfl ?_
      refine WL_nil ?_
      have hq5 := Option.some.inj hr8
      subst hq5
      have hC18 := hC17.f2
      have hC19 := hC18.h2
      refine nrm_sub (l' := [(0, u1), (1, u2), (2, u3), (7, v8), (8, v1), (9, (.bool x1.2)), (10, (.int .i64 x3))]) ⟨rfl, rfl, rfl, rfl, rfl, rfl, rfl, trivial⟩ ?_
      exact ⟨v8, x11, rfl, rfl, (Keep.of hB10).below, hC19⟩
     replace hr8 := ite_f hr8 hc4
     refine W_skip ?_
     have hq6 := Option.some.inj hr8
     subst hq6
     have hC20 := hC9.f2
     have hC21 := hC20.f2
     have hC22 := hC21.h2
     refine nrm_sub (l' := [(0, u1), (1, u2), (2, u3), (7, v3), (8, v1), (9, (.bool x1.2)), (10, (.int .i64 x3))]) ⟨rfl, rfl, rfl, rfl, rfl, rfl, rfl, trivial⟩ ?_
     exact ⟨v3, x2, rfl, rfl, (Below.refl _ _), hC22⟩
    rintro l4 _ w10 hs4 ⟨v7, x10, rfl, rfl, hB9, hC16⟩
    try dsimp only at hL1
    refine blk_normal ?_
    refine nrm_sub' hs4 ?_
    clear hs4
    refine W_reg ?_
    refine WL_move rfl rfl ?_
    refine WL_add rfl rfl rfl ?_
    refine WL_assign rfl rfl ?_
    refine WL_nil ?_
    refine nrm_sub (l' := [(0, u1), (1, u2), (2, u3), (7, v7), (8, v1), (9, (.bool x1.2)), (10, (.int .i64 (w64 (x3 + 1))))]) ⟨rfl, rfl, rfl, rfl, rfl, rfl, rfl, trivial⟩ ?_
    exact ⟨k1, Nat.lt_succ_self _, v7, x10, w64 (x3 + 1), rfl, (((((Keep.of hB3).then hB4).then hB5).then hB6).then hB9).below, hC16, hL1⟩
   replace hL1 := ite_f hL1 hc2
   refine W_exit (nrm_exit (nrm_exit (blk_exit ?_)))
   have hq7 := Option.some.inj hL1
   subst hq7
   have hC23 := hC7.f1
   have hC24 := hC23.h1
   refine nrm_sub (l' := [(7, v3)]) ⟨rfl, trivial⟩ ?_
   exact ⟨v3, x2, rfl, rfl, ((Keep.of hB3).then hB4).below, hC24⟩
 rintro l5 _ w12 hs5 ⟨v4, x4, rfl, rfl, hB11, hC25⟩
 try dsimp only at hF
 refine nrm_sub' hs5 ?_
 clear hs5
 refine W_seq_reg ?_
 refine WL_move rfl rfl ?_
 refine WL_assign rfl rfl ?_
 refine WL_nil (W_ret ?_)
 have hq8 := Option.some.inj hF
 subst hq8
 refine fn_ret1 rfl rfl ?_
 exact ⟨_, rfl, own_res hC25 0 rfl⟩

theorem c_S_TrustedFacts {w0 : World} (a1 : (List Int)) (u1 : Value) (g1 : RO [] w0 u1 a1) (a2 : (List (Int × (List Int) × Int × Int × Int))) (u2 : Value) (g2 : RO [] w0 u2 a2) (a3 : (List ((Int × (List Int)) × (List (Int × (List Int)))))) (u3 : Value) (g3 : RO [] w0 u3 a3) (rr : (List (Int × (List Int)))) (hF : S.TrustedFacts a1 a2 a3 = some rr) :
 Calls Tryz.prog 60 [u1, u2, u3].toArray w0 fun e w' => ∃ v, e = .returned v ∧ Res w0 rr v w' := by
 refine calls_of_W Tryz.func60 rfl rfl ?_
 have hC0 := Ctx.start w0
 unfold S.TrustedFacts at hF
 refine W_seq_reg ?_
 refine WL_assign rfl rfl ?_
 refine WL_nil (W_seq_reg ?_)
 refine WL_buildSlice (vs := []) hC0 Tryz.underlying31 ty88 rfl rfl rfl rfl (by simp) rfl rfl (fun b1 w1 hC1 hB1 => ?_)
 have hC2 := hC1.row0 (α := (Int × (List Int)))
 have hC3 := hC2.front 1 rfl
 dsimp only [List.eraseIdx, List.cons_append, List.nil_append, List.append_nil] at hC3
 have hC4 : Ctx [] w0 w1 (Item.own (.slice (some ⟨b1, 0, none⟩) 0 0) (([] : List (Int × (List Int))) : List (Int × (List Int))) :: []) := hC3.rowOwn (by simp [maxLen])
 refine WL_assign rfl rfl ?_
 refine WL_nil (W_seq_reg ?_)
 refine WL_move rfl rfl ?_
 refine WL_move rfl rfl ?_
 refine WL_move rfl rfl ?_
 obtain ⟨x1, hr1, hF⟩ := bind_some hF
 refine WL_call Tryz.call55 rfl rfl (c_S_AllRemovals a1 u1 (g1.now hC4.keep) a2 u2 (g2.now hC4.keep) a3 u3 (g3.now hC4.keep) x1 hr1) ?_
 rintro v1 w2 ⟨hB2, F1, hv1, hn1, hb1⟩
 have hC5 := hC4.push hB2 (A := Item.own v1 x1) hv1 hn1 hb1
 refine WL_assign rfl rfl ?_
 refine WL_nil (W_seq (W_seq_reg ?_))
 refine WL_assign rfl rfl ?_
 refine WL_nil ?_
 obtain ⟨r1, hr2, hF⟩ := bind_some hF
 refine W_norm (fun l w => ∃ v3 : Value, ∃ x4 : (List (Int × (List Int))), x4 = r1 ∧ l = [(7, v3)] ∧ Ctx [] w0 w [Item.own v3 (x4 : (List (Int × (List Int))))]) ?_ ?_
 ·refine W_block ?_
  refine W.sub (l' := [(2, u3), (7, (.slice (some ⟨b1, 0, none⟩) 0 0)), (8, v1), (9, (.int .i64 0))]) ?_ ⟨rfl, rfl, rfl, rfl, trivial⟩
  refine W_loop (fun k l w => ∃ v2 : Value, ∃ x2 : (List (Int × (List Int))), ∃ x3 : Int, l = [(2, u3), (7, v2), (8, v1), (9, (.int .i64 x3))] ∧ Ctx [] w0 w [Item.own v1 (x1 : (List (List Int))), Item.own v2 (x2 : (List (Int × (List Int))))] ∧ S.TrustedFacts_l1 x1 a3 k x2 x3 = some r1) FUEL ⟨(.slice (some ⟨b1, 0, none⟩) 0 0), ([] : List (Int × (List Int))), 0, rfl, hC5, hr2⟩ ?_
  clear hr2
  rintro k1 _ w3 ⟨v2, x2, x3, rfl, hC6, hL1⟩
  cases k1 with
  | zero => rw [S.TrustedFacts_l1] at hL1; cases hL1
  | succ k1 =>
   rw [S.TrustedFacts_l1] at hL1
   refine W_seq (W_seq_reg ?_)
   refine WL_move rfl rfl ?_
   refine WL_move rfl rfl ?_
   refine WL_len Tryz.underlying77 (hC6.ro 0 rfl) rfl rfl ?_
   refine WL_lss rfl rfl rfl ?_
   refine WL_nil ?_
   refine W_cond rfl (fun hc1 => ?_) (fun hc1 => ?_)
   ·replace hL1 := ite_t hL1 hc1
    refine W_skip (nrm_normal (W_seq (W_block (W_seq_reg ?_))))
    refine WL_move rfl rfl ?_
    refine WL_move rfl rfl ?_
    refine WL_move rfl rfl ?_
    obtain ⟨x5, hx1, hL1⟩ := bind_some hL1
    refine WL_index Tryz.underlying77 ty24 (hC6.ro 0 rfl) hx1 rfl rfl rfl (fun b2 o1 h1 => ?_)
    refine WL_load ty24 h1 (Keep.refl _ _) rfl rfl (fun v4 h2 => ?_)
    obtain ⟨x6, hr3, hL1⟩ := bind_some hL1
    refine WL_call Tryz.call107 rfl rfl (c_S_Without a3 u3 (g3.now hC6.keep) x5 v4 (h2.now (Keep.refl _ _)) x6 hr3) ?_
    rintro v5 w4 ⟨hB4, F2, hv2, hn2, hb2⟩
    have hC7 := hC6.push hB4 (A := Item.own v5 x6) hv2 hn2 hb2
    obtain ⟨x7, hr4, hL1⟩ := bind_some hL1
    refine WL_call Tryz.call15 rfl rfl (c_S_UnionOf x6 v5 ((hC7.ro 0 rfl).now (Keep.refl _ _)) x7 hr4) ?_
    rintro v6 w5 ⟨hB5, F3, hv3, hn3, hb3⟩
    have hC8 := hC7.push hB5 (A := Item.own v6 x7) hv3 hn3 hb3
    refine WL_assign rfl rfl ?_
    refine WL_nil (W_seq (W_seq_reg ?_))
    refine WL_move rfl rfl ?_
    refine WL_eql rfl rfl rfl ?_
    refine WL_nil ?_
    refine W_cond rfl (fun hc2 => ?_) (fun hc2 => ?_)
    ·replace hL1 := ite_t hL1 hc2
     refine W_seq_reg ?_
     refine WL_move rfl rfl ?_
     refine WL_assign rfl rfl ?_
     refine WL_nil (W_exit (nrm_exit (blk_exit (nrm_normal (W_reg ?_)))))
     refine WL_move rfl rfl ?_
     refine WL_add rfl rfl rfl ?_
     refine WL_assign rfl rfl ?_
     refine WL_nil ?_
     have hC9 := hC8.f2
     have hC10 := hC9.h2
     refine nrm_sub (l' := [(2, u3), (7, v6), (8, v1), (9, (.int .i64 (w64 (x3 + 1))))]) ⟨rfl, rfl, rfl, rfl, trivial⟩ ?_
     exact ⟨k1, Nat.lt_succ_self _, v6, x7, w64 (x3 + 1), rfl, hC10, hL1⟩
    replace hL1 := ite_f hL1 hc2
    refine W_skip (nrm_normal (W_seq_reg ?_))
    refine WL_buildSlice (vs := []) hC8 Tryz.underlying31 ty88 rfl rfl rfl rfl (by simp) rfl rfl (fun b3 w6 hC11 hB6 => ?_)
    have hC12 := hC11.row0 (α := (Int × (List Int)))
    have hC13 := hC12.front 1 rfl
    dsimp only [List.eraseIdx, List.cons_append, List.nil_append, List.append_nil] at hC13
    have hC14 : Ctx [] w0 w6 (Item.own (.slice (some ⟨b3, 0, none⟩) 0 0) (([] : List (Int × (List Int))) : List (Int × (List Int))) :: [Item.own v6 (x7 : (List (Int × (List Int)))), Item.own v5 (x6 : (List ((Int × (List Int)) × (List (Int × (List Int)))))), Item.own v1 (x1 : (List (List Int))), Item.own v2 (x2 : (List (Int × (List Int))))]) := hC13.rowOwn (by simp [maxLen])
    refine WL_assign rfl rfl ?_
    refine WL_nil (W_seq (W_seq_reg ?_))
    refine WL_assign rfl rfl ?_
    refine WL_nil ?_
    obtain ⟨r2, hr5, hL1⟩ := bind_some hL1
    have hC15 := hC14.f4
    have hC16 := hC15.ownRest
    refine W_norm (fun l w => ∃ v8 : Value, ∃ x10 : (List (Int × (List Int))), x10 = r2 ∧ l = [(2, u3), (8, v1), (9, (.int .i64 x3)), (11, v8)] ∧ Ctx [] w0 w [Item.own v8 (x10 : (List (Int × (List Int)))), Item.own v1 (x1 : (List (List Int)))]) ?_ ?_
    ·refine W_block ?_
     have hC40 := hC16.f4
     have hC41 := hC40.f3
     have hC42 := hC41.f3
     have hC43 := hC42.f3
     have hC44 := hC43.h4
     refine W.sub (l' := [(2, u3), (7, v2), (8, v1), (9, (.int .i64 x3)), (10, v6), (11, (.slice (some ⟨b3, 0, none⟩) 0 0)), (12, (.int .i64 0))]) ?_ ⟨rfl, rfl, rfl, rfl, rfl, rfl, rfl, trivial⟩
     refine W_loop (fun k l w => ∃ v7 : Value, ∃ x8 : (List (Int × (List Int))), ∃ x9 : Int, l = [(2, u3), (7, v2), (8, v1), (9, (.int .i64 x3)), (10, v6), (11, v7), (12, (.int .i64 x9))] ∧ Ctx [] w0 w [Item.rest v2 (x2 : (List (Int × (List Int)))) (Int.toNat x9), Item.own v7 (x8 : (List (Int × (List Int)))), Item.own v6 (x7 : (List (Int × (List Int)))), Item.own v1 (x1 : (List (List Int)))] ∧ S.TrustedFacts_l2 x2 x7 k x8 x9 = some r2) FUEL ⟨(.slice (some ⟨b3, 0, none⟩) 0 0), ([] : List (Int × (List Int))), 0, rfl, hC44, hr5⟩ ?_
     clear hr5
     rintro k2 _ w7 ⟨v7, x8, x9, rfl, hC17, hL2⟩
     cases k2 with
     | zero => rw [S.TrustedFacts_l2] at hL2; cases hL2
     | succ k2 =>
      rw [S.TrustedFacts_l2] at hL2
      refine W_seq (W_seq_reg ?_)
      refine WL_move rfl rfl ?_
      refine WL_move rfl rfl ?_
      refine WL_len_rest hC17 0 rfl Tryz.underlying31 rfl rfl ?_
      refine WL_lss rfl rfl rfl ?_
      refine WL_nil ?_
      refine W_cond rfl (fun hc3 => ?_) (fun hc3 => ?_)
      ·replace hL2 := ite_t hL2 hc3
       refine W_skip (nrm_normal (W_seq (W_block ?_)))
       obtain ⟨x11, hx2, hL2⟩ := bind_some hL2
       obtain ⟨b4, cs1, hE1, hC18⟩ := hC17.openRest hx2
       obtain ⟨v9, he1, hC19⟩ := st88_own (hC18.cellsOwn rfl)
       obtain rfl := cells_of_agg he1
       refine W_seq_reg ?_
       refine WL_move rfl rfl ?_
       refine WL_move rfl rfl ?_
       refine WL_move rfl rfl ?_
       refine WL_index_rhole hC19 1 rfl Tryz.underlying31 ty88 hE1 hx2 rfl rfl rfl ?_
       refine WL_load_rhole_agg (fo := 0) (cs' := [(.int .i64 x11.1), v9]) hC19 1 rfl hE1 rfl rfl rfl Tryz.isAgg88 Tryz.sizeOf88 rfl rfl ?_
       obtain ⟨x12, hr6, hL2⟩ := bind_some hL2
       refine WL_call Tryz.call81 rfl rfl (c_S_HasFact x7 v6 ((hC19.ro 3 rfl).now (Keep.refl _ _)) (x11.1, x11.2) v9 ((hC19.ro 0 rfl).now (Keep.refl _ _)) x12 hr6) ?_
       intro _ w9 hv4
       obtain ⟨rfl, hB8⟩ := res_bool hv4
       have hC20 := hC19.grow hB8
       refine WL_nil ?_
       obtain ⟨r3, hr7, hL2⟩ := bind_some hL2
       refine W_norm (fun l w => ∃ v10 : Value, ∃ x13 : (List (Int × (List Int))), x13 = r3 ∧ l = [(2, u3), (7, v2), (8, v1), (9, (.int .i64 x3)), (10, v6), (11, v10), (12, (.int .i64 x9))] ∧ Ctx [] w0 w [Item.rhole v2 (x2 : (List (Int × (List Int)))) (Int.toNat x9) [(.int .i64 x11.1), v9], Item.own v10 (x13 : (List (Int × (List Int)))), Item.own v6 (x7 : (List (Int × (List Int)))), Item.own v1 (x1 : (List (List Int)))]) ?_ ?_
       ·refine W_cond rfl (fun hc4 => ?_) (fun hc4 => ?_)
        ·replace hr7 := ite_t hr7 hc4
         refine W_reg ?_
         refine WL_move rfl rfl ?_
         refine WL_move rfl rfl ?_
         refine WL_move rfl rfl ?_
         refine WL_index_rhole hC20 1 rfl Tryz.underlying31 ty88 hE1 hx2 rfl rfl rfl ?_
         refine WL_load_rhole_agg (fo := 0) (cs' := [(.int .i64 x11.1), v9]) hC20 1 rfl hE1 rfl rfl rfl Tryz.isAgg88 Tryz.sizeOf88 rfl rfl ?_
         refine WL_buildSlice (vs := [(.agg #[(.int .i64 x11.1), v9])]) hC20 Tryz.underlying31 ty88 rfl rfl rfl rfl (by intro v hv; simp only [List.mem_cons, List.not_mem_nil, or_false] at hv; rcases hv with rfl <;> rfl) rfl rfl (fun b5 w11 hC22 hB10 => ?_)
         have hC23 := hC22.row0 (α := (Int × (List Int)))
         have hC25 := hC23.f2
         have hC24 := own_st88 x11.1 v9 x11.2 hC25
         have hC26 := hC24.row1
         have hC27 := hC26.front 1 rfl
         dsimp only [List.eraseIdx, List.cons_append, List.nil_append, List.append_nil] at hC27
         have hC28 : Ctx [] w0 w11 (Item.own (.slice (some ⟨b5, 0, none⟩) 1 1) ([(x11.1, x11.2)] : List (Int × (List Int))) :: [Item.rhole v2 (x2 : (List (Int × (List Int)))) (Int.toNat x9) [(.int .i64 x11.1), v9], Item.own v7 (x8 : (List (Int × (List Int)))), Item.own v6 (x7 : (List (Int × (List Int)))), Item.own v1 (x1 : (List (List Int)))]) := hC27.rowOwn (by simp [maxLen])
         obtain ⟨x14, hx3, hr7⟩ := bind_some hr7
         refine WL_append_head hC28 1 rfl Tryz.underlying31 ty88 rfl hx3 rfl rfl rfl (fun v11 w12 hC29 => ?_)
         try dsimp only [List.set] at hC29
         refine WL_assign rfl rfl ?_
         refine WL_nil ?_
         have hq1 := Option.some.inj hr7
         subst hq1
         refine nrm_sub (l' := [(2, u3), (7, v2), (8, v1), (9, (.int .i64 x3)), (10, v6), (11, v11), (12, (.int .i64 x9))]) ⟨rfl, rfl, rfl, rfl, rfl, rfl, rfl, trivial⟩ ?_
         exact ⟨v11, x14, rfl, rfl, hC29⟩
        replace hr7 := ite_f hr7 hc4
        refine W_skip ?_
        have hq2 := Option.some.inj hr7
        subst hq2
        have hC31 := hC20.f4
        have hC32 := hC31.f4
        have hC33 := hC32.f4
        have hC34 := hC33.f4
        have hC35 := hC34.h4
        refine nrm_sub (l' := [(2, u3), (7, v2), (8, v1), (9, (.int .i64 x3)), (10, v6), (11, v7), (12, (.int .i64 x9))]) ⟨rfl, rfl, rfl, rfl, rfl, rfl, rfl, trivial⟩ ?_
        exact ⟨v7, x8, rfl, rfl, hC35⟩
       rintro l3 _ w10 hs3 ⟨v10, x13, rfl, rfl, hC21⟩
       try dsimp only at hL2
       refine blk_normal ?_
       refine nrm_sub' hs3 ?_
       clear hs3
       refine W_reg ?_
       refine WL_move rfl rfl ?_
       refine WL_add rfl rfl rfl ?_
       refine WL_assign rfl rfl ?_
       refine WL_nil ?_
       have hC36 := Ctx.rholeNext hx2 hC21
       refine nrm_sub (l' := [(2, u3), (7, v2), (8, v1), (9, (.int .i64 x3)), (10, v6), (11, v10), (12, (.int .i64 (w64 (x9 + 1))))]) ⟨rfl, rfl, rfl, rfl, rfl, rfl, rfl, trivial⟩ ?_
       exact ⟨k2, Nat.lt_succ_self _, v10, x13, w64 (x9 + 1), rfl, hC36, hL2⟩
      replace hL2 := ite_f hL2 hc3
      refine W_exit (nrm_exit (nrm_exit (blk_exit ?_)))
      have hq3 := Option.some.inj hL2
      subst hq3
      have hC37 := hC17.f3
      have hC38 := hC37.f2
      have hC39 := hC38.h2
      refine nrm_sub (l' := [(2, u3), (8, v1), (9, (.int .i64 x3)), (11, v7)]) ⟨rfl, rfl, rfl, rfl, trivial⟩ ?_
      exact ⟨v7, x8, rfl, rfl, hC39⟩
    rintro l4 _ w13 hs4 ⟨v8, x10, rfl, rfl, hC45⟩
    try dsimp only at hL1
    refine nrm_sub' hs4 ?_
    clear hs4
    refine W_reg ?_
    refine WL_move rfl rfl ?_
    refine WL_assign rfl rfl ?_
    refine WL_nil (blk_normal (nrm_normal (W_reg ?_)))
    refine WL_move rfl rfl ?_
    refine WL_add rfl rfl rfl ?_
    refine WL_assign rfl rfl ?_
    refine WL_nil ?_
    have hC46 := hC45.f1
    refine nrm_sub (l' := [(2, u3), (7, v8), (8, v1), (9, (.int .i64 (w64 (x3 + 1))))]) ⟨rfl, rfl, rfl, rfl, trivial⟩ ?_
    exact ⟨k1, Nat.lt_succ_self _, v8, x10, w64 (x3 + 1), rfl, hC46, hL1⟩
   replace hL1 := ite_f hL1 hc1
   refine W_exit (nrm_exit (nrm_exit (blk_exit ?_)))
   have hq4 := Option.some.inj hL1
   subst hq4
   have hC47 := hC6.f1
   have hC48 := hC47.h1
   refine nrm_sub (l' := [(7, v2)]) ⟨rfl, trivial⟩ ?_
   exact ⟨v2, x2, rfl, rfl, hC48⟩
 rintro l5 _ w14 hs5 ⟨v3, x4, rfl, rfl, hC49⟩
 try dsimp only at hF
 refine nrm_sub' hs5 ?_
 clear hs5
 refine W_seq_reg ?_
 refine WL_move rfl rfl ?_
 refine WL_assign rfl rfl ?_
 refine WL_nil (W_ret ?_)
 have hq5 := Option.some.inj hF
 subst hq5
 refine fn_ret1 rfl rfl ?_
 exact ⟨_, rfl, own_res hC49 0 rfl⟩

theorem c_S_DoubtedFacts {w0 : World} (a1 : (List Int)) (u1 : Value) (g1 : RO [] w0 u1 a1) (a2 : (List (Int × (List Int) × Int × Int × Int))) (u2 : Value) (g2 : RO [] w0 u2 a2) (a3 : (List ((Int × (List Int)) × (List (Int × (List Int)))))) (u3 : Value) (g3 : RO [] w0 u3 a3) (rr : (List (Int × (List Int)))) (hF : S.DoubtedFacts a1 a2 a3 = some rr) :
 Calls Tryz.prog 62 [u1, u2, u3].toArray w0 fun e w' => ∃ v, e = .returned v ∧ Res w0 rr v w' := by
 refine calls_of_W Tryz.func62 rfl rfl ?_
 have hC0 := Ctx.start w0
 unfold S.DoubtedFacts at hF
 refine W_seq_reg ?_
 refine WL_assign rfl rfl ?_
 refine WL_nil (W_seq_reg ?_)
 refine WL_buildSlice (vs := []) hC0 Tryz.underlying31 ty88 rfl rfl rfl rfl (by simp) rfl rfl (fun b1 w1 hC1 hB1 => ?_)
 have hC2 := hC1.row0 (α := (Int × (List Int)))
 have hC3 := hC2.front 1 rfl
 dsimp only [List.eraseIdx, List.cons_append, List.nil_append, List.append_nil] at hC3
 have hC4 : Ctx [] w0 w1 (Item.own (.slice (some ⟨b1, 0, none⟩) 0 0) (([] : List (Int × (List Int))) : List (Int × (List Int))) :: []) := hC3.rowOwn (by simp [maxLen])
 refine WL_assign rfl rfl ?_
 refine WL_nil (W_seq_reg ?_)
 refine WL_move rfl rfl ?_
 refine WL_move rfl rfl ?_
 refine WL_move rfl rfl ?_
 obtain ⟨x1, hr1, hF⟩ := bind_some hF
 refine WL_call Tryz.call60 rfl rfl (c_S_TrustedFacts a1 u1 (g1.now hC4.keep) a2 u2 (g2.now hC4.keep) a3 u3 (g3.now hC4.keep) x1 hr1) ?_
 rintro v1 w2 ⟨hB2, F1, hv1, hn1, hb1⟩
 have hC5 := hC4.push hB2 (A := Item.own v1 x1) hv1 hn1 hb1
 refine WL_assign rfl rfl ?_
 refine WL_nil (W_seq_reg ?_)
 refine WL_move rfl rfl ?_
 obtain ⟨x2, hr2, hF⟩ := bind_some hF
 refine WL_call Tryz.call15 rfl rfl (c_S_UnionOf a3 u3 (g3.now hC5.keep) x2 hr2) ?_
 rintro v2 w3 ⟨hB3, F2, hv2, hn2, hb2⟩
 have hC6 := hC5.push hB3 (A := Item.own v2 x2) hv2 hn2 hb2
 refine WL_assign rfl rfl ?_
 refine WL_nil (W_seq (W_seq_reg ?_))
 refine WL_assign rfl rfl ?_
 refine WL_nil ?_
 obtain ⟨r1, hr3, hF⟩ := bind_some hF
 have hC7 := hC6.ownRest
 refine W_norm (fun l w => ∃ v4 : Value, ∃ x5 : (List (Int × (List Int))), x5 = r1 ∧ l = [(7, v4)] ∧ Ctx [] w0 w [Item.own v4 (x5 : (List (Int × (List Int))))]) ?_ ?_
 ·refine W_block ?_
  refine W.sub (l' := [(0, u1), (1, u2), (2, u3), (7, (.slice (some ⟨b1, 0, none⟩) 0 0)), (8, v1), (9, v2), (10, (.int .i64 0))]) ?_ ⟨rfl, rfl, rfl, rfl, rfl, rfl, rfl, trivial⟩
  refine W_loop (fun k l w => ∃ v3 : Value, ∃ x3 : (List (Int × (List Int))), ∃ x4 : Int, l = [(0, u1), (1, u2), (2, u3), (7, v3), (8, v1), (9, v2), (10, (.int .i64 x4))] ∧ Ctx [] w0 w [Item.rest v2 (x2 : (List (Int × (List Int)))) (Int.toNat x4), Item.own v1 (x1 : (List (Int × (List Int)))), Item.own v3 (x3 : (List (Int × (List Int))))] ∧ S.DoubtedFacts_l1 x2 a1 a2 a3 x1 k x3 x4 = some r1) FUEL ⟨(.slice (some ⟨b1, 0, none⟩) 0 0), ([] : List (Int × (List Int))), 0, rfl, hC7, hr3⟩ ?_
  clear hr3
  rintro k1 _ w4 ⟨v3, x3, x4, rfl, hC8, hL1⟩
  cases k1 with
  | zero => rw [S.DoubtedFacts_l1] at hL1; cases hL1
  | succ k1 =>
   rw [S.DoubtedFacts_l1] at hL1
   refine W_seq ?_
   obtain ⟨r2, hr4, hL1⟩ := bind_some hL1
   refine W_cut (fun l w => ∃ x6 : Bool, x6 = r2 ∧ l = [(0, u1), (1, u2), (2, u3), (7, v3), (8, v1), (9, v2), (10, (.int .i64 x4)), (31, (.bool x6))] ∧ Below w4.heap.size w4 w ∧ Ctx [] w0 w [Item.rest v2 (x2 : (List (Int × (List Int)))) (Int.toNat x4), Item.own v1 (x1 : (List (Int × (List Int)))), Item.own v3 (x3 : (List (Int × (List Int))))]) ?_ ?_
   ·refine W_reg ?_
    refine WL_move rfl rfl ?_
    refine WL_move rfl rfl ?_
    refine WL_len_rest hC8 0 rfl Tryz.underlying31 rfl rfl ?_
    refine WL_lss rfl rfl rfl ?_
    refine WL_move rfl rfl ?_
    refine WL_fork (fun hc1 => ?_) (fun hc1 => ?_)
    ·replace hr4 := ite_t hr4 hc1
     refine WL_guard rfl rfl ?_
     refine WL_move rfl rfl ?_
     refine WL_guard rfl rfl ?_
     refine WL_move rfl rfl ?_
     obtain ⟨x7, hr5, hr4⟩ := bind_some hr4
     refine WL_guard rfl rfl ?_
     refine WL_call Tryz.call18 rfl rfl (c_S_AreMethods a1 u1 (g1.now hC8.keep) a2 u2 (g2.now hC8.keep) x7 hr5) ?_
     intro _ w6 hv3
     obtain ⟨rfl, hB6⟩ := res_bool hv3
     have hC10 := hC8.grow hB6
     refine WL_pick_t rfl rfl rfl ?_
     refine WL_move rfl rfl ?_
     refine WL_fork (fun hc2 => ?_) (fun hc2 => ?_)
     ·replace hr4 := ite_t hr4 hc2
      refine WL_guard rfl rfl ?_
      refine WL_move rfl rfl ?_
      refine WL_guard rfl rfl ?_
      refine WL_len Tryz.underlying26 g3 rfl rfl ?_
      refine WL_guard rfl rfl ?_
      refine WL_leq rfl rfl rfl ?_
      refine WL_pick_t rfl rfl rfl ?_
      refine WL_nil ?_
      have hq1 := Option.some.inj hr4
      subst hq1
      refine nrm_sub (l' := [(0, u1), (1, u2), (2, u3), (7, v3), (8, v1), (9, v2), (10, (.int .i64 x4)), (31, (.bool (decide ((List.length a3 : Int) ≤ 8))))]) ⟨rfl, rfl, rfl, rfl, rfl, rfl, rfl, rfl, trivial⟩ ?_
      exact ⟨(decide ((List.length a3 : Int) ≤ 8)), rfl, rfl, (Keep.of hB6).below, hC10⟩
     replace hr4 := ite_f hr4 hc2
     refine WL_guard_skip rfl rfl (by simp) rfl ?_
     refine WL_guard_skip rfl rfl (by simp) rfl ?_
     refine WL_guard_skip rfl rfl (by simp) rfl ?_
     refine WL_pick_f rfl rfl rfl ?_
     refine WL_nil ?_
     have hq2 := Option.some.inj hr4
     subst hq2
     refine nrm_sub (l' := [(0, u1), (1, u2), (2, u3), (7, v3), (8, v1), (9, v2), (10, (.int .i64 x4)), (31, (.bool false))]) ⟨rfl, rfl, rfl, rfl, rfl, rfl, rfl, rfl, trivial⟩ ?_
     exact ⟨false, rfl, rfl, (Keep.of hB6).below, hC10⟩
    replace hr4 := ite_f hr4 hc1
    refine WL_guard_skip rfl rfl (by simp) rfl ?_
    refine WL_guard_skip rfl rfl (by simp) rfl ?_
    refine WL_guard_skip rfl rfl (by simp) rfl ?_
    refine WL_pick_f rfl rfl rfl ?_
    refine WL_move rfl rfl ?_
    refine WL_guard_skip rfl rfl (by simp) rfl ?_
    refine WL_guard_skip rfl rfl (by simp) rfl ?_
    refine WL_guard_skip rfl rfl (by simp) rfl ?_
    refine WL_pick_f rfl rfl rfl ?_
    refine WL_nil ?_
    have hq3 := Option.some.inj hr4
    subst hq3
    refine nrm_sub (l' := [(0, u1), (1, u2), (2, u3), (7, v3), (8, v1), (9, v2), (10, (.int .i64 x4)), (31, (.bool false))]) ⟨rfl, rfl, rfl, rfl, rfl, rfl, rfl, rfl, trivial⟩ ?_
    exact ⟨false, rfl, rfl, (Below.refl _ _), hC8⟩
   rintro _ w5 ⟨x6, rfl, rfl, hB5, hC9⟩
   try dsimp only at hL1
   refine W_cond rfl (fun hc3 => ?_) (fun hc3 => ?_)
   ·replace hL1 := ite_t hL1 hc3
    refine W_skip (nrm_normal (W_seq (W_block ?_)))
    obtain ⟨x8, hx1, hL1⟩ := bind_some hL1
    obtain ⟨b2, cs1, hE1, hC11⟩ := hC9.openRest hx1
    obtain ⟨v5, he1, hC12⟩ := st88_own (hC11.cellsOwn rfl)
    obtain rfl := cells_of_agg he1
    refine W_seq_reg ?_
    refine WL_move rfl rfl ?_
    refine WL_move rfl rfl ?_
    refine WL_move rfl rfl ?_
    refine WL_index_rhole hC12 1 rfl Tryz.underlying31 ty88 hE1 hx1 rfl rfl rfl ?_
    refine WL_load_rhole_agg (fo := 0) (cs' := [(.int .i64 x8.1), v5]) hC12 1 rfl hE1 rfl rfl rfl Tryz.isAgg88 Tryz.sizeOf88 rfl rfl ?_
    obtain ⟨x9, hr6, hL1⟩ := bind_some hL1
    refine WL_call Tryz.call81 rfl rfl (c_S_HasFact x1 v1 ((hC12.ro 2 rfl).now (Keep.refl _ _)) (x8.1, x8.2) v5 ((hC12.ro 0 rfl).now (Keep.refl _ _)) x9 hr6) ?_
    intro _ w7 hv4
    obtain ⟨rfl, hB7⟩ := res_bool hv4
    have hC13 := hC12.grow hB7
    refine WL_not rfl rfl ?_
    refine WL_nil ?_
    obtain ⟨r3, hr7, hL1⟩ := bind_some hL1
    refine W_norm (fun l w => ∃ v6 : Value, ∃ x10 : (List (Int × (List Int))), x10 = r3 ∧ l = [(0, u1), (1, u2), (2, u3), (7, v6), (8, v1), (9, v2), (10, (.int .i64 x4))] ∧ Ctx [] w0 w [Item.rhole v2 (x2 : (List (Int × (List Int)))) (Int.toNat x4) [(.int .i64 x8.1), v5], Item.own v1 (x1 : (List (Int × (List Int)))), Item.own v6 (x10 : (List (Int × (List Int))))]) ?_ ?_
    ·refine W_cond rfl (fun hc4 => ?_) (fun hc4 => ?_)
     ·replace hr7 := ite_t hr7 hc4
      refine W_reg ?_
      refine WL_move rfl rfl ?_
      refine WL_move rfl rfl ?_
      refine WL_move rfl rfl ?_
      refine WL_index_rhole hC13 1 rfl Tryz.underlying31 ty88 hE1 hx1 rfl rfl rfl ?_
      refine WL_load_rhole_agg (fo := 0) (cs' := [(.int .i64 x8.1), v5]) hC13 1 rfl hE1 rfl rfl rfl Tryz.isAgg88 Tryz.sizeOf88 rfl rfl ?_
      refine WL_buildSlice (vs := [(.agg #[(.int .i64 x8.1), v5])]) hC13 Tryz.underlying31 ty88 rfl rfl rfl rfl (by intro v hv; simp only [List.mem_cons, List.not_mem_nil, or_false] at hv; rcases hv with rfl <;> rfl) rfl rfl (fun b3 w10 hC15 hB9 => ?_)
      have hC16 := hC15.row0 (α := (Int × (List Int)))
      have hC18 := hC16.f2
      have hC17 := own_st88 x8.1 v5 x8.2 hC18
      have hC19 := hC17.row1
      have hC20 := hC19.front 1 rfl
      dsimp only [List.eraseIdx, List.cons_append, List.nil_append, List.append_nil] at hC20
      have hC21 : Ctx [] w0 w10 (Item.own (.slice (some ⟨b3, 0, none⟩) 1 1) ([(x8.1, x8.2)] : List (Int × (List Int))) :: [Item.rhole v2 (x2 : (List (Int × (List Int)))) (Int.toNat x4) [(.int .i64 x8.1), v5], Item.own v1 (x1 : (List (Int × (List Int)))), Item.own v3 (x3 : (List (Int × (List Int))))]) := hC20.rowOwn (by simp [maxLen])
      obtain ⟨x11, hx2, hr7⟩ := bind_some hr7
      refine WL_append_head hC21 2 rfl Tryz.underlying31 ty88 rfl hx2 rfl rfl rfl (fun v7 w11 hC22 => ?_)
      try dsimp only [List.set] at hC22
      refine WL_assign rfl rfl ?_
      refine WL_nil ?_
      have hq4 := Option.some.inj hr7
      subst hq4
      refine nrm_sub (l' := [(0, u1), (1, u2), (2, u3), (7, v7), (8, v1), (9, v2), (10, (.int .i64 x4))]) ⟨rfl, rfl, rfl, rfl, rfl, rfl, rfl, trivial⟩ ?_
      exact ⟨v7, x11, rfl, rfl, hC22⟩
     replace hr7 := ite_f hr7 hc4
     refine W_skip ?_
     have hq5 := Option.some.inj hr7
     subst hq5
     have hC24 := hC13.f3
     have hC25 := hC24.f3
     have hC26 := hC25.f3
     have hC27 := hC26.h3
     refine nrm_sub (l' := [(0, u1), (1, u2), (2, u3), (7, v3), (8, v1), (9, v2), (10, (.int .i64 x4))]) ⟨rfl, rfl, rfl, rfl, rfl, rfl, rfl, trivial⟩ ?_
     exact ⟨v3, x3, rfl, rfl, hC27⟩
    rintro l3 _ w9 hs3 ⟨v6, x10, rfl, rfl, hC14⟩
    try dsimp only at hL1
    refine blk_normal ?_
    refine nrm_sub' hs3 ?_
    clear hs3
    refine W_reg ?_
    refine WL_move rfl rfl ?_
    refine WL_add rfl rfl rfl ?_
    refine WL_assign rfl rfl ?_
    refine WL_nil ?_
    have hC28 := Ctx.rholeNext hx1 hC14
    refine nrm_sub (l' := [(0, u1), (1, u2), (2, u3), (7, v6), (8, v1), (9, v2), (10, (.int .i64 (w64 (x4 + 1))))]) ⟨rfl, rfl, rfl, rfl, rfl, rfl, rfl, trivial⟩ ?_
    exact ⟨k1, Nat.lt_succ_self _, v6, x10, w64 (x4 + 1), rfl, hC28, hL1⟩
   replace hL1 := ite_f hL1 hc3
   refine W_exit (nrm_exit (nrm_exit (blk_exit ?_)))
   have hq6 := Option.some.inj hL1
   subst hq6
   have hC29 := hC9.f2
   have hC30 := hC29.h1
   refine nrm_sub (l' := [(7, v3)]) ⟨rfl, trivial⟩ ?_
   exact ⟨v3, x3, rfl, rfl, hC30⟩
 rintro l4 _ w12 hs4 ⟨v4, x5, rfl, rfl, hC31⟩
 try dsimp only at hF
 refine nrm_sub' hs4 ?_
 clear hs4
 refine W_seq_reg ?_
 refine WL_move rfl rfl ?_
 refine WL_assign rfl rfl ?_
 refine WL_nil (W_ret ?_)
 have hq7 := Option.some.inj hF
 subst hq7
 refine fn_ret1 rfl rfl ?_
 exact ⟨_, rfl, own_res hC31 0 rfl⟩

theorem c_Cmp_Or_int {w0 : World} (a1 : (List Int)) (u1 : Value) (g1 : RO [] w0 u1 a1) (rr : Int) (hF : Cmp.Or_int a1 = some rr) :
 Calls Tryz.prog 176 [u1].toArray w0 fun e w' => ∃ v, e = .returned v ∧ Res w0 rr v w' := by
 refine calls_of_W Tryz.func176 rfl rfl ?_
 have hC0 := Ctx.start w0
 unfold Cmp.Or_int at hF
 refine W_seq_reg ?_
 refine WL_assign rfl rfl ?_
 refine WL_nil (W_seq_reg ?_)
 refine WL_assign rfl rfl ?_
 refine WL_nil (W_seq (W_seq_reg ?_))
 refine WL_move rfl rfl ?_
 refine WL_len Tryz.underlying24 g1 rfl rfl ?_
 refine WL_move rfl rfl ?_
 refine WL_nil ?_
 obtain ⟨r1, hr1, hF⟩ := bind_some hF
 refine W_norm (fun l w => .inl () = r1 ∧ l = [(3, (.int .i64 0))] ∧ Below w0.heap.size w0 w ∧ Ctx [] w0 w []) ?_ ?_
 ·refine W_block ?_
  refine W.sub (l' := [(3, (.int .i64 0)), (6, u1), (7, (.int .i64 (List.length a1 : Int))), (8, (.int .i64 0))]) ?_ ⟨rfl, rfl, rfl, rfl, trivial⟩
  refine W_loop (fun k l w => ∃ x1 : Int, l = [(3, (.int .i64 0)), (6, u1), (7, (.int .i64 (List.length a1 : Int))), (8, (.int .i64 x1))] ∧ Below w0.heap.size w0 w ∧ Ctx [] w0 w [] ∧ Cmp.Or_int_l1 a1 k x1 = some r1) FUEL ⟨0, rfl, (Below.refl _ _), hC0, hr1⟩ ?_
  clear hr1
  rintro k1 _ w1 ⟨x1, rfl, hB1, hC1, hL1⟩
  cases k1 with
  | zero => rw [Cmp.Or_int_l1] at hL1; cases hL1
  | succ k1 =>
   rw [Cmp.Or_int_l1] at hL1
   refine W_seq_reg ?_
   refine WL_lss rfl rfl rfl ?_
   refine WL_nil (W_seq ?_)
   refine W_cond rfl (fun hc1 => ?_) (fun hc1 => ?_)
   ·replace hL1 := ite_t hL1 hc1
    refine W_skip (nrm_normal (W_seq (W_block (W_seq_reg ?_))))
    obtain ⟨x2, hx1, hL1⟩ := bind_some hL1
    refine WL_index Tryz.underlying24 ty3 g1 hx1 rfl rfl rfl (fun b1 o1 h1 => ?_)
    refine WL_load ty3 h1 hC1.keep rfl rfl (fun v1 h2 => ?_)
    obtain rfl := ro_int h2
    refine WL_assign rfl rfl ?_
    refine WL_nil (W_seq_reg ?_)
    refine WL_move rfl rfl ?_
    refine WL_move rfl rfl ?_
    refine WL_neq rfl rfl rfl ?_
    refine WL_nil ?_
    refine W_cond rfl (fun hc2 => ?_) (fun hc2 => ?_)
    ·replace hL1 := ite_t hL1 hc2
     refine W_seq_reg ?_
     refine WL_move rfl rfl ?_
     refine WL_assign rfl rfl ?_
     refine WL_nil (W_ret (blk_ret (nrm_ret (nrm_ret (blk_ret (nrm_ret (nrm_ret ?_)))))))
     have hq1 := Option.some.inj hL1
     subst hq1
     dsimp only at hF
     have hq2 := Option.some.inj hF
     subst hq2
     refine fn_ret1 rfl rfl ?_
     exact ⟨_, rfl, int_res hC1 _⟩
    replace hL1 := ite_f hL1 hc2
    refine W_skip (blk_normal (nrm_normal (W_reg ?_)))
    refine WL_add rfl rfl rfl ?_
    refine WL_move rfl rfl ?_
    refine WL_nil ?_
    refine nrm_sub (l' := [(3, (.int .i64 0)), (6, u1), (7, (.int .i64 (List.length a1 : Int))), (8, (.int .i64 (w64 (x1 + 1))))]) ⟨rfl, rfl, rfl, rfl, trivial⟩ ?_
    exact ⟨k1, Nat.lt_succ_self _, w64 (x1 + 1), rfl, (Keep.of hB1).below, hC1, hL1⟩
   replace hL1 := ite_f hL1 hc1
   refine W_exit (nrm_exit (nrm_exit (blk_exit ?_)))
   have hq3 := Option.some.inj hL1
   subst hq3
   refine nrm_sub (l' := [(3, (.int .i64 0))]) ⟨rfl, trivial⟩ ?_
   exact ⟨rfl, rfl, (Keep.of hB1).below, hC1⟩
 rintro l2 _ w2 hs2 ⟨rfl, rfl, hB2, hC2⟩
 try dsimp only at hF
 refine nrm_sub' hs2 ?_
 clear hs2
 refine W_seq_reg ?_
 refine WL_move rfl rfl ?_
 refine WL_assign rfl rfl ?_
 refine WL_nil (W_ret ?_)
 have hq4 := Option.some.inj hF
 subst hq4
 refine fn_ret1 rfl rfl ?_
 exact ⟨_, rfl, int_res hC2 _⟩

theorem c_Cmp_isNaN_int {w0 : World} (a1 : Int) (rr : Bool) (hF : Cmp.isNaN_int a1 = some rr) :
 Calls Tryz.prog 203 [(.int .i64 a1)].toArray w0 fun e w' => ∃ v, e = .returned v ∧ Res w0 rr v w' := by
 refine calls_of_W Tryz.func203 rfl rfl ?_
 have hC0 := Ctx.start w0
 unfold Cmp.isNaN_int at hF
 refine W_seq_reg ?_
 refine WL_assign rfl rfl ?_
 refine WL_nil (W_seq_reg ?_)
 refine WL_move rfl rfl ?_
 refine WL_move rfl rfl ?_
 refine WL_neq rfl rfl rfl ?_
 refine WL_assign rfl rfl ?_
 refine WL_nil (W_ret ?_)
 have hq1 := Option.some.inj hF
 subst hq1
 refine fn_ret1 rfl rfl ?_
 exact ⟨_, rfl, bool_res hC0 _⟩

theorem c_Cmp_Compare_int {w0 : World} (a1 : Int) (a2 : Int) (rr : Int) (hF : Cmp.Compare_int a1 a2 = some rr) :
 Calls Tryz.prog 177 [(.int .i64 a1), (.int .i64 a2)].toArray w0 fun e w' => ∃ v, e = .returned v ∧ Res w0 rr v w' := by
 refine calls_of_W Tryz.func177 rfl rfl ?_
 have hC0 := Ctx.start w0
 unfold Cmp.Compare_int at hF
 refine W_seq_reg ?_
 refine WL_assign rfl rfl ?_
 refine WL_nil (W_seq_reg ?_)
 refine WL_move rfl rfl ?_
 obtain ⟨x1, hr1, hF⟩ := bind_some hF
 refine WL_call Tryz.call203 rfl rfl (c_Cmp_isNaN_int a1 x1 hr1) ?_
 intro _ w1 hv1
 obtain ⟨rfl, hB1⟩ := res_bool hv1
 have hC1 := hC0.grow hB1
 refine WL_assign rfl rfl ?_
 refine WL_nil (W_seq_reg ?_)
 refine WL_move rfl rfl ?_
 obtain ⟨x2, hr2, hF⟩ := bind_some hF
 refine WL_call Tryz.call203 rfl rfl (c_Cmp_isNaN_int a2 x2 hr2) ?_
 intro _ w2 hv2
 obtain ⟨rfl, hB2⟩ := res_bool hv2
 have hC2 := hC1.grow hB2
 refine WL_assign rfl rfl ?_
 refine WL_nil (W_seq (W_seq_reg ?_))
 refine WL_move rfl rfl ?_
 refine WL_nil ?_
 refine W_cond rfl (fun hc1 => ?_) (fun hc1 => ?_)
 ·replace hF := ite_t hF hc1
  refine W_seq (W_seq_reg ?_)
  refine WL_move rfl rfl ?_
  refine WL_nil ?_
  refine W_cond rfl (fun hc2 => ?_) (fun hc2 => ?_)
  ·replace hF := ite_t hF hc2
   refine W_seq_reg ?_
   refine WL_assign rfl rfl ?_
   refine WL_nil (W_ret (nrm_ret (nrm_ret ?_)))
   have hq1 := Option.some.inj hF
   subst hq1
   refine fn_ret1 rfl rfl ?_
   exact ⟨_, rfl, int_res hC2 _⟩
  replace hF := ite_f hF hc2
  refine W_skip (nrm_normal (W_seq_reg ?_))
  refine WL_assign rfl rfl ?_
  refine WL_nil (W_ret (nrm_ret ?_))
  have hq2 := Option.some.inj hF
  subst hq2
  refine fn_ret1 rfl rfl ?_
  exact ⟨_, rfl, int_res hC2 _⟩
 replace hF := ite_f hF hc1
 refine W_skip (nrm_normal (W_seq (W_seq_reg ?_)))
 refine WL_move rfl rfl ?_
 refine WL_nil ?_
 refine W_cond rfl (fun hc3 => ?_) (fun hc3 => ?_)
 ·replace hF := ite_t hF hc3
  refine W_seq_reg ?_
  refine WL_assign rfl rfl ?_
  refine WL_nil (W_ret (nrm_ret ?_))
  have hq3 := Option.some.inj hF
  subst hq3
  refine fn_ret1 rfl rfl ?_
  exact ⟨_, rfl, int_res hC2 _⟩
 replace hF := ite_f hF hc3
 refine W_skip (nrm_normal (W_seq (W_seq_reg ?_)))
 refine WL_move rfl rfl ?_
 refine WL_move rfl rfl ?_
 refine WL_lss rfl rfl rfl ?_
 refine WL_nil ?_
 refine W_cond rfl (fun hc4 => ?_) (fun hc4 => ?_)
 ·replace hF := ite_t hF hc4
  refine W_seq_reg ?_
  refine WL_assign rfl rfl ?_
  refine WL_nil (W_ret (nrm_ret ?_))
  have hq4 := Option.some.inj hF
  subst hq4
  refine fn_ret1 rfl rfl ?_
  exact ⟨_, rfl, int_res hC2 _⟩
 replace hF := ite_f hF hc4
 refine W_skip (nrm_normal (W_seq (W_seq_reg ?_)))
 refine WL_move rfl rfl ?_
 refine WL_move rfl rfl ?_
 refine WL_gtr rfl rfl rfl ?_
 refine WL_nil ?_
 refine W_cond rfl (fun hc5 => ?_) (fun hc5 => ?_)
 ·replace hF := ite_t hF hc5
  refine W_seq_reg ?_
  refine WL_assign rfl rfl ?_
  refine WL_nil (W_ret (nrm_ret ?_))
  have hq5 := Option.some.inj hF
  subst hq5
  refine fn_ret1 rfl rfl ?_
  exact ⟨_, rfl, int_res hC2 _⟩
 replace hF := ite_f hF hc5
 refine W_skip (nrm_normal (W_seq_reg ?_))
 refine WL_assign rfl rfl ?_
 refine WL_nil (W_ret ?_)
 have hq6 := Option.some.inj hF
 subst hq6
 refine fn_ret1 rfl rfl ?_
 exact ⟨_, rfl, int_res hC2 _⟩

theorem c_Slices_Compare_Lint_int {w0 : World} (a1 : (List Int)) (u1 : Value) (g1 : RO [] w0 u1 a1) (a2 : (List Int)) (u2 : Value) (g2 : RO [] w0 u2 a2) (rr : Int) (hF : Slices.Compare_Lint_int a1 a2 = some rr) :
 Calls Tryz.prog 178 [u1, u2].toArray w0 fun e w' => ∃ v, e = .returned v ∧ Res w0 rr v w' := by
 refine calls_of_W Tryz.func178 rfl rfl ?_
 have hC0 := Ctx.start w0
 unfold Slices.Compare_Lint_int at hF
 refine W_seq_reg ?_
 refine WL_assign rfl rfl ?_
 refine WL_nil (W_seq (W_seq_reg ?_))
 refine WL_move rfl rfl ?_
 refine WL_len Tryz.underlying24 g1 rfl rfl ?_
 refine WL_move rfl rfl ?_
 refine WL_nil ?_
 obtain ⟨r1, hr1, hF⟩ := bind_some hF
 refine W_norm (fun l w => .inl () = r1 ∧ l = [(0, u1), (1, u2)] ∧ Below w0.heap.size w0 w ∧ Ctx [] w0 w []) ?_ ?_
 ·refine W_block ?_
  refine W.sub (l' := [(0, u1), (1, u2), (9, u1), (10, (.int .i64 (List.length a1 : Int))), (11, (.int .i64 0))]) ?_ ⟨rfl, rfl, rfl, rfl, rfl, trivial⟩
  refine W_loop (fun k l w => ∃ x1 : Int, l = [(0, u1), (1, u2), (9, u1), (10, (.int .i64 (List.length a1 : Int))), (11, (.int .i64 x1))] ∧ Below w0.heap.size w0 w ∧ Ctx [] w0 w [] ∧ Slices.Compare_Lint_int_l1 a1 a2 k x1 = some r1) FUEL ⟨0, rfl, (Below.refl _ _), hC0, hr1⟩ ?_
  clear hr1
  rintro k1 _ w1 ⟨x1, rfl, hB1, hC1, hL1⟩
  cases k1 with
  | zero => rw [Slices.Compare_Lint_int_l1] at hL1; cases hL1
  | succ k1 =>
   rw [Slices.Compare_Lint_int_l1] at hL1
   refine W_seq_reg ?_
   refine WL_lss rfl rfl rfl ?_
   refine WL_nil (W_seq ?_)
   refine W_cond rfl (fun hc1 => ?_) (fun hc1 => ?_)
   ·replace hL1 := ite_t hL1 hc1
    refine W_skip (nrm_normal (W_seq (W_block (W_seq_reg ?_))))
    refine WL_move rfl rfl ?_
    obtain ⟨x2, hx1, hL1⟩ := bind_some hL1
    refine WL_index Tryz.underlying24 ty3 g1 hx1 rfl rfl rfl (fun b1 o1 h1 => ?_)
    refine WL_load ty3 h1 hC1.keep rfl rfl (fun v1 h2 => ?_)
    obtain rfl := ro_int h2
    refine WL_assign rfl rfl ?_
    refine WL_assign rfl rfl ?_
    refine WL_nil (W_seq (W_seq_reg ?_))
    refine WL_move rfl rfl ?_
    refine WL_move rfl rfl ?_
    refine WL_len Tryz.underlying24 g2 rfl rfl ?_
    refine WL_geq rfl rfl rfl ?_
    refine WL_nil ?_
    refine W_cond rfl (fun hc2 => ?_) (fun hc2 => ?_)
    ·replace hL1 := ite_t hL1 hc2
     refine W_seq_reg ?_
     refine WL_assign rfl rfl ?_
     refine WL_nil (W_ret (nrm_ret (blk_ret (nrm_ret (nrm_ret (blk_ret (nrm_ret (nrm_ret ?_))))))))
     have hq1 := Option.some.inj hL1
     subst hq1
     dsimp only at hF
     have hq2 := Option.some.inj hF
     subst hq2
     refine fn_ret1 rfl rfl ?_
     exact ⟨_, rfl, int_res hC1 _⟩
    replace hL1 := ite_f hL1 hc2
    refine W_skip (nrm_normal (W_seq_reg ?_))
    refine WL_move rfl rfl ?_
    refine WL_move rfl rfl ?_
    obtain ⟨x3, hx2, hL1⟩ := bind_some hL1
    refine WL_index Tryz.underlying24 ty3 g2 hx2 rfl rfl rfl (fun b2 o2 h3 => ?_)
    refine WL_load ty3 h3 hC1.keep rfl rfl (fun v2 h4 => ?_)
    obtain rfl := ro_int h4
    refine WL_assign rfl rfl ?_
    refine WL_nil (W_seq_reg ?_)
    refine WL_move rfl rfl ?_
    refine WL_move rfl rfl ?_
    obtain ⟨x4, hr2, hL1⟩ := bind_some hL1
    refine WL_call Tryz.call177 rfl rfl (c_Cmp_Compare_int x2 x3 x4 hr2) ?_
    intro _ w2 hv1
    obtain ⟨rfl, hB2⟩ := res_int hv1
    have hC2 := hC1.grow hB2
    refine WL_assign rfl rfl ?_
    refine WL_nil (W_seq_reg ?_)
    refine WL_move rfl rfl ?_
    refine WL_neq rfl rfl rfl ?_
    refine WL_nil ?_
    refine W_cond rfl (fun hc3 => ?_) (fun hc3 => ?_)
    ·replace hL1 := ite_t hL1 hc3
     refine W_seq_reg ?_
     refine WL_move rfl rfl ?_
     refine WL_assign rfl rfl ?_
     refine WL_nil (W_ret (blk_ret (nrm_ret (nrm_ret (blk_ret (nrm_ret (nrm_ret ?_)))))))
     have hq3 := Option.some.inj hL1
     subst hq3
     dsimp only at hF
     have hq4 := Option.some.inj hF
     subst hq4
     refine fn_ret1 rfl rfl ?_
     exact ⟨_, rfl, int_res hC2 _⟩
    replace hL1 := ite_f hL1 hc3
    refine W_skip (blk_normal (nrm_normal (W_reg ?_)))
    refine WL_add rfl rfl rfl ?_
    refine WL_move rfl rfl ?_
    refine WL_nil ?_
    refine nrm_sub (l' := [(0, u1), (1, u2), (9, u1), (10, (.int .i64 (List.length a1 : Int))), (11, (.int .i64 (w64 (x1 + 1))))]) ⟨rfl, rfl, rfl, rfl, rfl, trivial⟩ ?_
    exact ⟨k1, Nat.lt_succ_self _, w64 (x1 + 1), rfl, ((Keep.of hB1).then hB2).below, hC2, hL1⟩
   replace hL1 := ite_f hL1 hc1
   refine W_exit (nrm_exit (nrm_exit (blk_exit ?_)))
   have hq5 := Option.some.inj hL1
   subst hq5
   refine nrm_sub (l' := [(0, u1), (1, u2)]) ⟨rfl, rfl, trivial⟩ ?_
   exact ⟨rfl, rfl, (Keep.of hB1).below, hC1⟩
 rintro l2 _ w3 hs2 ⟨rfl, rfl, hB3, hC3⟩
 try dsimp only at hF
 refine nrm_sub' hs2 ?_
 clear hs2
 refine W_seq (W_seq_reg ?_)
 refine WL_move rfl rfl ?_
 refine WL_len Tryz.underlying24 g1 rfl rfl ?_
 refine WL_move rfl rfl ?_
 refine WL_len Tryz.underlying24 g2 rfl rfl ?_
 refine WL_lss rfl rfl rfl ?_
 refine WL_nil ?_
 refine W_cond rfl (fun hc4 => ?_) (fun hc4 => ?_)
 ·replace hF := ite_t hF hc4
  refine W_seq_reg ?_
  refine WL_assign rfl rfl ?_
  refine WL_nil (W_ret (nrm_ret ?_))
  have hq6 := Option.some.inj hF
  subst hq6
  refine fn_ret1 rfl rfl ?_
  exact ⟨_, rfl, int_res hC3 _⟩
 replace hF := ite_f hF hc4
 refine W_skip (nrm_normal (W_seq_reg ?_))
 refine WL_assign rfl rfl ?_
 refine WL_nil (W_ret ?_)
 have hq7 := Option.some.inj hF
 subst hq7
 refine fn_ret1 rfl rfl ?_
 exact ⟨_, rfl, int_res hC3 _⟩

theorem c_M_CompareFacts {w0 : World} (a1 : (Int × (List Int))) (u1 : Value) (g1 : RO [] w0 u1 a1.2) (a2 : (Int × (List Int))) (u2 : Value) (g2 : RO [] w0 u2 a2.2) (rr : Int) (hF : M.CompareFacts a1 a2 = some rr) :
 Calls Tryz.prog 128 [(.agg #[(.int .i64 a1.1), u1]), (.agg #[(.int .i64 a2.1), u2])].toArray w0 fun e w' => ∃ v, e = .returned v ∧ Res w0 rr v w' := by
 refine calls_of_W Tryz.func128 rfl rfl ?_
 have hC0 := Ctx.start w0
 unfold M.CompareFacts at hF
 refine W_seq_reg ?_
 refine WL_boxK (cs := [(.int .i64 a1.1), u1]) hC0 rfl rfl rfl (fun b1 w1 hC1 hB1 hN1 => ?_)
 refine WL_boxK (cs := [(.int .i64 a2.1), u2]) hC1 rfl rfl rfl (fun b2 w2 hC2 hB2 hN2 => ?_)
 refine WL_assign rfl rfl ?_
 refine WL_nil (W_seq ?_)
 refine W_drawn 13 rfl hmix (fun w3 hB3 => ?_)
 have hC3 := hC2.grow hB3
 refine WA_tk 0 (by kernel_rfl) rfl rfl (fl_field Tryz.underlying88 rfl rfl (fun w => ⟨_, Tryz.sizeOf3 w⟩) rfl) ?_
 refine WL_field Tryz.underlying88 rfl rfl (fun w => ⟨_, Tryz.sizeOf3 w⟩) rfl rfl ?_
 refine WL_nil ?_
 refine WA_tk 2 (by kernel_rfl) rfl rfl (fl_field Tryz.underlying88 rfl rfl (fun w => ⟨_, Tryz.sizeOf3 w⟩) rfl) ?_
 refine WL_field Tryz.underlying88 rfl rfl (fun w => ⟨_, Tryz.sizeOf3 w⟩) rfl rfl ?_
 refine WL_nil ?_
 refine WA_tk 5 (by kernel_rfl) rfl rfl (fl_field Tryz.underlying88 rfl rfl (fun w => ⟨_, Tryz.sizeOf24 w⟩) rfl) ?_
 refine WL_field Tryz.underlying88 rfl rfl (fun w => ⟨_, Tryz.sizeOf24 w⟩) rfl rfl ?_
 refine WL_nil ?_
 refine WA_tk 7 (by kernel_rfl) rfl rfl (fl_field Tryz.underlying88 rfl rfl (fun w => ⟨_, Tryz.sizeOf24 w⟩) rfl) ?_
 refine WL_field Tryz.underlying88 rfl rfl (fun w => ⟨_, Tryz.sizeOf24 w⟩) rfl rfl ?_
 refine WL_nil ?_
 obtain ⟨x1, hr1, hF⟩ := bind_some hF
 refine WA.sub (l' := [(0, (.agg #[(.int .i64 a1.1), u1])), (1, (.agg #[(.int .i64 a2.1), u2])), (2, (ptr b1 0)), (3, (ptr b2 0)), (4, (.int .i64 0)), (5, (ptr b1 0)), (7, (ptr b2 0)), (10, (ptr b1 1)), (12, (ptr b2 1))]) ?_ ⟨rfl, rfl, rfl, rfl, rfl, rfl, rfl, rfl, rfl, trivial⟩
 refine WA_postsE [⟨1, [], fun vs => PW.val (.int .i64 a1.1), []⟩, ⟨3, [], fun vs => PW.val (.int .i64 a2.1), []⟩, ⟨4, [], fun vs => PW.val (.int .i64 x1), []⟩, ⟨6, [], fun vs => PW.val u1, []⟩, ⟨8, [], fun vs => PW.val u2, []⟩] [[], [], [1, 3], [], []] 4 rfl (by kernel_rfl) (by kernel_rfl) rfl ?_ ?_
 ·refine StepsE_cons rfl ?_ ?_
  ·intro w5 hB5
   refine DepsE_nil ?_
   refine ⟨_, rfl, ?_⟩
   refine WL_load_box (hC3.grow hB5) 1 rfl rfl Tryz.isAgg3 rfl rfl ?_
   refine WL_nil ?_
   exact FinE_val (Below.refl _ _) rfl rfl ⟨rfl, rfl⟩
  refine StepsE_cons rfl ?_ ?_
  ·intro w5 hB5
   refine DepsE_nil ?_
   refine ⟨_, rfl, ?_⟩
   refine WL_load_box (hC3.grow hB5) 0 rfl rfl Tryz.isAgg3 rfl rfl ?_
   refine WL_nil ?_
   exact FinE_val (Below.refl _ _) rfl rfl ⟨rfl, rfl⟩
  refine StepsE_cons rfl ?_ ?_
  ·intro w5 hB5
   refine DepsE_cons rfl rfl rfl ?_
   rintro _ _ ⟨rfl, rfl⟩ _
   refine DepsE_cons rfl rfl rfl ?_
   rintro _ _ ⟨rfl, rfl⟩ _
   refine DepsE_nil ?_
   refine ⟨_, rfl, ?_⟩
   refine WL_call Tryz.call177 rfl rfl (c_Cmp_Compare_int a1.1 a2.1 x1 hr1) ?_
   intro _ w4 hv1
   obtain ⟨rfl, hB4⟩ := res_int hv1
   refine WL_nil ?_
   exact FinE_val hB4 rfl rfl ⟨rfl, rfl⟩
  refine StepsE_cons rfl ?_ ?_
  ·intro w5 hB5
   refine DepsE_nil ?_
   refine ⟨_, rfl, ?_⟩
   refine WL_load_box (hC3.grow hB5) 1 rfl rfl Tryz.isAgg24 rfl rfl ?_
   refine WL_nil ?_
   exact FinE_val (Below.refl _ _) rfl rfl ⟨rfl, rfl⟩
  refine StepsE_cons rfl ?_ ?_
  ·intro w5 hB5
   refine DepsE_nil ?_
   refine ⟨_, rfl, ?_⟩
   refine WL_load_box (hC3.grow hB5) 0 rfl rfl Tryz.isAgg24 rfl rfl ?_
   refine WL_nil ?_
   exact FinE_val (Below.refl _ _) rfl rfl ⟨rfl, rfl⟩
  exact StepsE_nil
 intro w6 hB6
 refine AllE_cons rfl rfl rfl ?_
 rintro _ _ ⟨rfl, rfl⟩
 refine AllE_cons rfl rfl rfl ?_
 rintro _ _ ⟨rfl, rfl⟩
 refine AllE_cons rfl rfl rfl ?_
 rintro _ _ ⟨rfl, rfl⟩
 refine AllE_cons rfl rfl rfl ?_
 rintro _ _ ⟨rfl, rfl⟩
 refine AllE_cons rfl rfl rfl ?_
 rintro _ _ ⟨rfl, rfl⟩
 refine AllE_nil ?_
 intro hn1 hb1
 have hC4 := hC3.grow hB6
 obtain ⟨x2, hr2, hF⟩ := bind_some hF
 refine WA_one 9 (by kernel_rfl) rfl ?_
 refine WL_call Tryz.call178 rfl rfl (c_Slices_Compare_Lint_int a1.2 u1 (g1.now hC4.keep) a2.2 u2 (g2.now hC4.keep) x2 hr2) ?_
 intro _ w7 hv2
 obtain ⟨rfl, hB7⟩ := res_int hv2
 have hC5 := hC4.grow hB7
 refine WL_nil ?_
 refine WA_one 10 (by kernel_rfl) rfl ?_
 refine WL_buildSlice (vs := [(.int .i64 x1), (.int .i64 x2)]) hC5 Tryz.underlying24 ty3 rfl rfl rfl rfl (by intro v hv; simp only [List.mem_cons, List.not_mem_nil, or_false] at hv; rcases hv with rfl | rfl <;> rfl) rfl rfl (fun b3 w9 hC6 hB8 => ?_)
 have hC7 := hC6.row0 (α := Int)
 have hC8 := hC7.triv (int_val (x2))
 have hC9 := hC8.row1
 have hC10 := hC9.triv (int_val (x1))
 have hC11 := hC10.row1
 have hC12 := hC11.front 1 rfl
 dsimp only [List.eraseIdx, List.cons_append, List.nil_append, List.append_nil] at hC12
 have hC13 : Ctx [] w0 w9 (Item.own (.slice (some ⟨b3, 0, none⟩) 2 2) ([x1, x2] : List Int) :: [Item.box b2 [(.int .i64 a2.1), u2], Item.box b1 [(.int .i64 a1.1), u1]]) := hC12.rowOwn (by simp [maxLen])
 refine WL_nil ?_
 obtain ⟨x3, hr3, hF⟩ := bind_some hF
 refine WA_one 11 (by kernel_rfl) rfl ?_
 refine WL_call Tryz.call176 rfl rfl (c_Cmp_Or_int ([x1, x2]) (.slice (some ⟨b3, 0, none⟩) 2 2) ((hC13.ro 0 rfl).now (Keep.refl _ _)) x3 hr3) ?_
 intro _ w10 hv3
 obtain ⟨rfl, hB9⟩ := res_int hv3
 have hC14 := hC13.grow hB9
 refine WL_nil ?_
 refine WA_tk 12 (by kernel_rfl) rfl rfl (fl_assign rfl) ?_
 refine WL_assign rfl rfl ?_
 refine WL_nil ?_
 refine WA_done (by kernel_rfl) ?_
 refine nrm_normal (W_ret ?_)
 have hq1 := Option.some.inj hF
 subst hq1
 refine fn_ret1 rfl rfl ?_
 exact ⟨_, rfl, int_res hC14 _⟩

theorem c_M_HasFact_c1 {w0 : World} (a1 : (Int × (List Int))) (u1 : Value) (g1 : RO [] w0 u1 a1.2) (pb1 : Nat) (ax1 : (Int × (List Int))) (g2 : ROAt [] w0 pb1 0 ax1) (rr : Bool) (hF : M.HasFact_c1 a1 ax1 = some rr) :
 Calls Tryz.prog 175 [(.agg #[(.int .i64 a1.1), u1]), (ptr pb1 0)].toArray w0 fun e w' => ∃ v, e = .returned v ∧ Res w0 rr v w' := by
 refine calls_of_W Tryz.func175 rfl rfl ?_
 have hC0 := Ctx.start w0
 unfold M.HasFact_c1 at hF
 refine W_seq_reg ?_
 refine WL_boxK (cs := [(.int .i64 a1.1), u1]) hC0 rfl rfl rfl (fun b1 w1 hC1 hB1 hN1 => ?_)
 refine WL_assign rfl rfl ?_
 refine WL_nil (W_seq_reg ?_)
 refine WL_load_box_agg [(.int .i64 a1.1), u1] hC1 0 rfl rfl rfl Tryz.isAgg88 Tryz.sizeOf88 rfl rfl ?_
 refine WL_load ty88 g2 hC1.keep rfl rfl (fun v1 h1 => ?_)
 obtain ⟨v2, rfl, h2⟩ := ro_st88 h1
 obtain ⟨x1, hr1, hF⟩ := bind_some hF
 refine WL_call Tryz.call128 rfl rfl (c_M_CompareFacts (a1.1, a1.2) u1 (g1.now hC1.keep) ax1 v2 (h2.now hC1.keep) x1 hr1) ?_
 intro _ w2 hv1
 obtain ⟨rfl, hB2⟩ := res_int hv1
 have hC2 := hC1.grow hB2
 refine WL_eql rfl rfl rfl ?_
 refine WL_assign rfl rfl ?_
 refine WL_nil (W_ret ?_)
 have hq1 := Option.some.inj hF
 subst hq1
 refine fn_ret1 rfl rfl ?_
 exact ⟨_, rfl, bool_res hC2 _⟩

theorem c_Slices_IndexFunc_Limpl_Fact_impl_Fact_M_HasFact_c1 {w0 : World} (a1 : (List (Int × (List Int)))) (u1 : Value) (g1 : RO [] w0 u1 a1) (pb1 : Nat) (ax1 : (Int × (List Int))) (g2 : ROAt [] w0 pb1 0 ax1) (rr : Int) (hF : Slices.IndexFunc_Limpl_Fact_impl_Fact_M_HasFact_c1 a1 ax1 = some rr) :
 Calls Tryz.prog 126 [u1, (.func (.func 175) #[] #[(ptr pb1 0)])].toArray w0 fun e w' => ∃ v, e = .returned v ∧ Res w0 rr v w' := by
 refine calls_of_W Tryz.func126 rfl rfl ?_
 have hC0 := Ctx.start w0
 unfold Slices.IndexFunc_Limpl_Fact_impl_Fact_M_HasFact_c1 at hF
 refine W_seq_reg ?_
 refine WL_assign rfl rfl ?_
 refine WL_nil (W_seq (W_seq_reg ?_))
 refine WL_move rfl rfl ?_
 refine WL_len Tryz.underlying31 g1 rfl rfl ?_
 refine WL_move rfl rfl ?_
 refine WL_nil ?_
 obtain ⟨r1, hr1, hF⟩ := bind_some hF
 refine W_norm (fun l w => .inl () = r1 ∧ l = [] ∧ Below w0.heap.size w0 w ∧ Ctx [] w0 w []) ?_ ?_
 ·refine W_block ?_
  refine W.sub (l' := [(0, u1), (1, (.func (.func 175) #[] #[(ptr pb1 0)])), (7, (.int .i64 (List.length a1 : Int))), (8, (.int .i64 0))]) ?_ ⟨rfl, rfl, rfl, rfl, trivial⟩
  refine W_loop (fun k l w => ∃ x1 : Int, l = [(0, u1), (1, (.func (.func 175) #[] #[(ptr pb1 0)])), (7, (.int .i64 (List.length a1 : Int))), (8, (.int .i64 x1))] ∧ Below w0.heap.size w0 w ∧ Ctx [] w0 w [] ∧ Slices.IndexFunc_Limpl_Fact_impl_Fact_M_HasFact_c1_l1 a1 ax1 k x1 = some r1) FUEL ⟨0, rfl, (Below.refl _ _), hC0, hr1⟩ ?_
  clear hr1
  rintro k1 _ w1 ⟨x1, rfl, hB1, hC1, hL1⟩
  cases k1 with
  | zero => rw [Slices.IndexFunc_Limpl_Fact_impl_Fact_M_HasFact_c1_l1] at hL1; cases hL1
  | succ k1 =>
   rw [Slices.IndexFunc_Limpl_Fact_impl_Fact_M_HasFact_c1_l1] at hL1
   refine W_seq_reg ?_
   refine WL_lss rfl rfl rfl ?_
   refine WL_nil (W_seq ?_)
   refine W_cond rfl (fun hc1 => ?_) (fun hc1 => ?_)
   ·replace hL1 := ite_t hL1 hc1
    refine W_skip (nrm_normal (W_seq (W_block (W_seq_reg ?_))))
    refine WL_move rfl rfl ?_
    refine WL_assign rfl rfl ?_
    refine WL_nil (W_seq_reg ?_)
    refine WL_move rfl rfl ?_
    refine WL_move rfl rfl ?_
    refine WL_move rfl rfl ?_
    obtain ⟨x2, hx1, hL1⟩ := bind_some hL1
    refine WL_index Tryz.underlying31 ty88 g1 hx1 rfl rfl rfl (fun b1 o1 h1 => ?_)
    refine WL_load ty88 h1 hC1.keep rfl rfl (fun v1 h2 => ?_)
    obtain ⟨v2, rfl, h3⟩ := ro_st88 h2
    obtain ⟨x3, hr2, hL1⟩ := bind_some hL1
    refine WL_callv (cap := [(ptr pb1 0)]) Tryz.call175 rfl rfl rfl (c_M_HasFact_c1 x2 v2 (h3.now hC1.keep) pb1 ax1 (g2.now hC1.keep) x3 hr2) ?_
    intro _ w2 hv1
    obtain ⟨rfl, hB2⟩ := res_bool hv1
    have hC2 := hC1.grow hB2
    refine WL_nil ?_
    refine W_cond rfl (fun hc2 => ?_) (fun hc2 => ?_)
    ·replace hL1 := ite_t hL1 hc2
     refine W_seq_reg ?_
     refine WL_move rfl rfl ?_
     refine WL_assign rfl rfl ?_
     refine WL_nil (W_ret (blk_ret (nrm_ret (nrm_ret (blk_ret (nrm_ret (nrm_ret ?_)))))))
     have hq1 := Option.some.inj hL1
     subst hq1
     dsimp only at hF
     have hq2 := Option.some.inj hF
     subst hq2
     refine fn_ret1 rfl rfl ?_
     exact ⟨_, rfl, int_res hC2 _⟩
    replace hL1 := ite_f hL1 hc2
    refine W_skip (blk_normal (nrm_normal (W_reg ?_)))
    refine WL_add rfl rfl rfl ?_
    refine WL_move rfl rfl ?_
    refine WL_nil ?_
    refine nrm_sub (l' := [(0, u1), (1, (.func (.func 175) #[] #[(ptr pb1 0)])), (7, (.int .i64 (List.length a1 : Int))), (8, (.int .i64 (w64 (x1 + 1))))]) ⟨rfl, rfl, rfl, rfl, trivial⟩ ?_
    exact ⟨k1, Nat.lt_succ_self _, w64 (x1 + 1), rfl, ((Keep.of hB1).then hB2).below, hC2, hL1⟩
   replace hL1 := ite_f hL1 hc1
   refine W_exit (nrm_exit (nrm_exit (blk_exit ?_)))
   have hq3 := Option.some.inj hL1
   subst hq3
   refine nrm_sub (l' := []) trivial ?_
   exact ⟨rfl, rfl, (Keep.of hB1).below, hC1⟩
 rintro l2 _ w3 hs2 ⟨rfl, rfl, hB3, hC3⟩
 try dsimp only at hF
 refine nrm_sub' hs2 ?_
 clear hs2
 refine W_seq_reg ?_
 refine WL_assign rfl rfl ?_
 refine WL_nil (W_ret ?_)
 have hq4 := Option.some.inj hF
 subst hq4
 refine fn_ret1 rfl rfl ?_
 exact ⟨_, rfl, int_res hC3 _⟩

theorem c_Slices_ContainsFunc_Limpl_Fact_impl_Fact_M_HasFact_c1 {w0 : World} (a1 : (List (Int × (List Int)))) (u1 : Value) (g1 : RO [] w0 u1 a1) (pb1 : Nat) (ax1 : (Int × (List Int))) (g2 : ROAt [] w0 pb1 0 ax1) (rr : Bool) (hF : Slices.ContainsFunc_Limpl_Fact_impl_Fact_M_HasFact_c1 a1 ax1 = some rr) :
 Calls Tryz.prog 93 [u1, (.func (.func 175) #[] #[(ptr pb1 0)])].toArray w0 fun e w' => ∃ v, e = .returned v ∧ Res w0 rr v w' := by
 refine calls_of_W Tryz.func93 rfl rfl ?_
 have hC0 := Ctx.start w0
 unfold Slices.ContainsFunc_Limpl_Fact_impl_Fact_M_HasFact_c1 at hF
 refine W_seq_reg ?_
 refine WL_assign rfl rfl ?_
 refine WL_nil (W_seq_reg ?_)
 refine WL_move rfl rfl ?_
 refine WL_move rfl rfl ?_
 obtain ⟨x1, hr1, hF⟩ := bind_some hF
 refine WL_call Tryz.call126 rfl rfl (c_Slices_IndexFunc_Limpl_Fact_impl_Fact_M_HasFact_c1 a1 u1 (g1.now hC0.keep) pb1 ax1 (g2.now hC0.keep) x1 hr1) ?_
 intro _ w1 hv1
 obtain ⟨rfl, hB1⟩ := res_int hv1
 have hC1 := hC0.grow hB1
 refine WL_geq rfl rfl rfl ?_
 refine WL_assign rfl rfl ?_
 refine WL_nil (W_ret ?_)
 have hq1 := Option.some.inj hF
 subst hq1
 refine fn_ret1 rfl rfl ?_
 exact ⟨_, rfl, bool_res hC1 _⟩

theorem c_M_HasFact {w0 : World} (a1 : (List (Int × (List Int)))) (u1 : Value) (g1 : RO [] w0 u1 a1) (a2 : (Int × (List Int))) (u2 : Value) (g2 : RO [] w0 u2 a2.2) (rr : Bool) (hF : M.HasFact a1 a2 = some rr) :
 Calls Tryz.prog 125 [u1, (.agg #[(.int .i64 a2.1), u2])].toArray w0 fun e w' => ∃ v, e = .returned v ∧ Res w0 rr v w' := by
 refine calls_of_W Tryz.func125 rfl rfl ?_
 have hC0 := Ctx.start w0
 unfold M.HasFact at hF
 refine W_seq_reg ?_
 refine WL_boxK (cs := [(.int .i64 a2.1), u2]) hC0 rfl rfl rfl (fun b1 w1 hC1 hB1 hN1 => ?_)
 refine WL_assign rfl rfl ?_
 refine WL_nil (W_seq_reg ?_)
 refine WL_move rfl rfl ?_
 refine WL_makeFunc rfl rfl ?_
 obtain ⟨x1, hr1, hF⟩ := bind_some hF
 refine WL_call Tryz.call93 rfl rfl (c_Slices_ContainsFunc_Limpl_Fact_impl_Fact_M_HasFact_c1 a1 u1 (g1.now hC1.keep) b1 (a2.1, a2.2) (hC1.boxAt 0 rfl (repw_pair repw_int (repw_slice (g2.now hC1.keep)))) x1 hr1) ?_
 intro _ w2 hv1
 obtain ⟨rfl, hB2⟩ := res_bool hv1
 have hC2 := hC1.grow hB2
 refine WL_assign rfl rfl ?_
 refine WL_nil (W_ret ?_)
 have hq1 := Option.some.inj hF
 subst hq1
 refine fn_ret1 rfl rfl ?_
 exact ⟨_, rfl, bool_res hC2 _⟩

theorem c_M_added_c1 {w0 : World} (a1 : (Int × (List Int))) (u1 : Value) (g1 : RO [] w0 u1 a1.2) (pb1 : Nat) (ax1 : (Int × (List Int))) (g2 : ROAt [] w0 pb1 0 ax1) (rr : Bool) (hF : M.added_c1 a1 ax1 = some rr) :
 Calls Tryz.prog 127 [(.agg #[(.int .i64 a1.1), u1]), (ptr pb1 0)].toArray w0 fun e w' => ∃ v, e = .returned v ∧ Res w0 rr v w' := by
 refine calls_of_W Tryz.func127 rfl rfl ?_
 have hC0 := Ctx.start w0
 unfold M.added_c1 at hF
 refine W_seq_reg ?_
 refine WL_boxK (cs := [(.int .i64 a1.1), u1]) hC0 rfl rfl rfl (fun b1 w1 hC1 hB1 hN1 => ?_)
 refine WL_assign rfl rfl ?_
 refine WL_nil (W_seq_reg ?_)
 refine WL_load_box_agg [(.int .i64 a1.1), u1] hC1 0 rfl rfl rfl Tryz.isAgg88 Tryz.sizeOf88 rfl rfl ?_
 refine WL_load ty88 g2 hC1.keep rfl rfl (fun v1 h1 => ?_)
 obtain ⟨v2, rfl, h2⟩ := ro_st88 h1
 obtain ⟨x1, hr1, hF⟩ := bind_some hF
 refine WL_call Tryz.call128 rfl rfl (c_M_CompareFacts (a1.1, a1.2) u1 (g1.now hC1.keep) ax1 v2 (h2.now hC1.keep) x1 hr1) ?_
 intro _ w2 hv1
 obtain ⟨rfl, hB2⟩ := res_int hv1
 have hC2 := hC1.grow hB2
 refine WL_gtr rfl rfl rfl ?_
 refine WL_assign rfl rfl ?_
 refine WL_nil (W_ret ?_)
 have hq1 := Option.some.inj hF
 subst hq1
 refine fn_ret1 rfl rfl ?_
 exact ⟨_, rfl, bool_res hC2 _⟩

theorem c_Slices_Insert_Limpl_Fact_impl_Fact {Fs : List (List Nat)} {w0 : World} (a1 : (List (Int × (List Int)))) (u1 : Value) (a2 : Int) (a3 : (List (Int × (List Int)))) (u2 : Value) (hH : Hold [Item.own u1 (a1 : (List (Int × (List Int)))), Item.own u2 (a3 : (List (Int × (List Int))))] w0 Fs) (hn : Fs.flatten.Nodup) (rr : (List (Int × (List Int)))) (hF : Slices.Insert_Limpl_Fact_impl_Fact a1 a2 a3 = some rr) :
 Calls Tryz.prog 129 [u1, (.int .i64 a2), u2].toArray w0 fun e w' => ∃ v, e = .returned v ∧ ∃ q0 : Value, v = q0 ∧ Ctx Fs.flatten w0 w' [Item.own q0 (rr : (List (Int × (List Int))))] := by
 refine calls_of_W Tryz.func129 rfl rfl ?_
 have hC0 := Ctx.startIn hH hn
 unfold Slices.Insert_Limpl_Fact_impl_Fact at hF
 obtain ⟨m, rfl, hm, hb1, hlim, rfl⟩ := ins_some hF
 have hsub : sub a1 (m : Int) (a1.length : Int) = some (a1.drop m) := by unfold sub; rw [if_pos (by omega)]; simp
 have hb1' : (a3.length : Int) = 1 := by omega
 have hlim' : a1.length + 1 ≤ 4294967296 := by rw [LIM_eq] at hlim; exact hlim
 have hw1 : w64 ((a1.length : Int) + 1) = ((a1.length + 1 : Nat) : Int) := by rw [w64_id (by omega) (by omega)]; omega
 have hw2 : w64 (((a1.length + 1 : Nat) : Int) - (m : Int)) = ((a1.length + 1 - m : Nat) : Int) := by rw [w64_id (by omega) (by omega)]; omega
 have hw3 : w64 ((m : Int) + 1) = ((m + 1 : Nat) : Int) := by rw [w64_id (by omega) (by omega)]; omega
 refine W_seq_reg ?_
 refine WL_assign rfl rfl ?_
 refine WL_nil (W_seq_reg ?_)
 refine WL_move rfl rfl ?_
 refine WL_move rfl rfl ?_
 refine WL_slice_l Tryz.underlying31 ty88 (hC0.ro 0 rfl) hsub rfl rfl rfl (fun v1 h1 => ?_)
 refine WL_nil (W_seq_reg ?_)
 refine WL_move rfl rfl ?_
 refine WL_len Tryz.underlying31 (hC0.ro 1 rfl) rfl rfl ?_
 rw [hb1']
 refine WL_assign rfl rfl ?_
 refine WL_nil (W_seq (W_seq_reg ?_))
 refine WL_move rfl rfl ?_
 refine WL_eql rfl rfl rfl ?_
 refine WL_nil ?_
 refine W_cond_f rfl ?_
 refine W_skip (nrm_normal (W_seq_reg ?_))
 refine WL_move rfl rfl ?_
 refine WL_len Tryz.underlying31 (hC0.ro 0 rfl) rfl rfl ?_
 refine WL_assign rfl rfl ?_
 refine WL_nil (W_seq (W_seq_reg ?_))
 refine WL_move rfl rfl ?_
 refine WL_move rfl rfl ?_
 refine WL_eql rfl rfl rfl ?_
 by_cases hi : m = a1.length
 ·have e1 : a1.take m ++ a3 ++ a1.drop m = a1 ++ a3 := by rw [List.take_of_length_le (by omega), List.drop_of_length_le (by omega), List.append_nil]
  rw [e1, decide_eq_true (show (m : Int) = (a1.length : Int) by omega)]
  refine WL_nil ?_
  refine W_cond_t rfl ?_
  refine W_seq_reg ?_
  refine WL_move rfl rfl ?_
  refine WL_move rfl rfl ?_
  have happ : app a1 a3 = some (a1 ++ a3) := by unfold app; rw [if_pos (by omega)]
  refine WL_append_head hC0.swap 0 rfl Tryz.underlying31 ty88 rfl happ rfl rfl rfl (fun v2 w2 hC2 => ?_)
  refine WL_assign rfl rfl ?_
  refine WL_nil (W_ret (nrm_ret ?_))
  refine fn_ret1 rfl rfl ?_
  exact ⟨_, rfl, _, rfl, hC2⟩
 rw [decide_eq_false (show ¬ (m : Int) = (a1.length : Int) by omega)]
 refine WL_nil ?_
 refine W_cond_f rfl ?_
 refine W_skip (nrm_normal ?_)
 have hml : m < a1.length := by omega
 obtain ⟨b, c, row, T, cells, Fe, vb, vc, vrow, vT, vcells, Ge, rfl, rfl, h4, g4, h5, g5, h6, g6, h8, g8, h10, h11, h12, h13, h14, h15, hK⟩ := hC0.ins_raw (by intro e; rw [e] at hml; simp at hml) (by intro e; rw [e] at hb1; simp at hb1)
 have hcl := elems_len h5
 have hvl := elems_len g5
 rw [hb1] at hvl
 have hyl : (cells.drop (m * Rep.sz (Int × (List Int)))).length = (a1.length - m) * Rep.sz (Int × (List Int)) := by rw [List.length_drop, hcl, Nat.sub_mul]
 have hvr : (vrow.toList.drop 0).take (1 * Rep.sz (Int × (List Int))) = vcells := by rw [List.drop_zero, ← g6, hb1]
 have hv1 := elems_one g5
 have hy1 : ∀ u ∈ cells.drop (m * Rep.sz (Int × (List Int))), u.oneCell' = true := fun u hu => elems_one h5 u (List.mem_of_mem_drop hu)
 refine W_seq (W_seq_reg ?_)
 refine WL_move rfl rfl ?_
 refine WL_move rfl rfl ?_
 refine WL_add rfl rfl rfl ?_
 rw [hw1]
 refine WL_move rfl rfl ?_
 refine WL_cap Tryz.underlying31 rfl rfl ?_
 refine WL_gtr rfl rfl rfl ?_
 by_cases hr : c < a1.length + 1
 ·rw [decide_eq_true (show (c : Int) < ((a1.length + 1 : Nat) : Int) by omega)]
  refine WL_nil ?_
  refine W_cond_t rfl ?_
  refine W_seq_reg ?_
  refine WL_move rfl rfl ?_
  refine WL_move rfl rfl ?_
  refine WL_sl_h Tryz.underlying31 ty88 (show m ≤ c by omega) (by omega) rfl rfl rfl ?_
  refine WL_move rfl rfl ?_
  refine WL_move rfl rfl ?_
  refine WL_add rfl rfl rfl ?_
  rw [hw1]
  refine WL_move rfl rfl ?_
  refine WL_sub rfl rfl rfl ?_
  rw [hw2]
  refine WL_zeros Tryz.underlying31 ty88 rfl Tryz.underlying3 h4 (take_cells h6 hm) (by rw [List.length_take, hcl, Nat.min_eq_left (Nat.mul_le_mul_right _ hm)]) (show 0 < a1.length + 1 - m by omega) (by omega) (by rw [LIM_eq]; omega) rfl rfl rfl (fun c' row' k1 k2 k3 k4 => ?_)
  rw [show m + (a1.length + 1 - m) = a1.length + 1 by omega] at k3 ⊢
  obtain ⟨q1, q2, q3⟩ := row_grow (row' := row') hm hcl hvl k1 k2 k3
  obtain ⟨w1, hw1e⟩ : ∃ w1, w1 = w0.drew.alloc (.cells row' 88) := ⟨_, rfl⟩
  have hA1 : w1.heap[w0.heap.size]? = some (.cells row' 88 (0, 0)) := by rw [hw1e]; exact heap_alloc_new w0.drew _
  have hB1 : Below w0.heap.size w0 w1 := by rw [hw1e]; exact below_new w0 _
  rw [← hw1e]
  refine WL_assign rfl rfl ?_
  refine WL_nil (W_seq_reg ?_)
  refine WL_move rfl rfl ?_
  refine WL_move rfl rfl ?_
  refine WL_sl_l Tryz.underlying31 ty88 (show m < c' by omega) (show m ≤ a1.length + 1 by omega) k3 rfl rfl rfl ?_
  refine WL_move rfl rfl ?_
  refine WL_copy (m := 1) Tryz.underlying31 ty88 hA1 ((hB1.block vb (heap_lt g4)).trans g4) (by show Nat.min a3.length (a1.length + 1 - m) = 1; rw [hb1]; exact Nat.min_eq_left (by omega)) hvr hvl hv1 (by rw [hvl, k2, Nat.zero_add, ← Nat.add_mul]; exact Nat.mul_le_mul_right _ (by omega)) rfl rfl rfl ?_
  generalize hr1 : (row'.toList.take (0 + m * Rep.sz (Int × (List Int))) ++ vcells ++ row'.toList.drop (0 + m * Rep.sz (Int × (List Int)) + vcells.length)).toArray = r1 at q1 q2 q3 ⊢
  have hA2 : (w1.setRow w0.heap.size r1).heap[w0.heap.size]? = some (.cells r1 88 (0, 0)) := setRow_heap _ _ _ _ _ _ hA1
  have hB2 : Below w0.heap.size w0 (w1.setRow w0.heap.size r1) := below_row hB1 (Nat.le_refl _)
  refine WL_nil (W_seq ?_)
  refine W_drawn 9 rfl hmix (fun w3 hB3 => ?_)
  refine WA_take 0 rfl (by kernel_rfl) (by kernel_rfl) (by kernel_rfl) rfl (fl_move rfl) ?_
  refine WL_move rfl rfl ?_
  refine WL_nil ?_
  refine WA_take 1 rfl (by kernel_rfl) (by kernel_rfl) (by kernel_rfl) rfl (fl_move rfl) ?_
  refine WL_move rfl rfl ?_
  refine WL_nil ?_
  refine WA_take 2 rfl (by kernel_rfl) (by kernel_rfl) (by kernel_rfl) rfl (fl_move rfl) ?_
  refine WL_move rfl rfl ?_
  refine WL_nil ?_
  refine WA_take 3 rfl (by kernel_rfl) (by kernel_rfl) (by kernel_rfl) rfl (fl_add rfl rfl) ?_
  refine WL_add rfl rfl rfl ?_
  rw [hw3]
  refine WL_nil ?_
  refine WA_take 4 rfl (by kernel_rfl) (by kernel_rfl) (by kernel_rfl) rfl (fl_sl_l Tryz.underlying31 ty88 (show m + 1 < c' by omega) (show m + 1 ≤ a1.length + 1 by omega) k3 rfl rfl) ?_
  refine WL_sl_l Tryz.underlying31 ty88 (show m + 1 < c' by omega) (show m + 1 ≤ a1.length + 1 by omega) k3 rfl rfl rfl ?_
  refine WL_nil ?_
  refine WA_take 5 rfl (by kernel_rfl) (by kernel_rfl) (by kernel_rfl) rfl (fl_move rfl) ?_
  refine WL_move rfl rfl ?_
  refine WL_nil ?_
  refine WA_take 6 rfl (by kernel_rfl) (by kernel_rfl) (by kernel_rfl) rfl (fl_move rfl) ?_
  refine WL_move rfl rfl ?_
  refine WL_nil ?_
  refine WA_take 7 rfl (by kernel_rfl) (by kernel_rfl) (by kernel_rfl) rfl (fl_sl_l Tryz.underlying31 ty88 (show m < c by omega) hm h10 rfl rfl) ?_
  refine WL_sl_l Tryz.underlying31 ty88 (show m < c by omega) hm h10 rfl rfl rfl ?_
  refine WL_nil ?_
  have hA3 : w3.heap[w0.heap.size]? = some (.cells r1 88 (0, 0)) := (hB3.block _ (heap_lt hA2)).trans hA2
  have hB30 : Below w0.heap.size w0 w3 := hB2.trans ⟨hB3.os, hB3.tape, hB3.output, hB3.size, fun k hk => hB3.block k (Nat.lt_of_lt_of_le hk hB2.size)⟩
  refine WA_one 8 (by kernel_rfl) rfl ?_
  refine WL_copy (m := a1.length - m) Tryz.underlying31 ty88 hA3 ((hB30.block b (heap_lt h4)).trans h4) (by show Nat.min (a1.length - m) (a1.length + 1 - (m + 1)) = a1.length - m; rw [show a1.length + 1 - (m + 1) = a1.length - m by omega]; exact Nat.min_self _) (drop_cells h6) hyl hy1 (by rw [hyl, q3, Nat.zero_add, ← Nat.add_mul]; exact Nat.mul_le_mul_right _ (by omega)) rfl rfl rfl ?_
  generalize hr2 : (r1.toList.take (0 + (m + 1) * Rep.sz (Int × (List Int))) ++ cells.drop (m * Rep.sz (Int × (List Int))) ++ r1.toList.drop (0 + (m + 1) * Rep.sz (Int × (List Int)) + (cells.drop (m * Rep.sz (Int × (List Int)))).length)).toArray = r2 at q1 q2 ⊢
  refine WL_nil ?_
  refine WA_done (by kernel_rfl) ?_
  refine nrm_normal (W_seq_reg ?_)
  refine WL_move rfl rfl ?_
  refine WL_assign rfl rfl ?_
  refine WL_nil (W_ret (nrm_ret ?_))
  refine fn_ret1 rfl rfl ?_
  have hB4 : Below w0.heap.size w0 (w3.setRow w0.heap.size r2) := below_row hB30 (Nat.le_refl _)
  have hin : ∀ k ∈ Fe ++ Ge, k < w0.heap.size := fun k hk => (List.mem_append.1 hk).elim (elems_inh h5 k) (elems_inh g5 k)
  obtain ⟨F', e1, e2, e3⟩ := ins_val (w' := w3.setRow w0.heap.size r2) h5 g5 h14 hm hb1 (g := w0.heap.size) (fun h => absurd (hin _ h) (Nat.lt_irrefl _)) (setRow_heap _ _ _ _ _ _ hA3) (fun k hk => hB4.block k (hin k hk)) q1 q2 k3 k4
  exact ⟨_, rfl, _, rfl, hK _ _ _ F' ⟨hB4.os, hB4.tape, hB4.output, hB4.size, fun k hk _ => hB4.block k hk⟩ e1 e2 (fun k hk => (e3 k hk).elim (fun h => .inr (.inr (Nat.le_of_eq h.symm))) (fun h => .inr (.inl h)))⟩
 rw [decide_eq_false (show ¬ (c : Int) < ((a1.length + 1 : Nat) : Int) by omega)]
 refine WL_nil ?_
 refine W_cond_f rfl ?_
 refine W_skip (nrm_normal ?_)
 have k3 : a1.length + 1 ≤ c := by omega
 obtain ⟨q1, q2, q3⟩ := row_shift hm hcl hvl h6 h8 k3
 refine W_seq_reg ?_
 refine WL_move rfl rfl ?_
 refine WL_move rfl rfl ?_
 refine WL_move rfl rfl ?_
 refine WL_add rfl rfl rfl ?_
 rw [hw1]
 refine WL_sl_h Tryz.underlying31 ty88 k3 (by omega) rfl rfl rfl ?_
 refine WL_assign rfl rfl ?_
 refine WL_nil (W_seq (W_seq_reg ?_))
 refine WL_move rfl rfl ?_
 refine WL_move rfl rfl ?_
 refine WL_move rfl rfl ?_
 refine WL_move rfl rfl ?_
 refine WL_add rfl rfl rfl ?_
 rw [hw3]
 refine WL_sl_l Tryz.underlying31 ty88 (show m + 1 < c by omega) (show m + 1 ≤ a1.length + 1 by omega) k3 rfl rfl rfl ?_
 refine WL_apart (R := 4) (run_callFunc_extern Tryz.func179 (by kernel_rfl) (by kernel_rfl) (by kernel_rfl) (by kernel_rfl)) Tryz.underlying31 ty88 h13 h4 g4 (by rw [h8]; exact Nat.ne_of_gt (Nat.mul_pos (by omega) (by decide))) rfl rfl rfl ?_
 refine WL_not rfl rfl ?_
 refine WL_nil ?_
 refine W_cond_t rfl ?_
 refine W_seq ?_
 refine W_drawn 9 rfl hmix (fun w3 hB3 => ?_)
 refine WA_take 0 rfl (by kernel_rfl) (by kernel_rfl) (by kernel_rfl) rfl (fl_move rfl) ?_
 refine WL_move rfl rfl ?_
 refine WL_nil ?_
 refine WA_take 1 rfl (by kernel_rfl) (by kernel_rfl) (by kernel_rfl) rfl (fl_move rfl) ?_
 refine WL_move rfl rfl ?_
 refine WL_nil ?_
 refine WA_take 2 rfl (by kernel_rfl) (by kernel_rfl) (by kernel_rfl) rfl (fl_move rfl) ?_
 refine WL_move rfl rfl ?_
 refine WL_nil ?_
 refine WA_take 3 rfl (by kernel_rfl) (by kernel_rfl) (by kernel_rfl) rfl (fl_add rfl rfl) ?_
 refine WL_add rfl rfl rfl ?_
 rw [hw3]
 refine WL_nil ?_
 refine WA_take 4 rfl (by kernel_rfl) (by kernel_rfl) (by kernel_rfl) rfl (fl_sl_l Tryz.underlying31 ty88 (show m + 1 < c by omega) (show m + 1 ≤ a1.length + 1 by omega) k3 rfl rfl) ?_
 refine WL_sl_l Tryz.underlying31 ty88 (show m + 1 < c by omega) (show m + 1 ≤ a1.length + 1 by omega) k3 rfl rfl rfl ?_
 refine WL_nil ?_
 refine WA_take 5 rfl (by kernel_rfl) (by kernel_rfl) (by kernel_rfl) rfl (fl_move rfl) ?_
 refine WL_move rfl rfl ?_
 refine WL_nil ?_
 refine WA_take 6 rfl (by kernel_rfl) (by kernel_rfl) (by kernel_rfl) rfl (fl_move rfl) ?_
 refine WL_move rfl rfl ?_
 refine WL_nil ?_
 refine WA_take 7 rfl (by kernel_rfl) (by kernel_rfl) (by kernel_rfl) rfl (fl_sl_l Tryz.underlying31 ty88 (show m < c by omega) (show m ≤ a1.length + 1 by omega) k3 rfl rfl) ?_
 refine WL_sl_l Tryz.underlying31 ty88 (show m < c by omega) (show m ≤ a1.length + 1 by omega) k3 rfl rfl rfl ?_
 refine WL_nil ?_
 have hA3 : w3.heap[b]? = some (.cells row T (0, 0)) := (hB3.block _ (heap_lt h4)).trans h4
 refine WA_one 8 (by kernel_rfl) rfl ?_
 refine WL_copy (m := a1.length - m) Tryz.underlying31 ty88 hA3 hA3 (by show Nat.min (a1.length + 1 - m) (a1.length + 1 - (m + 1)) = a1.length - m; rw [show a1.length + 1 - (m + 1) = a1.length - m by omega]; exact Nat.min_eq_right (by omega)) (drop_cells h6) hyl hy1 (by rw [hyl, h8, Nat.zero_add, ← Nat.add_mul]; exact Nat.mul_le_mul_right _ (by omega)) rfl rfl rfl ?_
 generalize hr1 : (row.toList.take (0 + (m + 1) * Rep.sz (Int × (List Int))) ++ cells.drop (m * Rep.sz (Int × (List Int))) ++ row.toList.drop (0 + (m + 1) * Rep.sz (Int × (List Int)) + (cells.drop (m * Rep.sz (Int × (List Int)))).length)).toArray = r1 at q1 q2 q3 ⊢
 have hA4 : (w3.setRow b r1).heap[b]? = some (.cells r1 T (0, 0)) := setRow_heap _ _ _ _ _ _ hA3
 have g43 : (w3.setRow b r1).heap[vb]? = some (.cells vrow vT (0, 0)) := (setRow_other _ _ _ _ h13).trans ((hB3.block _ (heap_lt g4)).trans g4)
 refine WL_nil ?_
 refine WA_done (by kernel_rfl) ?_
 refine nrm_normal (W_seq_reg ?_)
 refine WL_move rfl rfl ?_
 refine WL_move rfl rfl ?_
 refine WL_sl_l Tryz.underlying31 ty88 (show m < c by omega) (show m ≤ a1.length + 1 by omega) k3 rfl rfl rfl ?_
 refine WL_move rfl rfl ?_
 refine WL_copy (m := 1) Tryz.underlying31 ty88 hA4 g43 (by show Nat.min a3.length (a1.length + 1 - m) = 1; rw [hb1]; exact Nat.min_eq_left (by omega)) hvr hvl hv1 (by rw [hvl, q3, Nat.zero_add, ← Nat.add_mul]; exact Nat.mul_le_mul_right _ (by omega)) rfl rfl rfl ?_
 generalize hr2 : (r1.toList.take (0 + m * Rep.sz (Int × (List Int))) ++ vcells ++ r1.toList.drop (0 + m * Rep.sz (Int × (List Int)) + vcells.length)).toArray = r2 at q1 q2 ⊢
 refine WL_nil (W_seq_reg ?_)
 refine WL_move rfl rfl ?_
 refine WL_assign rfl rfl ?_
 refine WL_nil (W_ret (nrm_ret ?_))
 refine fn_ret1 rfl rfl ?_
 have hK4 : Keep [b] w0 ((w3.setRow b r1).setRow b r2) := Keep.row (Keep.row ⟨hB3.os, hB3.tape, hB3.output, hB3.size, fun k hk _ => hB3.block k hk⟩)
 have hin : ∀ k ∈ Fe ++ Ge, k < w0.heap.size := fun k hk => (List.mem_append.1 hk).elim (elems_inh h5 k) (elems_inh g5 k)
 obtain ⟨F', e1, e2, e3⟩ := ins_val (w' := (w3.setRow b r1).setRow b r2) h5 g5 h14 hm hb1 (g := b) h15 (setRow_heap _ _ _ _ _ _ hA4) (fun k hk => hK4.block k (hin k hk) (by simp only [List.mem_singleton]; intro e; exact h15 (e ▸ hk))) q1 q2 k3 h11
 exact ⟨_, rfl, _, rfl, hK _ _ _ F' hK4 e1 e2 (fun k hk => (e3 k hk).elim .inl (fun h => .inr (.inl h)))⟩

theorem c_Slices_Clone_Lint_int {w0 : World} (a1 : (List Int)) (u1 : Value) (g1 : RO [] w0 u1 a1) (rr : (List Int)) (hF : Slices.Clone_Lint_int a1 = some rr) :
 Calls Tryz.prog 181 [u1].toArray w0 fun e w' => ∃ v, e = .returned v ∧ Res w0 rr v w' := by
 refine calls_of_W Tryz.func181 rfl rfl ?_
 have hC0 := Ctx.start w0
 unfold Slices.Clone_Lint_int at hF
 refine W_seq_reg ?_
 refine WL_assign rfl rfl ?_
 refine WL_nil (W_seq (W_seq_reg ?_))
 refine WL_move rfl rfl ?_
 refine WL_isnil Tryz.underlying24 g1 rfl rfl (fun bn1 hb1 => ?_)
 refine WL_nil ?_
 rcases btf bn1 with hc1 | hc1
 ·have ha := hb1 hc1
  subst hc1
  subst ha
  replace hF : (some ([]) : Option (List Int)) = some rr := by simpa [app] using hF
  refine W_cond_t rfl ?_
  refine W_seq_reg ?_
  refine WL_assign rfl rfl ?_
  refine WL_nil (W_ret (nrm_ret ?_))
  have hq1 := Option.some.inj hF
  subst hq1
  refine fn_ret1 rfl rfl ?_
  exact ⟨_, rfl, nil_res hC0⟩
 subst hc1
 refine W_cond_f rfl ?_
 refine W_skip (nrm_normal (W_seq_reg ?_))
 refine WL_buildSlice (vs := []) hC0 Tryz.underlying24 ty3 rfl rfl rfl rfl (by simp) rfl rfl (fun b1 w1 hC1 hB1 => ?_)
 have hC2 := hC1.row0 (α := Int)
 have hC3 := hC2.front 1 rfl
 dsimp only [List.eraseIdx, List.cons_append, List.nil_append, List.append_nil] at hC3
 have hC4 : Ctx [] w0 w1 (Item.own (.slice (some ⟨b1, 0, none⟩) 0 0) (([] : List Int) : List Int) :: []) := hC3.rowOwn (by simp [maxLen])
 refine WL_move rfl rfl ?_
 obtain ⟨x1, hx1, hF⟩ := bind_some hF
 refine WL_append_flat (α := Int) hC4 0 rfl g1 hC4.keep Tryz.underlying24 ty3 rfl hx1 rfl rfl rfl (fun v1 w2 hC5 => ?_)
 try dsimp only [List.set] at hC5
 refine WL_assign rfl rfl ?_
 refine WL_nil (W_ret ?_)
 have hq2 := Option.some.inj hF
 subst hq2
 refine fn_ret1 rfl rfl ?_
 exact ⟨_, rfl, own_res hC5 0 rfl⟩

theorem c_M_copyFact {w0 : World} (a1 : (Int × (List Int))) (u1 : Value) (g1 : RO [] w0 u1 a1.2) (rr : (Int × (List Int))) (hF : M.copyFact a1 = some rr) :
 Calls Tryz.prog 130 [(.agg #[(.int .i64 a1.1), u1])].toArray w0 fun e w' => ∃ v, e = .returned v ∧ Res w0 rr v w' := by
 refine calls_of_W Tryz.func130 rfl rfl ?_
 have hC0 := Ctx.start w0
 unfold M.copyFact at hF
 refine W_seq_reg ?_
 refine WL_boxK (cs := [(.int .i64 a1.1), u1]) hC0 rfl rfl rfl (fun b1 w1 hC1 hB1 hN1 => ?_)
 refine WL_allocK hC1 zero88 rfl rfl (fun b2 w2 hC2 hB2 hN2 => ?_)
 refine WL_nil (W_seq ?_)
 refine W_drawn 7 rfl hmix (fun w3 hB3 => ?_)
 have hC3 := hC2.grow hB3
 refine WA_tk 0 (by kernel_rfl) rfl rfl (fl_field Tryz.underlying88 rfl rfl (fun w => ⟨_, Tryz.sizeOf3 w⟩) rfl) ?_
 refine WL_field Tryz.underlying88 rfl rfl (fun w => ⟨_, Tryz.sizeOf3 w⟩) rfl rfl ?_
 refine WL_nil ?_
 refine WA_tk 2 (by kernel_rfl) rfl rfl (fl_field Tryz.underlying88 rfl rfl (fun w => ⟨_, Tryz.sizeOf24 w⟩) rfl) ?_
 refine WL_field Tryz.underlying88 rfl rfl (fun w => ⟨_, Tryz.sizeOf24 w⟩) rfl rfl ?_
 refine WL_nil ?_
 obtain ⟨x1, hr1, hF⟩ := bind_some hF
 refine WA.sub (l' := [(0, (.agg #[(.int .i64 a1.1), u1])), (1, (ptr b1 0)), (2, (ptr b2 0)), (3, (ptr b1 0)), (5, (ptr b1 1))]) ?_ ⟨rfl, rfl, rfl, rfl, rfl, trivial⟩
 refine WA_postsE [⟨1, [], fun vs => PW.val (.int .i64 a1.1), []⟩, ⟨3, [], fun vs => PW.val u1, []⟩, ⟨4, [], fun vs => PW.own x1, []⟩] [[], [], [3]] 2 rfl (by kernel_rfl) (by kernel_rfl) rfl ?_ ?_
 ·refine StepsE_cons rfl ?_ ?_
  ·intro w5 hB5
   refine DepsE_nil ?_
   refine ⟨_, rfl, ?_⟩
   refine WL_load_box (hC3.grow hB5) 1 rfl rfl Tryz.isAgg3 rfl rfl ?_
   refine WL_nil ?_
   exact FinE_val (Below.refl _ _) rfl rfl ⟨rfl, rfl⟩
  refine StepsE_cons rfl ?_ ?_
  ·intro w5 hB5
   refine DepsE_nil ?_
   refine ⟨_, rfl, ?_⟩
   refine WL_load_box (hC3.grow hB5) 1 rfl rfl Tryz.isAgg24 rfl rfl ?_
   refine WL_nil ?_
   exact FinE_val (Below.refl _ _) rfl rfl ⟨rfl, rfl⟩
  refine StepsE_cons rfl ?_ ?_
  ·intro w5 hB5
   refine DepsE_cons rfl rfl rfl ?_
   rintro _ _ ⟨rfl, rfl⟩ _
   refine DepsE_nil ?_
   refine ⟨_, rfl, ?_⟩
   refine WL_call Tryz.call181 rfl rfl (c_Slices_Clone_Lint_int a1.2 u1 (g1.now (hC3.keep.then hB5)) x1 hr1) ?_
   rintro v1 w4 ⟨hB4, F1, hv1, hn1, hb1⟩
   refine WL_nil ?_
   exact FinE_own hB4 rfl rfl hv1 hn1 hb1 (Val.inh hv1)
  exact StepsE_nil
 intro w6 hB6
 refine AllE_cons rfl rfl rfl ?_
 rintro _ _ ⟨rfl, rfl⟩
 refine AllE_cons rfl rfl rfl ?_
 rintro _ _ ⟨rfl, rfl⟩
 refine AllE_cons rfl rfl rfl ?_
 intro v1 F1 hv1
 refine AllE_nil ?_
 intro hn2 hb2
 have hC4 := hC3.pushL hB6 (Bs := [Item.own v1 (x1 : (List Int))]) (Fs := [F1]) ⟨F1, _, rfl, hv1, rfl⟩ (by simpa using hn2) (fun b h => (hb2 b (by simpa using h)).1)
 refine WA_tk 5 (by kernel_rfl) rfl rfl (fl_build (vs := [(0, (.int .i64 a1.1)), (1, v1)]) rfl rfl (built88_0_1 rfl (ro_cells (hC4.ro 0 rfl)))) ?_
 refine WL_build (vs := [(0, (.int .i64 a1.1)), (1, v1)]) rfl rfl rfl (built88_0_1 rfl (ro_cells (hC4.ro 0 rfl))) ?_
 refine WL_nil ?_
 refine WA_one 6 (by kernel_rfl) rfl ?_
 refine WL_store_box_aggK (cs' := [(.int .i64 a1.1), v1]) (new := [(.int .i64 a1.1), v1]) hC4 1 rfl rfl (by intro v hv; simp only [List.mem_cons, List.not_mem_nil, or_false] at hv; rcases hv with rfl | rfl; exact rfl; exact (ro_one (hC4.ro 0 rfl))) rfl Tryz.sizeOf88 rfl rfl (fun w7 hC5 hKp1 => ?_)
 try dsimp only [List.set] at hC5
 have hk1 := Keep.over ((((Keep.of hB1).then hB2).then hB3).then hB6) (Nat.le_trans (Keep.of hB1).size hN2) hKp1
 have hk2 := Keep.over (((Keep.of hB2).then hB3).then hB6) hN2 hKp1
 refine WL_nil ?_
 refine WA_done (by kernel_rfl) ?_
 refine nrm_normal (W_ret ?_)
 have hq1 := Option.some.inj hF
 subst hq1
 refine fn_retG1 rfl (rv_cell_agg (cs' := [(.int .i64 a1.1), v1]) hC5 (i := 1) rfl rfl rfl Tryz.isAgg88 Tryz.sizeOf88 rfl) ?_
 have hC6 := own_st88 a1.1 v1 x1 hC5
 exact ⟨_, rfl, own_res hC6 0 rfl⟩

theorem c_Slices_IndexFunc_Limpl_Fact_impl_Fact_M_added_c1 {w0 : World} (a1 : (List (Int × (List Int)))) (u1 : Value) (g1 : RO [] w0 u1 a1) (pb1 : Nat) (ax1 : (Int × (List Int))) (g2 : ROAt [] w0 pb1 0 ax1) (rr : Int) (hF : Slices.IndexFunc_Limpl_Fact_impl_Fact_M_added_c1 a1 ax1 = some rr) :
 Calls Tryz.prog 126 [u1, (.func (.func 127) #[] #[(ptr pb1 0)])].toArray w0 fun e w' => ∃ v, e = .returned v ∧ Res w0 rr v w' := by
 refine calls_of_W Tryz.func126 rfl rfl ?_
 have hC0 := Ctx.start w0
 unfold Slices.IndexFunc_Limpl_Fact_impl_Fact_M_added_c1 at hF
 refine W_seq_reg ?_
 refine WL_assign rfl rfl ?_
 refine WL_nil (W_seq (W_seq_reg ?_))
 refine WL_move rfl rfl ?_
 refine WL_len Tryz.underlying31 g1 rfl rfl ?_
 refine WL_move rfl rfl ?_
 refine WL_nil ?_
 obtain ⟨r1, hr1, hF⟩ := bind_some hF
 refine W_norm (fun l w => .inl () = r1 ∧ l = [] ∧ Below w0.heap.size w0 w ∧ Ctx [] w0 w []) ?_ ?_
 ·refine W_block ?_
  refine W.sub (l' := [(0, u1), (1, (.func (.func 127) #[] #[(ptr pb1 0)])), (7, (.int .i64 (List.length a1 : Int))), (8, (.int .i64 0))]) ?_ ⟨rfl, rfl, rfl, rfl, trivial⟩
  refine W_loop (fun k l w => ∃ x1 : Int, l = [(0, u1), (1, (.func (.func 127) #[] #[(ptr pb1 0)])), (7, (.int .i64 (List.length a1 : Int))), (8, (.int .i64 x1))] ∧ Below w0.heap.size w0 w ∧ Ctx [] w0 w [] ∧ Slices.IndexFunc_Limpl_Fact_impl_Fact_M_added_c1_l1 a1 ax1 k x1 = some r1) FUEL ⟨0, rfl, (Below.refl _ _), hC0, hr1⟩ ?_
  clear hr1
  rintro k1 _ w1 ⟨x1, rfl, hB1, hC1, hL1⟩
  cases k1 with
  | zero => rw [Slices.IndexFunc_Limpl_Fact_impl_Fact_M_added_c1_l1] at hL1; cases hL1
  | succ k1 =>
   rw [Slices.IndexFunc_Limpl_Fact_impl_Fact_M_added_c1_l1] at hL1
   refine W_seq_reg ?_
   refine WL_lss rfl rfl rfl ?_
   refine WL_nil (W_seq ?_)
   refine W_cond rfl (fun hc1 => ?_) (fun hc1 => ?_)
   ·replace hL1 := ite_t hL1 hc1
    refine W_skip (nrm_normal (W_seq (W_block (W_seq_reg ?_))))
    refine WL_move rfl rfl ?_
    refine WL_assign rfl rfl ?_
    refine WL_nil (W_seq_reg ?_)
    refine WL_move rfl rfl ?_
    refine WL_move rfl rfl ?_
    refine WL_move rfl rfl ?_
    obtain ⟨x2, hx1, hL1⟩ := bind_some hL1
    refine WL_index Tryz.underlying31 ty88 g1 hx1 rfl rfl rfl (fun b1 o1 h1 => ?_)
    refine WL_load ty88 h1 hC1.keep rfl rfl (fun v1 h2 => ?_)
    obtain ⟨v2, rfl, h3⟩ := ro_st88 h2
    obtain ⟨x3, hr2, hL1⟩ := bind_some hL1
    refine WL_callv (cap := [(ptr pb1 0)]) Tryz.call127 rfl rfl rfl (c_M_added_c1 x2 v2 (h3.now hC1.keep) pb1 ax1 (g2.now hC1.keep) x3 hr2) ?_
    intro _ w2 hv1
    obtain ⟨rfl, hB2⟩ := res_bool hv1
    have hC2 := hC1.grow hB2
    refine WL_nil ?_
    refine W_cond rfl (fun hc2 => ?_) (fun hc2 => ?_)
    ·replace hL1 := ite_t hL1 hc2
     refine W_seq_reg ?_
     refine WL_move rfl rfl ?_
     refine WL_assign rfl rfl ?_
     refine WL_nil (W_ret (blk_ret (nrm_ret (nrm_ret (blk_ret (nrm_ret (nrm_ret ?_)))))))
     have hq1 := Option.some.inj hL1
     subst hq1
     dsimp only at hF
     have hq2 := Option.some.inj hF
     subst hq2
     refine fn_ret1 rfl rfl ?_
     exact ⟨_, rfl, int_res hC2 _⟩
    replace hL1 := ite_f hL1 hc2
    refine W_skip (blk_normal (nrm_normal (W_reg ?_)))
    refine WL_add rfl rfl rfl ?_
    refine WL_move rfl rfl ?_
    refine WL_nil ?_
    refine nrm_sub (l' := [(0, u1), (1, (.func (.func 127) #[] #[(ptr pb1 0)])), (7, (.int .i64 (List.length a1 : Int))), (8, (.int .i64 (w64 (x1 + 1))))]) ⟨rfl, rfl, rfl, rfl, trivial⟩ ?_
    exact ⟨k1, Nat.lt_succ_self _, w64 (x1 + 1), rfl, ((Keep.of hB1).then hB2).below, hC2, hL1⟩
   replace hL1 := ite_f hL1 hc1
   refine W_exit (nrm_exit (nrm_exit (blk_exit ?_)))
   have hq3 := Option.some.inj hL1
   subst hq3
   refine nrm_sub (l' := []) trivial ?_
   exact ⟨rfl, rfl, (Keep.of hB1).below, hC1⟩
 rintro l2 _ w3 hs2 ⟨rfl, rfl, hB3, hC3⟩
 try dsimp only at hF
 refine nrm_sub' hs2 ?_
 clear hs2
 refine W_seq_reg ?_
 refine WL_assign rfl rfl ?_
 refine WL_nil (W_ret ?_)
 have hq4 := Option.some.inj hF
 subst hq4
 refine fn_ret1 rfl rfl ?_
 exact ⟨_, rfl, int_res hC3 _⟩

theorem c_M_added {w0 : World} {Fs : List (List Nat)} (a1 : (List (Int × (List Int)))) (u1 : Value) (a2 : (Int × (List Int))) (u2 : Value) (g2 : RO Fs.flatten w0 u2 a2.2) (hH : Hold [Item.own u1 (a1 : (List (Int × (List Int))))] w0 Fs) (hn : Fs.flatten.Nodup) (rr : (List (Int × (List Int)))) (hF : M.added a1 a2 = some rr) :
 Calls Tryz.prog 68 [u1, (.agg #[(.int .i64 a2.1), u2])].toArray w0 fun e w' => ∃ v, e = .returned v ∧ ∃ q0 : Value, v = q0 ∧ Ctx Fs.flatten w0 w' [Item.own q0 (rr : (List (Int × (List Int))))] := by
 refine calls_of_W Tryz.func68 rfl rfl ?_
 have hC0 := Ctx.startIn hH hn
 unfold M.added at hF
 refine W_seq_reg ?_
 refine WL_boxK (cs := [(.int .i64 a2.1), u2]) hC0 rfl rfl rfl (fun b1 w1 hC1 hB1 hN1 => ?_)
 refine WL_assign rfl rfl ?_
 refine WL_nil (W_seq (W_seq_reg ?_))
 refine WL_move rfl rfl ?_
 refine WL_load_box_agg [(.int .i64 a2.1), u2] hC1 0 rfl rfl rfl Tryz.isAgg88 Tryz.sizeOf88 rfl rfl ?_
 obtain ⟨x1, hr1, hF⟩ := bind_some hF
 refine WL_call Tryz.call125 rfl rfl (c_M_HasFact a1 u1 ((hC1.ro 1 rfl).now (Keep.refl _ _)) (a2.1, a2.2) u2 (g2.now hC1.keep) x1 hr1) ?_
 intro _ w2 hv1
 obtain ⟨rfl, hB2⟩ := res_bool hv1
 have hC2 := hC1.grow hB2
 refine WL_nil ?_
 refine W_cond rfl (fun hc1 => ?_) (fun hc1 => ?_)
 ·replace hF := ite_t hF hc1
  refine W_seq_reg ?_
  refine WL_move rfl rfl ?_
  refine WL_assign rfl rfl ?_
  refine WL_nil (W_ret (nrm_ret ?_))
  have hq1 := Option.some.inj hF
  subst hq1
  refine fn_ret1 rfl rfl ?_
  have hC3 := hC2.f1
  have hC4 := hC3.h1
  exact ⟨_, rfl, _, rfl, hC4⟩
 replace hF := ite_f hF hc1
 refine W_skip (nrm_normal (W_seq_reg ?_))
 refine WL_move rfl rfl ?_
 refine WL_makeFunc rfl rfl ?_
 obtain ⟨x2, hr2, hF⟩ := bind_some hF
 refine WL_call Tryz.call126 rfl rfl (c_Slices_IndexFunc_Limpl_Fact_impl_Fact_M_added_c1 a1 u1 ((hC2.ro 1 rfl).now (Keep.refl _ _)) b1 (a2.1, a2.2) (hC2.boxAt 0 rfl (repw_pair repw_int (repw_slice (g2.now hC2.keep)))) x2 hr2) ?_
 intro _ w3 hv2
 obtain ⟨rfl, hB3⟩ := res_int hv2
 have hC5 := hC2.grow hB3
 refine WL_assign rfl rfl ?_
 refine WL_nil (W_seq (W_seq_reg ?_))
 refine WL_move rfl rfl ?_
 refine WL_lss rfl rfl rfl ?_
 refine WL_nil ?_
 obtain ⟨r1, hr3, hF⟩ := bind_some hF
 refine W_norm (fun l w => ∃ x3 : Int, x3 = r1 ∧ l = [(0, u1), (3, (ptr b1 0)), (5, (.int .i64 x3))] ∧ Below w3.heap.size w3 w ∧ Ctx Fs.flatten w0 w [Item.box b1 [(.int .i64 a2.1), u2], Item.own u1 (a1 : (List (Int × (List Int))))]) ?_ ?_
 ·refine W_cond rfl (fun hc2 => ?_) (fun hc2 => ?_)
  ·replace hr3 := ite_t hr3 hc2
   refine W_reg ?_
   refine WL_move rfl rfl ?_
   refine WL_len Tryz.underlying31 (hC5.ro 1 rfl) rfl rfl ?_
   refine WL_assign rfl rfl ?_
   refine WL_nil ?_
   have hq2 := Option.some.inj hr3
   subst hq2
   refine nrm_sub (l' := [(0, u1), (3, (ptr b1 0)), (5, (.int .i64 (List.length a1 : Int)))]) ⟨rfl, rfl, rfl, trivial⟩ ?_
   exact ⟨(List.length a1 : Int), rfl, rfl, (Below.refl _ _), hC5⟩
  replace hr3 := ite_f hr3 hc2
  refine W_skip ?_
  have hq3 := Option.some.inj hr3
  subst hq3
  refine nrm_sub (l' := [(0, u1), (3, (ptr b1 0)), (5, (.int .i64 x2))]) ⟨rfl, rfl, rfl, trivial⟩ ?_
  exact ⟨x2, rfl, rfl, (Below.refl _ _), hC5⟩
 rintro l1 _ w4 hs1 ⟨x3, rfl, rfl, hB4, hC6⟩
 try dsimp only at hF
 refine nrm_sub' hs1 ?_
 clear hs1
 refine W_seq_reg ?_
 refine WL_move rfl rfl ?_
 refine WL_move rfl rfl ?_
 refine WL_load_box_agg [(.int .i64 a2.1), u2] hC6 0 rfl rfl rfl Tryz.isAgg88 Tryz.sizeOf88 rfl rfl ?_
 obtain ⟨x4, hr4, hF⟩ := bind_some hF
 refine WL_call Tryz.call130 rfl rfl (c_M_copyFact (a2.1, a2.2) u2 (g2.now hC6.keep) x4 hr4) ?_
 rintro v1 w5 ⟨hB5, F1, hv3, hn1, hb1⟩
 have hC7 := hC6.push hB5 (A := Item.own v1 x4) hv3 hn1 hb1
 obtain ⟨v2, rfl, hC8⟩ := st88_own hC7
 refine WL_buildSlice (vs := [(.agg #[(.int .i64 x4.1), v2])]) hC8 Tryz.underlying31 ty88 rfl rfl rfl rfl (by intro v hv; simp only [List.mem_cons, List.not_mem_nil, or_false] at hv; rcases hv with rfl <;> rfl) rfl rfl (fun b2 w6 hC9 hB6 => ?_)
 have hC10 := hC9.row0 (α := (Int × (List Int)))
 have hC12 := hC10.f2
 have hC11 := own_st88 x4.1 v2 x4.2 hC12
 have hC13 := hC11.row1
 have hC14 := hC13.front 1 rfl
 dsimp only [List.eraseIdx, List.cons_append, List.nil_append, List.append_nil] at hC14
 have hC15 : Ctx Fs.flatten w0 w6 (Item.own (.slice (some ⟨b2, 0, none⟩) 1 1) ([(x4.1, x4.2)] : List (Int × (List Int))) :: [Item.box b1 [(.int .i64 a2.1), u2], Item.own u1 (a1 : (List (Int × (List Int))))]) := hC14.rowOwn (by simp [maxLen])
 obtain ⟨x5, hr5, hF⟩ := bind_some hF
 have hC17 := hC15.f2
 obtain ⟨Fs1, hH1, hn2, hF1, hO1, hb2⟩ := Ctx.lend2 (As := [Item.box b1 [(.int .i64 a2.1), u2]]) [Item.own u1 (a1 : (List (Int × (List Int)))), Item.own (.slice (some ⟨b2, 0, none⟩) 1 1) ([(x4.1, x4.2)] : (List (Int × (List Int))))] hC17
 refine WL_call Tryz.call129 rfl rfl (c_Slices_Insert_Limpl_Fact_impl_Fact a1 u1 x3 ([(x4.1, x4.2)]) (.slice (some ⟨b2, 0, none⟩) 1 1) hH1 hn2 x5 hr5) ?_
 rintro v3 w7 ⟨_, rfl, hq4⟩
 have hC18 : Ctx Fs.flatten w0 w7 [Item.own v3 (x5 : (List (Int × (List Int)))), Item.box b1 [(.int .i64 a2.1), u2]] := hb2 _ _ hq4
 refine WL_assign rfl rfl ?_
 refine WL_nil (W_ret ?_)
 have hq5 := Option.some.inj hF
 subst hq5
 refine fn_ret1 rfl rfl ?_
 have hC20 := hC18.h1
 exact ⟨_, rfl, _, rfl, hC20⟩

theorem c_M_UnionOf {w0 : World} (a1 : (List ((Int × (List Int)) × (List (Int × (List Int)))))) (u1 : Value) (g1 : RO [] w0 u1 a1) (rr : (List (Int × (List Int)))) (hF : M.UnionOf a1 = some rr) :
 Calls Tryz.prog 13 [u1].toArray w0 fun e w' => ∃ v, e = .returned v ∧ Res w0 rr v w' := by
 refine calls_of_W Tryz.func13 rfl rfl ?_
 have hC0 := Ctx.start w0
 unfold M.UnionOf at hF
 refine W_seq_reg ?_
 refine WL_assign rfl rfl ?_
 refine WL_nil (W_seq_reg ?_)
 refine WL_buildSlice (vs := []) hC0 Tryz.underlying31 ty88 rfl rfl rfl rfl (by simp) rfl rfl (fun b1 w1 hC1 hB1 => ?_)
 have hC2 := hC1.row0 (α := (Int × (List Int)))
 have hC3 := hC2.front 1 rfl
 dsimp only [List.eraseIdx, List.cons_append, List.nil_append, List.append_nil] at hC3
 have hC4 : Ctx [] w0 w1 (Item.own (.slice (some ⟨b1, 0, none⟩) 0 0) (([] : List (Int × (List Int))) : List (Int × (List Int))) :: []) := hC3.rowOwn (by simp [maxLen])
 refine WL_assign rfl rfl ?_
 refine WL_nil (W_seq (W_seq_reg ?_))
 refine WL_move rfl rfl ?_
 refine WL_len Tryz.underlying26 g1 rfl rfl ?_
 refine WL_move rfl rfl ?_
 refine WL_nil ?_
 obtain ⟨r1, hr1, hF⟩ := bind_some hF
 refine W_norm (fun l w => ∃ v2 : Value, ∃ x3 : (List (Int × (List Int))), x3 = r1 ∧ l = [(3, v2)] ∧ Ctx [] w0 w [Item.own v2 (x3 : (List (Int × (List Int))))]) ?_ ?_
 ·refine W_block ?_
  refine W.sub (l' := [(3, (.slice (some ⟨b1, 0, none⟩) 0 0)), (9, u1), (10, (.int .i64 (List.length a1 : Int))), (11, (.int .i64 0))]) ?_ ⟨rfl, rfl, rfl, rfl, trivial⟩
  refine W_loop (fun k l w => ∃ v1 : Value, ∃ x1 : (List (Int × (List Int))), ∃ x2 : Int, l = [(3, v1), (9, u1), (10, (.int .i64 (List.length a1 : Int))), (11, (.int .i64 x2))] ∧ Ctx [] w0 w [Item.own v1 (x1 : (List (Int × (List Int))))] ∧ M.UnionOf_l1 a1 k x1 x2 = some r1) FUEL ⟨(.slice (some ⟨b1, 0, none⟩) 0 0), ([] : List (Int × (List Int))), 0, rfl, hC4, hr1⟩ ?_
  clear hr1
  rintro k1 _ w2 ⟨v1, x1, x2, rfl, hC5, hL1⟩
  cases k1 with
  | zero => rw [M.UnionOf_l1] at hL1; cases hL1
  | succ k1 =>
   rw [M.UnionOf_l1] at hL1
   refine W_seq_reg ?_
   refine WL_lss rfl rfl rfl ?_
   refine WL_nil (W_seq ?_)
   refine W_cond rfl (fun hc1 => ?_) (fun hc1 => ?_)
   ·replace hL1 := ite_t hL1 hc1
    refine W_skip (nrm_normal (W_seq (W_block (W_seq_reg ?_))))
    obtain ⟨x4, hx1, hL1⟩ := bind_some hL1
    refine WL_index Tryz.underlying26 ty46 g1 hx1 rfl rfl rfl (fun b2 o1 h1 => ?_)
    refine WL_load ty46 h1 hC5.keep rfl rfl (fun v3 h2 => ?_)
    obtain ⟨v4, v5, rfl, h3, h4⟩ := ro_st46 h2
    refine WL_allocK hC5 zero46 rfl rfl (fun b3 w3 hC6 hB3 hN1 => ?_)
    refine WL_store_box_aggK (cs' := [(.int .i64 x4.1.1), v4, v5]) (new := [(.int .i64 x4.1.1), v4, v5]) hC6 0 rfl rfl (by intro v hv; simp only [List.mem_cons, List.not_mem_nil, or_false] at hv; rcases hv with rfl | rfl | rfl; exact rfl; exact (ro_one h3); exact (ro_one h4)) rfl Tryz.sizeOf46 rfl rfl (fun w4 hC7 hKp1 => ?_)
    try dsimp only [List.set] at hC7
    have hk1 := Keep.over (Keep.of hB3) hN1 hKp1
    refine WL_nil (W_seq_reg ?_)
    refine WL_field Tryz.underlying46 rfl rfl (fun w => ⟨_, Tryz.sizeOf31 w⟩) rfl rfl ?_
    refine WL_load_box hC7 0 rfl rfl Tryz.isAgg31 rfl rfl ?_
    refine WL_len Tryz.underlying31 h4 rfl rfl ?_
    refine WL_move rfl rfl ?_
    refine WL_nil ?_
    obtain ⟨r2, hr2, hL1⟩ := bind_some hL1
    refine W_norm (fun l w => ∃ v7 : Value, ∃ x7 : (List (Int × (List Int))), x7 = r2 ∧ l = [(3, v7), (9, u1), (10, (.int .i64 (List.length a1 : Int))), (11, (.int .i64 x2))] ∧ Ctx [] w0 w [Item.own v7 (x7 : (List (Int × (List Int))))]) ?_ ?_
    ·refine W_block ?_
     have hC14 := hC7.f1
     have hC15 := hC14.h1
     refine W.sub (l' := [(3, v1), (9, u1), (10, (.int .i64 (List.length a1 : Int))), (11, (.int .i64 x2)), (16, v5), (17, (.int .i64 (List.length x4.2 : Int))), (18, (.int .i64 0))]) ?_ ⟨rfl, rfl, rfl, rfl, rfl, rfl, rfl, trivial⟩
     refine W_loop (fun k l w => ∃ v6 : Value, ∃ x5 : (List (Int × (List Int))), ∃ x6 : Int, l = [(3, v6), (9, u1), (10, (.int .i64 (List.length a1 : Int))), (11, (.int .i64 x2)), (16, v5), (17, (.int .i64 (List.length x4.2 : Int))), (18, (.int .i64 x6))] ∧ Ctx [] w0 w [Item.own v6 (x5 : (List (Int × (List Int))))] ∧ M.UnionOf_l2 x4 k x5 x6 = some r2) FUEL ⟨v1, x1, 0, rfl, hC15, hr2⟩ ?_
     clear hr2
     rintro k2 _ w5 ⟨v6, x5, x6, rfl, hC8, hL2⟩
     cases k2 with
     | zero => rw [M.UnionOf_l2] at hL2; cases hL2
     | succ k2 =>
      rw [M.UnionOf_l2] at hL2
      refine W_seq_reg ?_
      refine WL_lss rfl rfl rfl ?_
      refine WL_nil (W_seq ?_)
      refine W_cond rfl (fun hc2 => ?_) (fun hc2 => ?_)
      ·replace hL2 := ite_t hL2 hc2
       refine W_skip (nrm_normal (W_seq (W_block (W_seq_reg ?_))))
       obtain ⟨x8, hx2, hL2⟩ := bind_some hL2
       refine WL_index Tryz.underlying31 ty88 h4 hx2 rfl rfl rfl (fun b4 o2 h5 => ?_)
       refine WL_load ty88 h5 hC8.keep rfl rfl (fun v8 h6 => ?_)
       obtain ⟨v9, rfl, h7⟩ := ro_st88 h6
       refine WL_allocK hC8 zero88 rfl rfl (fun b5 w6 hC9 hB5 hN2 => ?_)
       refine WL_store_box_aggK (cs' := [(.int .i64 x8.1), v9]) (new := [(.int .i64 x8.1), v9]) hC9 0 rfl rfl (by intro v hv; simp only [List.mem_cons, List.not_mem_nil, or_false] at hv; rcases hv with rfl | rfl; exact rfl; exact (ro_one h7)) rfl Tryz.sizeOf88 rfl rfl (fun w7 hC10 hKp2 => ?_)
       try dsimp only [List.set] at hC10
       have hk2 := Keep.over (Keep.of hB5) hN2 hKp2
       refine WL_nil (W_reg ?_)
       refine WL_move rfl rfl ?_
       refine WL_load_box_agg [(.int .i64 x8.1), v9] hC10 0 rfl rfl rfl Tryz.isAgg88 Tryz.sizeOf88 rfl rfl ?_
       obtain ⟨x9, hr3, hL2⟩ := bind_some hL2
       have hC11 := hC10.f1
       obtain ⟨Fs1, hH1, hn1, hF1, hO1, hb1⟩ := Ctx.lend2 (As := [Item.box b5 [(.int .i64 x8.1), v9]]) [Item.own v6 (x5 : (List (Int × (List Int))))] hC11
       refine WL_call Tryz.call68 rfl rfl (c_M_added x5 v6 (x8.1, x8.2) v9 (RO.lent h7 hC11.keep hF1) hH1 hn1 x9 hr3) ?_
       rintro v10 w9 ⟨_, rfl, hq1⟩
       have hC12 : Ctx [] w0 w9 [Item.own v10 (x9 : (List (Int × (List Int)))), Item.box b5 [(.int .i64 x8.1), v9]] := hb1 _ _ hq1
       refine WL_assign rfl rfl ?_
       refine WL_nil (blk_normal (nrm_normal (W_reg ?_)))
       refine WL_add rfl rfl rfl ?_
       refine WL_move rfl rfl ?_
       refine WL_nil ?_
       have hC13 := hC12.h1
       refine nrm_sub (l' := [(3, v10), (9, u1), (10, (.int .i64 (List.length a1 : Int))), (11, (.int .i64 x2)), (16, v5), (17, (.int .i64 (List.length x4.2 : Int))), (18, (.int .i64 (w64 (x6 + 1))))]) ⟨rfl, rfl, rfl, rfl, rfl, rfl, rfl, trivial⟩ ?_
       exact ⟨k2, Nat.lt_succ_self _, v10, x9, w64 (x6 + 1), rfl, hC13, hL2⟩
      replace hL2 := ite_f hL2 hc2
      refine W_exit (nrm_exit (nrm_exit (blk_exit ?_)))
      have hq2 := Option.some.inj hL2
      subst hq2
      refine nrm_sub (l' := [(3, v6), (9, u1), (10, (.int .i64 (List.length a1 : Int))), (11, (.int .i64 x2))]) ⟨rfl, rfl, rfl, rfl, trivial⟩ ?_
      exact ⟨v6, x5, rfl, rfl, hC8⟩
    rintro l3 _ w10 hs3 ⟨v7, x7, rfl, rfl, hC16⟩
    try dsimp only at hL1
    refine blk_normal ?_
    refine nrm_sub' hs3 ?_
    clear hs3
    refine W_reg ?_
    refine WL_add rfl rfl rfl ?_
    refine WL_move rfl rfl ?_
    refine WL_nil ?_
    refine nrm_sub (l' := [(3, v7), (9, u1), (10, (.int .i64 (List.length a1 : Int))), (11, (.int .i64 (w64 (x2 + 1))))]) ⟨rfl, rfl, rfl, rfl, trivial⟩ ?_
    exact ⟨k1, Nat.lt_succ_self _, v7, x7, w64 (x2 + 1), rfl, hC16, hL1⟩
   replace hL1 := ite_f hL1 hc1
   refine W_exit (nrm_exit (nrm_exit (blk_exit ?_)))
   have hq3 := Option.some.inj hL1
   subst hq3
   refine nrm_sub (l' := [(3, v1)]) ⟨rfl, trivial⟩ ?_
   exact ⟨v1, x1, rfl, rfl, hC5⟩
 rintro l4 _ w11 hs4 ⟨v2, x3, rfl, rfl, hC17⟩
 try dsimp only at hF
 refine nrm_sub' hs4 ?_
 clear hs4
 refine W_seq_reg ?_
 refine WL_move rfl rfl ?_
 refine WL_assign rfl rfl ?_
 refine WL_nil (W_ret ?_)
 have hq4 := Option.some.inj hF
 subst hq4
 refine fn_ret1 rfl rfl ?_
 exact ⟨_, rfl, own_res hC17 0 rfl⟩

theorem c_M_within {w0 : World} (a1 : Int) (a2 : Int) (a3 : Int) (rr : Bool) (hF : M.within a1 a2 a3 = some rr) :
 Calls Tryz.prog 147 [(.int .i64 a1), (.int .i64 a2), (.int .i64 a3)].toArray w0 fun e w' => ∃ v, e = .returned v ∧ Res w0 rr v w' := by
 refine calls_of_W Tryz.func147 rfl rfl ?_
 have hC0 := Ctx.start w0
 unfold M.within at hF
 refine W_seq_reg ?_
 refine WL_assign rfl rfl ?_
 refine WL_nil ?_
 obtain ⟨r1, hr1, hF⟩ := bind_some hF
 refine W_cut (fun l w => ∃ x1 : Bool, x1 = r1 ∧ l = [(6, (.bool x1))] ∧ Below w0.heap.size w0 w ∧ Ctx [] w0 w []) ?_ ?_
 ·refine W_reg ?_
  refine WL_move rfl rfl ?_
  refine WL_move rfl rfl ?_
  refine WL_geq rfl rfl rfl ?_
  refine WL_move rfl rfl ?_
  refine WL_fork (fun hc1 => ?_) (fun hc1 => ?_)
  ·replace hr1 := ite_t hr1 hc1
   refine WL_guard rfl rfl ?_
   refine WL_move rfl rfl ?_
   refine WL_guard rfl rfl ?_
   refine WL_move rfl rfl ?_
   refine WL_guard rfl rfl ?_
   refine WL_leq rfl rfl rfl ?_
   refine WL_pick_t rfl rfl rfl ?_
   refine WL_assign rfl rfl ?_
   refine WL_nil ?_
   have hq1 := Option.some.inj hr1
   subst hq1
   refine nrm_sub (l' := [(6, (.bool (decide (a1 ≤ a3))))]) ⟨rfl, trivial⟩ ?_
   exact ⟨(decide (a1 ≤ a3)), rfl, rfl, (Below.refl _ _), hC0⟩
  replace hr1 := ite_f hr1 hc1
  refine WL_guard_skip rfl rfl (by simp) rfl ?_
  refine WL_guard_skip rfl rfl (by simp) rfl ?_
  refine WL_guard_skip rfl rfl (by simp) rfl ?_
  refine WL_pick_f rfl rfl rfl ?_
  refine WL_assign rfl rfl ?_
  refine WL_nil ?_
  have hq2 := Option.some.inj hr1
  subst hq2
  refine nrm_sub (l' := [(6, (.bool false))]) ⟨rfl, trivial⟩ ?_
  exact ⟨false, rfl, rfl, (Below.refl _ _), hC0⟩
 rintro _ w1 ⟨x1, rfl, rfl, hB1, hC1⟩
 try dsimp only at hF
 refine W_ret ?_
 have hq3 := Option.some.inj hF
 subst hq3
 refine fn_ret1 rfl rfl ?_
 exact ⟨_, rfl, bool_res hC1 _⟩

theorem c_M_IsSchema_c1 {w0 : World} (a1 : Int) (rr : Bool) (hF : M.IsSchema_c1 a1 = some rr) :
 Calls Tryz.prog 183 [(.int .i64 a1)].toArray w0 fun e w' => ∃ v, e = .returned v ∧ Res w0 rr v w' := by
 refine calls_of_W Tryz.func183 rfl rfl ?_
 have hC0 := Ctx.start w0
 unfold M.IsSchema_c1 at hF
 refine W_seq_reg ?_
 refine WL_assign rfl rfl ?_
 refine WL_nil (W_seq_reg ?_)
 refine WL_move rfl rfl ?_
 obtain ⟨x1, hr1, hF⟩ := bind_some hF
 refine WL_call Tryz.call147 rfl rfl (c_M_within a1 1 3 x1 hr1) ?_
 intro _ w1 hv1
 obtain ⟨rfl, hB1⟩ := res_bool hv1
 have hC1 := hC0.grow hB1
 refine WL_not rfl rfl ?_
 refine WL_assign rfl rfl ?_
 refine WL_nil (W_ret ?_)
 have hq1 := Option.some.inj hF
 subst hq1
 refine fn_ret1 rfl rfl ?_
 exact ⟨_, rfl, bool_res hC1 _⟩

theorem c_Slices_IndexFunc_Lint_int_M_IsSchema_c1 {w0 : World} (a1 : (List Int)) (u1 : Value) (g1 : RO [] w0 u1 a1) (rr : Int) (hF : Slices.IndexFunc_Lint_int_M_IsSchema_c1 a1 = some rr) :
 Calls Tryz.prog 205 [u1, (.func (.func 183) #[] #[])].toArray w0 fun e w' => ∃ v, e = .returned v ∧ Res w0 rr v w' := by
 refine calls_of_W Tryz.func205 rfl rfl ?_
 have hC0 := Ctx.start w0
 unfold Slices.IndexFunc_Lint_int_M_IsSchema_c1 at hF
 refine W_seq_reg ?_
 refine WL_assign rfl rfl ?_
 refine WL_nil (W_seq (W_seq_reg ?_))
 refine WL_move rfl rfl ?_
 refine WL_len Tryz.underlying24 g1 rfl rfl ?_
 refine WL_move rfl rfl ?_
 refine WL_nil ?_
 obtain ⟨r1, hr1, hF⟩ := bind_some hF
 refine W_norm (fun l w => .inl () = r1 ∧ l = [] ∧ Below w0.heap.size w0 w ∧ Ctx [] w0 w []) ?_ ?_
 ·refine W_block ?_
  refine W.sub (l' := [(0, u1), (1, (.func (.func 183) #[] #[])), (7, (.int .i64 (List.length a1 : Int))), (8, (.int .i64 0))]) ?_ ⟨rfl, rfl, rfl, rfl, trivial⟩
  refine W_loop (fun k l w => ∃ x1 : Int, l = [(0, u1), (1, (.func (.func 183) #[] #[])), (7, (.int .i64 (List.length a1 : Int))), (8, (.int .i64 x1))] ∧ Below w0.heap.size w0 w ∧ Ctx [] w0 w [] ∧ Slices.IndexFunc_Lint_int_M_IsSchema_c1_l1 a1 k x1 = some r1) FUEL ⟨0, rfl, (Below.refl _ _), hC0, hr1⟩ ?_
  clear hr1
  rintro k1 _ w1 ⟨x1, rfl, hB1, hC1, hL1⟩
  cases k1 with
  | zero => rw [Slices.IndexFunc_Lint_int_M_IsSchema_c1_l1] at hL1; cases hL1
  | succ k1 =>
   rw [Slices.IndexFunc_Lint_int_M_IsSchema_c1_l1] at hL1
   refine W_seq_reg ?_
   refine WL_lss rfl rfl rfl ?_
   refine WL_nil (W_seq ?_)
   refine W_cond rfl (fun hc1 => ?_) (fun hc1 => ?_)
   ·replace hL1 := ite_t hL1 hc1
    refine W_skip (nrm_normal (W_seq (W_block (W_seq_reg ?_))))
    refine WL_move rfl rfl ?_
    refine WL_assign rfl rfl ?_
    refine WL_nil (W_seq_reg ?_)
    refine WL_move rfl rfl ?_
    refine WL_move rfl rfl ?_
    refine WL_move rfl rfl ?_
    obtain ⟨x2, hx1, hL1⟩ := bind_some hL1
    refine WL_index Tryz.underlying24 ty3 g1 hx1 rfl rfl rfl (fun b1 o1 h1 => ?_)
    refine WL_load ty3 h1 hC1.keep rfl rfl (fun v1 h2 => ?_)
    obtain rfl := ro_int h2
    obtain ⟨x3, hr2, hL1⟩ := bind_some hL1
    refine WL_callv (cap := []) Tryz.call183 rfl rfl rfl (c_M_IsSchema_c1 x2 x3 hr2) ?_
    intro _ w2 hv1
    obtain ⟨rfl, hB2⟩ := res_bool hv1
    have hC2 := hC1.grow hB2
    refine WL_nil ?_
    refine W_cond rfl (fun hc2 => ?_) (fun hc2 => ?_)
    ·replace hL1 := ite_t hL1 hc2
     refine W_seq_reg ?_
     refine WL_move rfl rfl ?_
     refine WL_assign rfl rfl ?_
     refine WL_nil (W_ret (blk_ret (nrm_ret (nrm_ret (blk_ret (nrm_ret (nrm_ret ?_)))))))
     have hq1 := Option.some.inj hL1
     subst hq1
     dsimp only at hF
     have hq2 := Option.some.inj hF
     subst hq2
     refine fn_ret1 rfl rfl ?_
     exact ⟨_, rfl, int_res hC2 _⟩
    replace hL1 := ite_f hL1 hc2
    refine W_skip (blk_normal (nrm_normal (W_reg ?_)))
    refine WL_add rfl rfl rfl ?_
    refine WL_move rfl rfl ?_
    refine WL_nil ?_
    refine nrm_sub (l' := [(0, u1), (1, (.func (.func 183) #[] #[])), (7, (.int .i64 (List.length a1 : Int))), (8, (.int .i64 (w64 (x1 + 1))))]) ⟨rfl, rfl, rfl, rfl, trivial⟩ ?_
    exact ⟨k1, Nat.lt_succ_self _, w64 (x1 + 1), rfl, ((Keep.of hB1).then hB2).below, hC2, hL1⟩
   replace hL1 := ite_f hL1 hc1
   refine W_exit (nrm_exit (nrm_exit (blk_exit ?_)))
   have hq3 := Option.some.inj hL1
   subst hq3
   refine nrm_sub (l' := []) trivial ?_
   exact ⟨rfl, rfl, (Keep.of hB1).below, hC1⟩
 rintro l2 _ w3 hs2 ⟨rfl, rfl, hB3, hC3⟩
 try dsimp only at hF
 refine nrm_sub' hs2 ?_
 clear hs2
 refine W_seq_reg ?_
 refine WL_assign rfl rfl ?_
 refine WL_nil (W_ret ?_)
 have hq4 := Option.some.inj hF
 subst hq4
 refine fn_ret1 rfl rfl ?_
 exact ⟨_, rfl, int_res hC3 _⟩

theorem c_Slices_ContainsFunc_Lint_int_M_IsSchema_c1 {w0 : World} (a1 : (List Int)) (u1 : Value) (g1 : RO [] w0 u1 a1) (rr : Bool) (hF : Slices.ContainsFunc_Lint_int_M_IsSchema_c1 a1 = some rr) :
 Calls Tryz.prog 182 [u1, (.func (.func 183) #[] #[])].toArray w0 fun e w' => ∃ v, e = .returned v ∧ Res w0 rr v w' := by
 refine calls_of_W Tryz.func182 rfl rfl ?_
 have hC0 := Ctx.start w0
 unfold Slices.ContainsFunc_Lint_int_M_IsSchema_c1 at hF
 refine W_seq_reg ?_
 refine WL_assign rfl rfl ?_
 refine WL_nil (W_seq_reg ?_)
 refine WL_move rfl rfl ?_
 refine WL_move rfl rfl ?_
 obtain ⟨x1, hr1, hF⟩ := bind_some hF
 refine WL_call Tryz.call205 rfl rfl (c_Slices_IndexFunc_Lint_int_M_IsSchema_c1 a1 u1 (g1.now hC0.keep) x1 hr1) ?_
 intro _ w1 hv1
 obtain ⟨rfl, hB1⟩ := res_int hv1
 have hC1 := hC0.grow hB1
 refine WL_geq rfl rfl rfl ?_
 refine WL_assign rfl rfl ?_
 refine WL_nil (W_ret ?_)
 have hq1 := Option.some.inj hF
 subst hq1
 refine fn_ret1 rfl rfl ?_
 exact ⟨_, rfl, bool_res hC1 _⟩

theorem c_M_IsSchema {w0 : World} (a1 : (List Int)) (u1 : Value) (g1 : RO [] w0 u1 a1) (rr : Bool) (hF : M.IsSchema a1 = some rr) :
 Calls Tryz.prog 132 [u1].toArray w0 fun e w' => ∃ v, e = .returned v ∧ Res w0 rr v w' := by
 refine calls_of_W Tryz.func132 rfl rfl ?_
 have hC0 := Ctx.start w0
 unfold M.IsSchema at hF
 refine W_seq_reg ?_
 refine WL_assign rfl rfl ?_
 refine WL_nil ?_
 obtain ⟨r1, hr1, hF⟩ := bind_some hF
 refine W_cut (fun l w => ∃ x1 : Bool, x1 = r1 ∧ l = [(2, (.bool x1))] ∧ Below w0.heap.size w0 w ∧ Ctx [] w0 w []) ?_ ?_
 ·refine W_reg ?_
  refine WL_move rfl rfl ?_
  refine WL_len Tryz.underlying24 g1 rfl rfl ?_
  obtain ⟨x2, hr2, hr1⟩ := bind_some hr1
  refine WL_call Tryz.call147 rfl rfl (c_M_within (List.length a1 : Int) 1 3 x2 hr2) ?_
  intro _ w2 hv1
  obtain ⟨rfl, hB2⟩ := res_bool hv1
  have hC2 := hC0.grow hB2
  refine WL_move rfl rfl ?_
  refine WL_fork (fun hc1 => ?_) (fun hc1 => ?_)
  ·replace hr1 := ite_t hr1 hc1
   refine WL_guard rfl rfl ?_
   refine WL_move rfl rfl ?_
   obtain ⟨x3, hr3, hr1⟩ := bind_some hr1
   refine WL_guard rfl rfl ?_
   refine WL_call Tryz.call182 rfl rfl (c_Slices_ContainsFunc_Lint_int_M_IsSchema_c1 a1 u1 (g1.now hC2.keep) x3 hr3) ?_
   intro _ w3 hv2
   obtain ⟨rfl, hB3⟩ := res_bool hv2
   have hC3 := hC2.grow hB3
   refine WL_guard rfl rfl ?_
   refine WL_not rfl rfl ?_
   refine WL_pick_t rfl rfl rfl ?_
   refine WL_assign rfl rfl ?_
   refine WL_nil ?_
   have hq1 := Option.some.inj hr1
   subst hq1
   refine nrm_sub (l' := [(2, (.bool (!x3)))]) ⟨rfl, trivial⟩ ?_
   exact ⟨(!x3), rfl, rfl, ((Keep.of hB2).then hB3).below, hC3⟩
  replace hr1 := ite_f hr1 hc1
  refine WL_guard_skip rfl rfl (by simp) rfl ?_
  refine WL_guard_skip rfl rfl (by simp) rfl ?_
  refine WL_guard_skip rfl rfl (by simp) rfl ?_
  refine WL_pick_f rfl rfl rfl ?_
  refine WL_assign rfl rfl ?_
  refine WL_nil ?_
  have hq2 := Option.some.inj hr1
  subst hq2
  refine nrm_sub (l' := [(2, (.bool false))]) ⟨rfl, trivial⟩ ?_
  exact ⟨false, rfl, rfl, (Keep.of hB2).below, hC2⟩
 rintro _ w1 ⟨x1, rfl, rfl, hB1, hC1⟩
 try dsimp only at hF
 refine W_ret ?_
 have hq3 := Option.some.inj hF
 subst hq3
 refine fn_ret1 rfl rfl ?_
 exact ⟨_, rfl, bool_res hC1 _⟩

theorem c_M_hasRel {w0 : World} (a1 : (List Int)) (u1 : Value) (g1 : RO [] w0 u1 a1) (a2 : Int) (rr : Bool) (hF : M.hasRel a1 a2 = some rr) :
 Calls Tryz.prog 185 [u1, (.int .i64 a2)].toArray w0 fun e w' => ∃ v, e = .returned v ∧ Res w0 rr v w' := by
 refine calls_of_W Tryz.func185 rfl rfl ?_
 have hC0 := Ctx.start w0
 unfold M.hasRel at hF
 refine W_seq_reg ?_
 refine WL_assign rfl rfl ?_
 refine WL_nil ?_
 obtain ⟨r1, hr1, hF⟩ := bind_some hF
 refine W_cut (fun l w => ∃ x1 : Bool, x1 = r1 ∧ l = [(4, (.bool x1))] ∧ Below w0.heap.size w0 w ∧ Ctx [] w0 w []) ?_ ?_
 ·refine W_reg ?_
  refine WL_move rfl rfl ?_
  obtain ⟨x2, hr2, hr1⟩ := bind_some hr1
  refine WL_call Tryz.call132 rfl rfl (c_M_IsSchema a1 u1 (g1.now hC0.keep) x2 hr2) ?_
  intro _ w2 hv1
  obtain ⟨rfl, hB2⟩ := res_bool hv1
  have hC2 := hC0.grow hB2
  refine WL_move rfl rfl ?_
  refine WL_fork (fun hc1 => ?_) (fun hc1 => ?_)
  ·replace hr1 := ite_t hr1 hc1
   refine WL_guard rfl rfl ?_
   refine WL_move rfl rfl ?_
   refine WL_guard rfl rfl ?_
   refine WL_move rfl rfl ?_
   refine WL_guard rfl rfl ?_
   refine WL_len Tryz.underlying24 g1 rfl rfl ?_
   refine WL_guard rfl rfl ?_
   refine WL_sub rfl rfl rfl ?_
   obtain ⟨x3, hr3, hr1⟩ := bind_some hr1
   refine WL_guard rfl rfl ?_
   refine WL_call Tryz.call147 rfl rfl (c_M_within a2 0 (w64 ((List.length a1 : Int) - 1)) x3 hr3) ?_
   intro _ w3 hv2
   obtain ⟨rfl, hB3⟩ := res_bool hv2
   have hC3 := hC2.grow hB3
   refine WL_pick_t rfl rfl rfl ?_
   refine WL_assign rfl rfl ?_
   refine WL_nil ?_
   have hq1 := Option.some.inj hr1
   subst hq1
   refine nrm_sub (l' := [(4, (.bool x3))]) ⟨rfl, trivial⟩ ?_
   exact ⟨x3, rfl, rfl, ((Keep.of hB2).then hB3).below, hC3⟩
  replace hr1 := ite_f hr1 hc1
  refine WL_guard_skip rfl rfl (by simp) rfl ?_
  refine WL_guard_skip rfl rfl (by simp) rfl ?_
  refine WL_guard_skip rfl rfl (by simp) rfl ?_
  refine WL_guard_skip rfl rfl (by simp) rfl ?_
  refine WL_guard_skip rfl rfl (by simp) rfl ?_
  refine WL_pick_f rfl rfl rfl ?_
  refine WL_assign rfl rfl ?_
  refine WL_nil ?_
  have hq2 := Option.some.inj hr1
  subst hq2
  refine nrm_sub (l' := [(4, (.bool false))]) ⟨rfl, trivial⟩ ?_
  exact ⟨false, rfl, rfl, (Keep.of hB2).below, hC2⟩
 rintro _ w1 ⟨x1, rfl, rfl, hB1, hC1⟩
 try dsimp only at hF
 refine W_ret ?_
 have hq3 := Option.some.inj hF
 subst hq3
 refine fn_ret1 rfl rfl ?_
 exact ⟨_, rfl, bool_res hC1 _⟩

theorem c_M_ascending {w0 : World} (a1 : (List Int)) (u1 : Value) (g1 : RO [] w0 u1 a1) (rr : Bool) (hF : M.ascending a1 = some rr) :
 Calls Tryz.prog 206 [u1].toArray w0 fun e w' => ∃ v, e = .returned v ∧ Res w0 rr v w' := by
 refine calls_of_W Tryz.func206 rfl rfl ?_
 have hC0 := Ctx.start w0
 unfold M.ascending at hF
 refine W_seq_reg ?_
 refine WL_assign rfl rfl ?_
 refine WL_nil (W_seq (W_seq_reg ?_))
 refine WL_move rfl rfl ?_
 refine WL_len Tryz.underlying24 g1 rfl rfl ?_
 refine WL_move rfl rfl ?_
 refine WL_nil ?_
 obtain ⟨r1, hr1, hF⟩ := bind_some hF
 refine W_norm (fun l w => .inl () = r1 ∧ l = [] ∧ Below w0.heap.size w0 w ∧ Ctx [] w0 w []) ?_ ?_
 ·refine W_block ?_
  refine W.sub (l' := [(0, u1), (5, (.int .i64 (List.length a1 : Int))), (6, (.int .i64 0))]) ?_ ⟨rfl, rfl, rfl, trivial⟩
  refine W_loop (fun k l w => ∃ x1 : Int, l = [(0, u1), (5, (.int .i64 (List.length a1 : Int))), (6, (.int .i64 x1))] ∧ Below w0.heap.size w0 w ∧ Ctx [] w0 w [] ∧ M.ascending_l1 a1 k x1 = some r1) FUEL ⟨0, rfl, (Below.refl _ _), hC0, hr1⟩ ?_
  clear hr1
  rintro k1 _ w1 ⟨x1, rfl, hB1, hC1, hL1⟩
  cases k1 with
  | zero => rw [M.ascending_l1] at hL1; cases hL1
  | succ k1 =>
   rw [M.ascending_l1] at hL1
   refine W_seq_reg ?_
   refine WL_lss rfl rfl rfl ?_
   refine WL_nil (W_seq ?_)
   refine W_cond rfl (fun hc1 => ?_) (fun hc1 => ?_)
   ·replace hL1 := ite_t hL1 hc1
    refine W_skip (nrm_normal (W_seq (W_block (W_seq_reg ?_))))
    refine WL_move rfl rfl ?_
    refine WL_assign rfl rfl ?_
    refine WL_nil ?_
    obtain ⟨r2, hr2, hL1⟩ := bind_some hL1
    refine W_cut (fun l w => ∃ x2 : Bool, x2 = r2 ∧ l = [(0, u1), (5, (.int .i64 (List.length a1 : Int))), (6, (.int .i64 x1)), (22, (.bool x2))] ∧ Below w1.heap.size w1 w ∧ Ctx [] w0 w []) ?_ ?_
    ·refine W_drawn 14 rfl hmix (fun w3 hB3 => ?_)
     have hC3 := hC1.grow hB3
     refine WA_tk 0 (by kernel_rfl) rfl rfl (fl_move rfl) ?_
     refine WL_move rfl rfl ?_
     refine WL_nil ?_
     refine WA_tk 1 (by kernel_rfl) rfl rfl (fl_gtr rfl rfl) ?_
     refine WL_gtr rfl rfl rfl ?_
     refine WL_nil ?_
     refine WA_tk 2 (by kernel_rfl) rfl rfl (fl_move rfl) ?_
     refine WL_move rfl rfl ?_
     refine WL_nil ?_
     refine WA_fork (fun hc2 => ?_) (fun hc2 => ?_)
     ·replace hr2 := ite_t hr2 hc2
      refine WA_takeG 3 rfl (by kernel_rfl) (by kernel_rfl) (by kernel_rfl) rfl rfl rfl (fl_move rfl) ?_
      refine WL_guard rfl rfl ?_
      refine WL_move rfl rfl ?_
      refine WL_nil ?_
      refine WA_takeG 4 rfl (by kernel_rfl) (by kernel_rfl) (by kernel_rfl) rfl rfl rfl (fl_move rfl) ?_
      refine WL_guard rfl rfl ?_
      refine WL_move rfl rfl ?_
      refine WL_nil ?_
      obtain ⟨x3, hx1, hr2⟩ := bind_some hr2
      refine WA_takeG 5 rfl (by kernel_rfl) (by kernel_rfl) (by kernel_rfl) rfl rfl rfl (fl_index Tryz.underlying24 ty3 g1 hx1 rfl rfl) ?_
      refine WL_guard rfl rfl ?_
      refine WL_index Tryz.underlying24 ty3 g1 hx1 rfl rfl rfl (fun b1 o1 h1 => ?_)
      refine WL_nil ?_
      refine WA_takeG 7 rfl (by kernel_rfl) (by kernel_rfl) (by kernel_rfl) rfl rfl rfl (fl_move rfl) ?_
      refine WL_guard rfl rfl ?_
      refine WL_move rfl rfl ?_
      refine WL_nil ?_
      refine WA_takeG 8 rfl (by kernel_rfl) (by kernel_rfl) (by kernel_rfl) rfl rfl rfl (fl_move rfl) ?_
      refine WL_guard rfl rfl ?_
      refine WL_move rfl rfl ?_
      refine WL_nil ?_
      refine WA_takeG 9 rfl (by kernel_rfl) (by kernel_rfl) (by kernel_rfl) rfl rfl rfl (fl_sub rfl rfl) ?_
      refine WL_guard rfl rfl ?_
      refine WL_sub rfl rfl rfl ?_
      refine WL_nil ?_
      obtain ⟨x4, hx2, hr2⟩ := bind_some hr2
      refine WA_takeG 10 rfl (by kernel_rfl) (by kernel_rfl) (by kernel_rfl) rfl rfl rfl (fl_index Tryz.underlying24 ty3 g1 hx2 rfl rfl) ?_
      refine WL_guard rfl rfl ?_
      refine WL_index Tryz.underlying24 ty3 g1 hx2 rfl rfl rfl (fun b2 o2 h2 => ?_)
      refine WL_nil ?_
      refine WA.sub (l' := [(0, u1), (3, (.int .i64 x1)), (5, (.int .i64 (List.length a1 : Int))), (6, (.int .i64 x1)), (7, (.bool (decide (x1 < (List.length a1 : Int))))), (8, (.int .i64 x1)), (9, (.int .i64 x1)), (10, (.bool (decide (0 < x1)))), (11, (.bool true)), (12, u1), (13, (.int .i64 x1)), (14, (ptr b1 o1)), (16, u1), (17, (.int .i64 x1)), (18, (.int .i64 (w64 (x1 - 1)))), (19, (ptr b2 o2))]) ?_ ⟨rfl, rfl, rfl, rfl, rfl, rfl, rfl, rfl, rfl, rfl, rfl, rfl, rfl, rfl, rfl, rfl, trivial⟩
      refine WA_postsE [⟨6, [], fun vs => PW.val (.int .i64 x3), []⟩, ⟨11, [], fun vs => PW.val (.int .i64 x4), []⟩] [[], []] 2 rfl (by kernel_rfl) (by kernel_rfl) rfl ?_ ?_
      ·refine StepsE_cons rfl ?_ ?_
       ·intro w4 hB4
        refine DepsE_nil ?_
        refine ⟨_, rfl, ?_⟩
        refine WL_guard rfl rfl ?_
        refine WL_load ty3 h1 (hC3.keep.then hB4) rfl rfl (fun v1 h3 => ?_)
        obtain rfl := ro_int h3
        refine WL_nil ?_
        exact FinE_val (Below.refl _ _) rfl rfl ⟨rfl, rfl⟩
       refine StepsE_cons rfl ?_ ?_
       ·intro w4 hB4
        refine DepsE_nil ?_
        refine ⟨_, rfl, ?_⟩
        refine WL_guard rfl rfl ?_
        refine WL_load ty3 h2 (hC3.keep.then hB4) rfl rfl (fun v2 h4 => ?_)
        obtain rfl := ro_int h4
        refine WL_nil ?_
        exact FinE_val (Below.refl _ _) rfl rfl ⟨rfl, rfl⟩
       exact StepsE_nil
      intro w5 hB5
      refine AllE_cons rfl rfl rfl ?_
      rintro _ _ ⟨rfl, rfl⟩
      refine AllE_cons rfl rfl rfl ?_
      rintro _ _ ⟨rfl, rfl⟩
      refine AllE_nil ?_
      intro hn1 hb1
      have hC4 := hC3.grow hB5
      refine WA_takeG 12 rfl (by kernel_rfl) (by kernel_rfl) (by kernel_rfl) rfl rfl rfl (fl_leq rfl rfl) ?_
      refine WL_guard rfl rfl ?_
      refine WL_leq rfl rfl rfl ?_
      refine WL_nil ?_
      refine WA_tk 13 (by kernel_rfl) rfl rfl (fl_pick_t rfl rfl) ?_
      refine WL_pick_t rfl rfl rfl ?_
      refine WL_nil ?_
      refine WA_done (by kernel_rfl) ?_
      have hq1 := Option.some.inj hr2
      subst hq1
      refine nrm_sub (l' := [(0, u1), (5, (.int .i64 (List.length a1 : Int))), (6, (.int .i64 x1)), (22, (.bool (decide (x3 ≤ x4))))]) ⟨rfl, rfl, rfl, rfl, trivial⟩ ?_
      exact ⟨(decide (x3 ≤ x4)), rfl, rfl, ((Keep.of hB3).then hB5).below, hC4⟩
     replace hr2 := ite_f hr2 hc2
     refine WA_sk 3 (by kernel_rfl) rfl rfl rfl rfl (by simp) rfl rfl ?_
     refine WA_sk 4 (by kernel_rfl) rfl rfl rfl rfl (by simp) rfl rfl ?_
     refine WA_sk 5 (by kernel_rfl) rfl rfl rfl rfl (by simp) rfl rfl ?_
     refine WA_sk 6 (by kernel_rfl) rfl rfl rfl rfl (by simp) rfl rfl ?_
     refine WA_sk 7 (by kernel_rfl) rfl rfl rfl rfl (by simp) rfl rfl ?_
     refine WA_sk 8 (by kernel_rfl) rfl rfl rfl rfl (by simp) rfl rfl ?_
     refine WA_sk 9 (by kernel_rfl) rfl rfl rfl rfl (by simp) rfl rfl ?_
     refine WA_sk 10 (by kernel_rfl) rfl rfl rfl rfl (by simp) rfl rfl ?_
     refine WA_sk 11 (by kernel_rfl) rfl rfl rfl rfl (by simp) rfl rfl ?_
     refine WA_sk 12 (by kernel_rfl) rfl rfl rfl rfl (by simp) rfl rfl ?_
     refine WA_tk 13 (by kernel_rfl) rfl rfl (fl_pick_f rfl rfl) ?_
     refine WL_pick_f rfl rfl rfl ?_
     refine WL_nil ?_
     refine WA_done (by kernel_rfl) ?_
     have hq2 := Option.some.inj hr2
     subst hq2
     refine nrm_sub (l' := [(0, u1), (5, (.int .i64 (List.length a1 : Int))), (6, (.int .i64 x1)), (22, (.bool false))]) ⟨rfl, rfl, rfl, rfl, trivial⟩ ?_
     exact ⟨false, rfl, rfl, (Keep.of hB3).below, hC3⟩
    rintro _ w2 ⟨x2, rfl, rfl, hB2, hC2⟩
    try dsimp only at hL1
    refine W_cond rfl (fun hc3 => ?_) (fun hc3 => ?_)
    ·replace hL1 := ite_t hL1 hc3
     refine W_seq_reg ?_
     refine WL_assign rfl rfl ?_
     refine WL_nil (W_ret (blk_ret (nrm_ret (nrm_ret (blk_ret (nrm_ret (nrm_ret ?_)))))))
     have hq3 := Option.some.inj hL1
     subst hq3
     dsimp only at hF
     have hq4 := Option.some.inj hF
     subst hq4
     refine fn_ret1 rfl rfl ?_
     exact ⟨_, rfl, bool_res hC2 _⟩
    replace hL1 := ite_f hL1 hc3
    refine W_skip (blk_normal (nrm_normal (W_reg ?_)))
    refine WL_add rfl rfl rfl ?_
    refine WL_move rfl rfl ?_
    refine WL_nil ?_
    refine nrm_sub (l' := [(0, u1), (5, (.int .i64 (List.length a1 : Int))), (6, (.int .i64 (w64 (x1 + 1))))]) ⟨rfl, rfl, rfl, trivial⟩ ?_
    exact ⟨k1, Nat.lt_succ_self _, w64 (x1 + 1), rfl, ((Keep.of hB1).then hB2).below, hC2, hL1⟩
   replace hL1 := ite_f hL1 hc1
   refine W_exit (nrm_exit (nrm_exit (blk_exit ?_)))
   have hq5 := Option.some.inj hL1
   subst hq5
   refine nrm_sub (l' := []) trivial ?_
   exact ⟨rfl, rfl, (Keep.of hB1).below, hC1⟩
 rintro l3 _ w6 hs3 ⟨rfl, rfl, hB6, hC5⟩
 try dsimp only at hF
 refine nrm_sub' hs3 ?_
 clear hs3
 refine W_seq_reg ?_
 refine WL_assign rfl rfl ?_
 refine WL_nil (W_ret ?_)
 have hq6 := Option.some.inj hF
 subst hq6
 refine fn_ret1 rfl rfl ?_
 exact ⟨_, rfl, bool_res hC5 _⟩

theorem c_M_Method_fits_c1 {w0 : World} (a1 : Int) (pb1 : Nat) (ax1 : Int) (g1 : ROAt [] w0 pb1 0 ax1) (rr : Bool) (hF : M.Method_fits_c1 a1 ax1 = some rr) :
 Calls Tryz.prog 207 [(.int .i64 a1), (ptr pb1 0)].toArray w0 fun e w' => ∃ v, e = .returned v ∧ Res w0 rr v w' := by
 refine calls_of_W Tryz.func207 rfl rfl ?_
 have hC0 := Ctx.start w0
 unfold M.Method_fits_c1 at hF
 refine W_seq_reg ?_
 refine WL_assign rfl rfl ?_
 refine WL_nil (W_seq_reg ?_)
 refine WL_move rfl rfl ?_
 refine WL_load ty3 g1 hC0.keep rfl rfl (fun v1 h1 => ?_)
 obtain rfl := ro_int h1
 refine WL_sub rfl rfl rfl ?_
 obtain ⟨x1, hr1, hF⟩ := bind_some hF
 refine WL_call Tryz.call147 rfl rfl (c_M_within a1 0 (w64 (ax1 - 1)) x1 hr1) ?_
 intro _ w1 hv1
 obtain ⟨rfl, hB1⟩ := res_bool hv1
 have hC1 := hC0.grow hB1
 refine WL_not rfl rfl ?_
 refine WL_assign rfl rfl ?_
 refine WL_nil (W_ret ?_)
 have hq1 := Option.some.inj hF
 subst hq1
 refine fn_ret1 rfl rfl ?_
 exact ⟨_, rfl, bool_res hC1 _⟩

theorem c_M_isCost {w0 : World} (a1 : Int) (rr : Bool) (hF : M.isCost a1 = some rr) :
 Calls Tryz.prog 208 [(.int .i64 a1)].toArray w0 fun e w' => ∃ v, e = .returned v ∧ Res w0 rr v w' := by
 refine calls_of_W Tryz.func208 rfl rfl ?_
 have hC0 := Ctx.start w0
 unfold M.isCost at hF
 refine W_seq_reg ?_
 refine WL_assign rfl rfl ?_
 refine WL_nil (W_seq_reg ?_)
 refine WL_move rfl rfl ?_
 obtain ⟨x1, hr1, hF⟩ := bind_some hF
 refine WL_call Tryz.call147 rfl rfl (c_M_within a1 0 99 x1 hr1) ?_
 intro _ w1 hv1
 obtain ⟨rfl, hB1⟩ := res_bool hv1
 have hC1 := hC0.grow hB1
 refine WL_assign rfl rfl ?_
 refine WL_nil (W_ret ?_)
 have hq1 := Option.some.inj hF
 subst hq1
 refine fn_ret1 rfl rfl ?_
 exact ⟨_, rfl, bool_res hC1 _⟩

theorem c_Slices_IndexFunc_Lint_int_M_Method_fits_c1 {w0 : World} (a1 : (List Int)) (u1 : Value) (g1 : RO [] w0 u1 a1) (pb1 : Nat) (ax1 : Int) (g2 : ROAt [] w0 pb1 0 ax1) (rr : Int) (hF : Slices.IndexFunc_Lint_int_M_Method_fits_c1 a1 ax1 = some rr) :
 Calls Tryz.prog 205 [u1, (.func (.func 207) #[] #[(ptr pb1 0)])].toArray w0 fun e w' => ∃ v, e = .returned v ∧ Res w0 rr v w' := by
 refine calls_of_W Tryz.func205 rfl rfl ?_
 have hC0 := Ctx.start w0
 unfold Slices.IndexFunc_Lint_int_M_Method_fits_c1 at hF
 refine W_seq_reg ?_
 refine WL_assign rfl rfl ?_
 refine WL_nil (W_seq (W_seq_reg ?_))
 refine WL_move rfl rfl ?_
 refine WL_len Tryz.underlying24 g1 rfl rfl ?_
 refine WL_move rfl rfl ?_
 refine WL_nil ?_
 obtain ⟨r1, hr1, hF⟩ := bind_some hF
 refine W_norm (fun l w => .inl () = r1 ∧ l = [] ∧ Below w0.heap.size w0 w ∧ Ctx [] w0 w []) ?_ ?_
 ·refine W_block ?_
  refine W.sub (l' := [(0, u1), (1, (.func (.func 207) #[] #[(ptr pb1 0)])), (7, (.int .i64 (List.length a1 : Int))), (8, (.int .i64 0))]) ?_ ⟨rfl, rfl, rfl, rfl, trivial⟩
  refine W_loop (fun k l w => ∃ x1 : Int, l = [(0, u1), (1, (.func (.func 207) #[] #[(ptr pb1 0)])), (7, (.int .i64 (List.length a1 : Int))), (8, (.int .i64 x1))] ∧ Below w0.heap.size w0 w ∧ Ctx [] w0 w [] ∧ Slices.IndexFunc_Lint_int_M_Method_fits_c1_l1 a1 ax1 k x1 = some r1) FUEL ⟨0, rfl, (Below.refl _ _), hC0, hr1⟩ ?_
  clear hr1
  rintro k1 _ w1 ⟨x1, rfl, hB1, hC1, hL1⟩
  cases k1 with
  | zero => rw [Slices.IndexFunc_Lint_int_M_Method_fits_c1_l1] at hL1; cases hL1
  | succ k1 =>
   rw [Slices.IndexFunc_Lint_int_M_Method_fits_c1_l1] at hL1
   refine W_seq_reg ?_
   refine WL_lss rfl rfl rfl ?_
   refine WL_nil (W_seq ?_)
   refine W_cond rfl (fun hc1 => ?_) (fun hc1 => ?_)
   ·replace hL1 := ite_t hL1 hc1
    refine W_skip (nrm_normal (W_seq (W_block (W_seq_reg ?_))))
    refine WL_move rfl rfl ?_
    refine WL_assign rfl rfl ?_
    refine WL_nil (W_seq_reg ?_)
    refine WL_move rfl rfl ?_
    refine WL_move rfl rfl ?_
    refine WL_move rfl rfl ?_
    obtain ⟨x2, hx1, hL1⟩ := bind_some hL1
    refine WL_index Tryz.underlying24 ty3 g1 hx1 rfl rfl rfl (fun b1 o1 h1 => ?_)
    refine WL_load ty3 h1 hC1.keep rfl rfl (fun v1 h2 => ?_)
    obtain rfl := ro_int h2
    obtain ⟨x3, hr2, hL1⟩ := bind_some hL1
    refine WL_callv (cap := [(ptr pb1 0)]) Tryz.call207 rfl rfl rfl (c_M_Method_fits_c1 x2 pb1 ax1 (g2.now hC1.keep) x3 hr2) ?_
    intro _ w2 hv1
    obtain ⟨rfl, hB2⟩ := res_bool hv1
    have hC2 := hC1.grow hB2
    refine WL_nil ?_
    refine W_cond rfl (fun hc2 => ?_) (fun hc2 => ?_)
    ·replace hL1 := ite_t hL1 hc2
     refine W_seq_reg ?_
     refine WL_move rfl rfl ?_
     refine WL_assign rfl rfl ?_
     refine WL_nil (W_ret (blk_ret (nrm_ret (nrm_ret (blk_ret (nrm_ret (nrm_ret ?_)))))))
     have hq1 := Option.some.inj hL1
     subst hq1
     dsimp only at hF
     have hq2 := Option.some.inj hF
     subst hq2
     refine fn_ret1 rfl rfl ?_
     exact ⟨_, rfl, int_res hC2 _⟩
    replace hL1 := ite_f hL1 hc2
    refine W_skip (blk_normal (nrm_normal (W_reg ?_)))
    refine WL_add rfl rfl rfl ?_
    refine WL_move rfl rfl ?_
    refine WL_nil ?_
    refine nrm_sub (l' := [(0, u1), (1, (.func (.func 207) #[] #[(ptr pb1 0)])), (7, (.int .i64 (List.length a1 : Int))), (8, (.int .i64 (w64 (x1 + 1))))]) ⟨rfl, rfl, rfl, rfl, trivial⟩ ?_
    exact ⟨k1, Nat.lt_succ_self _, w64 (x1 + 1), rfl, ((Keep.of hB1).then hB2).below, hC2, hL1⟩
   replace hL1 := ite_f hL1 hc1
   refine W_exit (nrm_exit (nrm_exit (blk_exit ?_)))
   have hq3 := Option.some.inj hL1
   subst hq3
   refine nrm_sub (l' := []) trivial ?_
   exact ⟨rfl, rfl, (Keep.of hB1).below, hC1⟩
 rintro l2 _ w3 hs2 ⟨rfl, rfl, hB3, hC3⟩
 try dsimp only at hF
 refine nrm_sub' hs2 ?_
 clear hs2
 refine W_seq_reg ?_
 refine WL_assign rfl rfl ?_
 refine WL_nil (W_ret ?_)
 have hq4 := Option.some.inj hF
 subst hq4
 refine fn_ret1 rfl rfl ?_
 exact ⟨_, rfl, int_res hC3 _⟩

theorem c_Slices_ContainsFunc_Lint_int_M_Method_fits_c1 {w0 : World} (a1 : (List Int)) (u1 : Value) (g1 : RO [] w0 u1 a1) (pb1 : Nat) (ax1 : Int) (g2 : ROAt [] w0 pb1 0 ax1) (rr : Bool) (hF : Slices.ContainsFunc_Lint_int_M_Method_fits_c1 a1 ax1 = some rr) :
 Calls Tryz.prog 182 [u1, (.func (.func 207) #[] #[(ptr pb1 0)])].toArray w0 fun e w' => ∃ v, e = .returned v ∧ Res w0 rr v w' := by
 refine calls_of_W Tryz.func182 rfl rfl ?_
 have hC0 := Ctx.start w0
 unfold Slices.ContainsFunc_Lint_int_M_Method_fits_c1 at hF
 refine W_seq_reg ?_
 refine WL_assign rfl rfl ?_
 refine WL_nil (W_seq_reg ?_)
 refine WL_move rfl rfl ?_
 refine WL_move rfl rfl ?_
 obtain ⟨x1, hr1, hF⟩ := bind_some hF
 refine WL_call Tryz.call205 rfl rfl (c_Slices_IndexFunc_Lint_int_M_Method_fits_c1 a1 u1 (g1.now hC0.keep) pb1 ax1 (g2.now hC0.keep) x1 hr1) ?_
 intro _ w1 hv1
 obtain ⟨rfl, hB1⟩ := res_int hv1
 have hC1 := hC0.grow hB1
 refine WL_geq rfl rfl rfl ?_
 refine WL_assign rfl rfl ?_
 refine WL_nil (W_ret ?_)
 have hq1 := Option.some.inj hF
 subst hq1
 refine fn_ret1 rfl rfl ?_
 exact ⟨_, rfl, bool_res hC1 _⟩

theorem c_M_Method_fits {w0 : World} (a1 : (Int × (List Int) × Int × Int × Int)) (u1 : Value) (g1 : RO [] w0 u1 a1.2.1) (a2 : Int) (rr : Bool) (hF : M.Method_fits a1 a2 = some rr) :
 Calls Tryz.prog 186 [(.agg #[(.int .i64 a1.1), u1, (.int .i64 a1.2.2.1), (.int .i64 a1.2.2.2.1), (.int .i64 a1.2.2.2.2)]), (.int .i64 a2)].toArray w0 fun e w' => ∃ v, e = .returned v ∧ Res w0 rr v w' := by
 refine calls_of_W Tryz.func186 rfl rfl ?_
 have hC0 := Ctx.start w0
 unfold M.Method_fits at hF
 refine W_seq_reg ?_
 refine WL_boxK (cs := [(.int .i64 a1.1), u1, (.int .i64 a1.2.2.1), (.int .i64 a1.2.2.2.1), (.int .i64 a1.2.2.2.2)]) hC0 rfl rfl rfl (fun b1 w1 hC1 hB1 hN1 => ?_)
 refine WL_boxK (cs := [(.int .i64 a2)]) hC1 rfl rfl rfl (fun b2 w2 hC2 hB2 hN2 => ?_)
 refine WL_assign rfl rfl ?_
 refine WL_nil ?_
 obtain ⟨r1, hr1, hF⟩ := bind_some hF
 refine W_cut (fun l w => ∃ x1 : Bool, x1 = r1 ∧ l = [(4, (.bool x1))] ∧ Below w2.heap.size w2 w ∧ Ctx [] w0 w []) ?_ ?_
 ·refine W_reg ?_
  refine WL_field Tryz.underlying93 rfl rfl (fun w => ⟨_, Tryz.sizeOf24 w⟩) rfl rfl ?_
  refine WL_load_box hC2 1 rfl rfl Tryz.isAgg24 rfl rfl ?_
  obtain ⟨x2, hr2, hr1⟩ := bind_some hr1
  refine WL_call Tryz.call206 rfl rfl (c_M_ascending a1.2.1 u1 (g1.now hC2.keep) x2 hr2) ?_
  intro _ w4 hv1
  obtain ⟨rfl, hB4⟩ := res_bool hv1
  have hC4 := hC2.grow hB4
  refine WL_move rfl rfl ?_
  refine WL_fork (fun hc1 => ?_) (fun hc1 => ?_)
  ·replace hr1 := ite_t hr1 hc1
   refine WL_guard rfl rfl ?_
   refine WL_field Tryz.underlying93 rfl rfl (fun w => ⟨_, Tryz.sizeOf24 w⟩) rfl rfl ?_
   refine WL_guard rfl rfl ?_
   refine WL_load_box hC4 1 rfl rfl Tryz.isAgg24 rfl rfl ?_
   refine WL_guard rfl rfl ?_
   refine WL_makeFunc rfl rfl ?_
   obtain ⟨x3, hr3, hr1⟩ := bind_some hr1
   refine WL_guard rfl rfl ?_
   refine WL_call Tryz.call182 rfl rfl (c_Slices_ContainsFunc_Lint_int_M_Method_fits_c1 a1.2.1 u1 (g1.now hC4.keep) b2 a2 (hC4.boxAt 0 rfl repw_int) x3 hr3) ?_
   intro _ w5 hv2
   obtain ⟨rfl, hB5⟩ := res_bool hv2
   have hC5 := hC4.grow hB5
   refine WL_guard rfl rfl ?_
   refine WL_not rfl rfl ?_
   refine WL_pick_t rfl rfl rfl ?_
   refine WL_move rfl rfl ?_
   refine WL_fork (fun hc2 => ?_) (fun hc2 => ?_)
   ·replace hr1 := ite_t hr1 hc2
    refine WL_guard rfl rfl ?_
    refine WL_field Tryz.underlying93 rfl rfl (fun w => ⟨_, Tryz.sizeOf3 w⟩) rfl rfl ?_
    refine WL_guard rfl rfl ?_
    refine WL_load_box hC5 1 rfl rfl Tryz.isAgg3 rfl rfl ?_
    obtain ⟨x4, hr4, hr1⟩ := bind_some hr1
    refine WL_guard rfl rfl ?_
    refine WL_call Tryz.call147 rfl rfl (c_M_within a1.2.2.1 0 9 x4 hr4) ?_
    intro _ w6 hv3
    obtain ⟨rfl, hB6⟩ := res_bool hv3
    have hC6 := hC5.grow hB6
    refine WL_pick_t rfl rfl rfl ?_
    refine WL_move rfl rfl ?_
    refine WL_fork (fun hc3 => ?_) (fun hc3 => ?_)
    ·replace hr1 := ite_t hr1 hc3
     refine WL_guard rfl rfl ?_
     refine WL_field Tryz.underlying93 rfl rfl (fun w => ⟨_, Tryz.sizeOf3 w⟩) rfl rfl ?_
     refine WL_guard rfl rfl ?_
     refine WL_load_box hC6 1 rfl rfl Tryz.isAgg3 rfl rfl ?_
     obtain ⟨x5, hr5, hr1⟩ := bind_some hr1
     refine WL_guard rfl rfl ?_
     refine WL_call Tryz.call208 rfl rfl (c_M_isCost a1.2.2.2.1 x5 hr5) ?_
     intro _ w7 hv4
     obtain ⟨rfl, hB7⟩ := res_bool hv4
     have hC7 := hC6.grow hB7
     refine WL_pick_t rfl rfl rfl ?_
     refine WL_move rfl rfl ?_
     refine WL_fork (fun hc4 => ?_) (fun hc4 => ?_)
     ·replace hr1 := ite_t hr1 hc4
      refine WL_guard rfl rfl ?_
      refine WL_field Tryz.underlying93 rfl rfl (fun w => ⟨_, Tryz.sizeOf3 w⟩) rfl rfl ?_
      refine WL_guard rfl rfl ?_
      refine WL_load_box hC7 1 rfl rfl Tryz.isAgg3 rfl rfl ?_
      obtain ⟨x6, hr6, hr1⟩ := bind_some hr1
      refine WL_guard rfl rfl ?_
      refine WL_call Tryz.call147 rfl rfl (c_M_within a1.2.2.2.2 1 99 x6 hr6) ?_
      intro _ w9 hv5
      obtain ⟨rfl, hB8⟩ := res_bool hv5
      have hC8 := hC7.grow hB8
      refine WL_pick_t rfl rfl rfl ?_
      refine WL_assign rfl rfl ?_
      refine WL_nil ?_
      have hq1 := Option.some.inj hr1
      subst hq1
      have hC9 := hC8.h0
      refine nrm_sub (l' := [(4, (.bool x6))]) ⟨rfl, trivial⟩ ?_
      exact ⟨x6, rfl, rfl, (((((Keep.of hB4).then hB5).then hB6).then hB7).then hB8).below, hC9⟩
     replace hr1 := ite_f hr1 hc4
     refine WL_guard_skip rfl rfl (by simp) rfl ?_
     refine WL_guard_skip rfl rfl (by simp) rfl ?_
     refine WL_guard_skip rfl rfl (by simp) rfl ?_
     refine WL_pick_f rfl rfl rfl ?_
     refine WL_assign rfl rfl ?_
     refine WL_nil ?_
     have hq2 := Option.some.inj hr1
     subst hq2
     have hC10 := hC7.h0
     refine nrm_sub (l' := [(4, (.bool false))]) ⟨rfl, trivial⟩ ?_
     exact ⟨false, rfl, rfl, ((((Keep.of hB4).then hB5).then hB6).then hB7).below, hC10⟩
    replace hr1 := ite_f hr1 hc3
    refine WL_guard_skip rfl rfl (by simp) rfl ?_
    refine WL_guard_skip rfl rfl (by simp) rfl ?_
    refine WL_guard_skip rfl rfl (by simp) rfl ?_
    refine WL_pick_f rfl rfl rfl ?_
    refine WL_move rfl rfl ?_
    refine WL_guard_skip rfl rfl (by simp) rfl ?_
    refine WL_guard_skip rfl rfl (by simp) rfl ?_
    refine WL_guard_skip rfl rfl (by simp) rfl ?_
    refine WL_pick_f rfl rfl rfl ?_
    refine WL_assign rfl rfl ?_
    refine WL_nil ?_
    have hq3 := Option.some.inj hr1
    subst hq3
    have hC11 := hC6.h0
    refine nrm_sub (l' := [(4, (.bool false))]) ⟨rfl, trivial⟩ ?_
    exact ⟨false, rfl, rfl, (((Keep.of hB4).then hB5).then hB6).below, hC11⟩
   replace hr1 := ite_f hr1 hc2
   refine WL_guard_skip rfl rfl (by simp) rfl ?_
   refine WL_guard_skip rfl rfl (by simp) rfl ?_
   refine WL_guard_skip rfl rfl (by simp) rfl ?_
   refine WL_pick_f rfl rfl rfl ?_
   refine WL_move rfl rfl ?_
   refine WL_guard_skip rfl rfl (by simp) rfl ?_
   refine WL_guard_skip rfl rfl (by simp) rfl ?_
   refine WL_guard_skip rfl rfl (by simp) rfl ?_
   refine WL_pick_f rfl rfl rfl ?_
   refine WL_move rfl rfl ?_
   refine WL_guard_skip rfl rfl (by simp) rfl ?_
   refine WL_guard_skip rfl rfl (by simp) rfl ?_
   refine WL_guard_skip rfl rfl (by simp) rfl ?_
   refine WL_pick_f rfl rfl rfl ?_
   refine WL_assign rfl rfl ?_
   refine WL_nil ?_
   have hq4 := Option.some.inj hr1
   subst hq4
   have hC12 := hC5.h0
   refine nrm_sub (l' := [(4, (.bool false))]) ⟨rfl, trivial⟩ ?_
   exact ⟨false, rfl, rfl, ((Keep.of hB4).then hB5).below, hC12⟩
  replace hr1 := ite_f hr1 hc1
  refine WL_guard_skip rfl rfl (by simp) rfl ?_
  refine WL_guard_skip rfl rfl (by simp) rfl ?_
  refine WL_guard_skip rfl rfl (by simp) rfl ?_
  refine WL_guard_skip rfl rfl (by simp) rfl ?_
  refine WL_guard_skip rfl rfl (by simp) rfl ?_
  refine WL_pick_f rfl rfl rfl ?_
  refine WL_move rfl rfl ?_
  refine WL_guard_skip rfl rfl (by simp) rfl ?_
  refine WL_guard_skip rfl rfl (by simp) rfl ?_
  refine WL_guard_skip rfl rfl (by simp) rfl ?_
  refine WL_pick_f rfl rfl rfl ?_
  refine WL_move rfl rfl ?_
  refine WL_guard_skip rfl rfl (by simp) rfl ?_
  refine WL_guard_skip rfl rfl (by simp) rfl ?_
  refine WL_guard_skip rfl rfl (by simp) rfl ?_
  refine WL_pick_f rfl rfl rfl ?_
  refine WL_move rfl rfl ?_
  refine WL_guard_skip rfl rfl (by simp) rfl ?_
  refine WL_guard_skip rfl rfl (by simp) rfl ?_
  refine WL_guard_skip rfl rfl (by simp) rfl ?_
  refine WL_pick_f rfl rfl rfl ?_
  refine WL_assign rfl rfl ?_
  refine WL_nil ?_
  have hq5 := Option.some.inj hr1
  subst hq5
  have hC13 := hC4.h0
  refine nrm_sub (l' := [(4, (.bool false))]) ⟨rfl, trivial⟩ ?_
  exact ⟨false, rfl, rfl, (Keep.of hB4).below, hC13⟩
 rintro _ w3 ⟨x1, rfl, rfl, hB3, hC3⟩
 try dsimp only at hF
 refine W_ret ?_
 have hq6 := Option.some.inj hF
 subst hq6
 refine fn_ret1 rfl rfl ?_
 exact ⟨_, rfl, bool_res hC3 _⟩

theorem c_M_IsMethod {w0 : World} (a1 : (List Int)) (u1 : Value) (g1 : RO [] w0 u1 a1) (a2 : (Int × (List Int) × Int × Int × Int)) (u2 : Value) (g2 : RO [] w0 u2 a2.2.1) (rr : Bool) (hF : M.IsMethod a1 a2 = some rr) :
 Calls Tryz.prog 135 [u1, (.agg #[(.int .i64 a2.1), u2, (.int .i64 a2.2.2.1), (.int .i64 a2.2.2.2.1), (.int .i64 a2.2.2.2.2)])].toArray w0 fun e w' => ∃ v, e = .returned v ∧ Res w0 rr v w' := by
 refine calls_of_W Tryz.func135 rfl rfl ?_
 have hC0 := Ctx.start w0
 unfold M.IsMethod at hF
 refine W_seq_reg ?_
 refine WL_boxK (cs := [(.int .i64 a2.1), u2, (.int .i64 a2.2.2.1), (.int .i64 a2.2.2.2.1), (.int .i64 a2.2.2.2.2)]) hC0 rfl rfl rfl (fun b1 w1 hC1 hB1 hN1 => ?_)
 refine WL_assign rfl rfl ?_
 refine WL_nil ?_
 obtain ⟨r1, hr1, hF⟩ := bind_some hF
 refine W_cut (fun l w => ∃ x1 : Bool, x1 = r1 ∧ l = [(4, (.bool x1))] ∧ Below w1.heap.size w1 w ∧ Ctx [] w0 w []) ?_ ?_
 ·refine W_drawn 14 rfl hmix (fun w3 hB3 => ?_)
  have hC3 := hC1.grow hB3
  refine WA_tk 0 (by kernel_rfl) rfl rfl (fl_move rfl) ?_
  refine WL_move rfl rfl ?_
  refine WL_nil ?_
  refine WA_tk 1 (by kernel_rfl) rfl rfl (fl_field Tryz.underlying93 rfl rfl (fun w => ⟨_, Tryz.sizeOf3 w⟩) rfl) ?_
  refine WL_field Tryz.underlying93 rfl rfl (fun w => ⟨_, Tryz.sizeOf3 w⟩) rfl rfl ?_
  refine WL_nil ?_
  refine WA_one 2 (by kernel_rfl) rfl ?_
  refine WL_load_box hC3 0 rfl rfl Tryz.isAgg3 rfl rfl ?_
  refine WL_nil ?_
  obtain ⟨x2, hr2, hr1⟩ := bind_some hr1
  refine WA_one 3 (by kernel_rfl) rfl ?_
  refine WL_call Tryz.call185 rfl rfl (c_M_hasRel a1 u1 (g1.now hC3.keep) a2.1 x2 hr2) ?_
  intro _ w4 hv1
  obtain ⟨rfl, hB4⟩ := res_bool hv1
  have hC4 := hC3.grow hB4
  refine WL_nil ?_
  refine WA_tk 4 (by kernel_rfl) rfl rfl (fl_move rfl) ?_
  refine WL_move rfl rfl ?_
  refine WL_nil ?_
  refine WA_fork (fun hc1 => ?_) (fun hc1 => ?_)
  ·replace hr1 := ite_t hr1 hc1
   refine WA_takeG 6 rfl (by kernel_rfl) (by kernel_rfl) (by kernel_rfl) rfl rfl rfl (fl_move rfl) ?_
   refine WL_guard rfl rfl ?_
   refine WL_move rfl rfl ?_
   refine WL_nil ?_
   refine WA_takeG 7 rfl (by kernel_rfl) (by kernel_rfl) (by kernel_rfl) rfl rfl rfl (fl_field Tryz.underlying93 rfl rfl (fun w => ⟨_, Tryz.sizeOf3 w⟩) rfl) ?_
   refine WL_guard rfl rfl ?_
   refine WL_field Tryz.underlying93 rfl rfl (fun w => ⟨_, Tryz.sizeOf3 w⟩) rfl rfl ?_
   refine WL_nil ?_
   obtain ⟨x3, hx1, hr1⟩ := bind_some hr1
   refine WA.sub (l' := [(0, u1), (1, (.agg #[(.int .i64 a2.1), u2, (.int .i64 a2.2.2.1), (.int .i64 a2.2.2.2.1), (.int .i64 a2.2.2.2.2)])), (3, (ptr b1 0)), (4, (.bool false)), (5, u1), (6, (ptr b1 0)), (7, (.int .i64 a2.1)), (8, (.bool x2)), (9, (.bool true)), (11, u1), (12, (ptr b1 0))]) ?_ ⟨rfl, rfl, rfl, rfl, rfl, rfl, rfl, rfl, rfl, rfl, rfl, trivial⟩
   refine WA_postsE [⟨5, [], fun vs => PW.val (.agg #[(.int .i64 a2.1), u2, (.int .i64 a2.2.2.1), (.int .i64 a2.2.2.2.1), (.int .i64 a2.2.2.2.2)]), []⟩, ⟨8, [], fun vs => PW.val (.int .i64 a2.1), []⟩, ⟨9, [], fun vs => PW.at [] w0 x3, []⟩, ⟨10, [], fun vs => PW.val (.int .i64 x3), []⟩] [[], [], [8], [9]] 3 rfl (by kernel_rfl) (by kernel_rfl) rfl ?_ ?_
   ·refine StepsE_cons rfl ?_ ?_
    ·intro w5 hB5
     refine DepsE_nil ?_
     refine ⟨_, rfl, ?_⟩
     refine WL_guard rfl rfl ?_
     refine WL_load_box_agg [(.int .i64 a2.1), u2, (.int .i64 a2.2.2.1), (.int .i64 a2.2.2.2.1), (.int .i64 a2.2.2.2.2)] (hC4.grow hB5) 0 rfl rfl rfl Tryz.isAgg93 Tryz.sizeOf93 rfl rfl ?_
     refine WL_nil ?_
     exact FinE_val (Below.refl _ _) rfl rfl ⟨rfl, rfl⟩
    refine StepsE_cons rfl ?_ ?_
    ·intro w5 hB5
     refine DepsE_nil ?_
     refine ⟨_, rfl, ?_⟩
     refine WL_guard rfl rfl ?_
     refine WL_load_box (hC4.grow hB5) 0 rfl rfl Tryz.isAgg3 rfl rfl ?_
     refine WL_nil ?_
     exact FinE_val (Below.refl _ _) rfl rfl ⟨rfl, rfl⟩
    refine StepsE_cons rfl ?_ ?_
    ·intro w5 hB5
     refine DepsE_cons rfl rfl rfl ?_
     rintro _ _ ⟨rfl, rfl⟩ _
     refine DepsE_nil ?_
     refine ⟨_, rfl, ?_⟩
     refine WL_guard rfl rfl ?_
     refine WL_index Tryz.underlying24 ty3 g1 hx1 rfl rfl rfl (fun b2 o1 h1 => ?_)
     refine WL_nil ?_
     exact FinE_val (Below.refl _ _) rfl rfl ⟨rfl, _, _, rfl, h1⟩
    refine StepsE_cons rfl ?_ ?_
    ·intro w5 hB5
     refine DepsE_cons rfl rfl rfl ?_
     rintro _ _ ⟨rfl, b2, o1, rfl, h1⟩ _
     refine DepsE_nil ?_
     refine ⟨_, rfl, ?_⟩
     refine WL_guard rfl rfl ?_
     refine WL_load ty3 h1 (hC4.keep.then hB5) rfl rfl (fun v1 h2 => ?_)
     obtain rfl := ro_int h2
     refine WL_nil ?_
     exact FinE_val (Below.refl _ _) rfl rfl ⟨rfl, rfl⟩
    exact StepsE_nil
   intro w6 hB6
   refine AllE_cons rfl rfl rfl ?_
   rintro _ _ ⟨rfl, rfl⟩
   refine AllE_cons rfl rfl rfl ?_
   rintro _ _ ⟨rfl, rfl⟩
   refine AllE_cons rfl rfl rfl ?_
   rintro _ _ ⟨rfl, b2, o1, rfl, h1⟩
   refine AllE_cons rfl rfl rfl ?_
   rintro _ _ ⟨rfl, rfl⟩
   refine AllE_nil ?_
   intro hn1 hb1
   have hC5 := hC4.grow hB6
   obtain ⟨x4, hr3, hr1⟩ := bind_some hr1
   refine WA_one 11 (by kernel_rfl) rfl ?_
   refine WL_guard rfl rfl ?_
   refine WL_call Tryz.call186 rfl rfl (c_M_Method_fits (a2.1, a2.2.1, a2.2.2.1, a2.2.2.2.1, a2.2.2.2.2) u2 (g2.now hC5.keep) x3 x4 hr3) ?_
   intro _ w7 hv2
   obtain ⟨rfl, hB7⟩ := res_bool hv2
   have hC6 := hC5.grow hB7
   refine WL_nil ?_
   refine WA_tk 12 (by kernel_rfl) rfl rfl (fl_pick_t rfl rfl) ?_
   refine WL_pick_t rfl rfl rfl ?_
   refine WL_nil ?_
   refine WA_tk 13 (by kernel_rfl) rfl rfl (fl_assign rfl) ?_
   refine WL_assign rfl rfl ?_
   refine WL_nil ?_
   refine WA_done (by kernel_rfl) ?_
   have hq1 := Option.some.inj hr1
   subst hq1
   have hC7 := hC6.h0
   refine nrm_sub (l' := [(4, (.bool x4))]) ⟨rfl, trivial⟩ ?_
   exact ⟨x4, rfl, rfl, ((((Keep.of hB3).then hB4).then hB6).then hB7).below, hC7⟩
  replace hr1 := ite_f hr1 hc1
  refine WA_sk 5 (by kernel_rfl) rfl rfl rfl rfl (by simp) rfl rfl ?_
  refine WA_sk 6 (by kernel_rfl) rfl rfl rfl rfl (by simp) rfl rfl ?_
  refine WA_sk 7 (by kernel_rfl) rfl rfl rfl rfl (by simp) rfl rfl ?_
  refine WA_sk 8 (by kernel_rfl) rfl rfl rfl rfl (by simp) rfl rfl ?_
  refine WA_sk 9 (by kernel_rfl) rfl rfl rfl rfl (by simp) rfl rfl ?_
  refine WA_sk 10 (by kernel_rfl) rfl rfl rfl rfl (by simp) rfl rfl ?_
  refine WA_sk 11 (by kernel_rfl) rfl rfl rfl rfl (by simp) rfl rfl ?_
  refine WA_tk 12 (by kernel_rfl) rfl rfl (fl_pick_f rfl rfl) ?_
  refine WL_pick_f rfl rfl rfl ?_
  refine WL_nil ?_
  refine WA_tk 13 (by kernel_rfl) rfl rfl (fl_assign rfl) ?_
  refine WL_assign rfl rfl ?_
  refine WL_nil ?_
  refine WA_done (by kernel_rfl) ?_
  have hq2 := Option.some.inj hr1
  subst hq2
  have hC8 := hC4.h0
  refine nrm_sub (l' := [(4, (.bool false))]) ⟨rfl, trivial⟩ ?_
  exact ⟨false, rfl, rfl, ((Keep.of hB3).then hB4).below, hC8⟩
 rintro _ w2 ⟨x1, rfl, rfl, hB2, hC2⟩
 try dsimp only at hF
 refine W_ret ?_
 have hq3 := Option.some.inj hF
 subst hq3
 refine fn_ret1 rfl rfl ?_
 exact ⟨_, rfl, bool_res hC2 _⟩

theorem c_M_AreMethods_c1 {w0 : World} (a1 : (Int × (List Int) × Int × Int × Int)) (u1 : Value) (g1 : RO [] w0 u1 a1.2.1) (pb1 : Nat) (ax1 : (List Int)) (g2 : ROAt [] w0 pb1 0 ax1) (rr : Bool) (hF : M.AreMethods_c1 a1 ax1 = some rr) :
 Calls Tryz.prog 134 [(.agg #[(.int .i64 a1.1), u1, (.int .i64 a1.2.2.1), (.int .i64 a1.2.2.2.1), (.int .i64 a1.2.2.2.2)]), (ptr pb1 0)].toArray w0 fun e w' => ∃ v, e = .returned v ∧ Res w0 rr v w' := by
 refine calls_of_W Tryz.func134 rfl rfl ?_
 have hC0 := Ctx.start w0
 unfold M.AreMethods_c1 at hF
 refine W_seq_reg ?_
 refine WL_boxK (cs := [(.int .i64 a1.1), u1, (.int .i64 a1.2.2.1), (.int .i64 a1.2.2.2.1), (.int .i64 a1.2.2.2.2)]) hC0 rfl rfl rfl (fun b1 w1 hC1 hB1 hN1 => ?_)
 refine WL_assign rfl rfl ?_
 refine WL_nil (W_seq_reg ?_)
 refine WL_load ty24 g2 hC1.keep rfl rfl (fun v1 h1 => ?_)
 refine WL_load_box_agg [(.int .i64 a1.1), u1, (.int .i64 a1.2.2.1), (.int .i64 a1.2.2.2.1), (.int .i64 a1.2.2.2.2)] hC1 0 rfl rfl rfl Tryz.isAgg93 Tryz.sizeOf93 rfl rfl ?_
 obtain ⟨x1, hr1, hF⟩ := bind_some hF
 refine WL_call Tryz.call135 rfl rfl (c_M_IsMethod ax1 v1 (h1.now hC1.keep) (a1.1, a1.2.1, a1.2.2.1, a1.2.2.2.1, a1.2.2.2.2) u1 (g1.now hC1.keep) x1 hr1) ?_
 intro _ w2 hv1
 obtain ⟨rfl, hB2⟩ := res_bool hv1
 have hC2 := hC1.grow hB2
 refine WL_not rfl rfl ?_
 refine WL_assign rfl rfl ?_
 refine WL_nil (W_ret ?_)
 have hq1 := Option.some.inj hF
 subst hq1
 refine fn_ret1 rfl rfl ?_
 exact ⟨_, rfl, bool_res hC2 _⟩

theorem c_Slices_IndexFunc_Limpl_Method_impl_Method_M_AreMethods_c1 {w0 : World} (a1 : (List (Int × (List Int) × Int × Int × Int))) (u1 : Value) (g1 : RO [] w0 u1 a1) (pb1 : Nat) (ax1 : (List Int)) (g2 : ROAt [] w0 pb1 0 ax1) (rr : Int) (hF : Slices.IndexFunc_Limpl_Method_impl_Method_M_AreMethods_c1 a1 ax1 = some rr) :
 Calls Tryz.prog 184 [u1, (.func (.func 134) #[] #[(ptr pb1 0)])].toArray w0 fun e w' => ∃ v, e = .returned v ∧ Res w0 rr v w' := by
 refine calls_of_W Tryz.func184 rfl rfl ?_
 have hC0 := Ctx.start w0
 unfold Slices.IndexFunc_Limpl_Method_impl_Method_M_AreMethods_c1 at hF
 refine W_seq_reg ?_
 refine WL_assign rfl rfl ?_
 refine WL_nil (W_seq (W_seq_reg ?_))
 refine WL_move rfl rfl ?_
 refine WL_len Tryz.underlying25 g1 rfl rfl ?_
 refine WL_move rfl rfl ?_
 refine WL_nil ?_
 obtain ⟨r1, hr1, hF⟩ := bind_some hF
 refine W_norm (fun l w => .inl () = r1 ∧ l = [] ∧ Below w0.heap.size w0 w ∧ Ctx [] w0 w []) ?_ ?_
 ·refine W_block ?_
  refine W.sub (l' := [(0, u1), (1, (.func (.func 134) #[] #[(ptr pb1 0)])), (7, (.int .i64 (List.length a1 : Int))), (8, (.int .i64 0))]) ?_ ⟨rfl, rfl, rfl, rfl, trivial⟩
  refine W_loop (fun k l w => ∃ x1 : Int, l = [(0, u1), (1, (.func (.func 134) #[] #[(ptr pb1 0)])), (7, (.int .i64 (List.length a1 : Int))), (8, (.int .i64 x1))] ∧ Below w0.heap.size w0 w ∧ Ctx [] w0 w [] ∧ Slices.IndexFunc_Limpl_Method_impl_Method_M_AreMethods_c1_l1 a1 ax1 k x1 = some r1) FUEL ⟨0, rfl, (Below.refl _ _), hC0, hr1⟩ ?_
  clear hr1
  rintro k1 _ w1 ⟨x1, rfl, hB1, hC1, hL1⟩
  cases k1 with
  | zero => rw [Slices.IndexFunc_Limpl_Method_impl_Method_M_AreMethods_c1_l1] at hL1; cases hL1
  | succ k1 =>
   rw [Slices.IndexFunc_Limpl_Method_impl_Method_M_AreMethods_c1_l1] at hL1
   refine W_seq_reg ?_
   refine WL_lss rfl rfl rfl ?_
   refine WL_nil (W_seq ?_)
   refine W_cond rfl (fun hc1 => ?_) (fun hc1 => ?_)
   ·replace hL1 := ite_t hL1 hc1
    refine W_skip (nrm_normal (W_seq (W_block (W_seq_reg ?_))))
    refine WL_move rfl rfl ?_
    refine WL_assign rfl rfl ?_
    refine WL_nil (W_seq_reg ?_)
    refine WL_move rfl rfl ?_
    refine WL_move rfl rfl ?_
    refine WL_move rfl rfl ?_
    obtain ⟨x2, hx1, hL1⟩ := bind_some hL1
    refine WL_index Tryz.underlying25 ty93 g1 hx1 rfl rfl rfl (fun b1 o1 h1 => ?_)
    refine WL_load ty93 h1 hC1.keep rfl rfl (fun v1 h2 => ?_)
    obtain ⟨v2, rfl, h3⟩ := ro_st93 h2
    obtain ⟨x3, hr2, hL1⟩ := bind_some hL1
    refine WL_callv (cap := [(ptr pb1 0)]) Tryz.call134 rfl rfl rfl (c_M_AreMethods_c1 x2 v2 (h3.now hC1.keep) pb1 ax1 (g2.now hC1.keep) x3 hr2) ?_
    intro _ w2 hv1
    obtain ⟨rfl, hB2⟩ := res_bool hv1
    have hC2 := hC1.grow hB2
    refine WL_nil ?_
    refine W_cond rfl (fun hc2 => ?_) (fun hc2 => ?_)
    ·replace hL1 := ite_t hL1 hc2
     refine W_seq_reg ?_
     refine WL_move rfl rfl ?_
     refine WL_assign rfl rfl ?_
     refine WL_nil (W_ret (blk_ret (nrm_ret (nrm_ret (blk_ret (nrm_ret (nrm_ret ?_)))))))
     have hq1 := Option.some.inj hL1
     subst hq1
     dsimp only at hF
     have hq2 := Option.some.inj hF
     subst hq2
     refine fn_ret1 rfl rfl ?_
     exact ⟨_, rfl, int_res hC2 _⟩
    replace hL1 := ite_f hL1 hc2
    refine W_skip (blk_normal (nrm_normal (W_reg ?_)))
    refine WL_add rfl rfl rfl ?_
    refine WL_move rfl rfl ?_
    refine WL_nil ?_
    refine nrm_sub (l' := [(0, u1), (1, (.func (.func 134) #[] #[(ptr pb1 0)])), (7, (.int .i64 (List.length a1 : Int))), (8, (.int .i64 (w64 (x1 + 1))))]) ⟨rfl, rfl, rfl, rfl, trivial⟩ ?_
    exact ⟨k1, Nat.lt_succ_self _, w64 (x1 + 1), rfl, ((Keep.of hB1).then hB2).below, hC2, hL1⟩
   replace hL1 := ite_f hL1 hc1
   refine W_exit (nrm_exit (nrm_exit (blk_exit ?_)))
   have hq3 := Option.some.inj hL1
   subst hq3
   refine nrm_sub (l' := []) trivial ?_
   exact ⟨rfl, rfl, (Keep.of hB1).below, hC1⟩
 rintro l2 _ w3 hs2 ⟨rfl, rfl, hB3, hC3⟩
 try dsimp only at hF
 refine nrm_sub' hs2 ?_
 clear hs2
 refine W_seq_reg ?_
 refine WL_assign rfl rfl ?_
 refine WL_nil (W_ret ?_)
 have hq4 := Option.some.inj hF
 subst hq4
 refine fn_ret1 rfl rfl ?_
 exact ⟨_, rfl, int_res hC3 _⟩

theorem c_Slices_ContainsFunc_Limpl_Method_impl_Method_M_AreMethods_c1 {w0 : World} (a1 : (List (Int × (List Int) × Int × Int × Int))) (u1 : Value) (g1 : RO [] w0 u1 a1) (pb1 : Nat) (ax1 : (List Int)) (g2 : ROAt [] w0 pb1 0 ax1) (rr : Bool) (hF : Slices.ContainsFunc_Limpl_Method_impl_Method_M_AreMethods_c1 a1 ax1 = some rr) :
 Calls Tryz.prog 133 [u1, (.func (.func 134) #[] #[(ptr pb1 0)])].toArray w0 fun e w' => ∃ v, e = .returned v ∧ Res w0 rr v w' := by
 refine calls_of_W Tryz.func133 rfl rfl ?_
 have hC0 := Ctx.start w0
 unfold Slices.ContainsFunc_Limpl_Method_impl_Method_M_AreMethods_c1 at hF
 refine W_seq_reg ?_
 refine WL_assign rfl rfl ?_
 refine WL_nil (W_seq_reg ?_)
 refine WL_move rfl rfl ?_
 refine WL_move rfl rfl ?_
 obtain ⟨x1, hr1, hF⟩ := bind_some hF
 refine WL_call Tryz.call184 rfl rfl (c_Slices_IndexFunc_Limpl_Method_impl_Method_M_AreMethods_c1 a1 u1 (g1.now hC0.keep) pb1 ax1 (g2.now hC0.keep) x1 hr1) ?_
 intro _ w1 hv1
 obtain ⟨rfl, hB1⟩ := res_int hv1
 have hC1 := hC0.grow hB1
 refine WL_geq rfl rfl rfl ?_
 refine WL_assign rfl rfl ?_
 refine WL_nil (W_ret ?_)
 have hq1 := Option.some.inj hF
 subst hq1
 refine fn_ret1 rfl rfl ?_
 exact ⟨_, rfl, bool_res hC1 _⟩

theorem c_M_AreMethods {w0 : World} (a1 : (List Int)) (u1 : Value) (g1 : RO [] w0 u1 a1) (a2 : (List (Int × (List Int) × Int × Int × Int))) (u2 : Value) (g2 : RO [] w0 u2 a2) (rr : Bool) (hF : M.AreMethods a1 a2 = some rr) :
 Calls Tryz.prog 71 [u1, u2].toArray w0 fun e w' => ∃ v, e = .returned v ∧ Res w0 rr v w' := by
 refine calls_of_W Tryz.func71 rfl rfl ?_
 have hC0 := Ctx.start w0
 unfold M.AreMethods at hF
 refine W_seq_reg ?_
 refine WL_boxK (cs := [u1]) hC0 (ro_cells g1) rfl rfl (fun b1 w1 hC1 hB1 hN1 => ?_)
 refine WL_assign rfl rfl ?_
 refine WL_nil ?_
 obtain ⟨r1, hr1, hF⟩ := bind_some hF
 refine W_cut (fun l w => ∃ x1 : Bool, x1 = r1 ∧ l = [(4, (.bool x1))] ∧ Below w1.heap.size w1 w ∧ Ctx [] w0 w []) ?_ ?_
 ·refine W_reg ?_
  refine WL_load_box hC1 0 rfl rfl Tryz.isAgg24 rfl rfl ?_
  obtain ⟨x2, hr2, hr1⟩ := bind_some hr1
  refine WL_call Tryz.call132 rfl rfl (c_M_IsSchema a1 u1 (g1.now hC1.keep) x2 hr2) ?_
  intro _ w3 hv1
  obtain ⟨rfl, hB3⟩ := res_bool hv1
  have hC3 := hC1.grow hB3
  refine WL_move rfl rfl ?_
  refine WL_fork (fun hc1 => ?_) (fun hc1 => ?_)
  ·replace hr1 := ite_t hr1 hc1
   refine WL_guard rfl rfl ?_
   refine WL_move rfl rfl ?_
   refine WL_guard rfl rfl ?_
   refine WL_len Tryz.underlying25 g2 rfl rfl ?_
   refine WL_guard rfl rfl ?_
   refine WL_leq rfl rfl rfl ?_
   refine WL_pick_t rfl rfl rfl ?_
   refine WL_move rfl rfl ?_
   refine WL_fork (fun hc2 => ?_) (fun hc2 => ?_)
   ·replace hr1 := ite_t hr1 hc2
    refine WL_guard rfl rfl ?_
    refine WL_move rfl rfl ?_
    refine WL_guard rfl rfl ?_
    refine WL_makeFunc rfl rfl ?_
    obtain ⟨x3, hr3, hr1⟩ := bind_some hr1
    refine WL_guard rfl rfl ?_
    refine WL_call Tryz.call133 rfl rfl (c_Slices_ContainsFunc_Limpl_Method_impl_Method_M_AreMethods_c1 a2 u2 (g2.now hC3.keep) b1 a1 (hC3.boxAt 0 rfl (repw_slice (g1.now hC3.keep))) x3 hr3) ?_
    intro _ w4 hv2
    obtain ⟨rfl, hB4⟩ := res_bool hv2
    have hC4 := hC3.grow hB4
    refine WL_guard rfl rfl ?_
    refine WL_not rfl rfl ?_
    refine WL_pick_t rfl rfl rfl ?_
    refine WL_assign rfl rfl ?_
    refine WL_nil ?_
    have hq1 := Option.some.inj hr1
    subst hq1
    have hC5 := hC4.h0
    refine nrm_sub (l' := [(4, (.bool (!x3)))]) ⟨rfl, trivial⟩ ?_
    exact ⟨(!x3), rfl, rfl, ((Keep.of hB3).then hB4).below, hC5⟩
   replace hr1 := ite_f hr1 hc2
   refine WL_guard_skip rfl rfl (by simp) rfl ?_
   refine WL_guard_skip rfl rfl (by simp) rfl ?_
   refine WL_guard_skip rfl rfl (by simp) rfl ?_
   refine WL_guard_skip rfl rfl (by simp) rfl ?_
   refine WL_pick_f rfl rfl rfl ?_
   refine WL_assign rfl rfl ?_
   refine WL_nil ?_
   have hq2 := Option.some.inj hr1
   subst hq2
   have hC6 := hC3.h0
   refine nrm_sub (l' := [(4, (.bool false))]) ⟨rfl, trivial⟩ ?_
   exact ⟨false, rfl, rfl, (Keep.of hB3).below, hC6⟩
  replace hr1 := ite_f hr1 hc1
  refine WL_guard_skip rfl rfl (by simp) rfl ?_
  refine WL_guard_skip rfl rfl (by simp) rfl ?_
  refine WL_guard_skip rfl rfl (by simp) rfl ?_
  refine WL_pick_f rfl rfl rfl ?_
  refine WL_move rfl rfl ?_
  refine WL_guard_skip rfl rfl (by simp) rfl ?_
  refine WL_guard_skip rfl rfl (by simp) rfl ?_
  refine WL_guard_skip rfl rfl (by simp) rfl ?_
  refine WL_guard_skip rfl rfl (by simp) rfl ?_
  refine WL_pick_f rfl rfl rfl ?_
  refine WL_assign rfl rfl ?_
  refine WL_nil ?_
  have hq3 := Option.some.inj hr1
  subst hq3
  have hC7 := hC3.h0
  refine nrm_sub (l' := [(4, (.bool false))]) ⟨rfl, trivial⟩ ?_
  exact ⟨false, rfl, rfl, (Keep.of hB3).below, hC7⟩
 rintro _ w2 ⟨x1, rfl, rfl, hB2, hC2⟩
 try dsimp only at hF
 refine W_ret ?_
 have hq4 := Option.some.inj hF
 subst hq4
 refine fn_ret1 rfl rfl ?_
 exact ⟨_, rfl, bool_res hC2 _⟩

theorem c_M_isValue {w0 : World} (a1 : Int) (rr : Bool) (hF : M.isValue a1 = some rr) :
 Calls Tryz.prog 190 [(.int .i64 a1)].toArray w0 fun e w' => ∃ v, e = .returned v ∧ Res w0 rr v w' := by
 refine calls_of_W Tryz.func190 rfl rfl ?_
 have hC0 := Ctx.start w0
 unfold M.isValue at hF
 refine W_seq_reg ?_
 refine WL_assign rfl rfl ?_
 refine WL_nil (W_seq_reg ?_)
 refine WL_move rfl rfl ?_
 obtain ⟨x1, hr1, hF⟩ := bind_some hF
 refine WL_call Tryz.call147 rfl rfl (c_M_within a1 0 9 x1 hr1) ?_
 intro _ w1 hv1
 obtain ⟨rfl, hB1⟩ := res_bool hv1
 have hC1 := hC0.grow hB1
 refine WL_assign rfl rfl ?_
 refine WL_nil (W_ret ?_)
 have hq1 := Option.some.inj hF
 subst hq1
 refine fn_ret1 rfl rfl ?_
 exact ⟨_, rfl, bool_res hC1 _⟩

theorem c_M_areValues_c1 {w0 : World} (a1 : Int) (rr : Bool) (hF : M.areValues_c1 a1 = some rr) :
 Calls Tryz.prog 189 [(.int .i64 a1)].toArray w0 fun e w' => ∃ v, e = .returned v ∧ Res w0 rr v w' := by
 refine calls_of_W Tryz.func189 rfl rfl ?_
 have hC0 := Ctx.start w0
 unfold M.areValues_c1 at hF
 refine W_seq_reg ?_
 refine WL_assign rfl rfl ?_
 refine WL_nil (W_seq_reg ?_)
 refine WL_move rfl rfl ?_
 obtain ⟨x1, hr1, hF⟩ := bind_some hF
 refine WL_call Tryz.call190 rfl rfl (c_M_isValue a1 x1 hr1) ?_
 intro _ w1 hv1
 obtain ⟨rfl, hB1⟩ := res_bool hv1
 have hC1 := hC0.grow hB1
 refine WL_not rfl rfl ?_
 refine WL_assign rfl rfl ?_
 refine WL_nil (W_ret ?_)
 have hq1 := Option.some.inj hF
 subst hq1
 refine fn_ret1 rfl rfl ?_
 exact ⟨_, rfl, bool_res hC1 _⟩

theorem c_Slices_IndexFunc_Lint_int_M_areValues_c1 {w0 : World} (a1 : (List Int)) (u1 : Value) (g1 : RO [] w0 u1 a1) (rr : Int) (hF : Slices.IndexFunc_Lint_int_M_areValues_c1 a1 = some rr) :
 Calls Tryz.prog 205 [u1, (.func (.func 189) #[] #[])].toArray w0 fun e w' => ∃ v, e = .returned v ∧ Res w0 rr v w' := by
 refine calls_of_W Tryz.func205 rfl rfl ?_
 have hC0 := Ctx.start w0
 unfold Slices.IndexFunc_Lint_int_M_areValues_c1 at hF
 refine W_seq_reg ?_
 refine WL_assign rfl rfl ?_
 refine WL_nil (W_seq (W_seq_reg ?_))
 refine WL_move rfl rfl ?_
 refine WL_len Tryz.underlying24 g1 rfl rfl ?_
 refine WL_move rfl rfl ?_
 refine WL_nil ?_
 obtain ⟨r1, hr1, hF⟩ := bind_some hF
 refine W_norm (fun l w => .inl () = r1 ∧ l = [] ∧ Below w0.heap.size w0 w ∧ Ctx [] w0 w []) ?_ ?_
 ·refine W_block ?_
  refine W.sub (l' := [(0, u1), (1, (.func (.func 189) #[] #[])), (7, (.int .i64 (List.length a1 : Int))), (8, (.int .i64 0))]) ?_ ⟨rfl, rfl, rfl, rfl, trivial⟩
  refine W_loop (fun k l w => ∃ x1 : Int, l = [(0, u1), (1, (.func (.func 189) #[] #[])), (7, (.int .i64 (List.length a1 : Int))), (8, (.int .i64 x1))] ∧ Below w0.heap.size w0 w ∧ Ctx [] w0 w [] ∧ Slices.IndexFunc_Lint_int_M_areValues_c1_l1 a1 k x1 = some r1) FUEL ⟨0, rfl, (Below.refl _ _), hC0, hr1⟩ ?_
  clear hr1
  rintro k1 _ w1 ⟨x1, rfl, hB1, hC1, hL1⟩
  cases k1 with
  | zero => rw [Slices.IndexFunc_Lint_int_M_areValues_c1_l1] at hL1; cases hL1
  | succ k1 =>
   rw [Slices.IndexFunc_Lint_int_M_areValues_c1_l1] at hL1
   refine W_seq_reg ?_
   refine WL_lss rfl rfl rfl ?_
   refine WL_nil (W_seq ?_)
   refine W_cond rfl (fun hc1 => ?_) (fun hc1 => ?_)
   ·replace hL1 := ite_t hL1 hc1
    refine W_skip (nrm_normal (W_seq (W_block (W_seq_reg ?_))))
    refine WL_move rfl rfl ?_
    refine WL_assign rfl rfl ?_
    refine WL_nil (W_seq_reg ?_)
    refine WL_move rfl rfl ?_
    refine WL_move rfl rfl ?_
    refine WL_move rfl rfl ?_
    obtain ⟨x2, hx1, hL1⟩ := bind_some hL1
    refine WL_index Tryz.underlying24 ty3 g1 hx1 rfl rfl rfl (fun b1 o1 h1 => ?_)
    refine WL_load ty3 h1 hC1.keep rfl rfl (fun v1 h2 => ?_)
    obtain rfl := ro_int h2
    obtain ⟨x3, hr2, hL1⟩ := bind_some hL1
    refine WL_callv (cap := []) Tryz.call189 rfl rfl rfl (c_M_areValues_c1 x2 x3 hr2) ?_
    intro _ w2 hv1
    obtain ⟨rfl, hB2⟩ := res_bool hv1
    have hC2 := hC1.grow hB2
    refine WL_nil ?_
    refine W_cond rfl (fun hc2 => ?_) (fun hc2 => ?_)
    ·replace hL1 := ite_t hL1 hc2
     refine W_seq_reg ?_
     refine WL_move rfl rfl ?_
     refine WL_assign rfl rfl ?_
     refine WL_nil (W_ret (blk_ret (nrm_ret (nrm_ret (blk_ret (nrm_ret (nrm_ret ?_)))))))
     have hq1 := Option.some.inj hL1
     subst hq1
     dsimp only at hF
     have hq2 := Option.some.inj hF
     subst hq2
     refine fn_ret1 rfl rfl ?_
     exact ⟨_, rfl, int_res hC2 _⟩
    replace hL1 := ite_f hL1 hc2
    refine W_skip (blk_normal (nrm_normal (W_reg ?_)))
    refine WL_add rfl rfl rfl ?_
    refine WL_move rfl rfl ?_
    refine WL_nil ?_
    refine nrm_sub (l' := [(0, u1), (1, (.func (.func 189) #[] #[])), (7, (.int .i64 (List.length a1 : Int))), (8, (.int .i64 (w64 (x1 + 1))))]) ⟨rfl, rfl, rfl, rfl, trivial⟩ ?_
    exact ⟨k1, Nat.lt_succ_self _, w64 (x1 + 1), rfl, ((Keep.of hB1).then hB2).below, hC2, hL1⟩
   replace hL1 := ite_f hL1 hc1
   refine W_exit (nrm_exit (nrm_exit (blk_exit ?_)))
   have hq3 := Option.some.inj hL1
   subst hq3
   refine nrm_sub (l' := []) trivial ?_
   exact ⟨rfl, rfl, (Keep.of hB1).below, hC1⟩
 rintro l2 _ w3 hs2 ⟨rfl, rfl, hB3, hC3⟩
 try dsimp only at hF
 refine nrm_sub' hs2 ?_
 clear hs2
 refine W_seq_reg ?_
 refine WL_assign rfl rfl ?_
 refine WL_nil (W_ret ?_)
 have hq4 := Option.some.inj hF
 subst hq4
 refine fn_ret1 rfl rfl ?_
 exact ⟨_, rfl, int_res hC3 _⟩

theorem c_Slices_ContainsFunc_Lint_int_M_areValues_c1 {w0 : World} (a1 : (List Int)) (u1 : Value) (g1 : RO [] w0 u1 a1) (rr : Bool) (hF : Slices.ContainsFunc_Lint_int_M_areValues_c1 a1 = some rr) :
 Calls Tryz.prog 182 [u1, (.func (.func 189) #[] #[])].toArray w0 fun e w' => ∃ v, e = .returned v ∧ Res w0 rr v w' := by
 refine calls_of_W Tryz.func182 rfl rfl ?_
 have hC0 := Ctx.start w0
 unfold Slices.ContainsFunc_Lint_int_M_areValues_c1 at hF
 refine W_seq_reg ?_
 refine WL_assign rfl rfl ?_
 refine WL_nil (W_seq_reg ?_)
 refine WL_move rfl rfl ?_
 refine WL_move rfl rfl ?_
 obtain ⟨x1, hr1, hF⟩ := bind_some hF
 refine WL_call Tryz.call205 rfl rfl (c_Slices_IndexFunc_Lint_int_M_areValues_c1 a1 u1 (g1.now hC0.keep) x1 hr1) ?_
 intro _ w1 hv1
 obtain ⟨rfl, hB1⟩ := res_int hv1
 have hC1 := hC0.grow hB1
 refine WL_geq rfl rfl rfl ?_
 refine WL_assign rfl rfl ?_
 refine WL_nil (W_ret ?_)
 have hq1 := Option.some.inj hF
 subst hq1
 refine fn_ret1 rfl rfl ?_
 exact ⟨_, rfl, bool_res hC1 _⟩

theorem c_M_areValues {w0 : World} (a1 : (List Int)) (u1 : Value) (g1 : RO [] w0 u1 a1) (rr : Bool) (hF : M.areValues a1 = some rr) :
 Calls Tryz.prog 148 [u1].toArray w0 fun e w' => ∃ v, e = .returned v ∧ Res w0 rr v w' := by
 refine calls_of_W Tryz.func148 rfl rfl ?_
 have hC0 := Ctx.start w0
 unfold M.areValues at hF
 refine W_seq_reg ?_
 refine WL_assign rfl rfl ?_
 refine WL_nil (W_seq_reg ?_)
 refine WL_move rfl rfl ?_
 obtain ⟨x1, hr1, hF⟩ := bind_some hF
 refine WL_call Tryz.call182 rfl rfl (c_Slices_ContainsFunc_Lint_int_M_areValues_c1 a1 u1 (g1.now hC0.keep) x1 hr1) ?_
 intro _ w1 hv1
 obtain ⟨rfl, hB1⟩ := res_bool hv1
 have hC1 := hC0.grow hB1
 refine WL_not rfl rfl ?_
 refine WL_assign rfl rfl ?_
 refine WL_nil (W_ret ?_)
 have hq1 := Option.some.inj hF
 subst hq1
 refine fn_ret1 rfl rfl ?_
 exact ⟨_, rfl, bool_res hC1 _⟩

end Go.Gx.Px
