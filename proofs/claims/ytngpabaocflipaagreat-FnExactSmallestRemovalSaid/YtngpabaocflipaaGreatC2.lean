/- The contracts of the Go functions against the pure functions, printed by program. Conditions: each says them. -/
import Derived.Test.YtngpabaocflipaaGreatC1
set_option linter.unusedVariables false
set_option linter.unusedSimpArgs false
set_option maxRecDepth 100000
set_option maxHeartbeats 4000000
namespace Go.Gx.Px
open Go.Proofs Go.RowKit

theorem c_S_FirstConflict {w0 : World} (a1 : (List Int)) (u1 : Value) (g1 : RO [] w0 u1 a1) (a2 : (List (Int × (List Int) × Int × Int × Int))) (u2 : Value) (g2 : RO [] w0 u2 a2) (a3 : (List ((Int × (List Int)) × (List (Int × (List Int)))))) (u3 : Value) (g3 : RO [] w0 u3 a3) (rr : (Int × Int × Bool)) (hF : S.FirstConflict a1 a2 a3 = some rr) :
 Calls Tryz.prog 12 [u1, u2, u3].toArray w0 fun e w' => ∃ v, e = .returned v ∧ Res3 w0 rr.1 rr.2.1 rr.2.2 v w' := by
 refine calls_of_W Tryz.func12 rfl rfl ?_
 have hC0 := Ctx.start w0
 unfold S.FirstConflict at hF
 refine W_seq_reg ?_
 refine WL_assign rfl rfl ?_
 refine WL_assign rfl rfl ?_
 refine WL_assign rfl rfl ?_
 refine WL_nil ?_
 refine W_seq ?_
 refine W_seq_reg ?_
 refine WL_assign rfl rfl ?_
 refine WL_nil ?_
 obtain ⟨r1, hr1, hF⟩ := bind_some hF
 refine W_norm (fun l w => .inl () = r1 ∧ l = [] ∧ Below w0.heap.size w0 w ∧ Ctx [] w0 w []) ?_ ?_
 ·refine W_block ?_
  refine W.sub (l' := [(0, u1), (1, u2), (2, u3), (9, (.int .i64 0))]) ?_ ⟨rfl, rfl, rfl, rfl, trivial⟩
  refine W_loop (fun k l w => ∃ x1 : Int, l = [(0, u1), (1, u2), (2, u3), (9, (.int .i64 x1))] ∧ Below w0.heap.size w0 w ∧ Ctx [] w0 w [] ∧ S.FirstConflict_l1 a3 a1 a2 k x1 = some r1) FUEL ⟨0, rfl, (Below.refl _ _), hC0, hr1⟩ ?_
  clear hr1
  rintro k1 _ w1 ⟨x1, rfl, hB1, hC1, hL1⟩
  cases k1 with
  | zero => rw [S.FirstConflict_l1] at hL1; cases hL1
  | succ k1 =>
   rw [S.FirstConflict_l1] at hL1
   refine W_seq ?_
   refine W_seq_reg ?_
   refine WL_move rfl rfl ?_
   refine WL_move rfl rfl ?_
   refine WL_len Tryz.underlying26 g3 rfl rfl ?_
   refine WL_lss rfl rfl rfl ?_
   refine WL_nil ?_
   refine W_cond rfl (fun hc1 => ?_) (fun hc1 => ?_)
   ·replace hL1 := ite_t hL1 hc1
    refine W_skip ?_
    refine nrm_normal ?_
    refine W_seq ?_
    refine W_block ?_
    refine W_seq ?_
    refine W_seq_reg ?_
    refine WL_move rfl rfl ?_
    refine WL_move rfl rfl ?_
    refine WL_move rfl rfl ?_
    refine WL_move rfl rfl ?_
    obtain ⟨x2, hx1, hL1⟩ := bind_some hL1
    refine WL_index Tryz.underlying26 ty46 g3 hx1 rfl rfl rfl (fun b1 o1 h1 => ?_)
    refine WL_load ty46 h1 hC1.keep rfl rfl (fun v1 h2 => ?_)
    obtain ⟨v2, v3, rfl, h3, h4⟩ := ro_st46 h2
    obtain ⟨x3, hr2, hL1⟩ := bind_some hL1
    refine WL_call Tryz.call30 rfl rfl (c_S_FitsSelf a1 u1 (g1.now hC1.keep) a2 u2 (g2.now hC1.keep) x2 v2 (h3.now hC1.keep) v3 (h4.now hC1.keep) x3 hr2) ?_
    intro _ w2 hv1
    obtain ⟨rfl, hB2⟩ := res_bool hv1
    have hC2 := hC1.grow hB2
    refine WL_not rfl rfl ?_
    refine WL_nil ?_
    refine W_cond rfl (fun hc2 => ?_) (fun hc2 => ?_)
    ·replace hL1 := ite_t hL1 hc2
     refine W_seq_reg ?_
     refine WL_move rfl rfl ?_
     refine WL_move rfl rfl ?_
     refine WL_assign rfl rfl ?_
     refine WL_assign rfl rfl ?_
     refine WL_assign rfl rfl ?_
     refine WL_nil ?_
     refine W_ret ?_
     refine nrm_ret ?_
     refine blk_ret ?_
     refine nrm_ret ?_
     refine nrm_ret ?_
     refine blk_ret ?_
     refine nrm_ret ?_
     refine nrm_ret ?_
     have hq1 := Option.some.inj hL1
     subst hq1
     dsimp only at hF
     have hq2 := Option.some.inj hF
     subst hq2
     refine fn_ret3 rfl rfl rfl rfl ?_
     have hC3 := hC2.triv (bool_val (true))
     have hC4 := hC3.triv (int_val (x1))
     have hC5 := hC4.triv (int_val (x1))
     exact ⟨_, rfl, res3_of hC5⟩
    replace hL1 := ite_f hL1 hc2
    refine W_skip ?_
    refine nrm_normal ?_
    refine W_seq_reg ?_
    refine WL_assign rfl rfl ?_
    refine WL_nil ?_
    obtain ⟨r2, hr3, hL1⟩ := bind_some hL1
    refine W_norm (fun l w => .inl () = r2 ∧ l = [(0, u1), (1, u2), (2, u3), (9, (.int .i64 x1))] ∧ Below w2.heap.size w2 w ∧ Ctx [] w0 w []) ?_ ?_
    ·refine W_block ?_
     refine W.sub (l' := [(0, u1), (1, u2), (2, u3), (9, (.int .i64 x1)), (10, (.int .i64 0))]) ?_ ⟨rfl, rfl, rfl, rfl, rfl, trivial⟩
     refine W_loop (fun k l w => ∃ x4 : Int, l = [(0, u1), (1, u2), (2, u3), (9, (.int .i64 x1)), (10, (.int .i64 x4))] ∧ Below w2.heap.size w2 w ∧ Ctx [] w0 w [] ∧ S.FirstConflict_l2 x1 a3 a1 a2 k x4 = some r2) FUEL ⟨0, rfl, (Below.refl _ _), hC2, hr3⟩ ?_
     clear hr3
     rintro k2 _ w3 ⟨x4, rfl, hB3, hC6, hL2⟩
     cases k2 with
     | zero => rw [S.FirstConflict_l2] at hL2; cases hL2
     | succ k2 =>
      rw [S.FirstConflict_l2] at hL2
      refine W_seq ?_
      refine W_seq_reg ?_
      refine WL_move rfl rfl ?_
      refine WL_move rfl rfl ?_
      refine WL_lss rfl rfl rfl ?_
      refine WL_nil ?_
      refine W_cond rfl (fun hc3 => ?_) (fun hc3 => ?_)
      ·replace hL2 := ite_t hL2 hc3
       refine W_skip ?_
       refine nrm_normal ?_
       refine W_seq ?_
       refine W_block ?_
       refine W_seq ?_
       refine W_drawn 11 rfl hmix (fun w4 hB4 => ?_)
       have hC7 := hC6.grow hB4
       refine WA_tk 0 (by kernel_rfl) rfl rfl (fl_move rfl) ?_
       refine WL_move rfl rfl ?_
       refine WL_nil ?_
       refine WA_tk 1 (by kernel_rfl) rfl rfl (fl_move rfl) ?_
       refine WL_move rfl rfl ?_
       refine WL_nil ?_
       refine WA_tk 2 (by kernel_rfl) rfl rfl (fl_move rfl) ?_
       refine WL_move rfl rfl ?_
       refine WL_nil ?_
       refine WA_tk 3 (by kernel_rfl) rfl rfl (fl_move rfl) ?_
       refine WL_move rfl rfl ?_
       refine WL_nil ?_
       obtain ⟨x5, hx2, hL2⟩ := bind_some hL2
       refine WA_tk 4 (by kernel_rfl) rfl rfl (fl_index Tryz.underlying26 ty46 g3 hx2 rfl rfl) ?_
       refine WL_index Tryz.underlying26 ty46 g3 hx2 rfl rfl rfl (fun b2 o2 h5 => ?_)
       refine WL_nil ?_
       refine WA_tk 6 (by kernel_rfl) rfl rfl (fl_move rfl) ?_
       refine WL_move rfl rfl ?_
       refine WL_nil ?_
       refine WA_tk 7 (by kernel_rfl) rfl rfl (fl_move rfl) ?_
       refine WL_move rfl rfl ?_
       refine WL_nil ?_
       obtain ⟨x6, hx3, hL2⟩ := bind_some hL2
       refine WA_tk 8 (by kernel_rfl) rfl rfl (fl_index Tryz.underlying26 ty46 g3 hx3 rfl rfl) ?_
       refine WL_index Tryz.underlying26 ty46 g3 hx3 rfl rfl rfl (fun b3 o3 h6 => ?_)
       refine WL_nil ?_
       refine WA.sub (l' := [(0, u1), (1, u2), (2, u3), (9, (.int .i64 x1)), (10, (.int .i64 x4)), (27, (.int .i64 x4)), (28, (.int .i64 x1)), (29, (.bool (decide (x4 < x1)))), (32, u1), (33, u2), (34, u3), (35, (.int .i64 x4)), (36, (ptr b2 o2)), (38, u3), (39, (.int .i64 x1)), (40, (ptr b3 o3))]) ?_ ⟨rfl, rfl, rfl, rfl, rfl, rfl, rfl, rfl, rfl, rfl, rfl, rfl, rfl, rfl, rfl, rfl, trivial⟩
       refine WA_postsE [⟨5, [], fun vs => PW.ro [] w0 x5, []⟩, ⟨9, [], fun vs => PW.ro [] w0 x6, []⟩] [[], []] 1 rfl (by kernel_rfl) (by kernel_rfl) rfl ?_ ?_
       ·refine StepsE_cons rfl ?_ ?_
        ·intro w5 hB5
         refine DepsE_nil ?_
         refine ⟨_, rfl, ?_⟩
         refine WL_load ty46 h5 (hC7.keep.then hB5) rfl rfl (fun v7 h10 => ?_)
         refine WL_nil ?_
         exact FinE_val (Below.refl _ _) rfl rfl ⟨rfl, h10⟩
        refine StepsE_cons rfl ?_ ?_
        ·intro w5 hB5
         refine DepsE_nil ?_
         refine ⟨_, rfl, ?_⟩
         refine WL_load ty46 h6 (hC7.keep.then hB5) rfl rfl (fun v11 h14 => ?_)
         refine WL_nil ?_
         exact FinE_val (Below.refl _ _) rfl rfl ⟨rfl, h14⟩
        exact StepsE_nil
       intro w6 hB6
       refine AllE_cons rfl rfl rfl ?_
       rintro v7 _ ⟨rfl, h10⟩
       obtain ⟨v5, v6, rfl, h8, h9⟩ := ro_st46 h10
       refine AllE_cons rfl rfl rfl ?_
       rintro v11 _ ⟨rfl, h14⟩
       obtain ⟨v9, v10, rfl, h12, h13⟩ := ro_st46 h14
       refine AllE_nil ?_
       intro hn1 hb1
       have hC8 := hC7.grow hB6
       obtain ⟨x7, hr4, hL2⟩ := bind_some hL2
       refine WA_one 10 (by kernel_rfl) rfl ?_
       refine WL_call Tryz.call28 rfl rfl (c_S_Disagree a1 u1 (g1.now hC8.keep) a2 u2 (g2.now hC8.keep) x5 v5 (h8.now hC8.keep) v6 (h9.now hC8.keep) x6 v9 (h12.now hC8.keep) v10 (h13.now hC8.keep) x7 hr4) ?_
       intro _ w7 hv2
       obtain ⟨rfl, hB7⟩ := res_bool hv2
       have hC9 := hC8.grow hB7
       refine WL_nil ?_
       refine WA_done (by kernel_rfl) ?_
       refine nrm_normal ?_
       refine W_cond rfl (fun hc4 => ?_) (fun hc4 => ?_)
       ·replace hL2 := ite_t hL2 hc4
        refine W_seq_reg ?_
        refine WL_move rfl rfl ?_
        refine WL_move rfl rfl ?_
        refine WL_assign rfl rfl ?_
        refine WL_assign rfl rfl ?_
        refine WL_assign rfl rfl ?_
        refine WL_nil ?_
        refine W_ret ?_
        refine blk_ret ?_
        refine nrm_ret ?_
        refine nrm_ret ?_
        refine blk_ret ?_
        refine nrm_ret ?_
        refine blk_ret ?_
        refine nrm_ret ?_
        refine nrm_ret ?_
        refine blk_ret ?_
        refine nrm_ret ?_
        refine nrm_ret ?_
        have hq3 := Option.some.inj hL2
        subst hq3
        dsimp only at hL1
        have hq4 := Option.some.inj hL1
        subst hq4
        dsimp only at hF
        have hq5 := Option.some.inj hF
        subst hq5
        refine fn_ret3 rfl rfl rfl rfl ?_
        have hC10 := hC9.triv (bool_val (true))
        have hC11 := hC10.triv (int_val (x1))
        have hC12 := hC11.triv (int_val (x4))
        exact ⟨_, rfl, res3_of hC12⟩
       replace hL2 := ite_f hL2 hc4
       refine W_skip ?_
       refine blk_normal ?_
       refine nrm_normal ?_
       refine W_reg ?_
       refine WL_move rfl rfl ?_
       refine WL_add rfl rfl rfl ?_
       refine WL_assign rfl rfl ?_
       refine WL_nil ?_
       refine nrm_sub (l' := [(0, u1), (1, u2), (2, u3), (9, (.int .i64 x1)), (10, (.int .i64 (w64 (x4 + 1))))]) ⟨rfl, rfl, rfl, rfl, rfl, trivial⟩ ?_
       exact ⟨k2, Nat.lt_succ_self _, w64 (x4 + 1), rfl, ((((Keep.of hB3).then hB4).then hB6).then hB7).below, hC9, hL2⟩
      replace hL2 := ite_f hL2 hc3
      refine W_exit ?_
      refine nrm_exit ?_
      refine nrm_exit ?_
      refine blk_exit ?_
      have hq6 := Option.some.inj hL2
      subst hq6
      refine nrm_sub (l' := [(0, u1), (1, u2), (2, u3), (9, (.int .i64 x1))]) ⟨rfl, rfl, rfl, rfl, trivial⟩ ?_
      exact ⟨rfl, rfl, (Keep.of hB3).below, hC6⟩
    rintro l3 _ w9 hs3 ⟨rfl, rfl, hB8, hC13⟩
    try dsimp only at hL1
    refine blk_normal ?_
    refine nrm_sub' hs3 ?_
    clear hs3
    refine W_reg ?_
    refine WL_move rfl rfl ?_
    refine WL_add rfl rfl rfl ?_
    refine WL_assign rfl rfl ?_
    refine WL_nil ?_
    refine nrm_sub (l' := [(0, u1), (1, u2), (2, u3), (9, (.int .i64 (w64 (x1 + 1))))]) ⟨rfl, rfl, rfl, rfl, trivial⟩ ?_
    exact ⟨k1, Nat.lt_succ_self _, w64 (x1 + 1), rfl, (((Keep.of hB1).then hB2).then hB8).below, hC13, hL1⟩
   replace hL1 := ite_f hL1 hc1
   refine W_exit ?_
   refine nrm_exit ?_
   refine nrm_exit ?_
   refine blk_exit ?_
   have hq7 := Option.some.inj hL1
   subst hq7
   refine nrm_sub (l' := []) trivial ?_
   exact ⟨rfl, rfl, (Keep.of hB1).below, hC1⟩
 rintro l4 _ w10 hs4 ⟨rfl, rfl, hB9, hC14⟩
 try dsimp only at hF
 refine nrm_sub' hs4 ?_
 clear hs4
 refine W_seq_reg ?_
 refine WL_assign rfl rfl ?_
 refine WL_assign rfl rfl ?_
 refine WL_assign rfl rfl ?_
 refine WL_nil ?_
 refine W_ret ?_
 have hq8 := Option.some.inj hF
 subst hq8
 refine fn_ret3 rfl rfl rfl rfl ?_
 have hC15 := hC14.triv (bool_val (false))
 have hC16 := hC15.triv (int_val ((-1)))
 have hC17 := hC16.triv (int_val ((-1)))
 exact ⟨_, rfl, res3_of hC17⟩

theorem c_S_IsConsistent {w0 : World} (a1 : (List Int)) (u1 : Value) (g1 : RO [] w0 u1 a1) (a2 : (List (Int × (List Int) × Int × Int × Int))) (u2 : Value) (g2 : RO [] w0 u2 a2) (a3 : (List ((Int × (List Int)) × (List (Int × (List Int)))))) (u3 : Value) (g3 : RO [] w0 u3 a3) (rr : Bool) (hF : S.IsConsistent a1 a2 a3 = some rr) :
 Calls Tryz.prog 17 [u1, u2, u3].toArray w0 fun e w' => ∃ v, e = .returned v ∧ Res w0 rr v w' := by
 refine calls_of_W Tryz.func17 rfl rfl ?_
 have hC0 := Ctx.start w0
 unfold S.IsConsistent at hF
 refine W_seq_reg ?_
 refine WL_assign rfl rfl ?_
 refine WL_nil ?_
 refine W_seq_reg ?_
 refine WL_move rfl rfl ?_
 refine WL_move rfl rfl ?_
 refine WL_move rfl rfl ?_
 obtain ⟨x1, hr1, hF⟩ := bind_some hF
 refine WL_call Tryz.call12 rfl rfl (c_S_FirstConflict a1 u1 (g1.now hC0.keep) a2 u2 (g2.now hC0.keep) a3 u3 (g3.now hC0.keep) x1 hr1) ?_
 rintro _ w1 ⟨hB1, v1, v2, v3, F1, F2, F3, rfl, hv1, hv2, hv3, hn1, hb1⟩
 obtain ⟨rfl, rfl⟩ := val_int hv1
 obtain ⟨rfl, rfl⟩ := val_int hv2
 obtain ⟨rfl, rfl⟩ := val_bool hv3
 have hC1 := hC0.grow hB1
 refine WL_move rfl rfl ?_
 refine WL_extract rfl rfl rfl ?_
 refine WL_extract rfl rfl rfl ?_
 refine WL_extract rfl rfl rfl ?_
 refine WL_assign rfl rfl ?_
 refine WL_assign rfl rfl ?_
 refine WL_assign rfl rfl ?_
 refine WL_nil ?_
 obtain ⟨r1, hr2, hF⟩ := bind_some hF
 refine W_cut (fun l w => ∃ x2 : Bool, x2 = r1 ∧ l = [(6, (.bool x2))] ∧ Below w1.heap.size w1 w ∧ Ctx [] w0 w []) ?_ ?_
 ·refine W_reg ?_
  refine WL_move rfl rfl ?_
  refine WL_move rfl rfl ?_
  obtain ⟨x3, hr3, hr2⟩ := bind_some hr2
  refine WL_call Tryz.call18 rfl rfl (c_S_AreMethods a1 u1 (g1.now hC1.keep) a2 u2 (g2.now hC1.keep) x3 hr3) ?_
  intro _ w3 hv4
  obtain ⟨rfl, hB3⟩ := res_bool hv4
  have hC3 := hC1.grow hB3
  refine WL_move rfl rfl ?_
  refine WL_fork (fun hc1 => ?_) (fun hc1 => ?_)
  ·replace hr2 := ite_t hr2 hc1
   refine WL_guard rfl rfl ?_
   refine WL_move rfl rfl ?_
   refine WL_guard rfl rfl ?_
   refine WL_not rfl rfl ?_
   refine WL_pick_t rfl rfl rfl ?_
   refine WL_assign rfl rfl ?_
   refine WL_nil ?_
   have hq1 := Option.some.inj hr2
   subst hq1
   refine nrm_sub (l' := [(6, (.bool (!x1.2.2)))]) ⟨rfl, trivial⟩ ?_
   exact ⟨(!x1.2.2), rfl, rfl, (Keep.of hB3).below, hC3⟩
  replace hr2 := ite_f hr2 hc1
  refine WL_guard_skip rfl rfl (by simp) rfl ?_
  refine WL_guard_skip rfl rfl (by simp) rfl ?_
  refine WL_pick_f rfl rfl rfl ?_
  refine WL_assign rfl rfl ?_
  refine WL_nil ?_
  have hq2 := Option.some.inj hr2
  subst hq2
  refine nrm_sub (l' := [(6, (.bool false))]) ⟨rfl, trivial⟩ ?_
  exact ⟨false, rfl, rfl, (Keep.of hB3).below, hC3⟩
 rintro _ w2 ⟨x2, rfl, rfl, hB2, hC2⟩
 try dsimp only at hF
 refine W_ret ?_
 have hq3 := Option.some.inj hF
 subst hq3
 refine fn_ret1 rfl rfl ?_
 exact ⟨_, rfl, bool_res hC2 _⟩

theorem c_S_l15Set {w0 : World} (a1 : Int) (a2 : Int) (rr : (List Int)) (hF : S.l15Set a1 a2 = some rr) :
 Calls Tryz.prog 105 [(.int .i64 a1), (.int .i64 a2)].toArray w0 fun e w' => ∃ v, e = .returned v ∧ Res w0 rr v w' := by
 refine calls_of_W Tryz.func105 rfl rfl ?_
 have hC0 := Ctx.start w0
 unfold S.l15Set at hF
 refine W_seq_reg ?_
 refine WL_assign rfl rfl ?_
 refine WL_nil ?_
 refine W_seq_reg ?_
 refine WL_buildSlice (vs := []) hC0 Tryz.underlying24 ty3 rfl rfl rfl rfl (by simp) rfl rfl (fun b1 w1 hC1 hB1 => ?_)
 have hC2 := hC1.row0 (α := Int)
 have hC3 := hC2.front 1 rfl
 dsimp only [List.eraseIdx, List.cons_append, List.nil_append, List.append_nil] at hC3
 have hC4 : Ctx [] w0 w1 (Item.own (.slice (some ⟨b1, 0, none⟩) 0 0) (([] : List Int) : List Int) :: []) := hC3.rowOwn (by simp [maxLen])
 refine WL_assign rfl rfl ?_
 refine WL_nil ?_
 refine W_seq ?_
 refine W_seq_reg ?_
 refine WL_assign rfl rfl ?_
 refine WL_nil ?_
 obtain ⟨r1, hr1, hF⟩ := bind_some hF
 refine W_norm (fun l w => ∃ v2 : Value, ∃ x3 : (List Int), x3 = r1 ∧ l = [(5, v2)] ∧ Ctx [] w0 w [Item.own v2 (x3 : (List Int))]) ?_ ?_
 ·refine W_block ?_
  refine W.sub (l' := [(0, (.int .i64 a1)), (1, (.int .i64 a2)), (5, (.slice (some ⟨b1, 0, none⟩) 0 0)), (6, (.int .i64 0))]) ?_ ⟨rfl, rfl, rfl, rfl, trivial⟩
  refine W_loop (fun k l w => ∃ v1 : Value, ∃ x1 : (List Int), ∃ x2 : Int, l = [(0, (.int .i64 a1)), (1, (.int .i64 a2)), (5, v1), (6, (.int .i64 x2))] ∧ Ctx [] w0 w [Item.own v1 (x1 : (List Int))] ∧ S.l15Set_l1 a2 a1 k x1 x2 = some r1) FUEL ⟨(.slice (some ⟨b1, 0, none⟩) 0 0), ([] : List Int), 0, rfl, hC4, hr1⟩ ?_
  clear hr1
  rintro k1 _ w2 ⟨v1, x1, x2, rfl, hC5, hL1⟩
  cases k1 with
  | zero => rw [S.l15Set_l1] at hL1; cases hL1
  | succ k1 =>
   rw [S.l15Set_l1] at hL1
   refine W_seq ?_
   refine W_seq_reg ?_
   refine WL_move rfl rfl ?_
   refine WL_move rfl rfl ?_
   refine WL_lss rfl rfl rfl ?_
   refine WL_nil ?_
   refine W_cond rfl (fun hc1 => ?_) (fun hc1 => ?_)
   ·replace hL1 := ite_t hL1 hc1
    refine W_skip ?_
    refine nrm_normal ?_
    refine W_seq ?_
    refine W_block ?_
    refine W_seq_reg ?_
    refine WL_move rfl rfl ?_
    refine WL_move rfl rfl ?_
    obtain ⟨_, hx1, hL1⟩ := bind_some hL1
    refine WL_shr (nn_some hx1) rfl rfl rfl ?_
    refine WL_band rfl rfl rfl ?_
    refine WL_eql rfl rfl rfl ?_
    refine WL_nil ?_
    obtain ⟨r2, hr2, hL1⟩ := bind_some hL1
    refine W_norm (fun l w => ∃ v3 : Value, ∃ x4 : (List Int), x4 = r2 ∧ l = [(0, (.int .i64 a1)), (1, (.int .i64 a2)), (5, v3), (6, (.int .i64 x2))] ∧ Ctx [] w0 w [Item.own v3 (x4 : (List Int))]) ?_ ?_
    ·refine W_cond rfl (fun hc2 => ?_) (fun hc2 => ?_)
     ·replace hr2 := ite_t hr2 hc2
      refine W_reg ?_
      refine WL_move rfl rfl ?_
      refine WL_move rfl rfl ?_
      refine WL_buildSlice (vs := [(.int .i64 x2)]) hC5 Tryz.underlying24 ty3 rfl rfl rfl rfl (by intro v hv; simp only [List.mem_cons, List.not_mem_nil, or_false] at hv; rcases hv with rfl <;> rfl) rfl rfl (fun b2 w4 hC7 hB4 => ?_)
      have hC8 := hC7.row0 (α := Int)
      have hC9 := hC8.triv (int_val (x2))
      have hC10 := hC9.row1
      have hC11 := hC10.front 1 rfl
      dsimp only [List.eraseIdx, List.cons_append, List.nil_append, List.append_nil] at hC11
      have hC12 : Ctx [] w0 w4 (Item.own (.slice (some ⟨b2, 0, none⟩) 1 1) ([x2] : List Int) :: [Item.own v1 (x1 : (List Int))]) := hC11.rowOwn (by simp [maxLen])
      obtain ⟨x5, hx2, hr2⟩ := bind_some hr2
      refine WL_append_flat (α := Int) hC12 1 rfl (hC12.ro 0 rfl) (Keep.refl _ _) Tryz.underlying24 ty3 rfl hx2 rfl rfl rfl (fun v4 w5 hC13 => ?_)
      try dsimp only [List.set] at hC13
      refine WL_assign rfl rfl ?_
      refine WL_nil ?_
      have hq1 := Option.some.inj hr2
      subst hq1
      have hC14 := hC13.f1
      have hC15 := hC14.h1
      refine nrm_sub (l' := [(0, (.int .i64 a1)), (1, (.int .i64 a2)), (5, v4), (6, (.int .i64 x2))]) ⟨rfl, rfl, rfl, rfl, trivial⟩ ?_
      exact ⟨v4, x5, rfl, rfl, hC15⟩
     replace hr2 := ite_f hr2 hc2
     refine W_skip ?_
     have hq2 := Option.some.inj hr2
     subst hq2
     refine nrm_sub (l' := [(0, (.int .i64 a1)), (1, (.int .i64 a2)), (5, v1), (6, (.int .i64 x2))]) ⟨rfl, rfl, rfl, rfl, trivial⟩ ?_
     exact ⟨v1, x1, rfl, rfl, hC5⟩
    rintro l2 _ w3 hs2 ⟨v3, x4, rfl, rfl, hC6⟩
    try dsimp only at hL1
    refine blk_normal ?_
    refine nrm_sub' hs2 ?_
    clear hs2
    refine W_reg ?_
    refine WL_move rfl rfl ?_
    refine WL_add rfl rfl rfl ?_
    refine WL_assign rfl rfl ?_
    refine WL_nil ?_
    refine nrm_sub (l' := [(0, (.int .i64 a1)), (1, (.int .i64 a2)), (5, v3), (6, (.int .i64 (w64 (x2 + 1))))]) ⟨rfl, rfl, rfl, rfl, trivial⟩ ?_
    exact ⟨k1, Nat.lt_succ_self _, v3, x4, w64 (x2 + 1), rfl, hC6, hL1⟩
   replace hL1 := ite_f hL1 hc1
   refine W_exit ?_
   refine nrm_exit ?_
   refine nrm_exit ?_
   refine blk_exit ?_
   have hq3 := Option.some.inj hL1
   subst hq3
   refine nrm_sub (l' := [(5, v1)]) ⟨rfl, trivial⟩ ?_
   exact ⟨v1, x1, rfl, rfl, hC5⟩
 rintro l3 _ w6 hs3 ⟨v2, x3, rfl, rfl, hC16⟩
 try dsimp only at hF
 refine nrm_sub' hs3 ?_
 clear hs3
 refine W_seq_reg ?_
 refine WL_move rfl rfl ?_
 refine WL_assign rfl rfl ?_
 refine WL_nil ?_
 refine W_ret ?_
 have hq4 := Option.some.inj hF
 subst hq4
 refine fn_ret1 rfl rfl ?_
 exact ⟨_, rfl, own_res hC16 0 rfl⟩

theorem c_S_l4Less {w0 : World} (a1 : (List Int)) (u1 : Value) (g1 : RO [] w0 u1 a1) (a2 : (List Int)) (u2 : Value) (g2 : RO [] w0 u2 a2) (rr : Bool) (hF : S.l4Less a1 a2 = some rr) :
 Calls Tryz.prog 153 [u1, u2].toArray w0 fun e w' => ∃ v, e = .returned v ∧ Res w0 rr v w' := by
 refine calls_of_W Tryz.func153 rfl rfl ?_
 have hC0 := Ctx.start w0
 unfold S.l4Less at hF
 refine W_seq_reg ?_
 refine WL_assign rfl rfl ?_
 refine WL_nil ?_
 refine W_seq ?_
 refine W_seq_reg ?_
 refine WL_assign rfl rfl ?_
 refine WL_nil ?_
 obtain ⟨r1, hr1, hF⟩ := bind_some hF
 refine W_norm (fun l w => .inl () = r1 ∧ l = [(0, u1), (1, u2)] ∧ Below w0.heap.size w0 w ∧ Ctx [] w0 w []) ?_ ?_
 ·refine W_block ?_
  refine W.sub (l' := [(0, u1), (1, u2), (5, (.int .i64 0))]) ?_ ⟨rfl, rfl, rfl, trivial⟩
  refine W_loop (fun k l w => ∃ x1 : Int, l = [(0, u1), (1, u2), (5, (.int .i64 x1))] ∧ Below w0.heap.size w0 w ∧ Ctx [] w0 w [] ∧ S.l4Less_l1 a1 a2 k x1 = some r1) FUEL ⟨0, rfl, (Below.refl _ _), hC0, hr1⟩ ?_
  clear hr1
  rintro k1 _ w1 ⟨x1, rfl, hB1, hC1, hL1⟩
  cases k1 with
  | zero => rw [S.l4Less_l1] at hL1; cases hL1
  | succ k1 =>
   rw [S.l4Less_l1] at hL1
   refine W_seq ?_
   obtain ⟨r2, hr2, hL1⟩ := bind_some hL1
   refine W_cut (fun l w => ∃ x2 : Bool, x2 = r2 ∧ l = [(0, u1), (1, u2), (5, (.int .i64 x1)), (15, (.bool x2))] ∧ Below w1.heap.size w1 w ∧ Ctx [] w0 w []) ?_ ?_
   ·refine W_reg ?_
    refine WL_move rfl rfl ?_
    refine WL_move rfl rfl ?_
    refine WL_len Tryz.underlying24 g1 rfl rfl ?_
    refine WL_lss rfl rfl rfl ?_
    refine WL_move rfl rfl ?_
    refine WL_fork (fun hc1 => ?_) (fun hc1 => ?_)
    ·replace hr2 := ite_t hr2 hc1
     refine WL_guard rfl rfl ?_
     refine WL_move rfl rfl ?_
     refine WL_guard rfl rfl ?_
     refine WL_move rfl rfl ?_
     refine WL_guard rfl rfl ?_
     refine WL_len Tryz.underlying24 g2 rfl rfl ?_
     refine WL_guard rfl rfl ?_
     refine WL_lss rfl rfl rfl ?_
     refine WL_pick_t rfl rfl rfl ?_
     refine WL_nil ?_
     have hq1 := Option.some.inj hr2
     subst hq1
     refine nrm_sub (l' := [(0, u1), (1, u2), (5, (.int .i64 x1)), (15, (.bool (decide (x1 < (List.length a2 : Int)))))]) ⟨rfl, rfl, rfl, rfl, trivial⟩ ?_
     exact ⟨(decide (x1 < (List.length a2 : Int))), rfl, rfl, (Below.refl _ _), hC1⟩
    replace hr2 := ite_f hr2 hc1
    refine WL_guard_skip rfl rfl (by simp) rfl ?_
    refine WL_guard_skip rfl rfl (by simp) rfl ?_
    refine WL_guard_skip rfl rfl (by simp) rfl ?_
    refine WL_guard_skip rfl rfl (by simp) rfl ?_
    refine WL_pick_f rfl rfl rfl ?_
    refine WL_nil ?_
    have hq2 := Option.some.inj hr2
    subst hq2
    refine nrm_sub (l' := [(0, u1), (1, u2), (5, (.int .i64 x1)), (15, (.bool false))]) ⟨rfl, rfl, rfl, rfl, trivial⟩ ?_
    exact ⟨false, rfl, rfl, (Below.refl _ _), hC1⟩
   rintro _ w2 ⟨x2, rfl, rfl, hB2, hC2⟩
   try dsimp only at hL1
   refine W_cond rfl (fun hc2 => ?_) (fun hc2 => ?_)
   ·replace hL1 := ite_t hL1 hc2
    refine W_skip ?_
    refine nrm_normal ?_
    refine W_seq ?_
    refine W_block ?_
    refine W_seq ?_
    refine W_drawn 9 rfl hmix (fun w3 hB3 => ?_)
    have hC3 := hC2.grow hB3
    refine WA_tk 0 (by kernel_rfl) rfl rfl (fl_move rfl) ?_
    refine WL_move rfl rfl ?_
    refine WL_nil ?_
    refine WA_tk 1 (by kernel_rfl) rfl rfl (fl_move rfl) ?_
    refine WL_move rfl rfl ?_
    refine WL_nil ?_
    obtain ⟨x3, hx1, hL1⟩ := bind_some hL1
    refine WA_tk 2 (by kernel_rfl) rfl rfl (fl_index Tryz.underlying24 ty3 g1 hx1 rfl rfl) ?_
    refine WL_index Tryz.underlying24 ty3 g1 hx1 rfl rfl rfl (fun b1 o1 h1 => ?_)
    refine WL_nil ?_
    refine WA_tk 4 (by kernel_rfl) rfl rfl (fl_move rfl) ?_
    refine WL_move rfl rfl ?_
    refine WL_nil ?_
    refine WA_tk 5 (by kernel_rfl) rfl rfl (fl_move rfl) ?_
    refine WL_move rfl rfl ?_
    refine WL_nil ?_
    obtain ⟨x4, hx2, hL1⟩ := bind_some hL1
    refine WA_tk 6 (by kernel_rfl) rfl rfl (fl_index Tryz.underlying24 ty3 g2 hx2 rfl rfl) ?_
    refine WL_index Tryz.underlying24 ty3 g2 hx2 rfl rfl rfl (fun b2 o2 h2 => ?_)
    refine WL_nil ?_
    refine WA.sub (l' := [(0, u1), (1, u2), (5, (.int .i64 x1)), (15, (.bool x2)), (18, u1), (19, (.int .i64 x1)), (20, (ptr b1 o1)), (22, u2), (23, (.int .i64 x1)), (24, (ptr b2 o2))]) ?_ ⟨rfl, rfl, rfl, rfl, rfl, rfl, rfl, rfl, rfl, rfl, trivial⟩
    refine WA_postsE [⟨3, [], fun vs => PW.val (.int .i64 x3), []⟩, ⟨7, [], fun vs => PW.val (.int .i64 x4), []⟩] [[], []] 1 rfl (by kernel_rfl) (by kernel_rfl) rfl ?_ ?_
    ·refine StepsE_cons rfl ?_ ?_
     ·intro w4 hB4
      refine DepsE_nil ?_
      refine ⟨_, rfl, ?_⟩
      refine WL_load ty3 h1 (hC3.keep.then hB4) rfl rfl (fun v1 h3 => ?_)
      obtain rfl := ro_int h3
      refine WL_nil ?_
      exact FinE_val (Below.refl _ _) rfl rfl ⟨rfl, rfl⟩
     refine StepsE_cons rfl ?_ ?_
     ·intro w4 hB4
      refine DepsE_nil ?_
      refine ⟨_, rfl, ?_⟩
      refine WL_load ty3 h2 (hC3.keep.then hB4) rfl rfl (fun v2 h4 => ?_)
      obtain rfl := ro_int h4
      refine WL_nil ?_
      exact FinE_val (Below.refl _ _) rfl rfl ⟨rfl, rfl⟩
     exact StepsE_nil
    intro w5 hB5
    refine AllE_cons rfl rfl rfl ?_
    rintro _ _ ⟨rfl, rfl⟩
    refine AllE_cons rfl rfl rfl ?_
    rintro _ _ ⟨rfl, rfl⟩
    refine AllE_nil ?_
    intro hn1 hb1
    have hC4 := hC3.grow hB5
    refine WA_tk 8 (by kernel_rfl) rfl rfl (fl_neq rfl rfl) ?_
    refine WL_neq rfl rfl rfl ?_
    refine WL_nil ?_
    refine WA_done (by kernel_rfl) ?_
    refine nrm_normal ?_
    refine W_cond rfl (fun hc3 => ?_) (fun hc3 => ?_)
    ·replace hL1 := ite_t hL1 hc3
     refine W_seq ?_
     refine W_drawn 10 rfl hmix (fun w6 hB6 => ?_)
     have hC5 := hC4.grow hB6
     refine WA_tk 0 (by kernel_rfl) rfl rfl (fl_move rfl) ?_
     refine WL_move rfl rfl ?_
     refine WL_nil ?_
     refine WA_tk 1 (by kernel_rfl) rfl rfl (fl_move rfl) ?_
     refine WL_move rfl rfl ?_
     refine WL_nil ?_
     obtain ⟨x5, hx3, hL1⟩ := bind_some hL1
     refine WA_tk 2 (by kernel_rfl) rfl rfl (fl_index Tryz.underlying24 ty3 g1 hx3 rfl rfl) ?_
     refine WL_index Tryz.underlying24 ty3 g1 hx3 rfl rfl rfl (fun b3 o3 h5 => ?_)
     refine WL_nil ?_
     refine WA_tk 4 (by kernel_rfl) rfl rfl (fl_move rfl) ?_
     refine WL_move rfl rfl ?_
     refine WL_nil ?_
     refine WA_tk 5 (by kernel_rfl) rfl rfl (fl_move rfl) ?_
     refine WL_move rfl rfl ?_
     refine WL_nil ?_
     obtain ⟨x6, hx4, hL1⟩ := bind_some hL1
     refine WA_tk 6 (by kernel_rfl) rfl rfl (fl_index Tryz.underlying24 ty3 g2 hx4 rfl rfl) ?_
     refine WL_index Tryz.underlying24 ty3 g2 hx4 rfl rfl rfl (fun b4 o4 h6 => ?_)
     refine WL_nil ?_
     refine WA.sub (l' := [(0, u1), (1, u2), (5, (.int .i64 x1)), (15, (.bool x2)), (18, u1), (19, (.int .i64 x1)), (20, (ptr b1 o1)), (21, (.int .i64 x3)), (22, u2), (23, (.int .i64 x1)), (24, (ptr b2 o2)), (25, (.int .i64 x4)), (26, (.bool (!decide (x3 = x4)))), (27, u1), (28, (.int .i64 x1)), (29, (ptr b3 o3)), (31, u2), (32, (.int .i64 x1)), (33, (ptr b4 o4))]) ?_ ⟨rfl, rfl, rfl, rfl, rfl, rfl, rfl, rfl, rfl, rfl, rfl, rfl, rfl, rfl, rfl, rfl, rfl, rfl, rfl, trivial⟩
     refine WA_postsE [⟨3, [], fun vs => PW.val (.int .i64 x5), []⟩, ⟨7, [], fun vs => PW.val (.int .i64 x6), []⟩] [[], []] 2 rfl (by kernel_rfl) (by kernel_rfl) rfl ?_ ?_
     ·refine StepsE_cons rfl ?_ ?_
      ·intro w7 hB7
       refine DepsE_nil ?_
       refine ⟨_, rfl, ?_⟩
       refine WL_load ty3 h5 (hC5.keep.then hB7) rfl rfl (fun v3 h7 => ?_)
       obtain rfl := ro_int h7
       refine WL_nil ?_
       exact FinE_val (Below.refl _ _) rfl rfl ⟨rfl, rfl⟩
      refine StepsE_cons rfl ?_ ?_
      ·intro w7 hB7
       refine DepsE_nil ?_
       refine ⟨_, rfl, ?_⟩
       refine WL_load ty3 h6 (hC5.keep.then hB7) rfl rfl (fun v4 h8 => ?_)
       obtain rfl := ro_int h8
       refine WL_nil ?_
       exact FinE_val (Below.refl _ _) rfl rfl ⟨rfl, rfl⟩
      exact StepsE_nil
     intro w9 hB8
     refine AllE_cons rfl rfl rfl ?_
     rintro _ _ ⟨rfl, rfl⟩
     refine AllE_cons rfl rfl rfl ?_
     rintro _ _ ⟨rfl, rfl⟩
     refine AllE_nil ?_
     intro hn2 hb2
     have hC6 := hC5.grow hB8
     refine WA_tk 8 (by kernel_rfl) rfl rfl (fl_lss rfl rfl) ?_
     refine WL_lss rfl rfl rfl ?_
     refine WL_nil ?_
     refine WA_tk 9 (by kernel_rfl) rfl rfl (fl_assign rfl) ?_
     refine WL_assign rfl rfl ?_
     refine WL_nil ?_
     refine WA_done (by kernel_rfl) ?_
     refine nrm_normal ?_
     refine W_ret ?_
     refine blk_ret ?_
     refine nrm_ret ?_
     refine nrm_ret ?_
     refine blk_ret ?_
     refine nrm_ret ?_
     refine nrm_ret ?_
     have hq3 := Option.some.inj hL1
     subst hq3
     dsimp only at hF
     have hq4 := Option.some.inj hF
     subst hq4
     refine fn_ret1 rfl rfl ?_
     exact ⟨_, rfl, bool_res hC6 _⟩
    replace hL1 := ite_f hL1 hc3
    refine W_skip ?_
    refine blk_normal ?_
    refine nrm_normal ?_
    refine W_reg ?_
    refine WL_move rfl rfl ?_
    refine WL_add rfl rfl rfl ?_
    refine WL_assign rfl rfl ?_
    refine WL_nil ?_
    refine nrm_sub (l' := [(0, u1), (1, u2), (5, (.int .i64 (w64 (x1 + 1))))]) ⟨rfl, rfl, rfl, trivial⟩ ?_
    exact ⟨k1, Nat.lt_succ_self _, w64 (x1 + 1), rfl, ((((Keep.of hB1).then hB2).then hB3).then hB5).below, hC4, hL1⟩
   replace hL1 := ite_f hL1 hc2
   refine W_exit ?_
   refine nrm_exit ?_
   refine nrm_exit ?_
   refine blk_exit ?_
   have hq5 := Option.some.inj hL1
   subst hq5
   refine nrm_sub (l' := [(0, u1), (1, u2)]) ⟨rfl, rfl, trivial⟩ ?_
   exact ⟨rfl, rfl, ((Keep.of hB1).then hB2).below, hC2⟩
 rintro l3 _ w10 hs3 ⟨rfl, rfl, hB9, hC7⟩
 try dsimp only at hF
 refine nrm_sub' hs3 ?_
 clear hs3
 refine W_seq_reg ?_
 refine WL_move rfl rfl ?_
 refine WL_len Tryz.underlying24 g1 rfl rfl ?_
 refine WL_move rfl rfl ?_
 refine WL_len Tryz.underlying24 g2 rfl rfl ?_
 refine WL_lss rfl rfl rfl ?_
 refine WL_assign rfl rfl ?_
 refine WL_nil ?_
 refine W_ret ?_
 have hq6 := Option.some.inj hF
 subst hq6
 refine fn_ret1 rfl rfl ?_
 exact ⟨_, rfl, bool_res hC7 _⟩

theorem c_S_l15Less {w0 : World} (a1 : (List Int)) (u1 : Value) (g1 : RO [] w0 u1 a1) (a2 : (List Int)) (u2 : Value) (g2 : RO [] w0 u2 a2) (rr : Bool) (hF : S.l15Less a1 a2 = some rr) :
 Calls Tryz.prog 106 [u1, u2].toArray w0 fun e w' => ∃ v, e = .returned v ∧ Res w0 rr v w' := by
 refine calls_of_W Tryz.func106 rfl rfl ?_
 have hC0 := Ctx.start w0
 unfold S.l15Less at hF
 refine W_seq_reg ?_
 refine WL_assign rfl rfl ?_
 refine WL_nil ?_
 refine W_seq ?_
 refine W_seq_reg ?_
 refine WL_move rfl rfl ?_
 refine WL_len Tryz.underlying24 g1 rfl rfl ?_
 refine WL_move rfl rfl ?_
 refine WL_len Tryz.underlying24 g2 rfl rfl ?_
 refine WL_neq rfl rfl rfl ?_
 refine WL_nil ?_
 refine W_cond rfl (fun hc1 => ?_) (fun hc1 => ?_)
 ·replace hF := ite_t hF hc1
  refine W_seq_reg ?_
  refine WL_move rfl rfl ?_
  refine WL_len Tryz.underlying24 g1 rfl rfl ?_
  refine WL_move rfl rfl ?_
  refine WL_len Tryz.underlying24 g2 rfl rfl ?_
  refine WL_lss rfl rfl rfl ?_
  refine WL_assign rfl rfl ?_
  refine WL_nil ?_
  refine W_ret ?_
  refine nrm_ret ?_
  have hq1 := Option.some.inj hF
  subst hq1
  refine fn_ret1 rfl rfl ?_
  exact ⟨_, rfl, bool_res hC0 _⟩
 replace hF := ite_f hF hc1
 refine W_skip ?_
 refine nrm_normal ?_
 refine W_seq_reg ?_
 refine WL_move rfl rfl ?_
 refine WL_move rfl rfl ?_
 obtain ⟨x1, hr1, hF⟩ := bind_some hF
 refine WL_call Tryz.call153 rfl rfl (c_S_l4Less a1 u1 (g1.now hC0.keep) a2 u2 (g2.now hC0.keep) x1 hr1) ?_
 intro _ w1 hv1
 obtain ⟨rfl, hB1⟩ := res_bool hv1
 have hC1 := hC0.grow hB1
 refine WL_assign rfl rfl ?_
 refine WL_nil ?_
 refine W_ret ?_
 have hq2 := Option.some.inj hF
 subst hq2
 refine fn_ret1 rfl rfl ?_
 exact ⟨_, rfl, bool_res hC1 _⟩

theorem c_S_l2Has {w0 : World} (a1 : (List Int)) (u1 : Value) (g1 : RO [] w0 u1 a1) (a2 : Int) (rr : Bool) (hF : S.l2Has a1 a2 = some rr) :
 Calls Tryz.prog 154 [u1, (.int .i64 a2)].toArray w0 fun e w' => ∃ v, e = .returned v ∧ Res w0 rr v w' := by
 refine calls_of_W Tryz.func154 rfl rfl ?_
 have hC0 := Ctx.start w0
 unfold S.l2Has at hF
 refine W_seq_reg ?_
 refine WL_assign rfl rfl ?_
 refine WL_nil ?_
 refine W_seq ?_
 refine W_seq_reg ?_
 refine WL_assign rfl rfl ?_
 refine WL_nil ?_
 obtain ⟨r1, hr1, hF⟩ := bind_some hF
 refine W_norm (fun l w => .inl () = r1 ∧ l = [] ∧ Below w0.heap.size w0 w ∧ Ctx [] w0 w []) ?_ ?_
 ·refine W_block ?_
  refine W.sub (l' := [(0, u1), (1, (.int .i64 a2)), (5, (.int .i64 0))]) ?_ ⟨rfl, rfl, rfl, trivial⟩
  refine W_loop (fun k l w => ∃ x1 : Int, l = [(0, u1), (1, (.int .i64 a2)), (5, (.int .i64 x1))] ∧ Below w0.heap.size w0 w ∧ Ctx [] w0 w [] ∧ S.l2Has_l1 a1 a2 k x1 = some r1) FUEL ⟨0, rfl, (Below.refl _ _), hC0, hr1⟩ ?_
  clear hr1
  rintro k1 _ w1 ⟨x1, rfl, hB1, hC1, hL1⟩
  cases k1 with
  | zero => rw [S.l2Has_l1] at hL1; cases hL1
  | succ k1 =>
   rw [S.l2Has_l1] at hL1
   refine W_seq ?_
   refine W_seq_reg ?_
   refine WL_move rfl rfl ?_
   refine WL_move rfl rfl ?_
   refine WL_len Tryz.underlying24 g1 rfl rfl ?_
   refine WL_lss rfl rfl rfl ?_
   refine WL_nil ?_
   refine W_cond rfl (fun hc1 => ?_) (fun hc1 => ?_)
   ·replace hL1 := ite_t hL1 hc1
    refine W_skip ?_
    refine nrm_normal ?_
    refine W_seq ?_
    refine W_block ?_
    refine W_seq_reg ?_
    refine WL_move rfl rfl ?_
    refine WL_move rfl rfl ?_
    obtain ⟨x2, hx1, hL1⟩ := bind_some hL1
    refine WL_index Tryz.underlying24 ty3 g1 hx1 rfl rfl rfl (fun b1 o1 h1 => ?_)
    refine WL_load ty3 h1 hC1.keep rfl rfl (fun v1 h2 => ?_)
    obtain rfl := ro_int h2
    refine WL_move rfl rfl ?_
    refine WL_eql rfl rfl rfl ?_
    refine WL_nil ?_
    refine W_cond rfl (fun hc2 => ?_) (fun hc2 => ?_)
    ·replace hL1 := ite_t hL1 hc2
     refine W_seq_reg ?_
     refine WL_assign rfl rfl ?_
     refine WL_nil ?_
     refine W_ret ?_
     refine blk_ret ?_
     refine nrm_ret ?_
     refine nrm_ret ?_
     refine blk_ret ?_
     refine nrm_ret ?_
     refine nrm_ret ?_
     have hq1 := Option.some.inj hL1
     subst hq1
     dsimp only at hF
     have hq2 := Option.some.inj hF
     subst hq2
     refine fn_ret1 rfl rfl ?_
     exact ⟨_, rfl, bool_res hC1 _⟩
    replace hL1 := ite_f hL1 hc2
    refine W_skip ?_
    refine blk_normal ?_
    refine nrm_normal ?_
    refine W_reg ?_
    refine WL_move rfl rfl ?_
    refine WL_add rfl rfl rfl ?_
    refine WL_assign rfl rfl ?_
    refine WL_nil ?_
    refine nrm_sub (l' := [(0, u1), (1, (.int .i64 a2)), (5, (.int .i64 (w64 (x1 + 1))))]) ⟨rfl, rfl, rfl, trivial⟩ ?_
    exact ⟨k1, Nat.lt_succ_self _, w64 (x1 + 1), rfl, (Keep.of hB1).below, hC1, hL1⟩
   replace hL1 := ite_f hL1 hc1
   refine W_exit ?_
   refine nrm_exit ?_
   refine nrm_exit ?_
   refine blk_exit ?_
   have hq3 := Option.some.inj hL1
   subst hq3
   refine nrm_sub (l' := []) trivial ?_
   exact ⟨rfl, rfl, (Keep.of hB1).below, hC1⟩
 rintro l2 _ w2 hs2 ⟨rfl, rfl, hB2, hC2⟩
 try dsimp only at hF
 refine nrm_sub' hs2 ?_
 clear hs2
 refine W_seq_reg ?_
 refine WL_assign rfl rfl ?_
 refine WL_nil ?_
 refine W_ret ?_
 have hq4 := Option.some.inj hF
 subst hq4
 refine fn_ret1 rfl rfl ?_
 exact ⟨_, rfl, bool_res hC2 _⟩

theorem c_S_l8Access {w0 : World} (a1 : Int) (a2 : (List Int)) (u1 : Value) (g1 : RO [] w0 u1 a2) (rr : (Int × (List Int))) (hF : S.l8Access a1 a2 = some rr) :
 Calls Tryz.prog 192 [(.int .i64 a1), u1].toArray w0 fun e w' => ∃ v, e = .returned v ∧ Res w0 rr v w' := by
 refine calls_of_W Tryz.func192 rfl rfl ?_
 have hC0 := Ctx.start w0
 unfold S.l8Access at hF
 refine W_seq_reg ?_
 refine WL_allocK hC0 zero44 rfl rfl (fun b1 w1 hC1 hB1 hN1 => ?_)
 refine WL_nil ?_
 refine W_seq_reg ?_
 refine WL_move rfl rfl ?_
 refine WL_buildSlice (vs := []) hC1 Tryz.underlying24 ty3 rfl rfl rfl rfl (by simp) rfl rfl (fun b2 w2 hC2 hB2 => ?_)
 have hC3 := hC2.row0 (α := Int)
 have hC4 := hC3.front 1 rfl
 dsimp only [List.eraseIdx, List.cons_append, List.nil_append, List.append_nil] at hC4
 have hC5 : Ctx [] w0 w2 (Item.own (.slice (some ⟨b2, 0, none⟩) 0 0) (([] : List Int) : List Int) :: [Item.box b1 [(.int .i64 0), (.slice none 0 0)]]) := hC4.rowOwn (by simp [maxLen])
 refine WL_move rfl rfl ?_
 obtain ⟨x1, hx1, hF⟩ := bind_some hF
 refine WL_append_flat (α := Int) hC5 0 rfl g1 hC5.keep Tryz.underlying24 ty3 rfl hx1 rfl rfl rfl (fun v1 w3 hC6 => ?_)
 try dsimp only [List.set] at hC6
 refine WL_build (vs := [(0, (.int .i64 a1)), (1, v1)]) rfl rfl rfl (built44_0_1 rfl (ro_cells (hC6.ro 0 rfl))) ?_
 refine WL_store_box_aggK (cs' := [(.int .i64 a1), v1]) (new := [(.int .i64 a1), v1]) hC6 1 rfl rfl (by intro v hv; simp only [List.mem_cons, List.not_mem_nil, or_false] at hv; rcases hv with rfl | rfl; exact rfl; exact (ro_one (hC6.ro 0 rfl))) rfl Tryz.sizeOf44 rfl rfl (fun w4 hC7 hKp1 => ?_)
 try dsimp only [List.set] at hC7
 refine WL_nil ?_
 refine W_ret ?_
 have hq1 := Option.some.inj hF
 subst hq1
 refine fn_retG1 rfl (rv_cell_agg (cs' := [(.int .i64 a1), v1]) hC7 (i := 1) rfl rfl rfl Tryz.isAgg44 Tryz.sizeOf44 rfl) ?_
 have hC8 := own_st44 a1 v1 x1 hC7
 exact ⟨_, rfl, own_res hC8 0 rfl⟩

theorem c_S_l2One {w0 : World} (a1 : Int) (a2 : (List Int)) (u1 : Value) (g1 : RO [] w0 u1 a2) (rr : (Int × (List Int))) (hF : S.l2One a1 a2 = some rr) :
 Calls Tryz.prog 131 [(.int .i64 a1), u1].toArray w0 fun e w' => ∃ v, e = .returned v ∧ Res w0 rr v w' := by
 refine calls_of_W Tryz.func131 rfl rfl ?_
 have hC0 := Ctx.start w0
 unfold S.l2One at hF
 refine W_seq_reg ?_
 refine WL_allocK hC0 zero88 rfl rfl (fun b1 w1 hC1 hB1 hN1 => ?_)
 refine WL_nil ?_
 refine W_seq_reg ?_
 refine WL_move rfl rfl ?_
 refine WL_buildSlice (vs := []) hC1 Tryz.underlying24 ty3 rfl rfl rfl rfl (by simp) rfl rfl (fun b2 w2 hC2 hB2 => ?_)
 have hC3 := hC2.row0 (α := Int)
 have hC4 := hC3.front 1 rfl
 dsimp only [List.eraseIdx, List.cons_append, List.nil_append, List.append_nil] at hC4
 have hC5 : Ctx [] w0 w2 (Item.own (.slice (some ⟨b2, 0, none⟩) 0 0) (([] : List Int) : List Int) :: [Item.box b1 [(.int .i64 0), (.slice none 0 0)]]) := hC4.rowOwn (by simp [maxLen])
 refine WL_move rfl rfl ?_
 obtain ⟨x1, hx1, hF⟩ := bind_some hF
 refine WL_append_flat (α := Int) hC5 0 rfl g1 hC5.keep Tryz.underlying24 ty3 rfl hx1 rfl rfl rfl (fun v1 w3 hC6 => ?_)
 try dsimp only [List.set] at hC6
 refine WL_build (vs := [(0, (.int .i64 a1)), (1, v1)]) rfl rfl rfl (built88_0_1 rfl (ro_cells (hC6.ro 0 rfl))) ?_
 refine WL_store_box_aggK (cs' := [(.int .i64 a1), v1]) (new := [(.int .i64 a1), v1]) hC6 1 rfl rfl (by intro v hv; simp only [List.mem_cons, List.not_mem_nil, or_false] at hv; rcases hv with rfl | rfl; exact rfl; exact (ro_one (hC6.ro 0 rfl))) rfl Tryz.sizeOf88 rfl rfl (fun w4 hC7 hKp1 => ?_)
 try dsimp only [List.set] at hC7
 refine WL_nil ?_
 refine W_ret ?_
 have hq1 := Option.some.inj hF
 subst hq1
 refine fn_retG1 rfl (rv_cell_agg (cs' := [(.int .i64 a1), v1]) hC7 (i := 1) rfl rfl rfl Tryz.isAgg88 Tryz.sizeOf88 rfl) ?_
 have hC8 := own_st88 a1 v1 x1 hC7
 exact ⟨_, rfl, own_res hC8 0 rfl⟩

theorem c_S_l2Copy {w0 : World} (a1 : (List (Int × (List Int)))) (u1 : Value) (g1 : RO [] w0 u1 a1) (rr : (List (Int × (List Int)))) (hF : S.l2Copy a1 = some rr) :
 Calls Tryz.prog 193 [u1].toArray w0 fun e w' => ∃ v, e = .returned v ∧ Res w0 rr v w' := by
 refine calls_of_W Tryz.func193 rfl rfl ?_
 have hC0 := Ctx.start w0
 unfold S.l2Copy at hF
 refine W_seq_reg ?_
 refine WL_assign rfl rfl ?_
 refine WL_nil ?_
 refine W_seq_reg ?_
 refine WL_buildSlice (vs := []) hC0 Tryz.underlying31 ty88 rfl rfl rfl rfl (by simp) rfl rfl (fun b1 w1 hC1 hB1 => ?_)
 have hC2 := hC1.row0 (α := (Int × (List Int)))
 have hC3 := hC2.front 1 rfl
 dsimp only [List.eraseIdx, List.cons_append, List.nil_append, List.append_nil] at hC3
 have hC4 : Ctx [] w0 w1 (Item.own (.slice (some ⟨b1, 0, none⟩) 0 0) (([] : List (Int × (List Int))) : List (Int × (List Int))) :: []) := hC3.rowOwn (by simp [maxLen])
 refine WL_assign rfl rfl ?_
 refine WL_nil ?_
 refine W_seq ?_
 refine W_seq_reg ?_
 refine WL_assign rfl rfl ?_
 refine WL_nil ?_
 obtain ⟨r1, hr1, hF⟩ := bind_some hF
 refine W_norm (fun l w => ∃ v2 : Value, ∃ x3 : (List (Int × (List Int))), x3 = r1 ∧ l = [(3, v2)] ∧ Ctx [] w0 w [Item.own v2 (x3 : (List (Int × (List Int))))]) ?_ ?_
 ·refine W_block ?_
  refine W.sub (l' := [(0, u1), (3, (.slice (some ⟨b1, 0, none⟩) 0 0)), (4, (.int .i64 0))]) ?_ ⟨rfl, rfl, rfl, trivial⟩
  refine W_loop (fun k l w => ∃ v1 : Value, ∃ x1 : (List (Int × (List Int))), ∃ x2 : Int, l = [(0, u1), (3, v1), (4, (.int .i64 x2))] ∧ Ctx [] w0 w [Item.own v1 (x1 : (List (Int × (List Int))))] ∧ S.l2Copy_l1 a1 k x1 x2 = some r1) FUEL ⟨(.slice (some ⟨b1, 0, none⟩) 0 0), ([] : List (Int × (List Int))), 0, rfl, hC4, hr1⟩ ?_
  clear hr1
  rintro k1 _ w2 ⟨v1, x1, x2, rfl, hC5, hL1⟩
  cases k1 with
  | zero => rw [S.l2Copy_l1] at hL1; cases hL1
  | succ k1 =>
   rw [S.l2Copy_l1] at hL1
   refine W_seq ?_
   refine W_seq_reg ?_
   refine WL_move rfl rfl ?_
   refine WL_move rfl rfl ?_
   refine WL_len Tryz.underlying31 g1 rfl rfl ?_
   refine WL_lss rfl rfl rfl ?_
   refine WL_nil ?_
   refine W_cond rfl (fun hc1 => ?_) (fun hc1 => ?_)
   ·replace hL1 := ite_t hL1 hc1
    refine W_skip ?_
    refine nrm_normal ?_
    refine W_seq ?_
    refine W_block ?_
    refine W_drawn 15 rfl hmix (fun w3 hB3 => ?_)
    have hC6 := hC5.grow hB3
    refine WA_tk 0 (by kernel_rfl) rfl rfl (fl_move rfl) ?_
    refine WL_move rfl rfl ?_
    refine WL_nil ?_
    refine WA_tk 1 (by kernel_rfl) rfl rfl (fl_move rfl) ?_
    refine WL_move rfl rfl ?_
    refine WL_nil ?_
    refine WA_tk 2 (by kernel_rfl) rfl rfl (fl_move rfl) ?_
    refine WL_move rfl rfl ?_
    refine WL_nil ?_
    obtain ⟨x4, hx1, hL1⟩ := bind_some hL1
    refine WA_tk 3 (by kernel_rfl) rfl rfl (fl_index Tryz.underlying31 ty88 g1 hx1 rfl rfl) ?_
    refine WL_index Tryz.underlying31 ty88 g1 hx1 rfl rfl rfl (fun b2 o1 h1 => ?_)
    refine WL_nil ?_
    refine WA_tk 4 (by kernel_rfl) rfl rfl (fl_field Tryz.underlying88 rfl rfl (fun w => ⟨_, Tryz.sizeOf3 w⟩) rfl) ?_
    refine WL_field Tryz.underlying88 rfl rfl (fun w => ⟨_, Tryz.sizeOf3 w⟩) rfl rfl ?_
    refine WL_nil ?_
    refine WA_tk 6 (by kernel_rfl) rfl rfl (fl_move rfl) ?_
    refine WL_move rfl rfl ?_
    refine WL_nil ?_
    refine WA_tk 7 (by kernel_rfl) rfl rfl (fl_move rfl) ?_
    refine WL_move rfl rfl ?_
    refine WL_nil ?_
    obtain ⟨x5, hx2, hL1⟩ := bind_some hL1
    refine WA_tk 8 (by kernel_rfl) rfl rfl (fl_index Tryz.underlying31 ty88 g1 hx2 rfl rfl) ?_
    refine WL_index Tryz.underlying31 ty88 g1 hx2 rfl rfl rfl (fun b3 o2 h2 => ?_)
    refine WL_nil ?_
    refine WA_tk 9 (by kernel_rfl) rfl rfl (fl_field Tryz.underlying88 rfl rfl (fun w => ⟨_, Tryz.sizeOf24 w⟩) rfl) ?_
    refine WL_field Tryz.underlying88 rfl rfl (fun w => ⟨_, Tryz.sizeOf24 w⟩) rfl rfl ?_
    refine WL_nil ?_
    refine WA.sub (l' := [(0, u1), (3, v1), (4, (.int .i64 x2)), (6, (.int .i64 x2)), (7, u1), (8, (.int .i64 (List.length a1 : Int))), (9, (.bool (decide (x2 < (List.length a1 : Int))))), (12, v1), (13, u1), (14, (.int .i64 x2)), (15, (ptr b2 o1)), (16, (ptr b2 (o1 + 0))), (18, u1), (19, (.int .i64 x2)), (20, (ptr b3 o2)), (21, (ptr b3 (o2 + 1)))]) ?_ ⟨rfl, rfl, rfl, rfl, rfl, rfl, rfl, rfl, rfl, rfl, rfl, rfl, rfl, rfl, rfl, rfl, trivial⟩
    refine WA_postsE [⟨5, [], fun vs => PW.val (.int .i64 x4.1), []⟩, ⟨10, [], fun vs => PW.ro [] w0 x5.2, []⟩] [[], []] 4 rfl (by kernel_rfl) (by kernel_rfl) rfl ?_ ?_
    ·refine StepsE_cons rfl ?_ ?_
     ·intro w4 hB4
      refine DepsE_nil ?_
      refine ⟨_, rfl, ?_⟩
      refine WL_load ty3 h1.fst (hC6.keep.then hB4) rfl rfl (fun v3 h3 => ?_)
      obtain rfl := ro_int h3
      refine WL_nil ?_
      exact FinE_val (Below.refl _ _) rfl rfl ⟨rfl, rfl⟩
     refine StepsE_cons rfl ?_ ?_
     ·intro w4 hB4
      refine DepsE_nil ?_
      refine ⟨_, rfl, ?_⟩
      refine WL_load ty24 h2.snd (hC6.keep.then hB4) rfl rfl (fun v4 h4 => ?_)
      refine WL_nil ?_
      exact FinE_val (Below.refl _ _) rfl rfl ⟨rfl, h4⟩
     exact StepsE_nil
    intro w5 hB5
    refine AllE_cons rfl rfl rfl ?_
    rintro _ _ ⟨rfl, rfl⟩
    refine AllE_cons rfl rfl rfl ?_
    rintro v4 _ ⟨rfl, h4⟩
    refine AllE_nil ?_
    intro hn1 hb1
    have hC7 := hC6.grow hB5
    obtain ⟨x6, hr2, hL1⟩ := bind_some hL1
    refine WA_one 11 (by kernel_rfl) rfl ?_
    refine WL_call Tryz.call131 rfl rfl (c_S_l2One x4.1 x5.2 v4 (h4.now hC7.keep) x6 hr2) ?_
    rintro v5 w6 ⟨hB6, F1, hv1, hn2, hb2⟩
    have hC8 := hC7.push hB6 (A := Item.own v5 x6) hv1 hn2 hb2
    obtain ⟨v6, rfl, hC9⟩ := st88_own hC8
    refine WL_nil ?_
    refine WA_one 12 (by kernel_rfl) rfl ?_
    refine WL_buildSlice (vs := [(.agg #[(.int .i64 x6.1), v6])]) hC9 Tryz.underlying31 ty88 rfl rfl rfl rfl (by intro v hv; simp only [List.mem_cons, List.not_mem_nil, or_false] at hv; rcases hv with rfl <;> rfl) rfl rfl (fun b4 w7 hC10 hB7 => ?_)
    have hC11 := hC10.row0 (α := (Int × (List Int)))
    have hC13 := hC11.f2
    have hC12 := own_st88 x6.1 v6 x6.2 hC13
    have hC14 := hC12.row1
    have hC15 := hC14.front 1 rfl
    dsimp only [List.eraseIdx, List.cons_append, List.nil_append, List.append_nil] at hC15
    have hC16 : Ctx [] w0 w7 (Item.own (.slice (some ⟨b4, 0, none⟩) 1 1) ([(x6.1, x6.2)] : List (Int × (List Int))) :: [Item.own v1 (x1 : (List (Int × (List Int))))]) := hC15.rowOwn (by simp [maxLen])
    refine WL_nil ?_
    obtain ⟨x7, hx3, hL1⟩ := bind_some hL1
    refine WA_one 13 (by kernel_rfl) rfl ?_
    refine WL_append_head hC16 0 rfl Tryz.underlying31 ty88 rfl hx3 rfl rfl rfl (fun v7 w9 hC17 => ?_)
    try dsimp only [List.set] at hC17
    refine WL_nil ?_
    refine WA_tk 14 (by kernel_rfl) rfl rfl (fl_assign rfl) ?_
    refine WL_assign rfl rfl ?_
    refine WL_nil ?_
    refine WA_done (by kernel_rfl) ?_
    refine blk_normal ?_
    refine nrm_normal ?_
    refine W_reg ?_
    refine WL_move rfl rfl ?_
    refine WL_add rfl rfl rfl ?_
    refine WL_assign rfl rfl ?_
    refine WL_nil ?_
    refine nrm_sub (l' := [(0, u1), (3, v7), (4, (.int .i64 (w64 (x2 + 1))))]) ⟨rfl, rfl, rfl, trivial⟩ ?_
    exact ⟨k1, Nat.lt_succ_self _, v7, x7, w64 (x2 + 1), rfl, hC17, hL1⟩
   replace hL1 := ite_f hL1 hc1
   refine W_exit ?_
   refine nrm_exit ?_
   refine nrm_exit ?_
   refine blk_exit ?_
   have hq1 := Option.some.inj hL1
   subst hq1
   refine nrm_sub (l' := [(3, v1)]) ⟨rfl, trivial⟩ ?_
   exact ⟨v1, x1, rfl, rfl, hC5⟩
 rintro l2 _ w10 hs2 ⟨v2, x3, rfl, rfl, hC19⟩
 try dsimp only at hF
 refine nrm_sub' hs2 ?_
 clear hs2
 refine W_seq_reg ?_
 refine WL_move rfl rfl ?_
 refine WL_assign rfl rfl ?_
 refine WL_nil ?_
 refine W_ret ?_
 have hq2 := Option.some.inj hF
 subst hq2
 refine fn_ret1 rfl rfl ?_
 exact ⟨_, rfl, own_res hC19 0 rfl⟩

theorem c_S_l29Told {w0 : World} (a1 : ((Int × (List Int)) × (List (Int × (List Int))))) (u1 : Value) (g1 : RO [] w0 u1 a1.1.2) (u2 : Value) (g2 : RO [] w0 u2 a1.2) (rr : ((Int × (List Int)) × (List (Int × (List Int))))) (hF : S.l29Told a1 = some rr) :
 Calls Tryz.prog 155 [(.agg #[(.int .i64 a1.1.1), u1, u2])].toArray w0 fun e w' => ∃ v, e = .returned v ∧ Res w0 rr v w' := by
 refine calls_of_W Tryz.func155 rfl rfl ?_
 have hC0 := Ctx.start w0
 unfold S.l29Told at hF
 refine W_seq_reg ?_
 refine WL_boxK (cs := [(.int .i64 a1.1.1), u1, u2]) hC0 rfl rfl rfl (fun b1 w1 hC1 hB1 hN1 => ?_)
 refine WL_allocK hC1 zero46 rfl rfl (fun b2 w2 hC2 hB2 hN2 => ?_)
 refine WL_nil ?_
 refine W_seq ?_
 refine W_drawn 12 rfl hmix (fun w3 hB3 => ?_)
 have hC3 := hC2.grow hB3
 refine WA_tk 0 (by kernel_rfl) rfl rfl (fl_field Tryz.underlying46 rfl rfl (fun w => ⟨_, Tryz.sizeOf44 w⟩) rfl) ?_
 refine WL_field Tryz.underlying46 rfl rfl (fun w => ⟨_, Tryz.sizeOf44 w⟩) rfl rfl ?_
 refine WL_nil ?_
 refine WA_tk 1 (by kernel_rfl) rfl rfl (fl_field Tryz.underlying44 rfl rfl (fun w => ⟨_, Tryz.sizeOf3 w⟩) rfl) ?_
 refine WL_field Tryz.underlying44 rfl rfl (fun w => ⟨_, Tryz.sizeOf3 w⟩) rfl rfl ?_
 refine WL_nil ?_
 refine WA_tk 3 (by kernel_rfl) rfl rfl (fl_field Tryz.underlying46 rfl rfl (fun w => ⟨_, Tryz.sizeOf44 w⟩) rfl) ?_
 refine WL_field Tryz.underlying46 rfl rfl (fun w => ⟨_, Tryz.sizeOf44 w⟩) rfl rfl ?_
 refine WL_nil ?_
 refine WA_tk 4 (by kernel_rfl) rfl rfl (fl_field Tryz.underlying44 rfl rfl (fun w => ⟨_, Tryz.sizeOf24 w⟩) rfl) ?_
 refine WL_field Tryz.underlying44 rfl rfl (fun w => ⟨_, Tryz.sizeOf24 w⟩) rfl rfl ?_
 refine WL_nil ?_
 refine WA_tk 7 (by kernel_rfl) rfl rfl (fl_field Tryz.underlying46 rfl rfl (fun w => ⟨_, Tryz.sizeOf31 w⟩) rfl) ?_
 refine WL_field Tryz.underlying46 rfl rfl (fun w => ⟨_, Tryz.sizeOf31 w⟩) rfl rfl ?_
 refine WL_nil ?_
 obtain ⟨x1, hr1, hF⟩ := bind_some hF
 refine WA.sub (l' := [(0, (.agg #[(.int .i64 a1.1.1), u1, u2])), (1, (ptr b1 0)), (2, (ptr b2 0)), (3, (ptr b1 0)), (4, (ptr b1 0)), (6, (ptr b1 0)), (7, (ptr b1 1)), (10, (ptr b1 2))]) ?_ ⟨rfl, rfl, rfl, rfl, rfl, rfl, rfl, rfl, trivial⟩
 refine WA_postsE [⟨2, [], fun vs => PW.val (.int .i64 a1.1.1), []⟩, ⟨5, [], fun vs => PW.val u1, []⟩, ⟨6, [], fun vs => PW.own x1, []⟩, ⟨8, [], fun vs => PW.val u2, []⟩] [[], [], [2, 5], []] 3 rfl (by kernel_rfl) (by kernel_rfl) rfl ?_ ?_
 ·refine StepsE_cons rfl ?_ ?_
  ·intro w5 hB5
   refine DepsE_nil ?_
   refine ⟨_, rfl, ?_⟩
   refine WL_load_box (hC3.grow hB5) 1 rfl rfl Tryz.isAgg3 rfl rfl ?_
   refine WL_nil ?_
   exact FinE_val (Below.refl _ _) rfl rfl ⟨rfl, rfl⟩
  refine StepsE_cons rfl ?_ ?_
  ·intro w5 hB5
   refine DepsE_nil ?_
   refine ⟨_, rfl, ?_⟩
   refine WL_load_box (hC3.grow hB5) 1 rfl rfl Tryz.isAgg24 rfl rfl ?_
   refine WL_nil ?_
   exact FinE_val (Below.refl _ _) rfl rfl ⟨rfl, rfl⟩
  refine StepsE_cons rfl ?_ ?_
  ·intro w5 hB5
   refine DepsE_cons rfl rfl rfl ?_
   rintro _ _ ⟨rfl, rfl⟩ _
   refine DepsE_cons rfl rfl rfl ?_
   rintro _ _ ⟨rfl, rfl⟩ _
   refine DepsE_nil ?_
   refine ⟨_, rfl, ?_⟩
   refine WL_call Tryz.call192 rfl rfl (c_S_l8Access a1.1.1 a1.1.2 u1 (g1.now (hC3.keep.then hB5)) x1 hr1) ?_
   rintro v1 w4 ⟨hB4, F1, hv1, hn1, hb1⟩
   refine WL_nil ?_
   exact FinE_own hB4 rfl rfl hv1 hn1 hb1 (Val.inh hv1)
  refine StepsE_cons rfl ?_ ?_
  ·intro w5 hB5
   refine DepsE_nil ?_
   refine ⟨_, rfl, ?_⟩
   refine WL_load_box (hC3.grow hB5) 1 rfl rfl Tryz.isAgg31 rfl rfl ?_
   refine WL_nil ?_
   exact FinE_val (Below.refl _ _) rfl rfl ⟨rfl, rfl⟩
  exact StepsE_nil
 intro w6 hB6
 refine AllE_cons rfl rfl rfl ?_
 rintro _ _ ⟨rfl, rfl⟩
 refine AllE_cons rfl rfl rfl ?_
 rintro _ _ ⟨rfl, rfl⟩
 refine AllE_cons rfl rfl rfl ?_
 intro v1 F1 hv1
 refine AllE_cons rfl rfl rfl ?_
 rintro _ _ ⟨rfl, rfl⟩
 refine AllE_nil ?_
 intro hn2 hb2
 have hC4 := hC3.pushL hB6 (Bs := [Item.own v1 (x1 : (Int × (List Int)))]) (Fs := [F1]) ⟨F1, _, rfl, hv1, rfl⟩ (by simpa using hn2) (fun b h => (hb2 b (by simpa using h)).1)
 obtain ⟨v3, rfl, hC5⟩ := st44_own hC4
 obtain ⟨x2, hr2, hF⟩ := bind_some hF
 refine WA_one 9 (by kernel_rfl) rfl ?_
 refine WL_call Tryz.call193 rfl rfl (c_S_l2Copy a1.2 u2 (g2.now hC5.keep) x2 hr2) ?_
 rintro v4 w7 ⟨hB7, F2, hv2, hn3, hb3⟩
 have hC6 := hC5.push hB7 (A := Item.own v4 x2) hv2 hn3 hb3
 refine WL_nil ?_
 refine WA_tk 10 (by kernel_rfl) rfl rfl (fl_build (vs := [(0, (.agg #[(.int .i64 x1.1), v3])), (1, v4)]) rfl rfl (built46_0_1 rfl (ro_cells (hC6.ro 0 rfl)))) ?_
 refine WL_build (vs := [(0, (.agg #[(.int .i64 x1.1), v3])), (1, v4)]) rfl rfl rfl (built46_0_1 rfl (ro_cells (hC6.ro 0 rfl))) ?_
 refine WL_nil ?_
 refine WA_one 11 (by kernel_rfl) rfl ?_
 refine WL_store_box_aggK (cs' := [(.int .i64 x1.1), v3, v4]) (new := [(.int .i64 x1.1), v3, v4]) hC6 2 rfl rfl (by intro v hv; simp only [List.mem_cons, List.not_mem_nil, or_false] at hv; rcases hv with rfl | rfl | rfl; exact rfl; exact (ro_one (hC6.ro 1 rfl)); exact (ro_one (hC6.ro 0 rfl))) rfl Tryz.sizeOf46 rfl rfl (fun w9 hC7 hKp1 => ?_)
 try dsimp only [List.set] at hC7
 have hk1 := Keep.over (((((Keep.of hB1).then hB2).then hB3).then hB6).then hB7) (Nat.le_trans (Keep.of hB1).size hN2) hKp1
 have hk2 := Keep.over ((((Keep.of hB2).then hB3).then hB6).then hB7) hN2 hKp1
 refine WL_nil ?_
 refine WA_done (by kernel_rfl) ?_
 refine nrm_normal ?_
 refine W_ret ?_
 have hq1 := Option.some.inj hF
 subst hq1
 refine fn_retG1 rfl (rv_cell_agg (cs' := [(.int .i64 x1.1), v3, v4]) hC7 (i := 2) rfl rfl rfl Tryz.isAgg46 Tryz.sizeOf46 rfl) ?_
 have hC10 := hC7.f1
 have hC8 := own_st46 x1.1 v3 x1.2 v4 x2 hC10
 exact ⟨_, rfl, own_res hC8 0 rfl⟩

theorem c_S_Without {w0 : World} (a1 : (List ((Int × (List Int)) × (List (Int × (List Int)))))) (u1 : Value) (g1 : RO [] w0 u1 a1) (a2 : (List Int)) (u2 : Value) (g2 : RO [] w0 u2 a2) (rr : (List ((Int × (List Int)) × (List (Int × (List Int)))))) (hF : S.Without a1 a2 = some rr) :
 Calls Tryz.prog 107 [u1, u2].toArray w0 fun e w' => ∃ v, e = .returned v ∧ Res w0 rr v w' := by
 refine calls_of_W Tryz.func107 rfl rfl ?_
 have hC0 := Ctx.start w0
 unfold S.Without at hF
 refine W_seq_reg ?_
 refine WL_assign rfl rfl ?_
 refine WL_nil ?_
 refine W_seq_reg ?_
 refine WL_buildSlice (vs := []) hC0 Tryz.underlying26 ty46 rfl rfl rfl rfl (by simp) rfl rfl (fun b1 w1 hC1 hB1 => ?_)
 have hC2 := hC1.row0 (α := ((Int × (List Int)) × (List (Int × (List Int)))))
 have hC3 := hC2.front 1 rfl
 dsimp only [List.eraseIdx, List.cons_append, List.nil_append, List.append_nil] at hC3
 have hC4 : Ctx [] w0 w1 (Item.own (.slice (some ⟨b1, 0, none⟩) 0 0) (([] : List ((Int × (List Int)) × (List (Int × (List Int))))) : List ((Int × (List Int)) × (List (Int × (List Int))))) :: []) := hC3.rowOwn (by simp [maxLen])
 refine WL_assign rfl rfl ?_
 refine WL_nil ?_
 refine W_seq ?_
 refine W_seq_reg ?_
 refine WL_assign rfl rfl ?_
 refine WL_nil ?_
 obtain ⟨r1, hr1, hF⟩ := bind_some hF
 refine W_norm (fun l w => ∃ v2 : Value, ∃ x3 : (List ((Int × (List Int)) × (List (Int × (List Int))))), x3 = r1 ∧ l = [(5, v2)] ∧ Ctx [] w0 w [Item.own v2 (x3 : (List ((Int × (List Int)) × (List (Int × (List Int))))))]) ?_ ?_
 ·refine W_block ?_
  refine W.sub (l' := [(0, u1), (1, u2), (5, (.slice (some ⟨b1, 0, none⟩) 0 0)), (6, (.int .i64 0))]) ?_ ⟨rfl, rfl, rfl, rfl, trivial⟩
  refine W_loop (fun k l w => ∃ v1 : Value, ∃ x1 : (List ((Int × (List Int)) × (List (Int × (List Int))))), ∃ x2 : Int, l = [(0, u1), (1, u2), (5, v1), (6, (.int .i64 x2))] ∧ Ctx [] w0 w [Item.own v1 (x1 : (List ((Int × (List Int)) × (List (Int × (List Int))))))] ∧ S.Without_l1 a1 a2 k x1 x2 = some r1) FUEL ⟨(.slice (some ⟨b1, 0, none⟩) 0 0), ([] : List ((Int × (List Int)) × (List (Int × (List Int))))), 0, rfl, hC4, hr1⟩ ?_
  clear hr1
  rintro k1 _ w2 ⟨v1, x1, x2, rfl, hC5, hL1⟩
  cases k1 with
  | zero => rw [S.Without_l1] at hL1; cases hL1
  | succ k1 =>
   rw [S.Without_l1] at hL1
   refine W_seq ?_
   refine W_seq_reg ?_
   refine WL_move rfl rfl ?_
   refine WL_move rfl rfl ?_
   refine WL_len Tryz.underlying26 g1 rfl rfl ?_
   refine WL_lss rfl rfl rfl ?_
   refine WL_nil ?_
   refine W_cond rfl (fun hc1 => ?_) (fun hc1 => ?_)
   ·replace hL1 := ite_t hL1 hc1
    refine W_skip ?_
    refine nrm_normal ?_
    refine W_seq ?_
    refine W_block ?_
    refine W_seq_reg ?_
    refine WL_move rfl rfl ?_
    refine WL_move rfl rfl ?_
    obtain ⟨x4, hr2, hL1⟩ := bind_some hL1
    refine WL_call Tryz.call154 rfl rfl (c_S_l2Has a2 u2 (g2.now hC5.keep) x2 x4 hr2) ?_
    intro _ w3 hv1
    obtain ⟨rfl, hB3⟩ := res_bool hv1
    have hC6 := hC5.grow hB3
    refine WL_not rfl rfl ?_
    refine WL_nil ?_
    obtain ⟨r2, hr3, hL1⟩ := bind_some hL1
    refine W_norm (fun l w => ∃ v3 : Value, ∃ x5 : (List ((Int × (List Int)) × (List (Int × (List Int))))), x5 = r2 ∧ l = [(0, u1), (1, u2), (5, v3), (6, (.int .i64 x2))] ∧ Ctx [] w0 w [Item.own v3 (x5 : (List ((Int × (List Int)) × (List (Int × (List Int))))))]) ?_ ?_
    ·refine W_cond rfl (fun hc2 => ?_) (fun hc2 => ?_)
     ·replace hr3 := ite_t hr3 hc2
      refine W_seq_reg ?_
      refine WL_move rfl rfl ?_
      refine WL_move rfl rfl ?_
      obtain ⟨x6, hx1, hr3⟩ := bind_some hr3
      refine WL_index Tryz.underlying26 ty46 g1 hx1 rfl rfl rfl (fun b2 o1 h1 => ?_)
      refine WL_load ty46 h1 hC6.keep rfl rfl (fun v4 h2 => ?_)
      obtain ⟨v5, v6, rfl, h3, h4⟩ := ro_st46 h2
      obtain ⟨x7, hr4, hr3⟩ := bind_some hr3
      refine WL_call Tryz.call155 rfl rfl (c_S_l29Told x6 v5 (h3.now hC6.keep) v6 (h4.now hC6.keep) x7 hr4) ?_
      rintro v7 w5 ⟨hB5, F1, hv2, hn1, hb1⟩
      have hC8 := hC6.push hB5 (A := Item.own v7 x7) hv2 hn1 hb1
      obtain ⟨v8, v9, rfl, hC9⟩ := st46_own hC8
      refine WL_allocK hC9 zero46 rfl rfl (fun b3 w6 hC10 hB6 hN1 => ?_)
      refine WL_store_box_aggK (cs' := [(.int .i64 x7.1.1), v8, v9]) (new := [(.int .i64 x7.1.1), v8, v9]) hC10 0 rfl rfl (by intro v hv; simp only [List.mem_cons, List.not_mem_nil, or_false] at hv; rcases hv with rfl | rfl | rfl; exact rfl; exact (ro_one (hC10.ro 1 rfl)); exact (ro_one (hC10.ro 2 rfl))) rfl Tryz.sizeOf46 rfl rfl (fun w7 hC11 hKp1 => ?_)
      try dsimp only [List.set] at hC11
      have hk1 := Keep.over (((Keep.of hB3).then hB5).then hB6) (Nat.le_trans ((Keep.of hB3).then hB5).size hN1) hKp1
      have hk2 := Keep.over ((Keep.of hB5).then hB6) (Nat.le_trans (Keep.of hB5).size hN1) hKp1
      have hk3 := Keep.over (Keep.of hB6) hN1 hKp1
      refine WL_nil ?_
      refine W_reg ?_
      refine WL_move rfl rfl ?_
      refine WL_load_box_agg [(.int .i64 x7.1.1), v8, v9] hC11 0 rfl rfl rfl Tryz.isAgg46 Tryz.sizeOf46 rfl rfl ?_
      refine WL_buildSlice (vs := [(.agg #[(.int .i64 x7.1.1), v8, v9])]) hC11 Tryz.underlying26 ty46 rfl rfl rfl rfl (by intro v hv; simp only [List.mem_cons, List.not_mem_nil, or_false] at hv; rcases hv with rfl <;> rfl) rfl rfl (fun b4 w9 hC12 hB7 => ?_)
      have hC13 := hC12.row0 (α := ((Int × (List Int)) × (List (Int × (List Int)))))
      have hC15 := hC13.f4
      have hC16 := hC15.f4
      have hC14 := own_st46 x7.1.1 v8 x7.1.2 v9 x7.2 hC16
      have hC17 := hC14.row1
      have hC18 := hC17.front 1 rfl
      dsimp only [List.eraseIdx, List.cons_append, List.nil_append, List.append_nil] at hC18
      have hC19 : Ctx [] w0 w9 (Item.own (.slice (some ⟨b4, 0, none⟩) 1 1) ([((x7.1.1, x7.1.2), x7.2)] : List ((Int × (List Int)) × (List (Int × (List Int))))) :: [Item.box b3 [(.int .i64 x7.1.1), v8, v9], Item.own v1 (x1 : (List ((Int × (List Int)) × (List (Int × (List Int))))))]) := hC18.rowOwn (by simp [maxLen])
      obtain ⟨x8, hx2, hr3⟩ := bind_some hr3
      refine WL_append_head hC19 1 rfl Tryz.underlying26 ty46 rfl hx2 rfl rfl rfl (fun v10 w10 hC20 => ?_)
      try dsimp only [List.set] at hC20
      refine WL_assign rfl rfl ?_
      refine WL_nil ?_
      have hq1 := Option.some.inj hr3
      subst hq1
      have hC22 := hC20.f1
      have hC23 := hC22.h1
      refine nrm_sub (l' := [(0, u1), (1, u2), (5, v10), (6, (.int .i64 x2))]) ⟨rfl, rfl, rfl, rfl, trivial⟩ ?_
      exact ⟨v10, x8, rfl, rfl, hC23⟩
     replace hr3 := ite_f hr3 hc2
     refine W_skip ?_
     have hq2 := Option.some.inj hr3
     subst hq2
     refine nrm_sub (l' := [(0, u1), (1, u2), (5, v1), (6, (.int .i64 x2))]) ⟨rfl, rfl, rfl, rfl, trivial⟩ ?_
     exact ⟨v1, x1, rfl, rfl, hC6⟩
    rintro l2 _ w4 hs2 ⟨v3, x5, rfl, rfl, hC7⟩
    try dsimp only at hL1
    refine blk_normal ?_
    refine nrm_sub' hs2 ?_
    clear hs2
    refine W_reg ?_
    refine WL_move rfl rfl ?_
    refine WL_add rfl rfl rfl ?_
    refine WL_assign rfl rfl ?_
    refine WL_nil ?_
    refine nrm_sub (l' := [(0, u1), (1, u2), (5, v3), (6, (.int .i64 (w64 (x2 + 1))))]) ⟨rfl, rfl, rfl, rfl, trivial⟩ ?_
    exact ⟨k1, Nat.lt_succ_self _, v3, x5, w64 (x2 + 1), rfl, hC7, hL1⟩
   replace hL1 := ite_f hL1 hc1
   refine W_exit ?_
   refine nrm_exit ?_
   refine nrm_exit ?_
   refine blk_exit ?_
   have hq3 := Option.some.inj hL1
   subst hq3
   refine nrm_sub (l' := [(5, v1)]) ⟨rfl, trivial⟩ ?_
   exact ⟨v1, x1, rfl, rfl, hC5⟩
 rintro l3 _ w11 hs3 ⟨v2, x3, rfl, rfl, hC24⟩
 try dsimp only at hF
 refine nrm_sub' hs3 ?_
 clear hs3
 refine W_seq_reg ?_
 refine WL_move rfl rfl ?_
 refine WL_assign rfl rfl ?_
 refine WL_nil ?_
 refine W_ret ?_
 have hq4 := Option.some.inj hF
 subst hq4
 refine fn_ret1 rfl rfl ?_
 exact ⟨_, rfl, own_res hC24 0 rfl⟩

theorem c_S_SmallestRemoval {w0 : World} (a1 : (List Int)) (u1 : Value) (g1 : RO [] w0 u1 a1) (a2 : (List (Int × (List Int) × Int × Int × Int))) (u2 : Value) (g2 : RO [] w0 u2 a2) (a3 : (List ((Int × (List Int)) × (List (Int × (List Int)))))) (u3 : Value) (g3 : RO [] w0 u3 a3) (rr : ((List Int) × Bool)) (hF : S.SmallestRemoval a1 a2 a3 = some rr) :
 Calls Tryz.prog 36 [u1, u2, u3].toArray w0 fun e w' => ∃ v, e = .returned v ∧ Res2 w0 rr.1 rr.2 v w' := by
 refine calls_of_W Tryz.func36 rfl rfl ?_
 have hC0 := Ctx.start w0
 unfold S.SmallestRemoval at hF
 refine W_seq_reg ?_
 refine WL_assign rfl rfl ?_
 refine WL_assign rfl rfl ?_
 refine WL_nil ?_
 refine W_seq_reg ?_
 refine WL_buildSlice (vs := []) hC0 Tryz.underlying24 ty3 rfl rfl rfl rfl (by simp) rfl rfl (fun b1 w1 hC1 hB1 => ?_)
 have hC2 := hC1.row0 (α := Int)
 have hC3 := hC2.front 1 rfl
 dsimp only [List.eraseIdx, List.cons_append, List.nil_append, List.append_nil] at hC3
 have hC4 : Ctx [] w0 w1 (Item.own (.slice (some ⟨b1, 0, none⟩) 0 0) (([] : List Int) : List Int) :: []) := hC3.rowOwn (by simp [maxLen])
 refine WL_assign rfl rfl ?_
 refine WL_nil ?_
 refine W_seq_reg ?_
 refine WL_assign rfl rfl ?_
 refine WL_nil ?_
 refine W_seq ?_
 obtain ⟨r1, hr1, hF⟩ := bind_some hF
 refine W_cut (fun l w => ∃ x1 : Bool, x1 = r1 ∧ l = [(0, u1), (1, u2), (2, u3), (8, (.slice (some ⟨b1, 0, none⟩) 0 0)), (9, (.bool false)), (21, (.bool x1))] ∧ Below w1.heap.size w1 w ∧ Ctx [] w0 w [Item.own (.slice (some ⟨b1, 0, none⟩) 0 0) (([] : List Int) : (List Int))]) ?_ ?_
 ·refine W_reg ?_
  refine WL_move rfl rfl ?_
  refine WL_move rfl rfl ?_
  obtain ⟨x2, hr2, hr1⟩ := bind_some hr1
  refine WL_call Tryz.call18 rfl rfl (c_S_AreMethods a1 u1 (g1.now hC4.keep) a2 u2 (g2.now hC4.keep) x2 hr2) ?_
  intro _ w3 hv1
  obtain ⟨rfl, hB3⟩ := res_bool hv1
  have hC6 := hC4.grow hB3
  refine WL_not rfl rfl ?_
  refine WL_move rfl rfl ?_
  refine WL_fork (fun hc1 => ?_) (fun hc1 => ?_)
  ·replace hr1 := ite_t hr1 hc1
   refine WL_guard_skip rfl rfl (by simp) rfl ?_
   refine WL_guard_skip rfl rfl (by simp) rfl ?_
   refine WL_guard_skip rfl rfl (by simp) rfl ?_
   refine WL_pick_t rfl rfl rfl ?_
   refine WL_nil ?_
   have hq1 := Option.some.inj hr1
   subst hq1
   refine nrm_sub (l' := [(0, u1), (1, u2), (2, u3), (8, (.slice (some ⟨b1, 0, none⟩) 0 0)), (9, (.bool false)), (21, (.bool true))]) ⟨rfl, rfl, rfl, rfl, rfl, rfl, trivial⟩ ?_
   exact ⟨true, rfl, rfl, (Keep.of hB3).below, hC6⟩
  replace hr1 := ite_f hr1 hc1
  refine WL_guard rfl rfl ?_
  refine WL_move rfl rfl ?_
  refine WL_guard rfl rfl ?_
  refine WL_len Tryz.underlying26 g3 rfl rfl ?_
  refine WL_guard rfl rfl ?_
  refine WL_gtr rfl rfl rfl ?_
  refine WL_pick_f rfl rfl rfl ?_
  refine WL_nil ?_
  have hq2 := Option.some.inj hr1
  subst hq2
  refine nrm_sub (l' := [(0, u1), (1, u2), (2, u3), (8, (.slice (some ⟨b1, 0, none⟩) 0 0)), (9, (.bool false)), (21, (.bool (decide (8 < (List.length a3 : Int)))))]) ⟨rfl, rfl, rfl, rfl, rfl, rfl, trivial⟩ ?_
  exact ⟨(decide (8 < (List.length a3 : Int))), rfl, rfl, (Keep.of hB3).below, hC6⟩
 rintro _ w2 ⟨x1, rfl, rfl, hB2, hC5⟩
 try dsimp only at hF
 refine W_cond rfl (fun hc2 => ?_) (fun hc2 => ?_)
 ·replace hF := ite_t hF hc2
  refine W_seq_reg ?_
  refine WL_move rfl rfl ?_
  refine WL_assign rfl rfl ?_
  refine WL_assign rfl rfl ?_
  refine WL_nil ?_
  refine W_ret ?_
  refine nrm_ret ?_
  have hq3 := Option.some.inj hF
  subst hq3
  refine fn_ret2 rfl rfl rfl ?_
  have hC7 := hC5.triv (bool_val (false))
  have hC8 := hC7.f1
  exact ⟨_, rfl, res2_of hC8⟩
 replace hF := ite_f hF hc2
 refine W_skip ?_
 refine nrm_normal ?_
 refine W_seq ?_
 refine W_seq_reg ?_
 refine WL_assign rfl rfl ?_
 refine WL_nil ?_
 obtain ⟨r2, hr3, hF⟩ := bind_some hF
 refine W_norm (fun l w => ∃ v2 : Value, ∃ x6 : (List Int), ∃ x7 : Bool, (x6, x7) = r2 ∧ l = [(8, v2), (9, (.bool x7))] ∧ Below w2.heap.size w2 w ∧ Ctx [] w0 w [Item.own v2 (x6 : (List Int))]) ?_ ?_
 ·refine W_block ?_
  refine W.sub (l' := [(0, u1), (1, u2), (2, u3), (8, (.slice (some ⟨b1, 0, none⟩) 0 0)), (9, (.bool false)), (10, (.int .i64 0))]) ?_ ⟨rfl, rfl, rfl, rfl, rfl, rfl, trivial⟩
  refine W_loop (fun k l w => ∃ v1 : Value, ∃ x3 : (List Int), ∃ x4 : Bool, ∃ x5 : Int, l = [(0, u1), (1, u2), (2, u3), (8, v1), (9, (.bool x4)), (10, (.int .i64 x5))] ∧ Below w2.heap.size w2 w ∧ Ctx [] w0 w [Item.own v1 (x3 : (List Int))] ∧ S.SmallestRemoval_l1 a3 a1 a2 k x3 x4 x5 = some r2) FUEL ⟨(.slice (some ⟨b1, 0, none⟩) 0 0), ([] : List Int), false, 0, rfl, (Below.refl _ _), hC5, hr3⟩ ?_
  clear hr3
  rintro k1 _ w4 ⟨v1, x3, x4, x5, rfl, hB4, hC9, hL1⟩
  cases k1 with
  | zero => rw [S.SmallestRemoval_l1] at hL1; cases hL1
  | succ k1 =>
   rw [S.SmallestRemoval_l1] at hL1
   refine W_seq ?_
   refine W_seq_reg ?_
   refine WL_move rfl rfl ?_
   refine WL_move rfl rfl ?_
   refine WL_len Tryz.underlying26 g3 rfl rfl ?_
   obtain ⟨_, hx1, hL1⟩ := bind_some hL1
   refine WL_shl (nn_some hx1) rfl rfl rfl ?_
   refine WL_lss rfl rfl rfl ?_
   refine WL_nil ?_
   refine W_cond rfl (fun hc3 => ?_) (fun hc3 => ?_)
   ·replace hL1 := ite_t hL1 hc3
    refine W_skip ?_
    refine nrm_normal ?_
    refine W_seq ?_
    refine W_block ?_
    refine W_seq_reg ?_
    refine WL_move rfl rfl ?_
    refine WL_move rfl rfl ?_
    refine WL_len Tryz.underlying26 g3 rfl rfl ?_
    obtain ⟨x8, hr4, hL1⟩ := bind_some hL1
    refine WL_call Tryz.call105 rfl rfl (c_S_l15Set x5 (List.length a3 : Int) x8 hr4) ?_
    rintro v3 w5 ⟨hB5, F1, hv2, hn1, hb1⟩
    have hC10 := hC9.push hB5 (A := Item.own v3 x8) hv2 hn1 hb1
    refine WL_assign rfl rfl ?_
    refine WL_nil ?_
    refine W_seq ?_
    obtain ⟨r3, hr5, hL1⟩ := bind_some hL1
    refine W_cut (fun l w => ∃ x9 : Bool, x9 = r3 ∧ l = [(0, u1), (1, u2), (2, u3), (8, v1), (9, (.bool x4)), (10, (.int .i64 x5)), (11, v3), (40, (.bool x9))] ∧ Below w5.heap.size w5 w ∧ Ctx [] w0 w [Item.own v3 (x8 : (List Int)), Item.own v1 (x3 : (List Int))]) ?_ ?_
    ·refine W_reg ?_
     refine WL_move rfl rfl ?_
     refine WL_move rfl rfl ?_
     refine WL_fork (fun hc4 => ?_) (fun hc4 => ?_)
     ·replace hr5 := ite_t hr5 hc4
      refine WL_guard rfl rfl ?_
      refine WL_move rfl rfl ?_
      refine WL_guard rfl rfl ?_
      refine WL_move rfl rfl ?_
      obtain ⟨x10, hr6, hr5⟩ := bind_some hr5
      refine WL_guard rfl rfl ?_
      refine WL_call Tryz.call106 rfl rfl (c_S_l15Less x8 v3 ((hC10.ro 0 rfl).now (Keep.refl _ _)) x3 v1 ((hC10.ro 1 rfl).now (Keep.refl _ _)) x10 hr6) ?_
      intro _ w7 hv3
      obtain ⟨rfl, hB7⟩ := res_bool hv3
      have hC12 := hC10.grow hB7
      refine WL_guard rfl rfl ?_
      refine WL_not rfl rfl ?_
      refine WL_pick_t rfl rfl rfl ?_
      refine WL_nil ?_
      have hq4 := Option.some.inj hr5
      subst hq4
      refine nrm_sub (l' := [(0, u1), (1, u2), (2, u3), (8, v1), (9, (.bool x4)), (10, (.int .i64 x5)), (11, v3), (40, (.bool (!x10)))]) ⟨rfl, rfl, rfl, rfl, rfl, rfl, rfl, rfl, trivial⟩ ?_
      exact ⟨(!x10), rfl, rfl, (Keep.of hB7).below, hC12⟩
     replace hr5 := ite_f hr5 hc4
     refine WL_guard_skip rfl rfl (by simp) rfl ?_
     refine WL_guard_skip rfl rfl (by simp) rfl ?_
     refine WL_guard_skip rfl rfl (by simp) rfl ?_
     refine WL_guard_skip rfl rfl (by simp) rfl ?_
     refine WL_pick_f rfl rfl rfl ?_
     refine WL_nil ?_
     have hq5 := Option.some.inj hr5
     subst hq5
     refine nrm_sub (l' := [(0, u1), (1, u2), (2, u3), (8, v1), (9, (.bool x4)), (10, (.int .i64 x5)), (11, v3), (40, (.bool false))]) ⟨rfl, rfl, rfl, rfl, rfl, rfl, rfl, rfl, trivial⟩ ?_
     exact ⟨false, rfl, rfl, (Below.refl _ _), hC10⟩
    rintro _ w6 ⟨x9, rfl, rfl, hB6, hC11⟩
    try dsimp only at hL1
    refine W_cond rfl (fun hc5 => ?_) (fun hc5 => ?_)
    ·replace hL1 := ite_t hL1 hc5
     refine W_exit ?_
     refine nrm_exit ?_
     refine blk_exit ?_
     refine nrm_normal ?_
     refine W_reg ?_
     refine WL_move rfl rfl ?_
     refine WL_add rfl rfl rfl ?_
     refine WL_assign rfl rfl ?_
     refine WL_nil ?_
     have hC13 := hC11.f1
     have hC14 := hC13.h1
     refine nrm_sub (l' := [(0, u1), (1, u2), (2, u3), (8, v1), (9, (.bool x4)), (10, (.int .i64 (w64 (x5 + 1))))]) ⟨rfl, rfl, rfl, rfl, rfl, rfl, trivial⟩ ?_
     exact ⟨k1, Nat.lt_succ_self _, v1, x3, x4, w64 (x5 + 1), rfl, (((Keep.of hB4).then hB5).then hB6).below, hC14, hL1⟩
    replace hL1 := ite_f hL1 hc5
    refine W_skip ?_
    refine nrm_normal ?_
    refine W_seq_reg ?_
    refine WL_move rfl rfl ?_
    refine WL_move rfl rfl ?_
    refine WL_move rfl rfl ?_
    refine WL_move rfl rfl ?_
    obtain ⟨x11, hr7, hL1⟩ := bind_some hL1
    refine WL_call Tryz.call107 rfl rfl (c_S_Without a3 u3 (g3.now hC11.keep) x8 v3 ((hC11.ro 0 rfl).now (Keep.refl _ _)) x11 hr7) ?_
    rintro v4 w9 ⟨hB8, F2, hv4, hn2, hb2⟩
    have hC15 := hC11.push hB8 (A := Item.own v4 x11) hv4 hn2 hb2
    obtain ⟨x12, hr8, hL1⟩ := bind_some hL1
    refine WL_call Tryz.call17 rfl rfl (c_S_IsConsistent a1 u1 (g1.now hC15.keep) a2 u2 (g2.now hC15.keep) x11 v4 ((hC15.ro 0 rfl).now (Keep.refl _ _)) x12 hr8) ?_
    intro _ w10 hv5
    obtain ⟨rfl, hB9⟩ := res_bool hv5
    have hC16 := hC15.grow hB9
    refine WL_nil ?_
    obtain ⟨r4, hr9, hL1⟩ := bind_some hL1
    refine W_norm (fun l w => ∃ v5 : Value, ∃ x13 : (List Int), ∃ x14 : Bool, (x13, x14) = r4 ∧ l = [(0, u1), (1, u2), (2, u3), (8, v5), (9, (.bool x14)), (10, (.int .i64 x5))] ∧ Below w10.heap.size w10 w ∧ Ctx [] w0 w [Item.own v5 (x13 : (List Int))]) ?_ ?_
    ·refine W_cond rfl (fun hc6 => ?_) (fun hc6 => ?_)
     ·replace hr9 := ite_t hr9 hc6
      refine W_seq_reg ?_
      refine WL_move rfl rfl ?_
      refine WL_assign rfl rfl ?_
      refine WL_nil ?_
      refine W_reg ?_
      refine WL_assign rfl rfl ?_
      refine WL_nil ?_
      have hq6 := Option.some.inj hr9
      subst hq6
      have hC18 := hC16.f1
      have hC19 := hC18.h1
      refine nrm_sub (l' := [(0, u1), (1, u2), (2, u3), (8, v3), (9, (.bool true)), (10, (.int .i64 x5))]) ⟨rfl, rfl, rfl, rfl, rfl, rfl, trivial⟩ ?_
      exact ⟨v3, x8, true, rfl, rfl, (Below.refl _ _), hC19⟩
     replace hr9 := ite_f hr9 hc6
     refine W_skip ?_
     have hq7 := Option.some.inj hr9
     subst hq7
     have hC20 := hC16.f2
     have hC21 := hC20.h1
     refine nrm_sub (l' := [(0, u1), (1, u2), (2, u3), (8, v1), (9, (.bool x4)), (10, (.int .i64 x5))]) ⟨rfl, rfl, rfl, rfl, rfl, rfl, trivial⟩ ?_
     exact ⟨v1, x3, x4, rfl, rfl, (Below.refl _ _), hC21⟩
    rintro l4 _ w11 hs4 ⟨v5, x13, x14, rfl, rfl, hB10, hC17⟩
    try dsimp only at hL1
    refine blk_normal ?_
    refine nrm_sub' hs4 ?_
    clear hs4
    refine W_reg ?_
    refine WL_move rfl rfl ?_
    refine WL_add rfl rfl rfl ?_
    refine WL_assign rfl rfl ?_
    refine WL_nil ?_
    refine nrm_sub (l' := [(0, u1), (1, u2), (2, u3), (8, v5), (9, (.bool x14)), (10, (.int .i64 (w64 (x5 + 1))))]) ⟨rfl, rfl, rfl, rfl, rfl, rfl, trivial⟩ ?_
    exact ⟨k1, Nat.lt_succ_self _, v5, x13, x14, w64 (x5 + 1), rfl, ((((((Keep.of hB4).then hB5).then hB6).then hB8).then hB9).then hB10).below, hC17, hL1⟩
   replace hL1 := ite_f hL1 hc3
   refine W_exit ?_
   refine nrm_exit ?_
   refine nrm_exit ?_
   refine blk_exit ?_
   have hq8 := Option.some.inj hL1
   subst hq8
   refine nrm_sub (l' := [(8, v1), (9, (.bool x4))]) ⟨rfl, rfl, trivial⟩ ?_
   exact ⟨v1, x3, x4, rfl, rfl, (Keep.of hB4).below, hC9⟩
 rintro l5 _ w12 hs5 ⟨v2, x6, x7, rfl, rfl, hB11, hC22⟩
 try dsimp only at hF
 refine nrm_sub' hs5 ?_
 clear hs5
 refine W_seq_reg ?_
 refine WL_move rfl rfl ?_
 refine WL_move rfl rfl ?_
 refine WL_assign rfl rfl ?_
 refine WL_assign rfl rfl ?_
 refine WL_nil ?_
 refine W_ret ?_
 have hq9 := Option.some.inj hF
 subst hq9
 refine fn_ret2 rfl rfl rfl ?_
 have hC23 := hC22.triv (bool_val (x7))
 have hC24 := hC23.f1
 exact ⟨_, rfl, res2_of hC24⟩

theorem c_Q_toIntS {w0 : World} (a1 : (List Int)) (u1 : Value) (g1 : RO [] w0 u1 a1) (rr : (List Int)) (hF : Q.toIntS a1 = some rr) :
 Calls Tryz.prog 37 [u1].toArray w0 fun e w' => ∃ v, e = .returned v ∧ Res w0 rr v w' := by
 refine calls_of_W Tryz.func37 rfl rfl ?_
 have hC0 := Ctx.start w0
 unfold Q.toIntS at hF
 refine W_seq_reg ?_
 refine WL_assign rfl rfl ?_
 refine WL_nil ?_
 refine W_seq_reg ?_
 refine WL_move rfl rfl ?_
 refine WL_len Tryz.underlying24 g1 rfl rfl ?_
 obtain ⟨x1, hx1, hF⟩ := bind_some hF
 refine WL_makeSlice hC0 Tryz.underlying24 ty3 rfl zc3 zr3 hx1 rfl rfl rfl (fun b1 w1 hC1 hB1 => ?_)
 refine WL_assign rfl rfl ?_
 refine WL_nil ?_
 refine W_seq ?_
 refine W_seq_reg ?_
 refine WL_assign rfl rfl ?_
 refine WL_nil ?_
 obtain ⟨r1, hr1, hF⟩ := bind_some hF
 refine W_norm (fun l w => ∃ x4 : (List Int), x4 = r1 ∧ l = [(3, (.slice (some ⟨b1, 0, none⟩) (Int.toNat (List.length a1 : Int)) (Int.toNat (List.length a1 : Int))))] ∧ Ctx [] w0 w [Item.own (.slice (some ⟨b1, 0, none⟩) (Int.toNat (List.length a1 : Int)) (Int.toNat (List.length a1 : Int))) (x4 : (List Int))]) ?_ ?_
 ·refine W_block ?_
  refine W.sub (l' := [(0, u1), (3, (.slice (some ⟨b1, 0, none⟩) (Int.toNat (List.length a1 : Int)) (Int.toNat (List.length a1 : Int)))), (4, (.int .i64 0))]) ?_ ⟨rfl, rfl, rfl, trivial⟩
  refine W_loop (fun k l w => ∃ x2 : (List Int), ∃ x3 : Int, l = [(0, u1), (3, (.slice (some ⟨b1, 0, none⟩) (Int.toNat (List.length a1 : Int)) (Int.toNat (List.length a1 : Int)))), (4, (.int .i64 x3))] ∧ Ctx [] w0 w [Item.own (.slice (some ⟨b1, 0, none⟩) (Int.toNat (List.length a1 : Int)) (Int.toNat (List.length a1 : Int))) (x2 : (List Int))] ∧ Q.toIntS_l1 a1 k x2 x3 = some r1) FUEL ⟨x1, 0, rfl, hC1, hr1⟩ ?_
  clear hr1
  rintro k1 _ w2 ⟨x2, x3, rfl, hC2, hL1⟩
  cases k1 with
  | zero => rw [Q.toIntS_l1] at hL1; cases hL1
  | succ k1 =>
   rw [Q.toIntS_l1] at hL1
   refine W_seq ?_
   refine W_seq_reg ?_
   refine WL_move rfl rfl ?_
   refine WL_move rfl rfl ?_
   refine WL_len Tryz.underlying24 g1 rfl rfl ?_
   refine WL_lss rfl rfl rfl ?_
   refine WL_nil ?_
   refine W_cond rfl (fun hc1 => ?_) (fun hc1 => ?_)
   ·replace hL1 := ite_t hL1 hc1
    refine W_skip ?_
    refine nrm_normal ?_
    refine W_seq ?_
    refine W_block ?_
    refine W_reg ?_
    refine WL_move rfl rfl ?_
    refine WL_move rfl rfl ?_
    refine WL_move rfl rfl ?_
    refine WL_move rfl rfl ?_
    obtain ⟨x5, hx2, hL1⟩ := bind_some hL1
    refine WL_index Tryz.underlying24 ty3 g1 hx2 rfl rfl rfl (fun b2 o1 h1 => ?_)
    refine WL_load ty3 h1 hC2.keep rfl rfl (fun v1 h2 => ?_)
    obtain rfl := ro_int h2
    obtain ⟨x6, hx3, hL1⟩ := bind_some hL1
    refine WL_index_own hC2 0 rfl Tryz.underlying24 ty3 hx3 rfl rfl rfl (fun b3 hE1 => ?_)
    have hC4 := hC2.triv (int_val (x5))
    refine WL_store_elem hC4 0 rfl ty3 hE1 hx3 rfl rfl rfl (fun w3 hC3 => ?_)
    try dsimp only [List.set] at hC3
    refine WL_nil ?_
    refine blk_normal ?_
    refine nrm_normal ?_
    refine W_reg ?_
    refine WL_move rfl rfl ?_
    refine WL_add rfl rfl rfl ?_
    refine WL_assign rfl rfl ?_
    refine WL_nil ?_
    refine nrm_sub (l' := [(0, u1), (3, (.slice (some ⟨b1, 0, none⟩) (Int.toNat (List.length a1 : Int)) (Int.toNat (List.length a1 : Int)))), (4, (.int .i64 (w64 (x3 + 1))))]) ⟨rfl, rfl, rfl, trivial⟩ ?_
    exact ⟨k1, Nat.lt_succ_self _, (List.set x2 (Int.toNat x3) x5), w64 (x3 + 1), rfl, hC3, hL1⟩
   replace hL1 := ite_f hL1 hc1
   refine W_exit ?_
   refine nrm_exit ?_
   refine nrm_exit ?_
   refine blk_exit ?_
   have hq1 := Option.some.inj hL1
   subst hq1
   refine nrm_sub (l' := [(3, (.slice (some ⟨b1, 0, none⟩) (Int.toNat (List.length a1 : Int)) (Int.toNat (List.length a1 : Int))))]) ⟨rfl, trivial⟩ ?_
   exact ⟨x2, rfl, rfl, hC2⟩
 rintro l2 _ w4 hs2 ⟨x4, rfl, rfl, hC5⟩
 try dsimp only at hF
 refine nrm_sub' hs2 ?_
 clear hs2
 refine W_seq_reg ?_
 refine WL_move rfl rfl ?_
 refine WL_assign rfl rfl ?_
 refine WL_nil ?_
 refine W_ret ?_
 have hq2 := Option.some.inj hF
 subst hq2
 refine fn_ret1 rfl rfl ?_
 exact ⟨_, rfl, own_res hC5 0 rfl⟩

theorem c_Q_toMethod {w0 : World} (a1 : (Int × (List Int) × Int × Int × Int)) (u1 : Value) (g1 : RO [] w0 u1 a1.2.1) (rr : (Int × (List Int) × Int × Int × Int)) (hF : Q.toMethod a1 = some rr) :
 Calls Tryz.prog 108 [(.agg #[(.int .i64 a1.1), u1, (.int .i64 a1.2.2.1), (.int .i64 a1.2.2.2.1), (.int .i64 a1.2.2.2.2)])].toArray w0 fun e w' => ∃ v, e = .returned v ∧ Res w0 rr v w' := by
 refine calls_of_W Tryz.func108 rfl rfl ?_
 have hC0 := Ctx.start w0
 unfold Q.toMethod at hF
 refine W_seq_reg ?_
 refine WL_boxK (cs := [(.int .i64 a1.1), u1, (.int .i64 a1.2.2.1), (.int .i64 a1.2.2.2.1), (.int .i64 a1.2.2.2.2)]) hC0 rfl rfl rfl (fun b1 w1 hC1 hB1 hN1 => ?_)
 refine WL_allocK hC1 zero93 rfl rfl (fun b2 w2 hC2 hB2 hN2 => ?_)
 refine WL_nil ?_
 refine W_seq_reg ?_
 refine WL_allocK hC2 zero93 rfl rfl (fun b3 w3 hC3 hB3 hN3 => ?_)
 refine WL_nil ?_
 refine W_seq_reg ?_
 refine WL_field Tryz.underlying114 rfl rfl (fun w => ⟨_, Tryz.sizeOf3 w⟩) rfl rfl ?_
 refine WL_load_box hC3 2 rfl rfl Tryz.isAgg3 rfl rfl ?_
 refine WL_field Tryz.underlying93 rfl rfl (fun w => ⟨_, Tryz.sizeOf3 w⟩) rfl rfl ?_
 refine WL_store_boxK (cs' := [(.int .i64 a1.1), (.slice none 0 0), (.int .i64 0), (.int .i64 0), (.int .i64 0)]) hC3 0 rfl rfl rfl rfl Tryz.sizeOf3 rfl rfl (fun w4 hC4 hKp1 => ?_)
 try dsimp only [List.set] at hC4
 have hk1 := Keep.over (((Keep.of hB1).then hB2).then hB3) (Nat.le_trans ((Keep.of hB1).then hB2).size hN3) hKp1
 have hk2 := Keep.over ((Keep.of hB2).then hB3) (Nat.le_trans (Keep.of hB2).size hN3) hKp1
 have hk3 := Keep.over (Keep.of hB3) hN3 hKp1
 refine WL_nil ?_
 refine W_seq_reg ?_
 refine WL_field Tryz.underlying114 rfl rfl (fun w => ⟨_, Tryz.sizeOf24 w⟩) rfl rfl ?_
 refine WL_load_box hC4 2 rfl rfl Tryz.isAgg24 rfl rfl ?_
 obtain ⟨x1, hr1, hF⟩ := bind_some hF
 refine WL_call Tryz.call37 rfl rfl (c_Q_toIntS a1.2.1 u1 (g1.now hC4.keep) x1 hr1) ?_
 rintro v1 w5 ⟨hB4, F1, hv1, hn1, hb1⟩
 have hC5 := hC4.push hB4 (A := Item.own v1 x1) hv1 hn1 hb1
 refine WL_field Tryz.underlying93 rfl rfl (fun w => ⟨_, Tryz.sizeOf24 w⟩) rfl rfl ?_
 refine WL_store_boxK (cs' := [(.int .i64 a1.1), v1, (.int .i64 0), (.int .i64 0), (.int .i64 0)]) hC5 1 rfl rfl (ro_one (hC5.ro 0 rfl)) rfl Tryz.sizeOf24 rfl rfl (fun w6 hC6 hKp2 => ?_)
 try dsimp only [List.set] at hC6
 have hk4 := Keep.over (hk1.then hB4) (Nat.le_trans ((Keep.of hB1).then hB2).size hN3) hKp2
 have hk5 := Keep.over (hk2.then hB4) (Nat.le_trans (Keep.of hB2).size hN3) hKp2
 have hk6 := Keep.over (hk3.then hB4) hN3 hKp2
 refine WL_nil ?_
 refine W_seq_reg ?_
 refine WL_field Tryz.underlying114 rfl rfl (fun w => ⟨_, Tryz.sizeOf3 w⟩) rfl rfl ?_
 refine WL_load_box hC6 3 rfl rfl Tryz.isAgg3 rfl rfl ?_
 refine WL_field Tryz.underlying93 rfl rfl (fun w => ⟨_, Tryz.sizeOf3 w⟩) rfl rfl ?_
 refine WL_store_boxK (cs' := [(.int .i64 a1.1), v1, (.int .i64 a1.2.2.1), (.int .i64 0), (.int .i64 0)]) hC6 1 rfl rfl rfl rfl Tryz.sizeOf3 rfl rfl (fun w7 hC7 hKp3 => ?_)
 try dsimp only [List.set] at hC7
 have hk7 := Keep.over hk4 (Nat.le_trans ((Keep.of hB1).then hB2).size hN3) hKp3
 have hk8 := Keep.over hk5 (Nat.le_trans (Keep.of hB2).size hN3) hKp3
 have hk9 := Keep.over hk6 hN3 hKp3
 refine WL_nil ?_
 refine W_seq_reg ?_
 refine WL_field Tryz.underlying114 rfl rfl (fun w => ⟨_, Tryz.sizeOf3 w⟩) rfl rfl ?_
 refine WL_load_box hC7 3 rfl rfl Tryz.isAgg3 rfl rfl ?_
 refine WL_field Tryz.underlying93 rfl rfl (fun w => ⟨_, Tryz.sizeOf3 w⟩) rfl rfl ?_
 refine WL_store_boxK (cs' := [(.int .i64 a1.1), v1, (.int .i64 a1.2.2.1), (.int .i64 a1.2.2.2.1), (.int .i64 0)]) hC7 1 rfl rfl rfl rfl Tryz.sizeOf3 rfl rfl (fun w9 hC8 hKp4 => ?_)
 try dsimp only [List.set] at hC8
 have hk10 := Keep.over hk7 (Nat.le_trans ((Keep.of hB1).then hB2).size hN3) hKp4
 have hk11 := Keep.over hk8 (Nat.le_trans (Keep.of hB2).size hN3) hKp4
 have hk12 := Keep.over hk9 hN3 hKp4
 refine WL_nil ?_
 refine W_seq_reg ?_
 refine WL_field Tryz.underlying114 rfl rfl (fun w => ⟨_, Tryz.sizeOf3 w⟩) rfl rfl ?_
 refine WL_load_box hC8 3 rfl rfl Tryz.isAgg3 rfl rfl ?_
 refine WL_field Tryz.underlying93 rfl rfl (fun w => ⟨_, Tryz.sizeOf3 w⟩) rfl rfl ?_
 refine WL_store_boxK (cs' := [(.int .i64 a1.1), v1, (.int .i64 a1.2.2.1), (.int .i64 a1.2.2.2.1), (.int .i64 a1.2.2.2.2)]) hC8 1 rfl rfl rfl rfl Tryz.sizeOf3 rfl rfl (fun w10 hC9 hKp5 => ?_)
 try dsimp only [List.set] at hC9
 have hk13 := Keep.over hk10 (Nat.le_trans ((Keep.of hB1).then hB2).size hN3) hKp5
 have hk14 := Keep.over hk11 (Nat.le_trans (Keep.of hB2).size hN3) hKp5
 have hk15 := Keep.over hk12 hN3 hKp5
 refine WL_nil ?_
 refine W_seq_reg ?_
 refine WL_load_box_agg [(.int .i64 a1.1), v1, (.int .i64 a1.2.2.1), (.int .i64 a1.2.2.2.1), (.int .i64 a1.2.2.2.2)] hC9 1 rfl rfl rfl Tryz.isAgg93 Tryz.sizeOf93 rfl rfl ?_
 refine WL_store_box_aggK (cs' := [(.int .i64 a1.1), v1, (.int .i64 a1.2.2.1), (.int .i64 a1.2.2.2.1), (.int .i64 a1.2.2.2.2)]) (new := [(.int .i64 a1.1), v1, (.int .i64 a1.2.2.1), (.int .i64 a1.2.2.2.1), (.int .i64 a1.2.2.2.2)]) hC9 2 rfl rfl (by intro v hv; simp only [List.mem_cons, List.not_mem_nil, or_false] at hv; rcases hv with rfl | rfl | rfl | rfl | rfl; exact rfl; exact (ro_one (hC9.ro 0 rfl)); exact rfl; exact rfl; exact rfl) rfl Tryz.sizeOf93 rfl rfl (fun w11 hC10 hKp6 => ?_)
 try dsimp only [List.set] at hC10
 have hk16 := Keep.over hk13 (Nat.le_trans (Keep.of hB1).size hN2) hKp6
 have hk17 := Keep.over hk14 hN2 hKp6
 refine WL_nil ?_
 refine W_ret ?_
 have hq1 := Option.some.inj hF
 subst hq1
 refine fn_retG1 rfl (rv_cell_agg (cs' := [(.int .i64 a1.1), v1, (.int .i64 a1.2.2.1), (.int .i64 a1.2.2.2.1), (.int .i64 a1.2.2.2.2)]) hC10 (i := 2) rfl rfl rfl Tryz.isAgg93 Tryz.sizeOf93 rfl) ?_
 have hC11 := own_st93 a1.1 v1 x1 a1.2.2.1 a1.2.2.2.1 a1.2.2.2.2 hC10
 exact ⟨_, rfl, own_res hC11 0 rfl⟩

theorem c_Q_toMethodS {w0 : World} (a1 : (List (Int × (List Int) × Int × Int × Int))) (u1 : Value) (g1 : RO [] w0 u1 a1) (rr : (List (Int × (List Int) × Int × Int × Int))) (hF : Q.toMethodS a1 = some rr) :
 Calls Tryz.prog 38 [u1].toArray w0 fun e w' => ∃ v, e = .returned v ∧ Res w0 rr v w' := by
 refine calls_of_W Tryz.func38 rfl rfl ?_
 have hC0 := Ctx.start w0
 unfold Q.toMethodS at hF
 refine W_seq_reg ?_
 refine WL_assign rfl rfl ?_
 refine WL_nil ?_
 refine W_seq_reg ?_
 refine WL_move rfl rfl ?_
 refine WL_len Tryz.underlying54 g1 rfl rfl ?_
 obtain ⟨x1, hx1, hF⟩ := bind_some hF
 refine WL_makeSlice hC0 Tryz.underlying25 ty93 rfl zc93 zr93 hx1 rfl rfl rfl (fun b1 w1 hC1 hB1 => ?_)
 refine WL_assign rfl rfl ?_
 refine WL_nil ?_
 refine W_seq ?_
 refine W_seq_reg ?_
 refine WL_assign rfl rfl ?_
 refine WL_nil ?_
 obtain ⟨r1, hr1, hF⟩ := bind_some hF
 refine W_norm (fun l w => ∃ x4 : (List (Int × (List Int) × Int × Int × Int)), x4 = r1 ∧ l = [(3, (.slice (some ⟨b1, 0, none⟩) (Int.toNat (List.length a1 : Int)) (Int.toNat (List.length a1 : Int))))] ∧ Ctx [] w0 w [Item.own (.slice (some ⟨b1, 0, none⟩) (Int.toNat (List.length a1 : Int)) (Int.toNat (List.length a1 : Int))) (x4 : (List (Int × (List Int) × Int × Int × Int)))]) ?_ ?_
 ·refine W_block ?_
  refine W.sub (l' := [(0, u1), (3, (.slice (some ⟨b1, 0, none⟩) (Int.toNat (List.length a1 : Int)) (Int.toNat (List.length a1 : Int)))), (4, (.int .i64 0))]) ?_ ⟨rfl, rfl, rfl, trivial⟩
  refine W_loop (fun k l w => ∃ x2 : (List (Int × (List Int) × Int × Int × Int)), ∃ x3 : Int, l = [(0, u1), (3, (.slice (some ⟨b1, 0, none⟩) (Int.toNat (List.length a1 : Int)) (Int.toNat (List.length a1 : Int)))), (4, (.int .i64 x3))] ∧ Ctx [] w0 w [Item.own (.slice (some ⟨b1, 0, none⟩) (Int.toNat (List.length a1 : Int)) (Int.toNat (List.length a1 : Int))) (x2 : (List (Int × (List Int) × Int × Int × Int)))] ∧ Q.toMethodS_l1 a1 k x2 x3 = some r1) FUEL ⟨x1, 0, rfl, hC1, hr1⟩ ?_
  clear hr1
  rintro k1 _ w2 ⟨x2, x3, rfl, hC2, hL1⟩
  cases k1 with
  | zero => rw [Q.toMethodS_l1] at hL1; cases hL1
  | succ k1 =>
   rw [Q.toMethodS_l1] at hL1
   refine W_seq ?_
   refine W_seq_reg ?_
   refine WL_move rfl rfl ?_
   refine WL_move rfl rfl ?_
   refine WL_len Tryz.underlying54 g1 rfl rfl ?_
   refine WL_lss rfl rfl rfl ?_
   refine WL_nil ?_
   refine W_cond rfl (fun hc1 => ?_) (fun hc1 => ?_)
   ·replace hL1 := ite_t hL1 hc1
    refine W_skip ?_
    refine nrm_normal ?_
    refine W_seq ?_
    refine W_block ?_
    refine W_reg ?_
    refine WL_move rfl rfl ?_
    refine WL_move rfl rfl ?_
    refine WL_move rfl rfl ?_
    refine WL_move rfl rfl ?_
    obtain ⟨x5, hx2, hL1⟩ := bind_some hL1
    refine WL_index Tryz.underlying54 ty114 g1 hx2 rfl rfl rfl (fun b2 o1 h1 => ?_)
    refine WL_load ty114 h1 hC2.keep rfl rfl (fun v1 h2 => ?_)
    obtain ⟨v2, rfl, h3⟩ := ro_st114 h2
    obtain ⟨x6, hr2, hL1⟩ := bind_some hL1
    refine WL_call Tryz.call108 rfl rfl (c_Q_toMethod x5 v2 (h3.now hC2.keep) x6 hr2) ?_
    rintro v3 w3 ⟨hB3, F1, hv1, hn1, hb1⟩
    have hC3 := hC2.push hB3 (A := Item.own v3 x6) hv1 hn1 hb1
    obtain ⟨v4, rfl, hC4⟩ := st93_own hC3
    obtain ⟨x7, hx3, hL1⟩ := bind_some hL1
    refine WL_index_own hC4 1 rfl Tryz.underlying25 ty93 hx3 rfl rfl rfl (fun b3 hE1 => ?_)
    have hC6 := own_st93 x6.1 v4 x6.2.1 x6.2.2.1 x6.2.2.2.1 x6.2.2.2.2 hC4
    refine WL_store_elem hC6 0 rfl ty93 hE1 hx3 rfl rfl rfl (fun w4 hC5 => ?_)
    try dsimp only [List.set] at hC5
    refine WL_nil ?_
    refine blk_normal ?_
    refine nrm_normal ?_
    refine W_reg ?_
    refine WL_move rfl rfl ?_
    refine WL_add rfl rfl rfl ?_
    refine WL_assign rfl rfl ?_
    refine WL_nil ?_
    refine nrm_sub (l' := [(0, u1), (3, (.slice (some ⟨b1, 0, none⟩) (Int.toNat (List.length a1 : Int)) (Int.toNat (List.length a1 : Int)))), (4, (.int .i64 (w64 (x3 + 1))))]) ⟨rfl, rfl, rfl, trivial⟩ ?_
    exact ⟨k1, Nat.lt_succ_self _, (List.set x2 (Int.toNat x3) (x6.1, x6.2.1, x6.2.2.1, x6.2.2.2.1, x6.2.2.2.2)), w64 (x3 + 1), rfl, hC5, hL1⟩
   replace hL1 := ite_f hL1 hc1
   refine W_exit ?_
   refine nrm_exit ?_
   refine nrm_exit ?_
   refine blk_exit ?_
   have hq1 := Option.some.inj hL1
   subst hq1
   refine nrm_sub (l' := [(3, (.slice (some ⟨b1, 0, none⟩) (Int.toNat (List.length a1 : Int)) (Int.toNat (List.length a1 : Int))))]) ⟨rfl, trivial⟩ ?_
   exact ⟨x2, rfl, rfl, hC2⟩
 rintro l2 _ w5 hs2 ⟨x4, rfl, rfl, hC8⟩
 try dsimp only at hF
 refine nrm_sub' hs2 ?_
 clear hs2
 refine W_seq_reg ?_
 refine WL_move rfl rfl ?_
 refine WL_assign rfl rfl ?_
 refine WL_nil ?_
 refine W_ret ?_
 have hq2 := Option.some.inj hF
 subst hq2
 refine fn_ret1 rfl rfl ?_
 exact ⟨_, rfl, own_res hC8 0 rfl⟩

theorem c_Q_toAccess {w0 : World} (a1 : (Int × (List Int))) (u1 : Value) (g1 : RO [] w0 u1 a1.2) (rr : (Int × (List Int))) (hF : Q.toAccess a1 = some rr) :
 Calls Tryz.prog 156 [(.agg #[(.int .i64 a1.1), u1])].toArray w0 fun e w' => ∃ v, e = .returned v ∧ Res w0 rr v w' := by
 refine calls_of_W Tryz.func156 rfl rfl ?_
 have hC0 := Ctx.start w0
 unfold Q.toAccess at hF
 refine W_seq_reg ?_
 refine WL_boxK (cs := [(.int .i64 a1.1), u1]) hC0 rfl rfl rfl (fun b1 w1 hC1 hB1 hN1 => ?_)
 refine WL_allocK hC1 zero44 rfl rfl (fun b2 w2 hC2 hB2 hN2 => ?_)
 refine WL_nil ?_
 refine W_seq_reg ?_
 refine WL_allocK hC2 zero44 rfl rfl (fun b3 w3 hC3 hB3 hN3 => ?_)
 refine WL_nil ?_
 refine W_seq_reg ?_
 refine WL_field Tryz.underlying116 rfl rfl (fun w => ⟨_, Tryz.sizeOf3 w⟩) rfl rfl ?_
 refine WL_load_box hC3 2 rfl rfl Tryz.isAgg3 rfl rfl ?_
 refine WL_field Tryz.underlying44 rfl rfl (fun w => ⟨_, Tryz.sizeOf3 w⟩) rfl rfl ?_
 refine WL_store_boxK (cs' := [(.int .i64 a1.1), (.slice none 0 0)]) hC3 0 rfl rfl rfl rfl Tryz.sizeOf3 rfl rfl (fun w4 hC4 hKp1 => ?_)
 try dsimp only [List.set] at hC4
 have hk1 := Keep.over (((Keep.of hB1).then hB2).then hB3) (Nat.le_trans ((Keep.of hB1).then hB2).size hN3) hKp1
 have hk2 := Keep.over ((Keep.of hB2).then hB3) (Nat.le_trans (Keep.of hB2).size hN3) hKp1
 have hk3 := Keep.over (Keep.of hB3) hN3 hKp1
 refine WL_nil ?_
 refine W_seq_reg ?_
 refine WL_field Tryz.underlying116 rfl rfl (fun w => ⟨_, Tryz.sizeOf24 w⟩) rfl rfl ?_
 refine WL_load_box hC4 2 rfl rfl Tryz.isAgg24 rfl rfl ?_
 obtain ⟨x1, hr1, hF⟩ := bind_some hF
 refine WL_call Tryz.call37 rfl rfl (c_Q_toIntS a1.2 u1 (g1.now hC4.keep) x1 hr1) ?_
 rintro v1 w5 ⟨hB4, F1, hv1, hn1, hb1⟩
 have hC5 := hC4.push hB4 (A := Item.own v1 x1) hv1 hn1 hb1
 refine WL_field Tryz.underlying44 rfl rfl (fun w => ⟨_, Tryz.sizeOf24 w⟩) rfl rfl ?_
 refine WL_store_boxK (cs' := [(.int .i64 a1.1), v1]) hC5 1 rfl rfl (ro_one (hC5.ro 0 rfl)) rfl Tryz.sizeOf24 rfl rfl (fun w6 hC6 hKp2 => ?_)
 try dsimp only [List.set] at hC6
 have hk4 := Keep.over (hk1.then hB4) (Nat.le_trans ((Keep.of hB1).then hB2).size hN3) hKp2
 have hk5 := Keep.over (hk2.then hB4) (Nat.le_trans (Keep.of hB2).size hN3) hKp2
 have hk6 := Keep.over (hk3.then hB4) hN3 hKp2
 refine WL_nil ?_
 refine W_seq_reg ?_
 refine WL_load_box_agg [(.int .i64 a1.1), v1] hC6 1 rfl rfl rfl Tryz.isAgg44 Tryz.sizeOf44 rfl rfl ?_
 refine WL_store_box_aggK (cs' := [(.int .i64 a1.1), v1]) (new := [(.int .i64 a1.1), v1]) hC6 2 rfl rfl (by intro v hv; simp only [List.mem_cons, List.not_mem_nil, or_false] at hv; rcases hv with rfl | rfl; exact rfl; exact (ro_one (hC6.ro 0 rfl))) rfl Tryz.sizeOf44 rfl rfl (fun w7 hC7 hKp3 => ?_)
 try dsimp only [List.set] at hC7
 have hk7 := Keep.over hk4 (Nat.le_trans (Keep.of hB1).size hN2) hKp3
 have hk8 := Keep.over hk5 hN2 hKp3
 refine WL_nil ?_
 refine W_ret ?_
 have hq1 := Option.some.inj hF
 subst hq1
 refine fn_retG1 rfl (rv_cell_agg (cs' := [(.int .i64 a1.1), v1]) hC7 (i := 2) rfl rfl rfl Tryz.isAgg44 Tryz.sizeOf44 rfl) ?_
 have hC8 := own_st44 a1.1 v1 x1 hC7
 exact ⟨_, rfl, own_res hC8 0 rfl⟩

theorem c_Q_toFact {w0 : World} (a1 : (Int × (List Int))) (u1 : Value) (g1 : RO [] w0 u1 a1.2) (rr : (Int × (List Int))) (hF : Q.toFact a1 = some rr) :
 Calls Tryz.prog 194 [(.agg #[(.int .i64 a1.1), u1])].toArray w0 fun e w' => ∃ v, e = .returned v ∧ Res w0 rr v w' := by
 refine calls_of_W Tryz.func194 rfl rfl ?_
 have hC0 := Ctx.start w0
 unfold Q.toFact at hF
 refine W_seq_reg ?_
 refine WL_boxK (cs := [(.int .i64 a1.1), u1]) hC0 rfl rfl rfl (fun b1 w1 hC1 hB1 hN1 => ?_)
 refine WL_allocK hC1 zero88 rfl rfl (fun b2 w2 hC2 hB2 hN2 => ?_)
 refine WL_nil ?_
 refine W_seq_reg ?_
 refine WL_allocK hC2 zero88 rfl rfl (fun b3 w3 hC3 hB3 hN3 => ?_)
 refine WL_nil ?_
 refine W_seq_reg ?_
 refine WL_field Tryz.underlying187 rfl rfl (fun w => ⟨_, Tryz.sizeOf3 w⟩) rfl rfl ?_
 refine WL_load_box hC3 2 rfl rfl Tryz.isAgg3 rfl rfl ?_
 refine WL_field Tryz.underlying88 rfl rfl (fun w => ⟨_, Tryz.sizeOf3 w⟩) rfl rfl ?_
 refine WL_store_boxK (cs' := [(.int .i64 a1.1), (.slice none 0 0)]) hC3 0 rfl rfl rfl rfl Tryz.sizeOf3 rfl rfl (fun w4 hC4 hKp1 => ?_)
 try dsimp only [List.set] at hC4
 have hk1 := Keep.over (((Keep.of hB1).then hB2).then hB3) (Nat.le_trans ((Keep.of hB1).then hB2).size hN3) hKp1
 have hk2 := Keep.over ((Keep.of hB2).then hB3) (Nat.le_trans (Keep.of hB2).size hN3) hKp1
 have hk3 := Keep.over (Keep.of hB3) hN3 hKp1
 refine WL_nil ?_
 refine W_seq_reg ?_
 refine WL_field Tryz.underlying187 rfl rfl (fun w => ⟨_, Tryz.sizeOf24 w⟩) rfl rfl ?_
 refine WL_load_box hC4 2 rfl rfl Tryz.isAgg24 rfl rfl ?_
 obtain ⟨x1, hr1, hF⟩ := bind_some hF
 refine WL_call Tryz.call37 rfl rfl (c_Q_toIntS a1.2 u1 (g1.now hC4.keep) x1 hr1) ?_
 rintro v1 w5 ⟨hB4, F1, hv1, hn1, hb1⟩
 have hC5 := hC4.push hB4 (A := Item.own v1 x1) hv1 hn1 hb1
 refine WL_field Tryz.underlying88 rfl rfl (fun w => ⟨_, Tryz.sizeOf24 w⟩) rfl rfl ?_
 refine WL_store_boxK (cs' := [(.int .i64 a1.1), v1]) hC5 1 rfl rfl (ro_one (hC5.ro 0 rfl)) rfl Tryz.sizeOf24 rfl rfl (fun w6 hC6 hKp2 => ?_)
 try dsimp only [List.set] at hC6
 have hk4 := Keep.over (hk1.then hB4) (Nat.le_trans ((Keep.of hB1).then hB2).size hN3) hKp2
 have hk5 := Keep.over (hk2.then hB4) (Nat.le_trans (Keep.of hB2).size hN3) hKp2
 have hk6 := Keep.over (hk3.then hB4) hN3 hKp2
 refine WL_nil ?_
 refine W_seq_reg ?_
 refine WL_load_box_agg [(.int .i64 a1.1), v1] hC6 1 rfl rfl rfl Tryz.isAgg88 Tryz.sizeOf88 rfl rfl ?_
 refine WL_store_box_aggK (cs' := [(.int .i64 a1.1), v1]) (new := [(.int .i64 a1.1), v1]) hC6 2 rfl rfl (by intro v hv; simp only [List.mem_cons, List.not_mem_nil, or_false] at hv; rcases hv with rfl | rfl; exact rfl; exact (ro_one (hC6.ro 0 rfl))) rfl Tryz.sizeOf88 rfl rfl (fun w7 hC7 hKp3 => ?_)
 try dsimp only [List.set] at hC7
 have hk7 := Keep.over hk4 (Nat.le_trans (Keep.of hB1).size hN2) hKp3
 have hk8 := Keep.over hk5 hN2 hKp3
 refine WL_nil ?_
 refine W_ret ?_
 have hq1 := Option.some.inj hF
 subst hq1
 refine fn_retG1 rfl (rv_cell_agg (cs' := [(.int .i64 a1.1), v1]) hC7 (i := 2) rfl rfl rfl Tryz.isAgg88 Tryz.sizeOf88 rfl) ?_
 have hC8 := own_st88 a1.1 v1 x1 hC7
 exact ⟨_, rfl, own_res hC8 0 rfl⟩

theorem c_Q_toFactS {w0 : World} (a1 : (List (Int × (List Int)))) (u1 : Value) (g1 : RO [] w0 u1 a1) (rr : (List (Int × (List Int)))) (hF : Q.toFactS a1 = some rr) :
 Calls Tryz.prog 157 [u1].toArray w0 fun e w' => ∃ v, e = .returned v ∧ Res w0 rr v w' := by
 refine calls_of_W Tryz.func157 rfl rfl ?_
 have hC0 := Ctx.start w0
 unfold Q.toFactS at hF
 refine W_seq_reg ?_
 refine WL_assign rfl rfl ?_
 refine WL_nil ?_
 refine W_seq_reg ?_
 refine WL_move rfl rfl ?_
 refine WL_len Tryz.underlying117 g1 rfl rfl ?_
 obtain ⟨x1, hx1, hF⟩ := bind_some hF
 refine WL_makeSlice hC0 Tryz.underlying31 ty88 rfl zc88 zr88 hx1 rfl rfl rfl (fun b1 w1 hC1 hB1 => ?_)
 refine WL_assign rfl rfl ?_
 refine WL_nil ?_
 refine W_seq ?_
 refine W_seq_reg ?_
 refine WL_assign rfl rfl ?_
 refine WL_nil ?_
 obtain ⟨r1, hr1, hF⟩ := bind_some hF
 refine W_norm (fun l w => ∃ x4 : (List (Int × (List Int))), x4 = r1 ∧ l = [(3, (.slice (some ⟨b1, 0, none⟩) (Int.toNat (List.length a1 : Int)) (Int.toNat (List.length a1 : Int))))] ∧ Ctx [] w0 w [Item.own (.slice (some ⟨b1, 0, none⟩) (Int.toNat (List.length a1 : Int)) (Int.toNat (List.length a1 : Int))) (x4 : (List (Int × (List Int))))]) ?_ ?_
 ·refine W_block ?_
  refine W.sub (l' := [(0, u1), (3, (.slice (some ⟨b1, 0, none⟩) (Int.toNat (List.length a1 : Int)) (Int.toNat (List.length a1 : Int)))), (4, (.int .i64 0))]) ?_ ⟨rfl, rfl, rfl, trivial⟩
  refine W_loop (fun k l w => ∃ x2 : (List (Int × (List Int))), ∃ x3 : Int, l = [(0, u1), (3, (.slice (some ⟨b1, 0, none⟩) (Int.toNat (List.length a1 : Int)) (Int.toNat (List.length a1 : Int)))), (4, (.int .i64 x3))] ∧ Ctx [] w0 w [Item.own (.slice (some ⟨b1, 0, none⟩) (Int.toNat (List.length a1 : Int)) (Int.toNat (List.length a1 : Int))) (x2 : (List (Int × (List Int))))] ∧ Q.toFactS_l1 a1 k x2 x3 = some r1) FUEL ⟨x1, 0, rfl, hC1, hr1⟩ ?_
  clear hr1
  rintro k1 _ w2 ⟨x2, x3, rfl, hC2, hL1⟩
  cases k1 with
  | zero => rw [Q.toFactS_l1] at hL1; cases hL1
  | succ k1 =>
   rw [Q.toFactS_l1] at hL1
   refine W_seq ?_
   refine W_seq_reg ?_
   refine WL_move rfl rfl ?_
   refine WL_move rfl rfl ?_
   refine WL_len Tryz.underlying117 g1 rfl rfl ?_
   refine WL_lss rfl rfl rfl ?_
   refine WL_nil ?_
   refine W_cond rfl (fun hc1 => ?_) (fun hc1 => ?_)
   ·replace hL1 := ite_t hL1 hc1
    refine W_skip ?_
    refine nrm_normal ?_
    refine W_seq ?_
    refine W_block ?_
    refine W_reg ?_
    refine WL_move rfl rfl ?_
    refine WL_move rfl rfl ?_
    refine WL_move rfl rfl ?_
    refine WL_move rfl rfl ?_
    obtain ⟨x5, hx2, hL1⟩ := bind_some hL1
    refine WL_index Tryz.underlying117 ty187 g1 hx2 rfl rfl rfl (fun b2 o1 h1 => ?_)
    refine WL_load ty187 h1 hC2.keep rfl rfl (fun v1 h2 => ?_)
    obtain ⟨v2, rfl, h3⟩ := ro_st187 h2
    obtain ⟨x6, hr2, hL1⟩ := bind_some hL1
    refine WL_call Tryz.call194 rfl rfl (c_Q_toFact x5 v2 (h3.now hC2.keep) x6 hr2) ?_
    rintro v3 w3 ⟨hB3, F1, hv1, hn1, hb1⟩
    have hC3 := hC2.push hB3 (A := Item.own v3 x6) hv1 hn1 hb1
    obtain ⟨v4, rfl, hC4⟩ := st88_own hC3
    obtain ⟨x7, hx3, hL1⟩ := bind_some hL1
    refine WL_index_own hC4 1 rfl Tryz.underlying31 ty88 hx3 rfl rfl rfl (fun b3 hE1 => ?_)
    have hC6 := own_st88 x6.1 v4 x6.2 hC4
    refine WL_store_elem hC6 0 rfl ty88 hE1 hx3 rfl rfl rfl (fun w4 hC5 => ?_)
    try dsimp only [List.set] at hC5
    refine WL_nil ?_
    refine blk_normal ?_
    refine nrm_normal ?_
    refine W_reg ?_
    refine WL_move rfl rfl ?_
    refine WL_add rfl rfl rfl ?_
    refine WL_assign rfl rfl ?_
    refine WL_nil ?_
    refine nrm_sub (l' := [(0, u1), (3, (.slice (some ⟨b1, 0, none⟩) (Int.toNat (List.length a1 : Int)) (Int.toNat (List.length a1 : Int)))), (4, (.int .i64 (w64 (x3 + 1))))]) ⟨rfl, rfl, rfl, trivial⟩ ?_
    exact ⟨k1, Nat.lt_succ_self _, (List.set x2 (Int.toNat x3) (x6.1, x6.2)), w64 (x3 + 1), rfl, hC5, hL1⟩
   replace hL1 := ite_f hL1 hc1
   refine W_exit ?_
   refine nrm_exit ?_
   refine nrm_exit ?_
   refine blk_exit ?_
   have hq1 := Option.some.inj hL1
   subst hq1
   refine nrm_sub (l' := [(3, (.slice (some ⟨b1, 0, none⟩) (Int.toNat (List.length a1 : Int)) (Int.toNat (List.length a1 : Int))))]) ⟨rfl, trivial⟩ ?_
   exact ⟨x2, rfl, rfl, hC2⟩
 rintro l2 _ w5 hs2 ⟨x4, rfl, rfl, hC8⟩
 try dsimp only at hF
 refine nrm_sub' hs2 ?_
 clear hs2
 refine W_seq_reg ?_
 refine WL_move rfl rfl ?_
 refine WL_assign rfl rfl ?_
 refine WL_nil ?_
 refine W_ret ?_
 have hq2 := Option.some.inj hF
 subst hq2
 refine fn_ret1 rfl rfl ?_
 exact ⟨_, rfl, own_res hC8 0 rfl⟩

theorem c_Q_toTold {w0 : World} (a1 : ((Int × (List Int)) × (List (Int × (List Int))))) (u1 : Value) (g1 : RO [] w0 u1 a1.1.2) (u2 : Value) (g2 : RO [] w0 u2 a1.2) (rr : ((Int × (List Int)) × (List (Int × (List Int))))) (hF : Q.toTold a1 = some rr) :
 Calls Tryz.prog 109 [(.agg #[(.int .i64 a1.1.1), u1, u2])].toArray w0 fun e w' => ∃ v, e = .returned v ∧ Res w0 rr v w' := by
 refine calls_of_W Tryz.func109 rfl rfl ?_
 have hC0 := Ctx.start w0
 unfold Q.toTold at hF
 refine W_seq_reg ?_
 refine WL_boxK (cs := [(.int .i64 a1.1.1), u1, u2]) hC0 rfl rfl rfl (fun b1 w1 hC1 hB1 hN1 => ?_)
 refine WL_allocK hC1 zero46 rfl rfl (fun b2 w2 hC2 hB2 hN2 => ?_)
 refine WL_nil ?_
 refine W_seq_reg ?_
 refine WL_allocK hC2 zero46 rfl rfl (fun b3 w3 hC3 hB3 hN3 => ?_)
 refine WL_nil ?_
 refine W_seq_reg ?_
 refine WL_field Tryz.underlying119 rfl rfl (fun w => ⟨_, Tryz.sizeOf116 w⟩) rfl rfl ?_
 refine WL_load_box_agg [(.int .i64 a1.1.1), u1] hC3 2 rfl rfl rfl Tryz.isAgg116 Tryz.sizeOf116 rfl rfl ?_
 obtain ⟨x1, hr1, hF⟩ := bind_some hF
 refine WL_call Tryz.call156 rfl rfl (c_Q_toAccess (a1.1.1, a1.1.2) u1 (g1.now hC3.keep) x1 hr1) ?_
 rintro v1 w4 ⟨hB4, F1, hv1, hn1, hb1⟩
 have hC4 := hC3.push hB4 (A := Item.own v1 x1) hv1 hn1 hb1
 obtain ⟨v2, rfl, hC5⟩ := st44_own hC4
 refine WL_field Tryz.underlying46 rfl rfl (fun w => ⟨_, Tryz.sizeOf44 w⟩) rfl rfl ?_
 refine WL_store_box_aggK (cs' := [(.int .i64 x1.1), v2, (.slice none 0 0)]) (new := [(.int .i64 x1.1), v2]) hC5 1 rfl rfl (by intro v hv; simp only [List.mem_cons, List.not_mem_nil, or_false] at hv; rcases hv with rfl | rfl; exact rfl; exact (ro_one (hC5.ro 0 rfl))) rfl Tryz.sizeOf44 rfl rfl (fun w5 hC6 hKp1 => ?_)
 try dsimp only [List.set] at hC6
 have hk1 := Keep.over ((((Keep.of hB1).then hB2).then hB3).then hB4) (Nat.le_trans ((Keep.of hB1).then hB2).size hN3) hKp1
 have hk2 := Keep.over (((Keep.of hB2).then hB3).then hB4) (Nat.le_trans (Keep.of hB2).size hN3) hKp1
 have hk3 := Keep.over ((Keep.of hB3).then hB4) hN3 hKp1
 refine WL_nil ?_
 refine W_seq_reg ?_
 refine WL_field Tryz.underlying119 rfl rfl (fun w => ⟨_, Tryz.sizeOf117 w⟩) rfl rfl ?_
 refine WL_load_box hC6 3 rfl rfl Tryz.isAgg117 rfl rfl ?_
 obtain ⟨x2, hr2, hF⟩ := bind_some hF
 refine WL_call Tryz.call157 rfl rfl (c_Q_toFactS a1.2 u2 (g2.now hC6.keep) x2 hr2) ?_
 rintro v3 w6 ⟨hB5, F2, hv2, hn2, hb2⟩
 have hC7 := hC6.push hB5 (A := Item.own v3 x2) hv2 hn2 hb2
 refine WL_field Tryz.underlying46 rfl rfl (fun w => ⟨_, Tryz.sizeOf31 w⟩) rfl rfl ?_
 refine WL_store_boxK (cs' := [(.int .i64 x1.1), v2, v3]) hC7 2 rfl rfl (ro_one (hC7.ro 0 rfl)) rfl Tryz.sizeOf31 rfl rfl (fun w7 hC8 hKp2 => ?_)
 try dsimp only [List.set] at hC8
 have hk4 := Keep.over (hk1.then hB5) (Nat.le_trans ((Keep.of hB1).then hB2).size hN3) hKp2
 have hk5 := Keep.over (hk2.then hB5) (Nat.le_trans (Keep.of hB2).size hN3) hKp2
 have hk6 := Keep.over (hk3.then hB5) hN3 hKp2
 refine WL_nil ?_
 refine W_seq_reg ?_
 refine WL_load_box_agg [(.int .i64 x1.1), v2, v3] hC8 2 rfl rfl rfl Tryz.isAgg46 Tryz.sizeOf46 rfl rfl ?_
 refine WL_store_box_aggK (cs' := [(.int .i64 x1.1), v2, v3]) (new := [(.int .i64 x1.1), v2, v3]) hC8 3 rfl rfl (by intro v hv; simp only [List.mem_cons, List.not_mem_nil, or_false] at hv; rcases hv with rfl | rfl | rfl; exact rfl; exact (ro_one (hC8.ro 1 rfl)); exact (ro_one (hC8.ro 0 rfl))) rfl Tryz.sizeOf46 rfl rfl (fun w9 hC9 hKp3 => ?_)
 try dsimp only [List.set] at hC9
 have hk7 := Keep.over hk4 (Nat.le_trans (Keep.of hB1).size hN2) hKp3
 have hk8 := Keep.over hk5 hN2 hKp3
 refine WL_nil ?_
 refine W_ret ?_
 have hq1 := Option.some.inj hF
 subst hq1
 refine fn_retG1 rfl (rv_cell_agg (cs' := [(.int .i64 x1.1), v2, v3]) hC9 (i := 3) rfl rfl rfl Tryz.isAgg46 Tryz.sizeOf46 rfl) ?_
 have hC12 := hC9.f1
 have hC10 := own_st46 x1.1 v2 x1.2 v3 x2 hC12
 exact ⟨_, rfl, own_res hC10 0 rfl⟩

theorem c_Q_toToldS {w0 : World} (a1 : (List ((Int × (List Int)) × (List (Int × (List Int)))))) (u1 : Value) (g1 : RO [] w0 u1 a1) (rr : (List ((Int × (List Int)) × (List (Int × (List Int)))))) (hF : Q.toToldS a1 = some rr) :
 Calls Tryz.prog 39 [u1].toArray w0 fun e w' => ∃ v, e = .returned v ∧ Res w0 rr v w' := by
 refine calls_of_W Tryz.func39 rfl rfl ?_
 have hC0 := Ctx.start w0
 unfold Q.toToldS at hF
 refine W_seq_reg ?_
 refine WL_assign rfl rfl ?_
 refine WL_nil ?_
 refine W_seq_reg ?_
 refine WL_move rfl rfl ?_
 refine WL_len Tryz.underlying55 g1 rfl rfl ?_
 obtain ⟨x1, hx1, hF⟩ := bind_some hF
 refine WL_makeSlice hC0 Tryz.underlying26 ty46 rfl zc46 zr46 hx1 rfl rfl rfl (fun b1 w1 hC1 hB1 => ?_)
 refine WL_assign rfl rfl ?_
 refine WL_nil ?_
 refine W_seq ?_
 refine W_seq_reg ?_
 refine WL_assign rfl rfl ?_
 refine WL_nil ?_
 obtain ⟨r1, hr1, hF⟩ := bind_some hF
 refine W_norm (fun l w => ∃ x4 : (List ((Int × (List Int)) × (List (Int × (List Int))))), x4 = r1 ∧ l = [(3, (.slice (some ⟨b1, 0, none⟩) (Int.toNat (List.length a1 : Int)) (Int.toNat (List.length a1 : Int))))] ∧ Ctx [] w0 w [Item.own (.slice (some ⟨b1, 0, none⟩) (Int.toNat (List.length a1 : Int)) (Int.toNat (List.length a1 : Int))) (x4 : (List ((Int × (List Int)) × (List (Int × (List Int))))))]) ?_ ?_
 ·refine W_block ?_
  refine W.sub (l' := [(0, u1), (3, (.slice (some ⟨b1, 0, none⟩) (Int.toNat (List.length a1 : Int)) (Int.toNat (List.length a1 : Int)))), (4, (.int .i64 0))]) ?_ ⟨rfl, rfl, rfl, trivial⟩
  refine W_loop (fun k l w => ∃ x2 : (List ((Int × (List Int)) × (List (Int × (List Int))))), ∃ x3 : Int, l = [(0, u1), (3, (.slice (some ⟨b1, 0, none⟩) (Int.toNat (List.length a1 : Int)) (Int.toNat (List.length a1 : Int)))), (4, (.int .i64 x3))] ∧ Ctx [] w0 w [Item.own (.slice (some ⟨b1, 0, none⟩) (Int.toNat (List.length a1 : Int)) (Int.toNat (List.length a1 : Int))) (x2 : (List ((Int × (List Int)) × (List (Int × (List Int))))))] ∧ Q.toToldS_l1 a1 k x2 x3 = some r1) FUEL ⟨x1, 0, rfl, hC1, hr1⟩ ?_
  clear hr1
  rintro k1 _ w2 ⟨x2, x3, rfl, hC2, hL1⟩
  cases k1 with
  | zero => rw [Q.toToldS_l1] at hL1; cases hL1
  | succ k1 =>
   rw [Q.toToldS_l1] at hL1
   refine W_seq ?_
   refine W_seq_reg ?_
   refine WL_move rfl rfl ?_
   refine WL_move rfl rfl ?_
   refine WL_len Tryz.underlying55 g1 rfl rfl ?_
   refine WL_lss rfl rfl rfl ?_
   refine WL_nil ?_
   refine W_cond rfl (fun hc1 => ?_) (fun hc1 => ?_)
   ·replace hL1 := ite_t hL1 hc1
    refine W_skip ?_
    refine nrm_normal ?_
    refine W_seq ?_
    refine W_block ?_
    refine W_reg ?_
    refine WL_move rfl rfl ?_
    refine WL_move rfl rfl ?_
    refine WL_move rfl rfl ?_
    refine WL_move rfl rfl ?_
    obtain ⟨x5, hx2, hL1⟩ := bind_some hL1
    refine WL_index Tryz.underlying55 ty119 g1 hx2 rfl rfl rfl (fun b2 o1 h1 => ?_)
    refine WL_load ty119 h1 hC2.keep rfl rfl (fun v1 h2 => ?_)
    obtain ⟨v2, v3, rfl, h3, h4⟩ := ro_st119 h2
    obtain ⟨x6, hr2, hL1⟩ := bind_some hL1
    refine WL_call Tryz.call109 rfl rfl (c_Q_toTold x5 v2 (h3.now hC2.keep) v3 (h4.now hC2.keep) x6 hr2) ?_
    rintro v4 w3 ⟨hB3, F1, hv1, hn1, hb1⟩
    have hC3 := hC2.push hB3 (A := Item.own v4 x6) hv1 hn1 hb1
    obtain ⟨v5, v6, rfl, hC4⟩ := st46_own hC3
    obtain ⟨x7, hx3, hL1⟩ := bind_some hL1
    refine WL_index_own hC4 2 rfl Tryz.underlying26 ty46 hx3 rfl rfl rfl (fun b3 hE1 => ?_)
    have hC7 := hC4.f1
    have hC8 := hC7.f1
    have hC6 := own_st46 x6.1.1 v5 x6.1.2 v6 x6.2 hC8
    refine WL_store_elem hC6 0 rfl ty46 hE1 hx3 rfl rfl rfl (fun w4 hC5 => ?_)
    try dsimp only [List.set] at hC5
    refine WL_nil ?_
    refine blk_normal ?_
    refine nrm_normal ?_
    refine W_reg ?_
    refine WL_move rfl rfl ?_
    refine WL_add rfl rfl rfl ?_
    refine WL_assign rfl rfl ?_
    refine WL_nil ?_
    refine nrm_sub (l' := [(0, u1), (3, (.slice (some ⟨b1, 0, none⟩) (Int.toNat (List.length a1 : Int)) (Int.toNat (List.length a1 : Int)))), (4, (.int .i64 (w64 (x3 + 1))))]) ⟨rfl, rfl, rfl, trivial⟩ ?_
    exact ⟨k1, Nat.lt_succ_self _, (List.set x2 (Int.toNat x3) ((x6.1.1, x6.1.2), x6.2)), w64 (x3 + 1), rfl, hC5, hL1⟩
   replace hL1 := ite_f hL1 hc1
   refine W_exit ?_
   refine nrm_exit ?_
   refine nrm_exit ?_
   refine blk_exit ?_
   have hq1 := Option.some.inj hL1
   subst hq1
   refine nrm_sub (l' := [(3, (.slice (some ⟨b1, 0, none⟩) (Int.toNat (List.length a1 : Int)) (Int.toNat (List.length a1 : Int))))]) ⟨rfl, trivial⟩ ?_
   exact ⟨x2, rfl, rfl, hC2⟩
 rintro l2 _ w5 hs2 ⟨x4, rfl, rfl, hC9⟩
 try dsimp only at hF
 refine nrm_sub' hs2 ?_
 clear hs2
 refine W_seq_reg ?_
 refine WL_move rfl rfl ?_
 refine WL_assign rfl rfl ?_
 refine WL_nil ?_
 refine W_ret ?_
 have hq2 := Option.some.inj hF
 subst hq2
 refine fn_ret1 rfl rfl ?_
 exact ⟨_, rfl, own_res hC9 0 rfl⟩

theorem c_M_within {w0 : World} (a1 : Int) (a2 : Int) (a3 : Int) (rr : Bool) (hF : M.within a1 a2 a3 = some rr) :
 Calls Tryz.prog 147 [(.int .i64 a1), (.int .i64 a2), (.int .i64 a3)].toArray w0 fun e w' => ∃ v, e = .returned v ∧ Res w0 rr v w' := by
 refine calls_of_W Tryz.func147 rfl rfl ?_
 have hC0 := Ctx.start w0
 unfold M.within at hF
 refine W_seq_reg ?_
 refine WL_assign rfl rfl ?_
 refine WL_nil ?_
 obtain ⟨r1, hr1, hF⟩ := bind_some hF
 refine W_cut (fun l w => ∃ x1 : Bool, x1 = r1 ∧ l = [(6, (.bool x1))] ∧ Below w0.heap.size w0 w ∧ Ctx [] w0 w []) ?_ ?_
 ·refine W_reg ?_
  refine WL_move rfl rfl ?_
  refine WL_move rfl rfl ?_
  refine WL_geq rfl rfl rfl ?_
  refine WL_move rfl rfl ?_
  refine WL_fork (fun hc1 => ?_) (fun hc1 => ?_)
  ·replace hr1 := ite_t hr1 hc1
   refine WL_guard rfl rfl ?_
   refine WL_move rfl rfl ?_
   refine WL_guard rfl rfl ?_
   refine WL_move rfl rfl ?_
   refine WL_guard rfl rfl ?_
   refine WL_leq rfl rfl rfl ?_
   refine WL_pick_t rfl rfl rfl ?_
   refine WL_assign rfl rfl ?_
   refine WL_nil ?_
   have hq1 := Option.some.inj hr1
   subst hq1
   refine nrm_sub (l' := [(6, (.bool (decide (a1 ≤ a3))))]) ⟨rfl, trivial⟩ ?_
   exact ⟨(decide (a1 ≤ a3)), rfl, rfl, (Below.refl _ _), hC0⟩
  replace hr1 := ite_f hr1 hc1
  refine WL_guard_skip rfl rfl (by simp) rfl ?_
  refine WL_guard_skip rfl rfl (by simp) rfl ?_
  refine WL_guard_skip rfl rfl (by simp) rfl ?_
  refine WL_pick_f rfl rfl rfl ?_
  refine WL_assign rfl rfl ?_
  refine WL_nil ?_
  have hq2 := Option.some.inj hr1
  subst hq2
  refine nrm_sub (l' := [(6, (.bool false))]) ⟨rfl, trivial⟩ ?_
  exact ⟨false, rfl, rfl, (Below.refl _ _), hC0⟩
 rintro _ w1 ⟨x1, rfl, rfl, hB1, hC1⟩
 try dsimp only at hF
 refine W_ret ?_
 have hq3 := Option.some.inj hF
 subst hq3
 refine fn_ret1 rfl rfl ?_
 exact ⟨_, rfl, bool_res hC1 _⟩

theorem c_M_IsSchema_c1 {w0 : World} (a1 : Int) (rr : Bool) (hF : M.IsSchema_c1 a1 = some rr) :
 Calls Tryz.prog 183 [(.int .i64 a1)].toArray w0 fun e w' => ∃ v, e = .returned v ∧ Res w0 rr v w' := by
 refine calls_of_W Tryz.func183 rfl rfl ?_
 have hC0 := Ctx.start w0
 unfold M.IsSchema_c1 at hF
 refine W_seq_reg ?_
 refine WL_assign rfl rfl ?_
 refine WL_nil ?_
 refine W_seq_reg ?_
 refine WL_move rfl rfl ?_
 obtain ⟨x1, hr1, hF⟩ := bind_some hF
 refine WL_call Tryz.call147 rfl rfl (c_M_within a1 1 3 x1 hr1) ?_
 intro _ w1 hv1
 obtain ⟨rfl, hB1⟩ := res_bool hv1
 have hC1 := hC0.grow hB1
 refine WL_not rfl rfl ?_
 refine WL_assign rfl rfl ?_
 refine WL_nil ?_
 refine W_ret ?_
 have hq1 := Option.some.inj hF
 subst hq1
 refine fn_ret1 rfl rfl ?_
 exact ⟨_, rfl, bool_res hC1 _⟩

theorem c_Slices_IndexFunc_Lint_int_M_IsSchema_c1 {w0 : World} (a1 : (List Int)) (u1 : Value) (g1 : RO [] w0 u1 a1) (rr : Int) (hF : Slices.IndexFunc_Lint_int_M_IsSchema_c1 a1 = some rr) :
 Calls Tryz.prog 205 [u1, (.func (.func 183) #[] #[])].toArray w0 fun e w' => ∃ v, e = .returned v ∧ Res w0 rr v w' := by
 refine calls_of_W Tryz.func205 rfl rfl ?_
 have hC0 := Ctx.start w0
 unfold Slices.IndexFunc_Lint_int_M_IsSchema_c1 at hF
 refine W_seq_reg ?_
 refine WL_assign rfl rfl ?_
 refine WL_nil ?_
 refine W_seq ?_
 refine W_seq_reg ?_
 refine WL_move rfl rfl ?_
 refine WL_len Tryz.underlying24 g1 rfl rfl ?_
 refine WL_move rfl rfl ?_
 refine WL_nil ?_
 obtain ⟨r1, hr1, hF⟩ := bind_some hF
 refine W_norm (fun l w => .inl () = r1 ∧ l = [] ∧ Below w0.heap.size w0 w ∧ Ctx [] w0 w []) ?_ ?_
 ·refine W_block ?_
  refine W.sub (l' := [(0, u1), (1, (.func (.func 183) #[] #[])), (7, (.int .i64 (List.length a1 : Int))), (8, (.int .i64 0))]) ?_ ⟨rfl, rfl, rfl, rfl, trivial⟩
  refine W_loop (fun k l w => ∃ x1 : Int, l = [(0, u1), (1, (.func (.func 183) #[] #[])), (7, (.int .i64 (List.length a1 : Int))), (8, (.int .i64 x1))] ∧ Below w0.heap.size w0 w ∧ Ctx [] w0 w [] ∧ Slices.IndexFunc_Lint_int_M_IsSchema_c1_l1 a1 k x1 = some r1) FUEL ⟨0, rfl, (Below.refl _ _), hC0, hr1⟩ ?_
  clear hr1
  rintro k1 _ w1 ⟨x1, rfl, hB1, hC1, hL1⟩
  cases k1 with
  | zero => rw [Slices.IndexFunc_Lint_int_M_IsSchema_c1_l1] at hL1; cases hL1
  | succ k1 =>
   rw [Slices.IndexFunc_Lint_int_M_IsSchema_c1_l1] at hL1
   refine W_seq_reg ?_
   refine WL_lss rfl rfl rfl ?_
   refine WL_nil ?_
   refine W_seq ?_
   refine W_cond rfl (fun hc1 => ?_) (fun hc1 => ?_)
   ·replace hL1 := ite_t hL1 hc1
    refine W_skip ?_
    refine nrm_normal ?_
    refine W_seq ?_
    refine W_block ?_
    refine W_seq_reg ?_
    refine WL_move rfl rfl ?_
    refine WL_assign rfl rfl ?_
    refine WL_nil ?_
    refine W_seq_reg ?_
    refine WL_move rfl rfl ?_
    refine WL_move rfl rfl ?_
    refine WL_move rfl rfl ?_
    obtain ⟨x2, hx1, hL1⟩ := bind_some hL1
    refine WL_index Tryz.underlying24 ty3 g1 hx1 rfl rfl rfl (fun b1 o1 h1 => ?_)
    refine WL_load ty3 h1 hC1.keep rfl rfl (fun v1 h2 => ?_)
    obtain rfl := ro_int h2
    obtain ⟨x3, hr2, hL1⟩ := bind_some hL1
    refine WL_callv (cap := []) Tryz.call183 rfl rfl rfl (c_M_IsSchema_c1 x2 x3 hr2) ?_
    intro _ w2 hv1
    obtain ⟨rfl, hB2⟩ := res_bool hv1
    have hC2 := hC1.grow hB2
    refine WL_nil ?_
    refine W_cond rfl (fun hc2 => ?_) (fun hc2 => ?_)
    ·replace hL1 := ite_t hL1 hc2
     refine W_seq_reg ?_
     refine WL_move rfl rfl ?_
     refine WL_assign rfl rfl ?_
     refine WL_nil ?_
     refine W_ret ?_
     refine blk_ret ?_
     refine nrm_ret ?_
     refine nrm_ret ?_
     refine blk_ret ?_
     refine nrm_ret ?_
     refine nrm_ret ?_
     have hq1 := Option.some.inj hL1
     subst hq1
     dsimp only at hF
     have hq2 := Option.some.inj hF
     subst hq2
     refine fn_ret1 rfl rfl ?_
     exact ⟨_, rfl, int_res hC2 _⟩
    replace hL1 := ite_f hL1 hc2
    refine W_skip ?_
    refine blk_normal ?_
    refine nrm_normal ?_
    refine W_reg ?_
    refine WL_add rfl rfl rfl ?_
    refine WL_move rfl rfl ?_
    refine WL_nil ?_
    refine nrm_sub (l' := [(0, u1), (1, (.func (.func 183) #[] #[])), (7, (.int .i64 (List.length a1 : Int))), (8, (.int .i64 (w64 (x1 + 1))))]) ⟨rfl, rfl, rfl, rfl, trivial⟩ ?_
    exact ⟨k1, Nat.lt_succ_self _, w64 (x1 + 1), rfl, ((Keep.of hB1).then hB2).below, hC2, hL1⟩
   replace hL1 := ite_f hL1 hc1
   refine W_exit ?_
   refine nrm_exit ?_
   refine nrm_exit ?_
   refine blk_exit ?_
   have hq3 := Option.some.inj hL1
   subst hq3
   refine nrm_sub (l' := []) trivial ?_
   exact ⟨rfl, rfl, (Keep.of hB1).below, hC1⟩
 rintro l2 _ w3 hs2 ⟨rfl, rfl, hB3, hC3⟩
 try dsimp only at hF
 refine nrm_sub' hs2 ?_
 clear hs2
 refine W_seq_reg ?_
 refine WL_assign rfl rfl ?_
 refine WL_nil ?_
 refine W_ret ?_
 have hq4 := Option.some.inj hF
 subst hq4
 refine fn_ret1 rfl rfl ?_
 exact ⟨_, rfl, int_res hC3 _⟩

theorem c_Slices_ContainsFunc_Lint_int_M_IsSchema_c1 {w0 : World} (a1 : (List Int)) (u1 : Value) (g1 : RO [] w0 u1 a1) (rr : Bool) (hF : Slices.ContainsFunc_Lint_int_M_IsSchema_c1 a1 = some rr) :
 Calls Tryz.prog 182 [u1, (.func (.func 183) #[] #[])].toArray w0 fun e w' => ∃ v, e = .returned v ∧ Res w0 rr v w' := by
 refine calls_of_W Tryz.func182 rfl rfl ?_
 have hC0 := Ctx.start w0
 unfold Slices.ContainsFunc_Lint_int_M_IsSchema_c1 at hF
 refine W_seq_reg ?_
 refine WL_assign rfl rfl ?_
 refine WL_nil ?_
 refine W_seq_reg ?_
 refine WL_move rfl rfl ?_
 refine WL_move rfl rfl ?_
 obtain ⟨x1, hr1, hF⟩ := bind_some hF
 refine WL_call Tryz.call205 rfl rfl (c_Slices_IndexFunc_Lint_int_M_IsSchema_c1 a1 u1 (g1.now hC0.keep) x1 hr1) ?_
 intro _ w1 hv1
 obtain ⟨rfl, hB1⟩ := res_int hv1
 have hC1 := hC0.grow hB1
 refine WL_geq rfl rfl rfl ?_
 refine WL_assign rfl rfl ?_
 refine WL_nil ?_
 refine W_ret ?_
 have hq1 := Option.some.inj hF
 subst hq1
 refine fn_ret1 rfl rfl ?_
 exact ⟨_, rfl, bool_res hC1 _⟩

theorem c_M_IsSchema {w0 : World} (a1 : (List Int)) (u1 : Value) (g1 : RO [] w0 u1 a1) (rr : Bool) (hF : M.IsSchema a1 = some rr) :
 Calls Tryz.prog 132 [u1].toArray w0 fun e w' => ∃ v, e = .returned v ∧ Res w0 rr v w' := by
 refine calls_of_W Tryz.func132 rfl rfl ?_
 have hC0 := Ctx.start w0
 unfold M.IsSchema at hF
 refine W_seq_reg ?_
 refine WL_assign rfl rfl ?_
 refine WL_nil ?_
 obtain ⟨r1, hr1, hF⟩ := bind_some hF
 refine W_cut (fun l w => ∃ x1 : Bool, x1 = r1 ∧ l = [(2, (.bool x1))] ∧ Below w0.heap.size w0 w ∧ Ctx [] w0 w []) ?_ ?_
 ·refine W_reg ?_
  refine WL_move rfl rfl ?_
  refine WL_len Tryz.underlying24 g1 rfl rfl ?_
  obtain ⟨x2, hr2, hr1⟩ := bind_some hr1
  refine WL_call Tryz.call147 rfl rfl (c_M_within (List.length a1 : Int) 1 3 x2 hr2) ?_
  intro _ w2 hv1
  obtain ⟨rfl, hB2⟩ := res_bool hv1
  have hC2 := hC0.grow hB2
  refine WL_move rfl rfl ?_
  refine WL_fork (fun hc1 => ?_) (fun hc1 => ?_)
  ·replace hr1 := ite_t hr1 hc1
   refine WL_guard rfl rfl ?_
   refine WL_move rfl rfl ?_
   obtain ⟨x3, hr3, hr1⟩ := bind_some hr1
   refine WL_guard rfl rfl ?_
   refine WL_call Tryz.call182 rfl rfl (c_Slices_ContainsFunc_Lint_int_M_IsSchema_c1 a1 u1 (g1.now hC2.keep) x3 hr3) ?_
   intro _ w3 hv2
   obtain ⟨rfl, hB3⟩ := res_bool hv2
   have hC3 := hC2.grow hB3
   refine WL_guard rfl rfl ?_
   refine WL_not rfl rfl ?_
   refine WL_pick_t rfl rfl rfl ?_
   refine WL_assign rfl rfl ?_
   refine WL_nil ?_
   have hq1 := Option.some.inj hr1
   subst hq1
   refine nrm_sub (l' := [(2, (.bool (!x3)))]) ⟨rfl, trivial⟩ ?_
   exact ⟨(!x3), rfl, rfl, ((Keep.of hB2).then hB3).below, hC3⟩
  replace hr1 := ite_f hr1 hc1
  refine WL_guard_skip rfl rfl (by simp) rfl ?_
  refine WL_guard_skip rfl rfl (by simp) rfl ?_
  refine WL_guard_skip rfl rfl (by simp) rfl ?_
  refine WL_pick_f rfl rfl rfl ?_
  refine WL_assign rfl rfl ?_
  refine WL_nil ?_
  have hq2 := Option.some.inj hr1
  subst hq2
  refine nrm_sub (l' := [(2, (.bool false))]) ⟨rfl, trivial⟩ ?_
  exact ⟨false, rfl, rfl, (Keep.of hB2).below, hC2⟩
 rintro _ w1 ⟨x1, rfl, rfl, hB1, hC1⟩
 try dsimp only at hF
 refine W_ret ?_
 have hq3 := Option.some.inj hF
 subst hq3
 refine fn_ret1 rfl rfl ?_
 exact ⟨_, rfl, bool_res hC1 _⟩

theorem c_M_hasRel {w0 : World} (a1 : (List Int)) (u1 : Value) (g1 : RO [] w0 u1 a1) (a2 : Int) (rr : Bool) (hF : M.hasRel a1 a2 = some rr) :
 Calls Tryz.prog 185 [u1, (.int .i64 a2)].toArray w0 fun e w' => ∃ v, e = .returned v ∧ Res w0 rr v w' := by
 refine calls_of_W Tryz.func185 rfl rfl ?_
 have hC0 := Ctx.start w0
 unfold M.hasRel at hF
 refine W_seq_reg ?_
 refine WL_assign rfl rfl ?_
 refine WL_nil ?_
 obtain ⟨r1, hr1, hF⟩ := bind_some hF
 refine W_cut (fun l w => ∃ x1 : Bool, x1 = r1 ∧ l = [(4, (.bool x1))] ∧ Below w0.heap.size w0 w ∧ Ctx [] w0 w []) ?_ ?_
 ·refine W_reg ?_
  refine WL_move rfl rfl ?_
  obtain ⟨x2, hr2, hr1⟩ := bind_some hr1
  refine WL_call Tryz.call132 rfl rfl (c_M_IsSchema a1 u1 (g1.now hC0.keep) x2 hr2) ?_
  intro _ w2 hv1
  obtain ⟨rfl, hB2⟩ := res_bool hv1
  have hC2 := hC0.grow hB2
  refine WL_move rfl rfl ?_
  refine WL_fork (fun hc1 => ?_) (fun hc1 => ?_)
  ·replace hr1 := ite_t hr1 hc1
   refine WL_guard rfl rfl ?_
   refine WL_move rfl rfl ?_
   refine WL_guard rfl rfl ?_
   refine WL_move rfl rfl ?_
   refine WL_guard rfl rfl ?_
   refine WL_len Tryz.underlying24 g1 rfl rfl ?_
   refine WL_guard rfl rfl ?_
   refine WL_sub rfl rfl rfl ?_
   obtain ⟨x3, hr3, hr1⟩ := bind_some hr1
   refine WL_guard rfl rfl ?_
   refine WL_call Tryz.call147 rfl rfl (c_M_within a2 0 (w64 ((List.length a1 : Int) - 1)) x3 hr3) ?_
   intro _ w3 hv2
   obtain ⟨rfl, hB3⟩ := res_bool hv2
   have hC3 := hC2.grow hB3
   refine WL_pick_t rfl rfl rfl ?_
   refine WL_assign rfl rfl ?_
   refine WL_nil ?_
   have hq1 := Option.some.inj hr1
   subst hq1
   refine nrm_sub (l' := [(4, (.bool x3))]) ⟨rfl, trivial⟩ ?_
   exact ⟨x3, rfl, rfl, ((Keep.of hB2).then hB3).below, hC3⟩
  replace hr1 := ite_f hr1 hc1
  refine WL_guard_skip rfl rfl (by simp) rfl ?_
  refine WL_guard_skip rfl rfl (by simp) rfl ?_
  refine WL_guard_skip rfl rfl (by simp) rfl ?_
  refine WL_guard_skip rfl rfl (by simp) rfl ?_
  refine WL_guard_skip rfl rfl (by simp) rfl ?_
  refine WL_pick_f rfl rfl rfl ?_
  refine WL_assign rfl rfl ?_
  refine WL_nil ?_
  have hq2 := Option.some.inj hr1
  subst hq2
  refine nrm_sub (l' := [(4, (.bool false))]) ⟨rfl, trivial⟩ ?_
  exact ⟨false, rfl, rfl, (Keep.of hB2).below, hC2⟩
 rintro _ w1 ⟨x1, rfl, rfl, hB1, hC1⟩
 try dsimp only at hF
 refine W_ret ?_
 have hq3 := Option.some.inj hF
 subst hq3
 refine fn_ret1 rfl rfl ?_
 exact ⟨_, rfl, bool_res hC1 _⟩

theorem c_M_ascending {w0 : World} (a1 : (List Int)) (u1 : Value) (g1 : RO [] w0 u1 a1) (rr : Bool) (hF : M.ascending a1 = some rr) :
 Calls Tryz.prog 206 [u1].toArray w0 fun e w' => ∃ v, e = .returned v ∧ Res w0 rr v w' := by
 refine calls_of_W Tryz.func206 rfl rfl ?_
 have hC0 := Ctx.start w0
 unfold M.ascending at hF
 refine W_seq_reg ?_
 refine WL_assign rfl rfl ?_
 refine WL_nil ?_
 refine W_seq ?_
 refine W_seq_reg ?_
 refine WL_move rfl rfl ?_
 refine WL_len Tryz.underlying24 g1 rfl rfl ?_
 refine WL_move rfl rfl ?_
 refine WL_nil ?_
 obtain ⟨r1, hr1, hF⟩ := bind_some hF
 refine W_norm (fun l w => .inl () = r1 ∧ l = [] ∧ Below w0.heap.size w0 w ∧ Ctx [] w0 w []) ?_ ?_
 ·refine W_block ?_
  refine W.sub (l' := [(0, u1), (5, (.int .i64 (List.length a1 : Int))), (6, (.int .i64 0))]) ?_ ⟨rfl, rfl, rfl, trivial⟩
  refine W_loop (fun k l w => ∃ x1 : Int, l = [(0, u1), (5, (.int .i64 (List.length a1 : Int))), (6, (.int .i64 x1))] ∧ Below w0.heap.size w0 w ∧ Ctx [] w0 w [] ∧ M.ascending_l1 a1 k x1 = some r1) FUEL ⟨0, rfl, (Below.refl _ _), hC0, hr1⟩ ?_
  clear hr1
  rintro k1 _ w1 ⟨x1, rfl, hB1, hC1, hL1⟩
  cases k1 with
  | zero => rw [M.ascending_l1] at hL1; cases hL1
  | succ k1 =>
   rw [M.ascending_l1] at hL1
   refine W_seq_reg ?_
   refine WL_lss rfl rfl rfl ?_
   refine WL_nil ?_
   refine W_seq ?_
   refine W_cond rfl (fun hc1 => ?_) (fun hc1 => ?_)
   ·replace hL1 := ite_t hL1 hc1
    refine W_skip ?_
    refine nrm_normal ?_
    refine W_seq ?_
    refine W_block ?_
    refine W_seq_reg ?_
    refine WL_move rfl rfl ?_
    refine WL_assign rfl rfl ?_
    refine WL_nil ?_
    obtain ⟨r2, hr2, hL1⟩ := bind_some hL1
    refine W_cut (fun l w => ∃ x2 : Bool, x2 = r2 ∧ l = [(0, u1), (5, (.int .i64 (List.length a1 : Int))), (6, (.int .i64 x1)), (22, (.bool x2))] ∧ Below w1.heap.size w1 w ∧ Ctx [] w0 w []) ?_ ?_
    ·refine W_drawn 14 rfl hmix (fun w3 hB3 => ?_)
     have hC3 := hC1.grow hB3
     refine WA_tk 0 (by kernel_rfl) rfl rfl (fl_move rfl) ?_
     refine WL_move rfl rfl ?_
     refine WL_nil ?_
     refine WA_tk 1 (by kernel_rfl) rfl rfl (fl_gtr rfl rfl) ?_
     refine WL_gtr rfl rfl rfl ?_
     refine WL_nil ?_
     refine WA_tk 2 (by kernel_rfl) rfl rfl (fl_move rfl) ?_
     refine WL_move rfl rfl ?_
     refine WL_nil ?_
     refine WA_fork (fun hc2 => ?_) (fun hc2 => ?_)
     ·replace hr2 := ite_t hr2 hc2
      refine WA_takeG 3 rfl (by kernel_rfl) (by kernel_rfl) (by kernel_rfl) rfl rfl rfl (fl_move rfl) ?_
      refine WL_guard rfl rfl ?_
      refine WL_move rfl rfl ?_
      refine WL_nil ?_
      refine WA_takeG 4 rfl (by kernel_rfl) (by kernel_rfl) (by kernel_rfl) rfl rfl rfl (fl_move rfl) ?_
      refine WL_guard rfl rfl ?_
      refine WL_move rfl rfl ?_
      refine WL_nil ?_
      obtain ⟨x3, hx1, hr2⟩ := bind_some hr2
      refine WA_takeG 5 rfl (by kernel_rfl) (by kernel_rfl) (by kernel_rfl) rfl rfl rfl (fl_index Tryz.underlying24 ty3 g1 hx1 rfl rfl) ?_
      refine WL_guard rfl rfl ?_
      refine WL_index Tryz.underlying24 ty3 g1 hx1 rfl rfl rfl (fun b1 o1 h1 => ?_)
      refine WL_nil ?_
      refine WA_takeG 7 rfl (by kernel_rfl) (by kernel_rfl) (by kernel_rfl) rfl rfl rfl (fl_move rfl) ?_
      refine WL_guard rfl rfl ?_
      refine WL_move rfl rfl ?_
      refine WL_nil ?_
      refine WA_takeG 8 rfl (by kernel_rfl) (by kernel_rfl) (by kernel_rfl) rfl rfl rfl (fl_move rfl) ?_
      refine WL_guard rfl rfl ?_
      refine WL_move rfl rfl ?_
      refine WL_nil ?_
      refine WA_takeG 9 rfl (by kernel_rfl) (by kernel_rfl) (by kernel_rfl) rfl rfl rfl (fl_sub rfl rfl) ?_
      refine WL_guard rfl rfl ?_
      refine WL_sub rfl rfl rfl ?_
      refine WL_nil ?_
      obtain ⟨x4, hx2, hr2⟩ := bind_some hr2
      refine WA_takeG 10 rfl (by kernel_rfl) (by kernel_rfl) (by kernel_rfl) rfl rfl rfl (fl_index Tryz.underlying24 ty3 g1 hx2 rfl rfl) ?_
      refine WL_guard rfl rfl ?_
      refine WL_index Tryz.underlying24 ty3 g1 hx2 rfl rfl rfl (fun b2 o2 h2 => ?_)
      refine WL_nil ?_
      refine WA.sub (l' := [(0, u1), (3, (.int .i64 x1)), (5, (.int .i64 (List.length a1 : Int))), (6, (.int .i64 x1)), (7, (.bool (decide (x1 < (List.length a1 : Int))))), (8, (.int .i64 x1)), (9, (.int .i64 x1)), (10, (.bool (decide (0 < x1)))), (11, (.bool true)), (12, u1), (13, (.int .i64 x1)), (14, (ptr b1 o1)), (16, u1), (17, (.int .i64 x1)), (18, (.int .i64 (w64 (x1 - 1)))), (19, (ptr b2 o2))]) ?_ ⟨rfl, rfl, rfl, rfl, rfl, rfl, rfl, rfl, rfl, rfl, rfl, rfl, rfl, rfl, rfl, rfl, trivial⟩
      refine WA_postsE [⟨6, [], fun vs => PW.val (.int .i64 x3), []⟩, ⟨11, [], fun vs => PW.val (.int .i64 x4), []⟩] [[], []] 2 rfl (by kernel_rfl) (by kernel_rfl) rfl ?_ ?_
      ·refine StepsE_cons rfl ?_ ?_
       ·intro w4 hB4
        refine DepsE_nil ?_
        refine ⟨_, rfl, ?_⟩
        refine WL_guard rfl rfl ?_
        refine WL_load ty3 h1 (hC3.keep.then hB4) rfl rfl (fun v1 h3 => ?_)
        obtain rfl := ro_int h3
        refine WL_nil ?_
        exact FinE_val (Below.refl _ _) rfl rfl ⟨rfl, rfl⟩
       refine StepsE_cons rfl ?_ ?_
       ·intro w4 hB4
        refine DepsE_nil ?_
        refine ⟨_, rfl, ?_⟩
        refine WL_guard rfl rfl ?_
        refine WL_load ty3 h2 (hC3.keep.then hB4) rfl rfl (fun v2 h4 => ?_)
        obtain rfl := ro_int h4
        refine WL_nil ?_
        exact FinE_val (Below.refl _ _) rfl rfl ⟨rfl, rfl⟩
       exact StepsE_nil
      intro w5 hB5
      refine AllE_cons rfl rfl rfl ?_
      rintro _ _ ⟨rfl, rfl⟩
      refine AllE_cons rfl rfl rfl ?_
      rintro _ _ ⟨rfl, rfl⟩
      refine AllE_nil ?_
      intro hn1 hb1
      have hC4 := hC3.grow hB5
      refine WA_takeG 12 rfl (by kernel_rfl) (by kernel_rfl) (by kernel_rfl) rfl rfl rfl (fl_leq rfl rfl) ?_
      refine WL_guard rfl rfl ?_
      refine WL_leq rfl rfl rfl ?_
      refine WL_nil ?_
      refine WA_tk 13 (by kernel_rfl) rfl rfl (fl_pick_t rfl rfl) ?_
      refine WL_pick_t rfl rfl rfl ?_
      refine WL_nil ?_
      refine WA_done (by kernel_rfl) ?_
      have hq1 := Option.some.inj hr2
      subst hq1
      refine nrm_sub (l' := [(0, u1), (5, (.int .i64 (List.length a1 : Int))), (6, (.int .i64 x1)), (22, (.bool (decide (x3 ≤ x4))))]) ⟨rfl, rfl, rfl, rfl, trivial⟩ ?_
      exact ⟨(decide (x3 ≤ x4)), rfl, rfl, ((Keep.of hB3).then hB5).below, hC4⟩
     replace hr2 := ite_f hr2 hc2
     refine WA_sk 3 (by kernel_rfl) rfl rfl rfl rfl (by simp) rfl rfl ?_
     refine WA_sk 4 (by kernel_rfl) rfl rfl rfl rfl (by simp) rfl rfl ?_
     refine WA_sk 5 (by kernel_rfl) rfl rfl rfl rfl (by simp) rfl rfl ?_
     refine WA_sk 6 (by kernel_rfl) rfl rfl rfl rfl (by simp) rfl rfl ?_
     refine WA_sk 7 (by kernel_rfl) rfl rfl rfl rfl (by simp) rfl rfl ?_
     refine WA_sk 8 (by kernel_rfl) rfl rfl rfl rfl (by simp) rfl rfl ?_
     refine WA_sk 9 (by kernel_rfl) rfl rfl rfl rfl (by simp) rfl rfl ?_
     refine WA_sk 10 (by kernel_rfl) rfl rfl rfl rfl (by simp) rfl rfl ?_
     refine WA_sk 11 (by kernel_rfl) rfl rfl rfl rfl (by simp) rfl rfl ?_
     refine WA_sk 12 (by kernel_rfl) rfl rfl rfl rfl (by simp) rfl rfl ?_
     refine WA_tk 13 (by kernel_rfl) rfl rfl (fl_pick_f rfl rfl) ?_
     refine WL_pick_f rfl rfl rfl ?_
     refine WL_nil ?_
     refine WA_done (by kernel_rfl) ?_
     have hq2 := Option.some.inj hr2
     subst hq2
     refine nrm_sub (l' := [(0, u1), (5, (.int .i64 (List.length a1 : Int))), (6, (.int .i64 x1)), (22, (.bool false))]) ⟨rfl, rfl, rfl, rfl, trivial⟩ ?_
     exact ⟨false, rfl, rfl, (Keep.of hB3).below, hC3⟩
    rintro _ w2 ⟨x2, rfl, rfl, hB2, hC2⟩
    try dsimp only at hL1
    refine W_cond rfl (fun hc3 => ?_) (fun hc3 => ?_)
    ·replace hL1 := ite_t hL1 hc3
     refine W_seq_reg ?_
     refine WL_assign rfl rfl ?_
     refine WL_nil ?_
     refine W_ret ?_
     refine blk_ret ?_
     refine nrm_ret ?_
     refine nrm_ret ?_
     refine blk_ret ?_
     refine nrm_ret ?_
     refine nrm_ret ?_
     have hq3 := Option.some.inj hL1
     subst hq3
     dsimp only at hF
     have hq4 := Option.some.inj hF
     subst hq4
     refine fn_ret1 rfl rfl ?_
     exact ⟨_, rfl, bool_res hC2 _⟩
    replace hL1 := ite_f hL1 hc3
    refine W_skip ?_
    refine blk_normal ?_
    refine nrm_normal ?_
    refine W_reg ?_
    refine WL_add rfl rfl rfl ?_
    refine WL_move rfl rfl ?_
    refine WL_nil ?_
    refine nrm_sub (l' := [(0, u1), (5, (.int .i64 (List.length a1 : Int))), (6, (.int .i64 (w64 (x1 + 1))))]) ⟨rfl, rfl, rfl, trivial⟩ ?_
    exact ⟨k1, Nat.lt_succ_self _, w64 (x1 + 1), rfl, ((Keep.of hB1).then hB2).below, hC2, hL1⟩
   replace hL1 := ite_f hL1 hc1
   refine W_exit ?_
   refine nrm_exit ?_
   refine nrm_exit ?_
   refine blk_exit ?_
   have hq5 := Option.some.inj hL1
   subst hq5
   refine nrm_sub (l' := []) trivial ?_
   exact ⟨rfl, rfl, (Keep.of hB1).below, hC1⟩
 rintro l3 _ w6 hs3 ⟨rfl, rfl, hB6, hC5⟩
 try dsimp only at hF
 refine nrm_sub' hs3 ?_
 clear hs3
 refine W_seq_reg ?_
 refine WL_assign rfl rfl ?_
 refine WL_nil ?_
 refine W_ret ?_
 have hq6 := Option.some.inj hF
 subst hq6
 refine fn_ret1 rfl rfl ?_
 exact ⟨_, rfl, bool_res hC5 _⟩

theorem c_M_Method_fits_c1 {w0 : World} (a1 : Int) (pb1 : Nat) (ax1 : Int) (g1 : ROAt [] w0 pb1 0 ax1) (rr : Bool) (hF : M.Method_fits_c1 a1 ax1 = some rr) :
 Calls Tryz.prog 207 [(.int .i64 a1), (ptr pb1 0)].toArray w0 fun e w' => ∃ v, e = .returned v ∧ Res w0 rr v w' := by
 refine calls_of_W Tryz.func207 rfl rfl ?_
 have hC0 := Ctx.start w0
 unfold M.Method_fits_c1 at hF
 refine W_seq_reg ?_
 refine WL_assign rfl rfl ?_
 refine WL_nil ?_
 refine W_seq_reg ?_
 refine WL_move rfl rfl ?_
 refine WL_load ty3 g1 hC0.keep rfl rfl (fun v1 h1 => ?_)
 obtain rfl := ro_int h1
 refine WL_sub rfl rfl rfl ?_
 obtain ⟨x1, hr1, hF⟩ := bind_some hF
 refine WL_call Tryz.call147 rfl rfl (c_M_within a1 0 (w64 (ax1 - 1)) x1 hr1) ?_
 intro _ w1 hv1
 obtain ⟨rfl, hB1⟩ := res_bool hv1
 have hC1 := hC0.grow hB1
 refine WL_not rfl rfl ?_
 refine WL_assign rfl rfl ?_
 refine WL_nil ?_
 refine W_ret ?_
 have hq1 := Option.some.inj hF
 subst hq1
 refine fn_ret1 rfl rfl ?_
 exact ⟨_, rfl, bool_res hC1 _⟩

theorem c_M_isCost {w0 : World} (a1 : Int) (rr : Bool) (hF : M.isCost a1 = some rr) :
 Calls Tryz.prog 208 [(.int .i64 a1)].toArray w0 fun e w' => ∃ v, e = .returned v ∧ Res w0 rr v w' := by
 refine calls_of_W Tryz.func208 rfl rfl ?_
 have hC0 := Ctx.start w0
 unfold M.isCost at hF
 refine W_seq_reg ?_
 refine WL_assign rfl rfl ?_
 refine WL_nil ?_
 refine W_seq_reg ?_
 refine WL_move rfl rfl ?_
 obtain ⟨x1, hr1, hF⟩ := bind_some hF
 refine WL_call Tryz.call147 rfl rfl (c_M_within a1 0 99 x1 hr1) ?_
 intro _ w1 hv1
 obtain ⟨rfl, hB1⟩ := res_bool hv1
 have hC1 := hC0.grow hB1
 refine WL_assign rfl rfl ?_
 refine WL_nil ?_
 refine W_ret ?_
 have hq1 := Option.some.inj hF
 subst hq1
 refine fn_ret1 rfl rfl ?_
 exact ⟨_, rfl, bool_res hC1 _⟩

theorem c_Slices_IndexFunc_Lint_int_M_Method_fits_c1 {w0 : World} (a1 : (List Int)) (u1 : Value) (g1 : RO [] w0 u1 a1) (pb1 : Nat) (ax1 : Int) (g2 : ROAt [] w0 pb1 0 ax1) (rr : Int) (hF : Slices.IndexFunc_Lint_int_M_Method_fits_c1 a1 ax1 = some rr) :
 Calls Tryz.prog 205 [u1, (.func (.func 207) #[] #[(ptr pb1 0)])].toArray w0 fun e w' => ∃ v, e = .returned v ∧ Res w0 rr v w' := by
 refine calls_of_W Tryz.func205 rfl rfl ?_
 have hC0 := Ctx.start w0
 unfold Slices.IndexFunc_Lint_int_M_Method_fits_c1 at hF
 refine W_seq_reg ?_
 refine WL_assign rfl rfl ?_
 refine WL_nil ?_
 refine W_seq ?_
 refine W_seq_reg ?_
 refine WL_move rfl rfl ?_
 refine WL_len Tryz.underlying24 g1 rfl rfl ?_
 refine WL_move rfl rfl ?_
 refine WL_nil ?_
 obtain ⟨r1, hr1, hF⟩ := bind_some hF
 refine W_norm (fun l w => .inl () = r1 ∧ l = [] ∧ Below w0.heap.size w0 w ∧ Ctx [] w0 w []) ?_ ?_
 ·refine W_block ?_
  refine W.sub (l' := [(0, u1), (1, (.func (.func 207) #[] #[(ptr pb1 0)])), (7, (.int .i64 (List.length a1 : Int))), (8, (.int .i64 0))]) ?_ ⟨rfl, rfl, rfl, rfl, trivial⟩
  refine W_loop (fun k l w => ∃ x1 : Int, l = [(0, u1), (1, (.func (.func 207) #[] #[(ptr pb1 0)])), (7, (.int .i64 (List.length a1 : Int))), (8, (.int .i64 x1))] ∧ Below w0.heap.size w0 w ∧ Ctx [] w0 w [] ∧ Slices.IndexFunc_Lint_int_M_Method_fits_c1_l1 a1 ax1 k x1 = some r1) FUEL ⟨0, rfl, (Below.refl _ _), hC0, hr1⟩ ?_
  clear hr1
  rintro k1 _ w1 ⟨x1, rfl, hB1, hC1, hL1⟩
  cases k1 with
  | zero => rw [Slices.IndexFunc_Lint_int_M_Method_fits_c1_l1] at hL1; cases hL1
  | succ k1 =>
   rw [Slices.IndexFunc_Lint_int_M_Method_fits_c1_l1] at hL1
   refine W_seq_reg ?_
   refine WL_lss rfl rfl rfl ?_
   refine WL_nil ?_
   refine W_seq ?_
   refine W_cond rfl (fun hc1 => ?_) (fun hc1 => ?_)
   ·replace hL1 := ite_t hL1 hc1
    refine W_skip ?_
    refine nrm_normal ?_
    refine W_seq ?_
    refine W_block ?_
    refine W_seq_reg ?_
    refine WL_move rfl rfl ?_
    refine WL_assign rfl rfl ?_
    refine WL_nil ?_
    refine W_seq_reg ?_
    refine WL_move rfl rfl ?_
    refine WL_move rfl rfl ?_
    refine WL_move rfl rfl ?_
    obtain ⟨x2, hx1, hL1⟩ := bind_some hL1
    refine WL_index Tryz.underlying24 ty3 g1 hx1 rfl rfl rfl (fun b1 o1 h1 => ?_)
    refine WL_load ty3 h1 hC1.keep rfl rfl (fun v1 h2 => ?_)
    obtain rfl := ro_int h2
    obtain ⟨x3, hr2, hL1⟩ := bind_some hL1
    refine WL_callv (cap := [(ptr pb1 0)]) Tryz.call207 rfl rfl rfl (c_M_Method_fits_c1 x2 pb1 ax1 (g2.now hC1.keep) x3 hr2) ?_
    intro _ w2 hv1
    obtain ⟨rfl, hB2⟩ := res_bool hv1
    have hC2 := hC1.grow hB2
    refine WL_nil ?_
    refine W_cond rfl (fun hc2 => ?_) (fun hc2 => ?_)
    ·replace hL1 := ite_t hL1 hc2
     refine W_seq_reg ?_
     refine WL_move rfl rfl ?_
     refine WL_assign rfl rfl ?_
     refine WL_nil ?_
     refine W_ret ?_
     refine blk_ret ?_
     refine nrm_ret ?_
     refine nrm_ret ?_
     refine blk_ret ?_
     refine nrm_ret ?_
     refine nrm_ret ?_
     have hq1 := Option.some.inj hL1
     subst hq1
     dsimp only at hF
     have hq2 := Option.some.inj hF
     subst hq2
     refine fn_ret1 rfl rfl ?_
     exact ⟨_, rfl, int_res hC2 _⟩
    replace hL1 := ite_f hL1 hc2
    refine W_skip ?_
    refine blk_normal ?_
    refine nrm_normal ?_
    refine W_reg ?_
    refine WL_add rfl rfl rfl ?_
    refine WL_move rfl rfl ?_
    refine WL_nil ?_
    refine nrm_sub (l' := [(0, u1), (1, (.func (.func 207) #[] #[(ptr pb1 0)])), (7, (.int .i64 (List.length a1 : Int))), (8, (.int .i64 (w64 (x1 + 1))))]) ⟨rfl, rfl, rfl, rfl, trivial⟩ ?_
    exact ⟨k1, Nat.lt_succ_self _, w64 (x1 + 1), rfl, ((Keep.of hB1).then hB2).below, hC2, hL1⟩
   replace hL1 := ite_f hL1 hc1
   refine W_exit ?_
   refine nrm_exit ?_
   refine nrm_exit ?_
   refine blk_exit ?_
   have hq3 := Option.some.inj hL1
   subst hq3
   refine nrm_sub (l' := []) trivial ?_
   exact ⟨rfl, rfl, (Keep.of hB1).below, hC1⟩
 rintro l2 _ w3 hs2 ⟨rfl, rfl, hB3, hC3⟩
 try dsimp only at hF
 refine nrm_sub' hs2 ?_
 clear hs2
 refine W_seq_reg ?_
 refine WL_assign rfl rfl ?_
 refine WL_nil ?_
 refine W_ret ?_
 have hq4 := Option.some.inj hF
 subst hq4
 refine fn_ret1 rfl rfl ?_
 exact ⟨_, rfl, int_res hC3 _⟩

theorem c_Slices_ContainsFunc_Lint_int_M_Method_fits_c1 {w0 : World} (a1 : (List Int)) (u1 : Value) (g1 : RO [] w0 u1 a1) (pb1 : Nat) (ax1 : Int) (g2 : ROAt [] w0 pb1 0 ax1) (rr : Bool) (hF : Slices.ContainsFunc_Lint_int_M_Method_fits_c1 a1 ax1 = some rr) :
 Calls Tryz.prog 182 [u1, (.func (.func 207) #[] #[(ptr pb1 0)])].toArray w0 fun e w' => ∃ v, e = .returned v ∧ Res w0 rr v w' := by
 refine calls_of_W Tryz.func182 rfl rfl ?_
 have hC0 := Ctx.start w0
 unfold Slices.ContainsFunc_Lint_int_M_Method_fits_c1 at hF
 refine W_seq_reg ?_
 refine WL_assign rfl rfl ?_
 refine WL_nil ?_
 refine W_seq_reg ?_
 refine WL_move rfl rfl ?_
 refine WL_move rfl rfl ?_
 obtain ⟨x1, hr1, hF⟩ := bind_some hF
 refine WL_call Tryz.call205 rfl rfl (c_Slices_IndexFunc_Lint_int_M_Method_fits_c1 a1 u1 (g1.now hC0.keep) pb1 ax1 (g2.now hC0.keep) x1 hr1) ?_
 intro _ w1 hv1
 obtain ⟨rfl, hB1⟩ := res_int hv1
 have hC1 := hC0.grow hB1
 refine WL_geq rfl rfl rfl ?_
 refine WL_assign rfl rfl ?_
 refine WL_nil ?_
 refine W_ret ?_
 have hq1 := Option.some.inj hF
 subst hq1
 refine fn_ret1 rfl rfl ?_
 exact ⟨_, rfl, bool_res hC1 _⟩

theorem c_M_Method_fits {w0 : World} (a1 : (Int × (List Int) × Int × Int × Int)) (u1 : Value) (g1 : RO [] w0 u1 a1.2.1) (a2 : Int) (rr : Bool) (hF : M.Method_fits a1 a2 = some rr) :
 Calls Tryz.prog 186 [(.agg #[(.int .i64 a1.1), u1, (.int .i64 a1.2.2.1), (.int .i64 a1.2.2.2.1), (.int .i64 a1.2.2.2.2)]), (.int .i64 a2)].toArray w0 fun e w' => ∃ v, e = .returned v ∧ Res w0 rr v w' := by
 refine calls_of_W Tryz.func186 rfl rfl ?_
 have hC0 := Ctx.start w0
 unfold M.Method_fits at hF
 refine W_seq_reg ?_
 refine WL_boxK (cs := [(.int .i64 a1.1), u1, (.int .i64 a1.2.2.1), (.int .i64 a1.2.2.2.1), (.int .i64 a1.2.2.2.2)]) hC0 rfl rfl rfl (fun b1 w1 hC1 hB1 hN1 => ?_)
 refine WL_boxK (cs := [(.int .i64 a2)]) hC1 rfl rfl rfl (fun b2 w2 hC2 hB2 hN2 => ?_)
 refine WL_assign rfl rfl ?_
 refine WL_nil ?_
 obtain ⟨r1, hr1, hF⟩ := bind_some hF
 refine W_cut (fun l w => ∃ x1 : Bool, x1 = r1 ∧ l = [(4, (.bool x1))] ∧ Below w2.heap.size w2 w ∧ Ctx [] w0 w []) ?_ ?_
 ·refine W_reg ?_
  refine WL_field Tryz.underlying93 rfl rfl (fun w => ⟨_, Tryz.sizeOf24 w⟩) rfl rfl ?_
  refine WL_load_box hC2 1 rfl rfl Tryz.isAgg24 rfl rfl ?_
  obtain ⟨x2, hr2, hr1⟩ := bind_some hr1
  refine WL_call Tryz.call206 rfl rfl (c_M_ascending a1.2.1 u1 (g1.now hC2.keep) x2 hr2) ?_
  intro _ w4 hv1
  obtain ⟨rfl, hB4⟩ := res_bool hv1
  have hC4 := hC2.grow hB4
  refine WL_move rfl rfl ?_
  refine WL_fork (fun hc1 => ?_) (fun hc1 => ?_)
  ·replace hr1 := ite_t hr1 hc1
   refine WL_guard rfl rfl ?_
   refine WL_field Tryz.underlying93 rfl rfl (fun w => ⟨_, Tryz.sizeOf24 w⟩) rfl rfl ?_
   refine WL_guard rfl rfl ?_
   refine WL_load_box hC4 1 rfl rfl Tryz.isAgg24 rfl rfl ?_
   refine WL_guard rfl rfl ?_
   refine WL_makeFunc rfl rfl ?_
   obtain ⟨x3, hr3, hr1⟩ := bind_some hr1
   refine WL_guard rfl rfl ?_
   refine WL_call Tryz.call182 rfl rfl (c_Slices_ContainsFunc_Lint_int_M_Method_fits_c1 a1.2.1 u1 (g1.now hC4.keep) b2 a2 (hC4.boxAt 0 rfl repw_int) x3 hr3) ?_
   intro _ w5 hv2
   obtain ⟨rfl, hB5⟩ := res_bool hv2
   have hC5 := hC4.grow hB5
   refine WL_guard rfl rfl ?_
   refine WL_not rfl rfl ?_
   refine WL_pick_t rfl rfl rfl ?_
   refine WL_move rfl rfl ?_
   refine WL_fork (fun hc2 => ?_) (fun hc2 => ?_)
   ·replace hr1 := ite_t hr1 hc2
    refine WL_guard rfl rfl ?_
    refine WL_field Tryz.underlying93 rfl rfl (fun w => ⟨_, Tryz.sizeOf3 w⟩) rfl rfl ?_
    refine WL_guard rfl rfl ?_
    refine WL_load_box hC5 1 rfl rfl Tryz.isAgg3 rfl rfl ?_
    obtain ⟨x4, hr4, hr1⟩ := bind_some hr1
    refine WL_guard rfl rfl ?_
    refine WL_call Tryz.call147 rfl rfl (c_M_within a1.2.2.1 0 9 x4 hr4) ?_
    intro _ w6 hv3
    obtain ⟨rfl, hB6⟩ := res_bool hv3
    have hC6 := hC5.grow hB6
    refine WL_pick_t rfl rfl rfl ?_
    refine WL_move rfl rfl ?_
    refine WL_fork (fun hc3 => ?_) (fun hc3 => ?_)
    ·replace hr1 := ite_t hr1 hc3
     refine WL_guard rfl rfl ?_
     refine WL_field Tryz.underlying93 rfl rfl (fun w => ⟨_, Tryz.sizeOf3 w⟩) rfl rfl ?_
     refine WL_guard rfl rfl ?_
     refine WL_load_box hC6 1 rfl rfl Tryz.isAgg3 rfl rfl ?_
     obtain ⟨x5, hr5, hr1⟩ := bind_some hr1
     refine WL_guard rfl rfl ?_
     refine WL_call Tryz.call208 rfl rfl (c_M_isCost a1.2.2.2.1 x5 hr5) ?_
     intro _ w7 hv4
     obtain ⟨rfl, hB7⟩ := res_bool hv4
     have hC7 := hC6.grow hB7
     refine WL_pick_t rfl rfl rfl ?_
     refine WL_move rfl rfl ?_
     refine WL_fork (fun hc4 => ?_) (fun hc4 => ?_)
     ·replace hr1 := ite_t hr1 hc4
      refine WL_guard rfl rfl ?_
      refine WL_field Tryz.underlying93 rfl rfl (fun w => ⟨_, Tryz.sizeOf3 w⟩) rfl rfl ?_
      refine WL_guard rfl rfl ?_
      refine WL_load_box hC7 1 rfl rfl Tryz.isAgg3 rfl rfl ?_
      obtain ⟨x6, hr6, hr1⟩ := bind_some hr1
      refine WL_guard rfl rfl ?_
      refine WL_call Tryz.call147 rfl rfl (c_M_within a1.2.2.2.2 1 99 x6 hr6) ?_
      intro _ w9 hv5
      obtain ⟨rfl, hB8⟩ := res_bool hv5
      have hC8 := hC7.grow hB8
      refine WL_pick_t rfl rfl rfl ?_
      refine WL_assign rfl rfl ?_
      refine WL_nil ?_
      have hq1 := Option.some.inj hr1
      subst hq1
      have hC9 := hC8.h0
      refine nrm_sub (l' := [(4, (.bool x6))]) ⟨rfl, trivial⟩ ?_
      exact ⟨x6, rfl, rfl, (((((Keep.of hB4).then hB5).then hB6).then hB7).then hB8).below, hC9⟩
     replace hr1 := ite_f hr1 hc4
     refine WL_guard_skip rfl rfl (by simp) rfl ?_
     refine WL_guard_skip rfl rfl (by simp) rfl ?_
     refine WL_guard_skip rfl rfl (by simp) rfl ?_
     refine WL_pick_f rfl rfl rfl ?_
     refine WL_assign rfl rfl ?_
     refine WL_nil ?_
     have hq2 := Option.some.inj hr1
     subst hq2
     have hC10 := hC7.h0
     refine nrm_sub (l' := [(4, (.bool false))]) ⟨rfl, trivial⟩ ?_
     exact ⟨false, rfl, rfl, ((((Keep.of hB4).then hB5).then hB6).then hB7).below, hC10⟩
    replace hr1 := ite_f hr1 hc3
    refine WL_guard_skip rfl rfl (by simp) rfl ?_
    refine WL_guard_skip rfl rfl (by simp) rfl ?_
    refine WL_guard_skip rfl rfl (by simp) rfl ?_
    refine WL_pick_f rfl rfl rfl ?_
    refine WL_move rfl rfl ?_
    refine WL_guard_skip rfl rfl (by simp) rfl ?_
    refine WL_guard_skip rfl rfl (by simp) rfl ?_
    refine WL_guard_skip rfl rfl (by simp) rfl ?_
    refine WL_pick_f rfl rfl rfl ?_
    refine WL_assign rfl rfl ?_
    refine WL_nil ?_
    have hq3 := Option.some.inj hr1
    subst hq3
    have hC11 := hC6.h0
    refine nrm_sub (l' := [(4, (.bool false))]) ⟨rfl, trivial⟩ ?_
    exact ⟨false, rfl, rfl, (((Keep.of hB4).then hB5).then hB6).below, hC11⟩
   replace hr1 := ite_f hr1 hc2
   refine WL_guard_skip rfl rfl (by simp) rfl ?_
   refine WL_guard_skip rfl rfl (by simp) rfl ?_
   refine WL_guard_skip rfl rfl (by simp) rfl ?_
   refine WL_pick_f rfl rfl rfl ?_
   refine WL_move rfl rfl ?_
   refine WL_guard_skip rfl rfl (by simp) rfl ?_
   refine WL_guard_skip rfl rfl (by simp) rfl ?_
   refine WL_guard_skip rfl rfl (by simp) rfl ?_
   refine WL_pick_f rfl rfl rfl ?_
   refine WL_move rfl rfl ?_
   refine WL_guard_skip rfl rfl (by simp) rfl ?_
   refine WL_guard_skip rfl rfl (by simp) rfl ?_
   refine WL_guard_skip rfl rfl (by simp) rfl ?_
   refine WL_pick_f rfl rfl rfl ?_
   refine WL_assign rfl rfl ?_
   refine WL_nil ?_
   have hq4 := Option.some.inj hr1
   subst hq4
   have hC12 := hC5.h0
   refine nrm_sub (l' := [(4, (.bool false))]) ⟨rfl, trivial⟩ ?_
   exact ⟨false, rfl, rfl, ((Keep.of hB4).then hB5).below, hC12⟩
  replace hr1 := ite_f hr1 hc1
  refine WL_guard_skip rfl rfl (by simp) rfl ?_
  refine WL_guard_skip rfl rfl (by simp) rfl ?_
  refine WL_guard_skip rfl rfl (by simp) rfl ?_
  refine WL_guard_skip rfl rfl (by simp) rfl ?_
  refine WL_guard_skip rfl rfl (by simp) rfl ?_
  refine WL_pick_f rfl rfl rfl ?_
  refine WL_move rfl rfl ?_
  refine WL_guard_skip rfl rfl (by simp) rfl ?_
  refine WL_guard_skip rfl rfl (by simp) rfl ?_
  refine WL_guard_skip rfl rfl (by simp) rfl ?_
  refine WL_pick_f rfl rfl rfl ?_
  refine WL_move rfl rfl ?_
  refine WL_guard_skip rfl rfl (by simp) rfl ?_
  refine WL_guard_skip rfl rfl (by simp) rfl ?_
  refine WL_guard_skip rfl rfl (by simp) rfl ?_
  refine WL_pick_f rfl rfl rfl ?_
  refine WL_move rfl rfl ?_
  refine WL_guard_skip rfl rfl (by simp) rfl ?_
  refine WL_guard_skip rfl rfl (by simp) rfl ?_
  refine WL_guard_skip rfl rfl (by simp) rfl ?_
  refine WL_pick_f rfl rfl rfl ?_
  refine WL_assign rfl rfl ?_
  refine WL_nil ?_
  have hq5 := Option.some.inj hr1
  subst hq5
  have hC13 := hC4.h0
  refine nrm_sub (l' := [(4, (.bool false))]) ⟨rfl, trivial⟩ ?_
  exact ⟨false, rfl, rfl, (Keep.of hB4).below, hC13⟩
 rintro _ w3 ⟨x1, rfl, rfl, hB3, hC3⟩
 try dsimp only at hF
 refine W_ret ?_
 have hq6 := Option.some.inj hF
 subst hq6
 refine fn_ret1 rfl rfl ?_
 exact ⟨_, rfl, bool_res hC3 _⟩

theorem c_M_IsMethod {w0 : World} (a1 : (List Int)) (u1 : Value) (g1 : RO [] w0 u1 a1) (a2 : (Int × (List Int) × Int × Int × Int)) (u2 : Value) (g2 : RO [] w0 u2 a2.2.1) (rr : Bool) (hF : M.IsMethod a1 a2 = some rr) :
 Calls Tryz.prog 135 [u1, (.agg #[(.int .i64 a2.1), u2, (.int .i64 a2.2.2.1), (.int .i64 a2.2.2.2.1), (.int .i64 a2.2.2.2.2)])].toArray w0 fun e w' => ∃ v, e = .returned v ∧ Res w0 rr v w' := by
 refine calls_of_W Tryz.func135 rfl rfl ?_
 have hC0 := Ctx.start w0
 unfold M.IsMethod at hF
 refine W_seq_reg ?_
 refine WL_boxK (cs := [(.int .i64 a2.1), u2, (.int .i64 a2.2.2.1), (.int .i64 a2.2.2.2.1), (.int .i64 a2.2.2.2.2)]) hC0 rfl rfl rfl (fun b1 w1 hC1 hB1 hN1 => ?_)
 refine WL_assign rfl rfl ?_
 refine WL_nil ?_
 obtain ⟨r1, hr1, hF⟩ := bind_some hF
 refine W_cut (fun l w => ∃ x1 : Bool, x1 = r1 ∧ l = [(4, (.bool x1))] ∧ Below w1.heap.size w1 w ∧ Ctx [] w0 w []) ?_ ?_
 ·refine W_drawn 14 rfl hmix (fun w3 hB3 => ?_)
  have hC3 := hC1.grow hB3
  refine WA_tk 0 (by kernel_rfl) rfl rfl (fl_move rfl) ?_
  refine WL_move rfl rfl ?_
  refine WL_nil ?_
  refine WA_tk 1 (by kernel_rfl) rfl rfl (fl_field Tryz.underlying93 rfl rfl (fun w => ⟨_, Tryz.sizeOf3 w⟩) rfl) ?_
  refine WL_field Tryz.underlying93 rfl rfl (fun w => ⟨_, Tryz.sizeOf3 w⟩) rfl rfl ?_
  refine WL_nil ?_
  refine WA_one 2 (by kernel_rfl) rfl ?_
  refine WL_load_box hC3 0 rfl rfl Tryz.isAgg3 rfl rfl ?_
  refine WL_nil ?_
  obtain ⟨x2, hr2, hr1⟩ := bind_some hr1
  refine WA_one 3 (by kernel_rfl) rfl ?_
  refine WL_call Tryz.call185 rfl rfl (c_M_hasRel a1 u1 (g1.now hC3.keep) a2.1 x2 hr2) ?_
  intro _ w4 hv1
  obtain ⟨rfl, hB4⟩ := res_bool hv1
  have hC4 := hC3.grow hB4
  refine WL_nil ?_
  refine WA_tk 4 (by kernel_rfl) rfl rfl (fl_move rfl) ?_
  refine WL_move rfl rfl ?_
  refine WL_nil ?_
  refine WA_fork (fun hc1 => ?_) (fun hc1 => ?_)
  ·replace hr1 := ite_t hr1 hc1
   refine WA_takeG 6 rfl (by kernel_rfl) (by kernel_rfl) (by kernel_rfl) rfl rfl rfl (fl_move rfl) ?_
   refine WL_guard rfl rfl ?_
   refine WL_move rfl rfl ?_
   refine WL_nil ?_
   refine WA_takeG 7 rfl (by kernel_rfl) (by kernel_rfl) (by kernel_rfl) rfl rfl rfl (fl_field Tryz.underlying93 rfl rfl (fun w => ⟨_, Tryz.sizeOf3 w⟩) rfl) ?_
   refine WL_guard rfl rfl ?_
   refine WL_field Tryz.underlying93 rfl rfl (fun w => ⟨_, Tryz.sizeOf3 w⟩) rfl rfl ?_
   refine WL_nil ?_
   obtain ⟨x3, hx1, hr1⟩ := bind_some hr1
   refine WA.sub (l' := [(0, u1), (1, (.agg #[(.int .i64 a2.1), u2, (.int .i64 a2.2.2.1), (.int .i64 a2.2.2.2.1), (.int .i64 a2.2.2.2.2)])), (3, (ptr b1 0)), (4, (.bool false)), (5, u1), (6, (ptr b1 0)), (7, (.int .i64 a2.1)), (8, (.bool x2)), (9, (.bool true)), (11, u1), (12, (ptr b1 0))]) ?_ ⟨rfl, rfl, rfl, rfl, rfl, rfl, rfl, rfl, rfl, rfl, rfl, trivial⟩
   refine WA_postsE [⟨5, [], fun vs => PW.val (.agg #[(.int .i64 a2.1), u2, (.int .i64 a2.2.2.1), (.int .i64 a2.2.2.2.1), (.int .i64 a2.2.2.2.2)]), []⟩, ⟨8, [], fun vs => PW.val (.int .i64 a2.1), []⟩, ⟨9, [], fun vs => PW.at [] w0 x3, []⟩, ⟨10, [], fun vs => PW.val (.int .i64 x3), []⟩] [[], [], [8], [9]] 3 rfl (by kernel_rfl) (by kernel_rfl) rfl ?_ ?_
   ·refine StepsE_cons rfl ?_ ?_
    ·intro w5 hB5
     refine DepsE_nil ?_
     refine ⟨_, rfl, ?_⟩
     refine WL_guard rfl rfl ?_
     refine WL_load_box_agg [(.int .i64 a2.1), u2, (.int .i64 a2.2.2.1), (.int .i64 a2.2.2.2.1), (.int .i64 a2.2.2.2.2)] (hC4.grow hB5) 0 rfl rfl rfl Tryz.isAgg93 Tryz.sizeOf93 rfl rfl ?_
     refine WL_nil ?_
     exact FinE_val (Below.refl _ _) rfl rfl ⟨rfl, rfl⟩
    refine StepsE_cons rfl ?_ ?_
    ·intro w5 hB5
     refine DepsE_nil ?_
     refine ⟨_, rfl, ?_⟩
     refine WL_guard rfl rfl ?_
     refine WL_load_box (hC4.grow hB5) 0 rfl rfl Tryz.isAgg3 rfl rfl ?_
     refine WL_nil ?_
     exact FinE_val (Below.refl _ _) rfl rfl ⟨rfl, rfl⟩
    refine StepsE_cons rfl ?_ ?_
    ·intro w5 hB5
     refine DepsE_cons rfl rfl rfl ?_
     rintro _ _ ⟨rfl, rfl⟩ _
     refine DepsE_nil ?_
     refine ⟨_, rfl, ?_⟩
     refine WL_guard rfl rfl ?_
     refine WL_index Tryz.underlying24 ty3 g1 hx1 rfl rfl rfl (fun b2 o1 h1 => ?_)
     refine WL_nil ?_
     exact FinE_val (Below.refl _ _) rfl rfl ⟨rfl, _, _, rfl, h1⟩
    refine StepsE_cons rfl ?_ ?_
    ·intro w5 hB5
     refine DepsE_cons rfl rfl rfl ?_
     rintro _ _ ⟨rfl, b2, o1, rfl, h1⟩ _
     refine DepsE_nil ?_
     refine ⟨_, rfl, ?_⟩
     refine WL_guard rfl rfl ?_
     refine WL_load ty3 h1 (hC4.keep.then hB5) rfl rfl (fun v1 h2 => ?_)
     obtain rfl := ro_int h2
     refine WL_nil ?_
     exact FinE_val (Below.refl _ _) rfl rfl ⟨rfl, rfl⟩
    exact StepsE_nil
   intro w6 hB6
   refine AllE_cons rfl rfl rfl ?_
   rintro _ _ ⟨rfl, rfl⟩
   refine AllE_cons rfl rfl rfl ?_
   rintro _ _ ⟨rfl, rfl⟩
   refine AllE_cons rfl rfl rfl ?_
   rintro _ _ ⟨rfl, b2, o1, rfl, h1⟩
   refine AllE_cons rfl rfl rfl ?_
   rintro _ _ ⟨rfl, rfl⟩
   refine AllE_nil ?_
   intro hn1 hb1
   have hC5 := hC4.grow hB6
   obtain ⟨x4, hr3, hr1⟩ := bind_some hr1
   refine WA_one 11 (by kernel_rfl) rfl ?_
   refine WL_guard rfl rfl ?_
   refine WL_call Tryz.call186 rfl rfl (c_M_Method_fits (a2.1, a2.2.1, a2.2.2.1, a2.2.2.2.1, a2.2.2.2.2) u2 (g2.now hC5.keep) x3 x4 hr3) ?_
   intro _ w7 hv2
   obtain ⟨rfl, hB7⟩ := res_bool hv2
   have hC6 := hC5.grow hB7
   refine WL_nil ?_
   refine WA_tk 12 (by kernel_rfl) rfl rfl (fl_pick_t rfl rfl) ?_
   refine WL_pick_t rfl rfl rfl ?_
   refine WL_nil ?_
   refine WA_tk 13 (by kernel_rfl) rfl rfl (fl_assign rfl) ?_
   refine WL_assign rfl rfl ?_
   refine WL_nil ?_
   refine WA_done (by kernel_rfl) ?_
   have hq1 := Option.some.inj hr1
   subst hq1
   have hC7 := hC6.h0
   refine nrm_sub (l' := [(4, (.bool x4))]) ⟨rfl, trivial⟩ ?_
   exact ⟨x4, rfl, rfl, ((((Keep.of hB3).then hB4).then hB6).then hB7).below, hC7⟩
  replace hr1 := ite_f hr1 hc1
  refine WA_sk 5 (by kernel_rfl) rfl rfl rfl rfl (by simp) rfl rfl ?_
  refine WA_sk 6 (by kernel_rfl) rfl rfl rfl rfl (by simp) rfl rfl ?_
  refine WA_sk 7 (by kernel_rfl) rfl rfl rfl rfl (by simp) rfl rfl ?_
  refine WA_sk 8 (by kernel_rfl) rfl rfl rfl rfl (by simp) rfl rfl ?_
  refine WA_sk 9 (by kernel_rfl) rfl rfl rfl rfl (by simp) rfl rfl ?_
  refine WA_sk 10 (by kernel_rfl) rfl rfl rfl rfl (by simp) rfl rfl ?_
  refine WA_sk 11 (by kernel_rfl) rfl rfl rfl rfl (by simp) rfl rfl ?_
  refine WA_tk 12 (by kernel_rfl) rfl rfl (fl_pick_f rfl rfl) ?_
  refine WL_pick_f rfl rfl rfl ?_
  refine WL_nil ?_
  refine WA_tk 13 (by kernel_rfl) rfl rfl (fl_assign rfl) ?_
  refine WL_assign rfl rfl ?_
  refine WL_nil ?_
  refine WA_done (by kernel_rfl) ?_
  have hq2 := Option.some.inj hr1
  subst hq2
  have hC8 := hC4.h0
  refine nrm_sub (l' := [(4, (.bool false))]) ⟨rfl, trivial⟩ ?_
  exact ⟨false, rfl, rfl, ((Keep.of hB3).then hB4).below, hC8⟩
 rintro _ w2 ⟨x1, rfl, rfl, hB2, hC2⟩
 try dsimp only at hF
 refine W_ret ?_
 have hq3 := Option.some.inj hF
 subst hq3
 refine fn_ret1 rfl rfl ?_
 exact ⟨_, rfl, bool_res hC2 _⟩

theorem c_M_AreMethods_c1 {w0 : World} (a1 : (Int × (List Int) × Int × Int × Int)) (u1 : Value) (g1 : RO [] w0 u1 a1.2.1) (pb1 : Nat) (ax1 : (List Int)) (g2 : ROAt [] w0 pb1 0 ax1) (rr : Bool) (hF : M.AreMethods_c1 a1 ax1 = some rr) :
 Calls Tryz.prog 134 [(.agg #[(.int .i64 a1.1), u1, (.int .i64 a1.2.2.1), (.int .i64 a1.2.2.2.1), (.int .i64 a1.2.2.2.2)]), (ptr pb1 0)].toArray w0 fun e w' => ∃ v, e = .returned v ∧ Res w0 rr v w' := by
 refine calls_of_W Tryz.func134 rfl rfl ?_
 have hC0 := Ctx.start w0
 unfold M.AreMethods_c1 at hF
 refine W_seq_reg ?_
 refine WL_boxK (cs := [(.int .i64 a1.1), u1, (.int .i64 a1.2.2.1), (.int .i64 a1.2.2.2.1), (.int .i64 a1.2.2.2.2)]) hC0 rfl rfl rfl (fun b1 w1 hC1 hB1 hN1 => ?_)
 refine WL_assign rfl rfl ?_
 refine WL_nil ?_
 refine W_seq_reg ?_
 refine WL_load ty24 g2 hC1.keep rfl rfl (fun v1 h1 => ?_)
 refine WL_load_box_agg [(.int .i64 a1.1), u1, (.int .i64 a1.2.2.1), (.int .i64 a1.2.2.2.1), (.int .i64 a1.2.2.2.2)] hC1 0 rfl rfl rfl Tryz.isAgg93 Tryz.sizeOf93 rfl rfl ?_
 obtain ⟨x1, hr1, hF⟩ := bind_some hF
 refine WL_call Tryz.call135 rfl rfl (c_M_IsMethod ax1 v1 (h1.now hC1.keep) (a1.1, a1.2.1, a1.2.2.1, a1.2.2.2.1, a1.2.2.2.2) u1 (g1.now hC1.keep) x1 hr1) ?_
 intro _ w2 hv1
 obtain ⟨rfl, hB2⟩ := res_bool hv1
 have hC2 := hC1.grow hB2
 refine WL_not rfl rfl ?_
 refine WL_assign rfl rfl ?_
 refine WL_nil ?_
 refine W_ret ?_
 have hq1 := Option.some.inj hF
 subst hq1
 refine fn_ret1 rfl rfl ?_
 exact ⟨_, rfl, bool_res hC2 _⟩

theorem c_Slices_IndexFunc_Limpl_Method_impl_Method_M_AreMethods_c1 {w0 : World} (a1 : (List (Int × (List Int) × Int × Int × Int))) (u1 : Value) (g1 : RO [] w0 u1 a1) (pb1 : Nat) (ax1 : (List Int)) (g2 : ROAt [] w0 pb1 0 ax1) (rr : Int) (hF : Slices.IndexFunc_Limpl_Method_impl_Method_M_AreMethods_c1 a1 ax1 = some rr) :
 Calls Tryz.prog 184 [u1, (.func (.func 134) #[] #[(ptr pb1 0)])].toArray w0 fun e w' => ∃ v, e = .returned v ∧ Res w0 rr v w' := by
 refine calls_of_W Tryz.func184 rfl rfl ?_
 have hC0 := Ctx.start w0
 unfold Slices.IndexFunc_Limpl_Method_impl_Method_M_AreMethods_c1 at hF
 refine W_seq_reg ?_
 refine WL_assign rfl rfl ?_
 refine WL_nil ?_
 refine W_seq ?_
 refine W_seq_reg ?_
 refine WL_move rfl rfl ?_
 refine WL_len Tryz.underlying25 g1 rfl rfl ?_
 refine WL_move rfl rfl ?_
 refine WL_nil ?_
 obtain ⟨r1, hr1, hF⟩ := bind_some hF
 refine W_norm (fun l w => .inl () = r1 ∧ l = [] ∧ Below w0.heap.size w0 w ∧ Ctx [] w0 w []) ?_ ?_
 ·refine W_block ?_
  refine W.sub (l' := [(0, u1), (1, (.func (.func 134) #[] #[(ptr pb1 0)])), (7, (.int .i64 (List.length a1 : Int))), (8, (.int .i64 0))]) ?_ ⟨rfl, rfl, rfl, rfl, trivial⟩
  refine W_loop (fun k l w => ∃ x1 : Int, l = [(0, u1), (1, (.func (.func 134) #[] #[(ptr pb1 0)])), (7, (.int .i64 (List.length a1 : Int))), (8, (.int .i64 x1))] ∧ Below w0.heap.size w0 w ∧ Ctx [] w0 w [] ∧ Slices.IndexFunc_Limpl_Method_impl_Method_M_AreMethods_c1_l1 a1 ax1 k x1 = some r1) FUEL ⟨0, rfl, (Below.refl _ _), hC0, hr1⟩ ?_
  clear hr1
  rintro k1 _ w1 ⟨x1, rfl, hB1, hC1, hL1⟩
  cases k1 with
  | zero => rw [Slices.IndexFunc_Limpl_Method_impl_Method_M_AreMethods_c1_l1] at hL1; cases hL1
  | succ k1 =>
   rw [Slices.IndexFunc_Limpl_Method_impl_Method_M_AreMethods_c1_l1] at hL1
   refine W_seq_reg ?_
   refine WL_lss rfl rfl rfl ?_
   refine WL_nil ?_
   refine W_seq ?_
   refine W_cond rfl (fun hc1 => ?_) (fun hc1 => ?_)
   ·replace hL1 := ite_t hL1 hc1
    refine W_skip ?_
    refine nrm_normal ?_
    refine W_seq ?_
    refine W_block ?_
    refine W_seq_reg ?_
    refine WL_move rfl rfl ?_
    refine WL_assign rfl rfl ?_
    refine WL_nil ?_
    refine W_seq_reg ?_
    refine WL_move rfl rfl ?_
    refine WL_move rfl rfl ?_
    refine WL_move rfl rfl ?_
    obtain ⟨x2, hx1, hL1⟩ := bind_some hL1
    refine WL_index Tryz.underlying25 ty93 g1 hx1 rfl rfl rfl (fun b1 o1 h1 => ?_)
    refine WL_load ty93 h1 hC1.keep rfl rfl (fun v1 h2 => ?_)
    obtain ⟨v2, rfl, h3⟩ := ro_st93 h2
    obtain ⟨x3, hr2, hL1⟩ := bind_some hL1
    refine WL_callv (cap := [(ptr pb1 0)]) Tryz.call134 rfl rfl rfl (c_M_AreMethods_c1 x2 v2 (h3.now hC1.keep) pb1 ax1 (g2.now hC1.keep) x3 hr2) ?_
    intro _ w2 hv1
    obtain ⟨rfl, hB2⟩ := res_bool hv1
    have hC2 := hC1.grow hB2
    refine WL_nil ?_
    refine W_cond rfl (fun hc2 => ?_) (fun hc2 => ?_)
    ·replace hL1 := ite_t hL1 hc2
     refine W_seq_reg ?_
     refine WL_move rfl rfl ?_
     refine WL_assign rfl rfl ?_
     refine WL_nil ?_
     refine W_ret ?_
     refine blk_ret ?_
     refine nrm_ret ?_
     refine nrm_ret ?_
     refine blk_ret ?_
     refine nrm_ret ?_
     refine nrm_ret ?_
     have hq1 := Option.some.inj hL1
     subst hq1
     dsimp only at hF
     have hq2 := Option.some.inj hF
     subst hq2
     refine fn_ret1 rfl rfl ?_
     exact ⟨_, rfl, int_res hC2 _⟩
    replace hL1 := ite_f hL1 hc2
    refine W_skip ?_
    refine blk_normal ?_
    refine nrm_normal ?_
    refine W_reg ?_
    refine WL_add rfl rfl rfl ?_
    refine WL_move rfl rfl ?_
    refine WL_nil ?_
    refine nrm_sub (l' := [(0, u1), (1, (.func (.func 134) #[] #[(ptr pb1 0)])), (7, (.int .i64 (List.length a1 : Int))), (8, (.int .i64 (w64 (x1 + 1))))]) ⟨rfl, rfl, rfl, rfl, trivial⟩ ?_
    exact ⟨k1, Nat.lt_succ_self _, w64 (x1 + 1), rfl, ((Keep.of hB1).then hB2).below, hC2, hL1⟩
   replace hL1 := ite_f hL1 hc1
   refine W_exit ?_
   refine nrm_exit ?_
   refine nrm_exit ?_
   refine blk_exit ?_
   have hq3 := Option.some.inj hL1
   subst hq3
   refine nrm_sub (l' := []) trivial ?_
   exact ⟨rfl, rfl, (Keep.of hB1).below, hC1⟩
 rintro l2 _ w3 hs2 ⟨rfl, rfl, hB3, hC3⟩
 try dsimp only at hF
 refine nrm_sub' hs2 ?_
 clear hs2
 refine W_seq_reg ?_
 refine WL_assign rfl rfl ?_
 refine WL_nil ?_
 refine W_ret ?_
 have hq4 := Option.some.inj hF
 subst hq4
 refine fn_ret1 rfl rfl ?_
 exact ⟨_, rfl, int_res hC3 _⟩

theorem c_Slices_ContainsFunc_Limpl_Method_impl_Method_M_AreMethods_c1 {w0 : World} (a1 : (List (Int × (List Int) × Int × Int × Int))) (u1 : Value) (g1 : RO [] w0 u1 a1) (pb1 : Nat) (ax1 : (List Int)) (g2 : ROAt [] w0 pb1 0 ax1) (rr : Bool) (hF : Slices.ContainsFunc_Limpl_Method_impl_Method_M_AreMethods_c1 a1 ax1 = some rr) :
 Calls Tryz.prog 133 [u1, (.func (.func 134) #[] #[(ptr pb1 0)])].toArray w0 fun e w' => ∃ v, e = .returned v ∧ Res w0 rr v w' := by
 refine calls_of_W Tryz.func133 rfl rfl ?_
 have hC0 := Ctx.start w0
 unfold Slices.ContainsFunc_Limpl_Method_impl_Method_M_AreMethods_c1 at hF
 refine W_seq_reg ?_
 refine WL_assign rfl rfl ?_
 refine WL_nil ?_
 refine W_seq_reg ?_
 refine WL_move rfl rfl ?_
 refine WL_move rfl rfl ?_
 obtain ⟨x1, hr1, hF⟩ := bind_some hF
 refine WL_call Tryz.call184 rfl rfl (c_Slices_IndexFunc_Limpl_Method_impl_Method_M_AreMethods_c1 a1 u1 (g1.now hC0.keep) pb1 ax1 (g2.now hC0.keep) x1 hr1) ?_
 intro _ w1 hv1
 obtain ⟨rfl, hB1⟩ := res_int hv1
 have hC1 := hC0.grow hB1
 refine WL_geq rfl rfl rfl ?_
 refine WL_assign rfl rfl ?_
 refine WL_nil ?_
 refine W_ret ?_
 have hq1 := Option.some.inj hF
 subst hq1
 refine fn_ret1 rfl rfl ?_
 exact ⟨_, rfl, bool_res hC1 _⟩

theorem c_M_AreMethods {w0 : World} (a1 : (List Int)) (u1 : Value) (g1 : RO [] w0 u1 a1) (a2 : (List (Int × (List Int) × Int × Int × Int))) (u2 : Value) (g2 : RO [] w0 u2 a2) (rr : Bool) (hF : M.AreMethods a1 a2 = some rr) :
 Calls Tryz.prog 71 [u1, u2].toArray w0 fun e w' => ∃ v, e = .returned v ∧ Res w0 rr v w' := by
 refine calls_of_W Tryz.func71 rfl rfl ?_
 have hC0 := Ctx.start w0
 unfold M.AreMethods at hF
 refine W_seq_reg ?_
 refine WL_boxK (cs := [u1]) hC0 (ro_cells g1) rfl rfl (fun b1 w1 hC1 hB1 hN1 => ?_)
 refine WL_assign rfl rfl ?_
 refine WL_nil ?_
 obtain ⟨r1, hr1, hF⟩ := bind_some hF
 refine W_cut (fun l w => ∃ x1 : Bool, x1 = r1 ∧ l = [(4, (.bool x1))] ∧ Below w1.heap.size w1 w ∧ Ctx [] w0 w []) ?_ ?_
 ·refine W_reg ?_
  refine WL_load_box hC1 0 rfl rfl Tryz.isAgg24 rfl rfl ?_
  obtain ⟨x2, hr2, hr1⟩ := bind_some hr1
  refine WL_call Tryz.call132 rfl rfl (c_M_IsSchema a1 u1 (g1.now hC1.keep) x2 hr2) ?_
  intro _ w3 hv1
  obtain ⟨rfl, hB3⟩ := res_bool hv1
  have hC3 := hC1.grow hB3
  refine WL_move rfl rfl ?_
  refine WL_fork (fun hc1 => ?_) (fun hc1 => ?_)
  ·replace hr1 := ite_t hr1 hc1
   refine WL_guard rfl rfl ?_
   refine WL_move rfl rfl ?_
   refine WL_guard rfl rfl ?_
   refine WL_len Tryz.underlying25 g2 rfl rfl ?_
   refine WL_guard rfl rfl ?_
   refine WL_leq rfl rfl rfl ?_
   refine WL_pick_t rfl rfl rfl ?_
   refine WL_move rfl rfl ?_
   refine WL_fork (fun hc2 => ?_) (fun hc2 => ?_)
   ·replace hr1 := ite_t hr1 hc2
    refine WL_guard rfl rfl ?_
    refine WL_move rfl rfl ?_
    refine WL_guard rfl rfl ?_
    refine WL_makeFunc rfl rfl ?_
    obtain ⟨x3, hr3, hr1⟩ := bind_some hr1
    refine WL_guard rfl rfl ?_
    refine WL_call Tryz.call133 rfl rfl (c_Slices_ContainsFunc_Limpl_Method_impl_Method_M_AreMethods_c1 a2 u2 (g2.now hC3.keep) b1 a1 (hC3.boxAt 0 rfl (repw_slice (g1.now hC3.keep))) x3 hr3) ?_
    intro _ w4 hv2
    obtain ⟨rfl, hB4⟩ := res_bool hv2
    have hC4 := hC3.grow hB4
    refine WL_guard rfl rfl ?_
    refine WL_not rfl rfl ?_
    refine WL_pick_t rfl rfl rfl ?_
    refine WL_assign rfl rfl ?_
    refine WL_nil ?_
    have hq1 := Option.some.inj hr1
    subst hq1
    have hC5 := hC4.h0
    refine nrm_sub (l' := [(4, (.bool (!x3)))]) ⟨rfl, trivial⟩ ?_
    exact ⟨(!x3), rfl, rfl, ((Keep.of hB3).then hB4).below, hC5⟩
   replace hr1 := ite_f hr1 hc2
   refine WL_guard_skip rfl rfl (by simp) rfl ?_
   refine WL_guard_skip rfl rfl (by simp) rfl ?_
   refine WL_guard_skip rfl rfl (by simp) rfl ?_
   refine WL_guard_skip rfl rfl (by simp) rfl ?_
   refine WL_pick_f rfl rfl rfl ?_
   refine WL_assign rfl rfl ?_
   refine WL_nil ?_
   have hq2 := Option.some.inj hr1
   subst hq2
   have hC6 := hC3.h0
   refine nrm_sub (l' := [(4, (.bool false))]) ⟨rfl, trivial⟩ ?_
   exact ⟨false, rfl, rfl, (Keep.of hB3).below, hC6⟩
  replace hr1 := ite_f hr1 hc1
  refine WL_guard_skip rfl rfl (by simp) rfl ?_
  refine WL_guard_skip rfl rfl (by simp) rfl ?_
  refine WL_guard_skip rfl rfl (by simp) rfl ?_
  refine WL_pick_f rfl rfl rfl ?_
  refine WL_move rfl rfl ?_
  refine WL_guard_skip rfl rfl (by simp) rfl ?_
  refine WL_guard_skip rfl rfl (by simp) rfl ?_
  refine WL_guard_skip rfl rfl (by simp) rfl ?_
  refine WL_guard_skip rfl rfl (by simp) rfl ?_
  refine WL_pick_f rfl rfl rfl ?_
  refine WL_assign rfl rfl ?_
  refine WL_nil ?_
  have hq3 := Option.some.inj hr1
  subst hq3
  have hC7 := hC3.h0
  refine nrm_sub (l' := [(4, (.bool false))]) ⟨rfl, trivial⟩ ?_
  exact ⟨false, rfl, rfl, (Keep.of hB3).below, hC7⟩
 rintro _ w2 ⟨x1, rfl, rfl, hB2, hC2⟩
 try dsimp only at hF
 refine W_ret ?_
 have hq4 := Option.some.inj hF
 subst hq4
 refine fn_ret1 rfl rfl ?_
 exact ⟨_, rfl, bool_res hC2 _⟩

theorem c_M_isValue {w0 : World} (a1 : Int) (rr : Bool) (hF : M.isValue a1 = some rr) :
 Calls Tryz.prog 190 [(.int .i64 a1)].toArray w0 fun e w' => ∃ v, e = .returned v ∧ Res w0 rr v w' := by
 refine calls_of_W Tryz.func190 rfl rfl ?_
 have hC0 := Ctx.start w0
 unfold M.isValue at hF
 refine W_seq_reg ?_
 refine WL_assign rfl rfl ?_
 refine WL_nil ?_
 refine W_seq_reg ?_
 refine WL_move rfl rfl ?_
 obtain ⟨x1, hr1, hF⟩ := bind_some hF
 refine WL_call Tryz.call147 rfl rfl (c_M_within a1 0 9 x1 hr1) ?_
 intro _ w1 hv1
 obtain ⟨rfl, hB1⟩ := res_bool hv1
 have hC1 := hC0.grow hB1
 refine WL_assign rfl rfl ?_
 refine WL_nil ?_
 refine W_ret ?_
 have hq1 := Option.some.inj hF
 subst hq1
 refine fn_ret1 rfl rfl ?_
 exact ⟨_, rfl, bool_res hC1 _⟩

theorem c_M_areValues_c1 {w0 : World} (a1 : Int) (rr : Bool) (hF : M.areValues_c1 a1 = some rr) :
 Calls Tryz.prog 189 [(.int .i64 a1)].toArray w0 fun e w' => ∃ v, e = .returned v ∧ Res w0 rr v w' := by
 refine calls_of_W Tryz.func189 rfl rfl ?_
 have hC0 := Ctx.start w0
 unfold M.areValues_c1 at hF
 refine W_seq_reg ?_
 refine WL_assign rfl rfl ?_
 refine WL_nil ?_
 refine W_seq_reg ?_
 refine WL_move rfl rfl ?_
 obtain ⟨x1, hr1, hF⟩ := bind_some hF
 refine WL_call Tryz.call190 rfl rfl (c_M_isValue a1 x1 hr1) ?_
 intro _ w1 hv1
 obtain ⟨rfl, hB1⟩ := res_bool hv1
 have hC1 := hC0.grow hB1
 refine WL_not rfl rfl ?_
 refine WL_assign rfl rfl ?_
 refine WL_nil ?_
 refine W_ret ?_
 have hq1 := Option.some.inj hF
 subst hq1
 refine fn_ret1 rfl rfl ?_
 exact ⟨_, rfl, bool_res hC1 _⟩

theorem c_Slices_IndexFunc_Lint_int_M_areValues_c1 {w0 : World} (a1 : (List Int)) (u1 : Value) (g1 : RO [] w0 u1 a1) (rr : Int) (hF : Slices.IndexFunc_Lint_int_M_areValues_c1 a1 = some rr) :
 Calls Tryz.prog 205 [u1, (.func (.func 189) #[] #[])].toArray w0 fun e w' => ∃ v, e = .returned v ∧ Res w0 rr v w' := by
 refine calls_of_W Tryz.func205 rfl rfl ?_
 have hC0 := Ctx.start w0
 unfold Slices.IndexFunc_Lint_int_M_areValues_c1 at hF
 refine W_seq_reg ?_
 refine WL_assign rfl rfl ?_
 refine WL_nil ?_
 refine W_seq ?_
 refine W_seq_reg ?_
 refine WL_move rfl rfl ?_
 refine WL_len Tryz.underlying24 g1 rfl rfl ?_
 refine WL_move rfl rfl ?_
 refine WL_nil ?_
 obtain ⟨r1, hr1, hF⟩ := bind_some hF
 refine W_norm (fun l w => .inl () = r1 ∧ l = [] ∧ Below w0.heap.size w0 w ∧ Ctx [] w0 w []) ?_ ?_
 ·refine W_block ?_
  refine W.sub (l' := [(0, u1), (1, (.func (.func 189) #[] #[])), (7, (.int .i64 (List.length a1 : Int))), (8, (.int .i64 0))]) ?_ ⟨rfl, rfl, rfl, rfl, trivial⟩
  refine W_loop (fun k l w => ∃ x1 : Int, l = [(0, u1), (1, (.func (.func 189) #[] #[])), (7, (.int .i64 (List.length a1 : Int))), (8, (.int .i64 x1))] ∧ Below w0.heap.size w0 w ∧ Ctx [] w0 w [] ∧ Slices.IndexFunc_Lint_int_M_areValues_c1_l1 a1 k x1 = some r1) FUEL ⟨0, rfl, (Below.refl _ _), hC0, hr1⟩ ?_
  clear hr1
  rintro k1 _ w1 ⟨x1, rfl, hB1, hC1, hL1⟩
  cases k1 with
  | zero => rw [Slices.IndexFunc_Lint_int_M_areValues_c1_l1] at hL1; cases hL1
  | succ k1 =>
   rw [Slices.IndexFunc_Lint_int_M_areValues_c1_l1] at hL1
   refine W_seq_reg ?_
   refine WL_lss rfl rfl rfl ?_
   refine WL_nil ?_
   refine W_seq ?_
   refine W_cond rfl (fun hc1 => ?_) (fun hc1 => ?_)
   ·replace hL1 := ite_t hL1 hc1
    refine W_skip ?_
    refine nrm_normal ?_
    refine W_seq ?_
    refine W_block ?_
    refine W_seq_reg ?_
    refine WL_move rfl rfl ?_
    refine WL_assign rfl rfl ?_
    refine WL_nil ?_
    refine W_seq_reg ?_
    refine WL_move rfl rfl ?_
    refine WL_move rfl rfl ?_
    refine WL_move rfl rfl ?_
    obtain ⟨x2, hx1, hL1⟩ := bind_some hL1
    refine WL_index Tryz.underlying24 ty3 g1 hx1 rfl rfl rfl (fun b1 o1 h1 => ?_)
    refine WL_load ty3 h1 hC1.keep rfl rfl (fun v1 h2 => ?_)
    obtain rfl := ro_int h2
    obtain ⟨x3, hr2, hL1⟩ := bind_some hL1
    refine WL_callv (cap := []) Tryz.call189 rfl rfl rfl (c_M_areValues_c1 x2 x3 hr2) ?_
    intro _ w2 hv1
    obtain ⟨rfl, hB2⟩ := res_bool hv1
    have hC2 := hC1.grow hB2
    refine WL_nil ?_
    refine W_cond rfl (fun hc2 => ?_) (fun hc2 => ?_)
    ·replace hL1 := ite_t hL1 hc2
     refine W_seq_reg ?_
     refine WL_move rfl rfl ?_
     refine WL_assign rfl rfl ?_
     refine WL_nil ?_
     refine W_ret ?_
     refine blk_ret ?_
     refine nrm_ret ?_
     refine nrm_ret ?_
     refine blk_ret ?_
     refine nrm_ret ?_
     refine nrm_ret ?_
     have hq1 := Option.some.inj hL1
     subst hq1
     dsimp only at hF
     have hq2 := Option.some.inj hF
     subst hq2
     refine fn_ret1 rfl rfl ?_
     exact ⟨_, rfl, int_res hC2 _⟩
    replace hL1 := ite_f hL1 hc2
    refine W_skip ?_
    refine blk_normal ?_
    refine nrm_normal ?_
    refine W_reg ?_
    refine WL_add rfl rfl rfl ?_
    refine WL_move rfl rfl ?_
    refine WL_nil ?_
    refine nrm_sub (l' := [(0, u1), (1, (.func (.func 189) #[] #[])), (7, (.int .i64 (List.length a1 : Int))), (8, (.int .i64 (w64 (x1 + 1))))]) ⟨rfl, rfl, rfl, rfl, trivial⟩ ?_
    exact ⟨k1, Nat.lt_succ_self _, w64 (x1 + 1), rfl, ((Keep.of hB1).then hB2).below, hC2, hL1⟩
   replace hL1 := ite_f hL1 hc1
   refine W_exit ?_
   refine nrm_exit ?_
   refine nrm_exit ?_
   refine blk_exit ?_
   have hq3 := Option.some.inj hL1
   subst hq3
   refine nrm_sub (l' := []) trivial ?_
   exact ⟨rfl, rfl, (Keep.of hB1).below, hC1⟩
 rintro l2 _ w3 hs2 ⟨rfl, rfl, hB3, hC3⟩
 try dsimp only at hF
 refine nrm_sub' hs2 ?_
 clear hs2
 refine W_seq_reg ?_
 refine WL_assign rfl rfl ?_
 refine WL_nil ?_
 refine W_ret ?_
 have hq4 := Option.some.inj hF
 subst hq4
 refine fn_ret1 rfl rfl ?_
 exact ⟨_, rfl, int_res hC3 _⟩

theorem c_Slices_ContainsFunc_Lint_int_M_areValues_c1 {w0 : World} (a1 : (List Int)) (u1 : Value) (g1 : RO [] w0 u1 a1) (rr : Bool) (hF : Slices.ContainsFunc_Lint_int_M_areValues_c1 a1 = some rr) :
 Calls Tryz.prog 182 [u1, (.func (.func 189) #[] #[])].toArray w0 fun e w' => ∃ v, e = .returned v ∧ Res w0 rr v w' := by
 refine calls_of_W Tryz.func182 rfl rfl ?_
 have hC0 := Ctx.start w0
 unfold Slices.ContainsFunc_Lint_int_M_areValues_c1 at hF
 refine W_seq_reg ?_
 refine WL_assign rfl rfl ?_
 refine WL_nil ?_
 refine W_seq_reg ?_
 refine WL_move rfl rfl ?_
 refine WL_move rfl rfl ?_
 obtain ⟨x1, hr1, hF⟩ := bind_some hF
 refine WL_call Tryz.call205 rfl rfl (c_Slices_IndexFunc_Lint_int_M_areValues_c1 a1 u1 (g1.now hC0.keep) x1 hr1) ?_
 intro _ w1 hv1
 obtain ⟨rfl, hB1⟩ := res_int hv1
 have hC1 := hC0.grow hB1
 refine WL_geq rfl rfl rfl ?_
 refine WL_assign rfl rfl ?_
 refine WL_nil ?_
 refine W_ret ?_
 have hq1 := Option.some.inj hF
 subst hq1
 refine fn_ret1 rfl rfl ?_
 exact ⟨_, rfl, bool_res hC1 _⟩

theorem c_M_areValues {w0 : World} (a1 : (List Int)) (u1 : Value) (g1 : RO [] w0 u1 a1) (rr : Bool) (hF : M.areValues a1 = some rr) :
 Calls Tryz.prog 148 [u1].toArray w0 fun e w' => ∃ v, e = .returned v ∧ Res w0 rr v w' := by
 refine calls_of_W Tryz.func148 rfl rfl ?_
 have hC0 := Ctx.start w0
 unfold M.areValues at hF
 refine W_seq_reg ?_
 refine WL_assign rfl rfl ?_
 refine WL_nil ?_
 refine W_seq_reg ?_
 refine WL_move rfl rfl ?_
 obtain ⟨x1, hr1, hF⟩ := bind_some hF
 refine WL_call Tryz.call182 rfl rfl (c_Slices_ContainsFunc_Lint_int_M_areValues_c1 a1 u1 (g1.now hC0.keep) x1 hr1) ?_
 intro _ w1 hv1
 obtain ⟨rfl, hB1⟩ := res_bool hv1
 have hC1 := hC0.grow hB1
 refine WL_not rfl rfl ?_
 refine WL_assign rfl rfl ?_
 refine WL_nil ?_
 refine W_ret ?_
 have hq1 := Option.some.inj hF
 subst hq1
 refine fn_ret1 rfl rfl ?_
 exact ⟨_, rfl, bool_res hC1 _⟩

theorem c_M_IsAccess {w0 : World} (a1 : (List Int)) (u1 : Value) (g1 : RO [] w0 u1 a1) (a2 : (List (Int × (List Int) × Int × Int × Int))) (u2 : Value) (g2 : RO [] w0 u2 a2) (a3 : (Int × (List Int))) (u3 : Value) (g3 : RO [] w0 u3 a3.2) (rr : Bool) (hF : M.IsAccess a1 a2 a3 = some rr) :
 Calls Tryz.prog 98 [u1, u2, (.agg #[(.int .i64 a3.1), u3])].toArray w0 fun e w' => ∃ v, e = .returned v ∧ Res w0 rr v w' := by
 refine calls_of_W Tryz.func98 rfl rfl ?_
 have hC0 := Ctx.start w0
 unfold M.IsAccess at hF
 refine W_seq_reg ?_
 refine WL_boxK (cs := [(.int .i64 a3.1), u3]) hC0 rfl rfl rfl (fun b1 w1 hC1 hB1 hN1 => ?_)
 refine WL_assign rfl rfl ?_
 refine WL_nil ?_
 obtain ⟨r1, hr1, hF⟩ := bind_some hF
 refine W_cut (fun l w => ∃ x1 : Bool, x1 = r1 ∧ l = [(6, (.bool x1))] ∧ Below w1.heap.size w1 w ∧ Ctx [] w0 w []) ?_ ?_
 ·refine W_drawn 30 rfl hmix (fun w3 hB3 => ?_)
  have hC3 := hC1.grow hB3
  refine WA_tk 0 (by kernel_rfl) rfl rfl (fl_move rfl) ?_
  refine WL_move rfl rfl ?_
  refine WL_nil ?_
  refine WA_tk 1 (by kernel_rfl) rfl rfl (fl_move rfl) ?_
  refine WL_move rfl rfl ?_
  refine WL_nil ?_
  obtain ⟨x2, hr2, hr1⟩ := bind_some hr1
  refine WA_one 2 (by kernel_rfl) rfl ?_
  refine WL_call Tryz.call71 rfl rfl (c_M_AreMethods a1 u1 (g1.now hC3.keep) a2 u2 (g2.now hC3.keep) x2 hr2) ?_
  intro _ w4 hv1
  obtain ⟨rfl, hB4⟩ := res_bool hv1
  have hC4 := hC3.grow hB4
  refine WL_nil ?_
  refine WA_tk 3 (by kernel_rfl) rfl rfl (fl_move rfl) ?_
  refine WL_move rfl rfl ?_
  refine WL_nil ?_
  refine WA_fork (fun hc1 => ?_) (fun hc1 => ?_)
  ·replace hr1 := ite_t hr1 hc1
   refine WA_takeG 4 rfl (by kernel_rfl) (by kernel_rfl) (by kernel_rfl) rfl rfl rfl (fl_field Tryz.underlying44 rfl rfl (fun w => ⟨_, Tryz.sizeOf3 w⟩) rfl) ?_
   refine WL_guard rfl rfl ?_
   refine WL_field Tryz.underlying44 rfl rfl (fun w => ⟨_, Tryz.sizeOf3 w⟩) rfl rfl ?_
   refine WL_nil ?_
   refine WA_takeG 6 rfl (by kernel_rfl) (by kernel_rfl) (by kernel_rfl) rfl rfl rfl (fl_move rfl) ?_
   refine WL_guard rfl rfl ?_
   refine WL_move rfl rfl ?_
   refine WL_nil ?_
   refine WA_takeG 7 rfl (by kernel_rfl) (by kernel_rfl) (by kernel_rfl) rfl rfl rfl (fl_len Tryz.underlying25 g2 rfl) ?_
   refine WL_guard rfl rfl ?_
   refine WL_len Tryz.underlying25 g2 rfl rfl ?_
   refine WL_nil ?_
   refine WA_takeG 8 rfl (by kernel_rfl) (by kernel_rfl) (by kernel_rfl) rfl rfl rfl (fl_sub rfl rfl) ?_
   refine WL_guard rfl rfl ?_
   refine WL_sub rfl rfl rfl ?_
   refine WL_nil ?_
   refine WA_one 5 (by kernel_rfl) rfl ?_
   refine WL_guard rfl rfl ?_
   refine WL_load_box hC4 0 rfl rfl Tryz.isAgg3 rfl rfl ?_
   refine WL_nil ?_
   obtain ⟨x3, hr3, hr1⟩ := bind_some hr1
   refine WA_one 9 (by kernel_rfl) rfl ?_
   refine WL_guard rfl rfl ?_
   refine WL_call Tryz.call147 rfl rfl (c_M_within a3.1 0 (w64 ((List.length a2 : Int) - 1)) x3 hr3) ?_
   intro _ w5 hv2
   obtain ⟨rfl, hB5⟩ := res_bool hv2
   have hC5 := hC4.grow hB5
   refine WL_nil ?_
   refine WA_tk 10 (by kernel_rfl) rfl rfl (fl_pick_t rfl rfl) ?_
   refine WL_pick_t rfl rfl rfl ?_
   refine WL_nil ?_
   refine WA_tk 11 (by kernel_rfl) rfl rfl (fl_move rfl) ?_
   refine WL_move rfl rfl ?_
   refine WL_nil ?_
   refine WA_fork (fun hc2 => ?_) (fun hc2 => ?_)
   ·replace hr1 := ite_t hr1 hc2
    refine WA_takeG 12 rfl (by kernel_rfl) (by kernel_rfl) (by kernel_rfl) rfl rfl rfl (fl_field Tryz.underlying44 rfl rfl (fun w => ⟨_, Tryz.sizeOf24 w⟩) rfl) ?_
    refine WL_guard rfl rfl ?_
    refine WL_field Tryz.underlying44 rfl rfl (fun w => ⟨_, Tryz.sizeOf24 w⟩) rfl rfl ?_
    refine WL_nil ?_
    refine WA_takeG 15 rfl (by kernel_rfl) (by kernel_rfl) (by kernel_rfl) rfl rfl rfl (fl_move rfl) ?_
    refine WL_guard rfl rfl ?_
    refine WL_move rfl rfl ?_
    refine WL_nil ?_
    refine WA_takeG 16 rfl (by kernel_rfl) (by kernel_rfl) (by kernel_rfl) rfl rfl rfl (fl_field Tryz.underlying44 rfl rfl (fun w => ⟨_, Tryz.sizeOf3 w⟩) rfl) ?_
    refine WL_guard rfl rfl ?_
    refine WL_field Tryz.underlying44 rfl rfl (fun w => ⟨_, Tryz.sizeOf3 w⟩) rfl rfl ?_
    refine WL_nil ?_
    obtain ⟨x4, hx1, hr1⟩ := bind_some hr1
    refine WA.sub (l' := [(0, u1), (1, u2), (2, (.agg #[(.int .i64 a3.1), u3])), (5, (ptr b1 0)), (6, (.bool false)), (7, u1), (8, u2), (9, (.bool x2)), (10, (.bool true)), (11, (ptr b1 0)), (12, (.int .i64 a3.1)), (13, u2), (14, (.int .i64 (List.length a2 : Int))), (15, (.int .i64 (w64 ((List.length a2 : Int) - 1)))), (16, (.bool x3)), (17, (.bool x3)), (18, (.bool true)), (19, (ptr b1 1)), (22, u2), (23, (ptr b1 0))]) ?_ ⟨rfl, rfl, rfl, rfl, rfl, rfl, rfl, rfl, rfl, rfl, rfl, rfl, rfl, rfl, rfl, rfl, rfl, rfl, rfl, rfl, trivial⟩
    refine WA_postsE [⟨13, [], fun vs => PW.val u3, []⟩, ⟨14, [], fun vs => PW.val (.int .i64 (List.length a3.2 : Int)), []⟩, ⟨17, [], fun vs => PW.val (.int .i64 a3.1), []⟩, ⟨18, [], fun vs => PW.at [] w0 x4, []⟩, ⟨19, [], fun vs => PW.at [] w0 x4.2.1, []⟩, ⟨20, [], fun vs => PW.ro [] w0 x4.2.1, []⟩, ⟨21, [], fun vs => PW.val (.int .i64 (List.length x4.2.1 : Int)), []⟩] [[], [13], [], [17], [18], [19], [20]] 8 rfl (by kernel_rfl) (by kernel_rfl) rfl ?_ ?_
    ·refine StepsE_cons rfl ?_ ?_
     ·intro w6 hB6
      refine DepsE_nil ?_
      refine ⟨_, rfl, ?_⟩
      refine WL_guard rfl rfl ?_
      refine WL_load_box (hC5.grow hB6) 0 rfl rfl Tryz.isAgg24 rfl rfl ?_
      refine WL_nil ?_
      exact FinE_val (Below.refl _ _) rfl rfl ⟨rfl, rfl⟩
     refine StepsE_cons rfl ?_ ?_
     ·intro w6 hB6
      refine DepsE_cons rfl rfl rfl ?_
      rintro _ _ ⟨rfl, rfl⟩ _
      refine DepsE_nil ?_
      refine ⟨_, rfl, ?_⟩
      refine WL_guard rfl rfl ?_
      refine WL_len Tryz.underlying24 g3 rfl rfl ?_
      refine WL_nil ?_
      exact FinE_val (Below.refl _ _) rfl rfl ⟨rfl, rfl⟩
     refine StepsE_cons rfl ?_ ?_
     ·intro w6 hB6
      refine DepsE_nil ?_
      refine ⟨_, rfl, ?_⟩
      refine WL_guard rfl rfl ?_
      refine WL_load_box (hC5.grow hB6) 0 rfl rfl Tryz.isAgg3 rfl rfl ?_
      refine WL_nil ?_
      exact FinE_val (Below.refl _ _) rfl rfl ⟨rfl, rfl⟩
     refine StepsE_cons rfl ?_ ?_
     ·intro w6 hB6
      refine DepsE_cons rfl rfl rfl ?_
      rintro _ _ ⟨rfl, rfl⟩ _
      refine DepsE_nil ?_
      refine ⟨_, rfl, ?_⟩
      refine WL_guard rfl rfl ?_
      refine WL_index Tryz.underlying25 ty93 g2 hx1 rfl rfl rfl (fun b2 o1 h1 => ?_)
      refine WL_nil ?_
      exact FinE_val (Below.refl _ _) rfl rfl ⟨rfl, _, _, rfl, h1⟩
     refine StepsE_cons rfl ?_ ?_
     ·intro w6 hB6
      refine DepsE_cons rfl rfl rfl ?_
      rintro _ _ ⟨rfl, b2, o1, rfl, h1⟩ _
      refine DepsE_nil ?_
      refine ⟨_, rfl, ?_⟩
      refine WL_guard rfl rfl ?_
      refine WL_field Tryz.underlying93 rfl rfl (fun w => ⟨_, Tryz.sizeOf24 w⟩) rfl rfl ?_
      refine WL_nil ?_
      exact FinE_val (Below.refl _ _) rfl rfl ⟨rfl, _, _, rfl, h1.snd.fst⟩
     refine StepsE_cons rfl ?_ ?_
     ·intro w6 hB6
      refine DepsE_cons rfl rfl rfl ?_
      rintro _ _ ⟨rfl, b3, o2, rfl, h2⟩ _
      refine DepsE_nil ?_
      refine ⟨_, rfl, ?_⟩
      refine WL_guard rfl rfl ?_
      refine WL_load ty24 h2 (hC5.keep.then hB6) rfl rfl (fun v1 h3 => ?_)
      refine WL_nil ?_
      exact FinE_val (Below.refl _ _) rfl rfl ⟨rfl, h3⟩
     refine StepsE_cons rfl ?_ ?_
     ·intro w6 hB6
      refine DepsE_cons rfl rfl rfl ?_
      rintro v1 _ ⟨rfl, h3⟩ _
      refine DepsE_nil ?_
      refine ⟨_, rfl, ?_⟩
      refine WL_guard rfl rfl ?_
      refine WL_len Tryz.underlying24 h3 rfl rfl ?_
      refine WL_nil ?_
      exact FinE_val (Below.refl _ _) rfl rfl ⟨rfl, rfl⟩
     exact StepsE_nil
    intro w7 hB7
    refine AllE_cons rfl rfl rfl ?_
    rintro _ _ ⟨rfl, rfl⟩
    refine AllE_cons rfl rfl rfl ?_
    rintro _ _ ⟨rfl, rfl⟩
    refine AllE_cons rfl rfl rfl ?_
    rintro _ _ ⟨rfl, rfl⟩
    refine AllE_cons rfl rfl rfl ?_
    rintro _ _ ⟨rfl, b2, o1, rfl, h1⟩
    refine AllE_cons rfl rfl rfl ?_
    rintro _ _ ⟨rfl, b3, o2, rfl, h2⟩
    refine AllE_cons rfl rfl rfl ?_
    rintro v1 _ ⟨rfl, h3⟩
    refine AllE_cons rfl rfl rfl ?_
    rintro _ _ ⟨rfl, rfl⟩
    refine AllE_nil ?_
    intro hn1 hb1
    have hC6 := hC5.grow hB7
    refine WA_takeG 22 rfl (by kernel_rfl) (by kernel_rfl) (by kernel_rfl) rfl rfl rfl (fl_eql rfl rfl) ?_
    refine WL_guard rfl rfl ?_
    refine WL_eql rfl rfl rfl ?_
    refine WL_nil ?_
    refine WA_tk 23 (by kernel_rfl) rfl rfl (fl_pick_t rfl rfl) ?_
    refine WL_pick_t rfl rfl rfl ?_
    refine WL_nil ?_
    refine WA_tk 24 (by kernel_rfl) rfl rfl (fl_move rfl) ?_
    refine WL_move rfl rfl ?_
    refine WL_nil ?_
    refine WA_fork (fun hc3 => ?_) (fun hc3 => ?_)
    ·replace hr1 := ite_t hr1 hc3
     refine WA_takeG 25 rfl (by kernel_rfl) (by kernel_rfl) (by kernel_rfl) rfl rfl rfl (fl_field Tryz.underlying44 rfl rfl (fun w => ⟨_, Tryz.sizeOf24 w⟩) rfl) ?_
     refine WL_guard rfl rfl ?_
     refine WL_field Tryz.underlying44 rfl rfl (fun w => ⟨_, Tryz.sizeOf24 w⟩) rfl rfl ?_
     refine WL_nil ?_
     refine WA_one 26 (by kernel_rfl) rfl ?_
     refine WL_guard rfl rfl ?_
     refine WL_load_box hC6 0 rfl rfl Tryz.isAgg24 rfl rfl ?_
     refine WL_nil ?_
     obtain ⟨x5, hr4, hr1⟩ := bind_some hr1
     refine WA_one 27 (by kernel_rfl) rfl ?_
     refine WL_guard rfl rfl ?_
     refine WL_call Tryz.call148 rfl rfl (c_M_areValues a3.2 u3 (g3.now hC6.keep) x5 hr4) ?_
     intro _ w9 hv3
     obtain ⟨rfl, hB8⟩ := res_bool hv3
     have hC7 := hC6.grow hB8
     refine WL_nil ?_
     refine WA_tk 28 (by kernel_rfl) rfl rfl (fl_pick_t rfl rfl) ?_
     refine WL_pick_t rfl rfl rfl ?_
     refine WL_nil ?_
     refine WA_tk 29 (by kernel_rfl) rfl rfl (fl_assign rfl) ?_
     refine WL_assign rfl rfl ?_
     refine WL_nil ?_
     refine WA_done (by kernel_rfl) ?_
     have hq1 := Option.some.inj hr1
     subst hq1
     have hC8 := hC7.h0
     refine nrm_sub (l' := [(6, (.bool x5))]) ⟨rfl, trivial⟩ ?_
     exact ⟨x5, rfl, rfl, (((((Keep.of hB3).then hB4).then hB5).then hB7).then hB8).below, hC8⟩
    replace hr1 := ite_f hr1 hc3
    refine WA_sk 25 (by kernel_rfl) rfl rfl rfl rfl (by simp) rfl rfl ?_
    refine WA_sk 26 (by kernel_rfl) rfl rfl rfl rfl (by simp) rfl rfl ?_
    refine WA_sk 27 (by kernel_rfl) rfl rfl rfl rfl (by simp) rfl rfl ?_
    refine WA_tk 28 (by kernel_rfl) rfl rfl (fl_pick_f rfl rfl) ?_
    refine WL_pick_f rfl rfl rfl ?_
    refine WL_nil ?_
    refine WA_tk 29 (by kernel_rfl) rfl rfl (fl_assign rfl) ?_
    refine WL_assign rfl rfl ?_
    refine WL_nil ?_
    refine WA_done (by kernel_rfl) ?_
    have hq2 := Option.some.inj hr1
    subst hq2
    have hC9 := hC6.h0
    refine nrm_sub (l' := [(6, (.bool false))]) ⟨rfl, trivial⟩ ?_
    exact ⟨false, rfl, rfl, ((((Keep.of hB3).then hB4).then hB5).then hB7).below, hC9⟩
   replace hr1 := ite_f hr1 hc2
   refine WA_sk 12 (by kernel_rfl) rfl rfl rfl rfl (by simp) rfl rfl ?_
   refine WA_sk 13 (by kernel_rfl) rfl rfl rfl rfl (by simp) rfl rfl ?_
   refine WA_sk 14 (by kernel_rfl) rfl rfl rfl rfl (by simp) rfl rfl ?_
   refine WA_sk 15 (by kernel_rfl) rfl rfl rfl rfl (by simp) rfl rfl ?_
   refine WA_sk 16 (by kernel_rfl) rfl rfl rfl rfl (by simp) rfl rfl ?_
   refine WA_sk 17 (by kernel_rfl) rfl rfl rfl rfl (by simp) rfl rfl ?_
   refine WA_sk 18 (by kernel_rfl) rfl rfl rfl rfl (by simp) rfl rfl ?_
   refine WA_sk 19 (by kernel_rfl) rfl rfl rfl rfl (by simp) rfl rfl ?_
   refine WA_sk 20 (by kernel_rfl) rfl rfl rfl rfl (by simp) rfl rfl ?_
   refine WA_sk 21 (by kernel_rfl) rfl rfl rfl rfl (by simp) rfl rfl ?_
   refine WA_sk 22 (by kernel_rfl) rfl rfl rfl rfl (by simp) rfl rfl ?_
   refine WA_tk 23 (by kernel_rfl) rfl rfl (fl_pick_f rfl rfl) ?_
   refine WL_pick_f rfl rfl rfl ?_
   refine WL_nil ?_
   refine WA_tk 24 (by kernel_rfl) rfl rfl (fl_move rfl) ?_
   refine WL_move rfl rfl ?_
   refine WL_nil ?_
   refine WA_sk 25 (by kernel_rfl) rfl rfl rfl rfl (by simp) rfl rfl ?_
   refine WA_sk 26 (by kernel_rfl) rfl rfl rfl rfl (by simp) rfl rfl ?_
   refine WA_sk 27 (by kernel_rfl) rfl rfl rfl rfl (by simp) rfl rfl ?_
   refine WA_tk 28 (by kernel_rfl) rfl rfl (fl_pick_f rfl rfl) ?_
   refine WL_pick_f rfl rfl rfl ?_
   refine WL_nil ?_
   refine WA_tk 29 (by kernel_rfl) rfl rfl (fl_assign rfl) ?_
   refine WL_assign rfl rfl ?_
   refine WL_nil ?_
   refine WA_done (by kernel_rfl) ?_
   have hq3 := Option.some.inj hr1
   subst hq3
   have hC10 := hC5.h0
   refine nrm_sub (l' := [(6, (.bool false))]) ⟨rfl, trivial⟩ ?_
   exact ⟨false, rfl, rfl, (((Keep.of hB3).then hB4).then hB5).below, hC10⟩
  replace hr1 := ite_f hr1 hc1
  refine WA_sk 4 (by kernel_rfl) rfl rfl rfl rfl (by simp) rfl rfl ?_
  refine WA_sk 5 (by kernel_rfl) rfl rfl rfl rfl (by simp) rfl rfl ?_
  refine WA_sk 6 (by kernel_rfl) rfl rfl rfl rfl (by simp) rfl rfl ?_
  refine WA_sk 7 (by kernel_rfl) rfl rfl rfl rfl (by simp) rfl rfl ?_
  refine WA_sk 8 (by kernel_rfl) rfl rfl rfl rfl (by simp) rfl rfl ?_
  refine WA_sk 9 (by kernel_rfl) rfl rfl rfl rfl (by simp) rfl rfl ?_
  refine WA_tk 10 (by kernel_rfl) rfl rfl (fl_pick_f rfl rfl) ?_
  refine WL_pick_f rfl rfl rfl ?_
  refine WL_nil ?_
  refine WA_tk 11 (by kernel_rfl) rfl rfl (fl_move rfl) ?_
  refine WL_move rfl rfl ?_
  refine WL_nil ?_
  refine WA_sk 12 (by kernel_rfl) rfl rfl rfl rfl (by simp) rfl rfl ?_
  refine WA_sk 13 (by kernel_rfl) rfl rfl rfl rfl (by simp) rfl rfl ?_
  refine WA_sk 14 (by kernel_rfl) rfl rfl rfl rfl (by simp) rfl rfl ?_
  refine WA_sk 15 (by kernel_rfl) rfl rfl rfl rfl (by simp) rfl rfl ?_
  refine WA_sk 16 (by kernel_rfl) rfl rfl rfl rfl (by simp) rfl rfl ?_
  refine WA_sk 17 (by kernel_rfl) rfl rfl rfl rfl (by simp) rfl rfl ?_
  refine WA_sk 18 (by kernel_rfl) rfl rfl rfl rfl (by simp) rfl rfl ?_
  refine WA_sk 19 (by kernel_rfl) rfl rfl rfl rfl (by simp) rfl rfl ?_
  refine WA_sk 20 (by kernel_rfl) rfl rfl rfl rfl (by simp) rfl rfl ?_
  refine WA_sk 21 (by kernel_rfl) rfl rfl rfl rfl (by simp) rfl rfl ?_
  refine WA_sk 22 (by kernel_rfl) rfl rfl rfl rfl (by simp) rfl rfl ?_
  refine WA_tk 23 (by kernel_rfl) rfl rfl (fl_pick_f rfl rfl) ?_
  refine WL_pick_f rfl rfl rfl ?_
  refine WL_nil ?_
  refine WA_tk 24 (by kernel_rfl) rfl rfl (fl_move rfl) ?_
  refine WL_move rfl rfl ?_
  refine WL_nil ?_
  refine WA_sk 25 (by kernel_rfl) rfl rfl rfl rfl (by simp) rfl rfl ?_
  refine WA_sk 26 (by kernel_rfl) rfl rfl rfl rfl (by simp) rfl rfl ?_
  refine WA_sk 27 (by kernel_rfl) rfl rfl rfl rfl (by simp) rfl rfl ?_
  refine WA_tk 28 (by kernel_rfl) rfl rfl (fl_pick_f rfl rfl) ?_
  refine WL_pick_f rfl rfl rfl ?_
  refine WL_nil ?_
  refine WA_tk 29 (by kernel_rfl) rfl rfl (fl_assign rfl) ?_
  refine WL_assign rfl rfl ?_
  refine WL_nil ?_
  refine WA_done (by kernel_rfl) ?_
  have hq4 := Option.some.inj hr1
  subst hq4
  have hC11 := hC4.h0
  refine nrm_sub (l' := [(6, (.bool false))]) ⟨rfl, trivial⟩ ?_
  exact ⟨false, rfl, rfl, ((Keep.of hB3).then hB4).below, hC11⟩
 rintro _ w2 ⟨x1, rfl, rfl, hB2, hC2⟩
 try dsimp only at hF
 refine W_ret ?_
 have hq5 := Option.some.inj hF
 subst hq5
 refine fn_ret1 rfl rfl ?_
 exact ⟨_, rfl, bool_res hC2 _⟩

theorem c_Cmp_Or_int {w0 : World} (a1 : (List Int)) (u1 : Value) (g1 : RO [] w0 u1 a1) (rr : Int) (hF : Cmp.Or_int a1 = some rr) :
 Calls Tryz.prog 176 [u1].toArray w0 fun e w' => ∃ v, e = .returned v ∧ Res w0 rr v w' := by
 refine calls_of_W Tryz.func176 rfl rfl ?_
 have hC0 := Ctx.start w0
 unfold Cmp.Or_int at hF
 refine W_seq_reg ?_
 refine WL_assign rfl rfl ?_
 refine WL_nil ?_
 refine W_seq_reg ?_
 refine WL_assign rfl rfl ?_
 refine WL_nil ?_
 refine W_seq ?_
 refine W_seq_reg ?_
 refine WL_move rfl rfl ?_
 refine WL_len Tryz.underlying24 g1 rfl rfl ?_
 refine WL_move rfl rfl ?_
 refine WL_nil ?_
 obtain ⟨r1, hr1, hF⟩ := bind_some hF
 refine W_norm (fun l w => .inl () = r1 ∧ l = [(3, (.int .i64 0))] ∧ Below w0.heap.size w0 w ∧ Ctx [] w0 w []) ?_ ?_
 ·refine W_block ?_
  refine W.sub (l' := [(3, (.int .i64 0)), (6, u1), (7, (.int .i64 (List.length a1 : Int))), (8, (.int .i64 0))]) ?_ ⟨rfl, rfl, rfl, rfl, trivial⟩
  refine W_loop (fun k l w => ∃ x1 : Int, l = [(3, (.int .i64 0)), (6, u1), (7, (.int .i64 (List.length a1 : Int))), (8, (.int .i64 x1))] ∧ Below w0.heap.size w0 w ∧ Ctx [] w0 w [] ∧ Cmp.Or_int_l1 a1 k x1 = some r1) FUEL ⟨0, rfl, (Below.refl _ _), hC0, hr1⟩ ?_
  clear hr1
  rintro k1 _ w1 ⟨x1, rfl, hB1, hC1, hL1⟩
  cases k1 with
  | zero => rw [Cmp.Or_int_l1] at hL1; cases hL1
  | succ k1 =>
   rw [Cmp.Or_int_l1] at hL1
   refine W_seq_reg ?_
   refine WL_lss rfl rfl rfl ?_
   refine WL_nil ?_
   refine W_seq ?_
   refine W_cond rfl (fun hc1 => ?_) (fun hc1 => ?_)
   ·replace hL1 := ite_t hL1 hc1
    refine W_skip ?_
    refine nrm_normal ?_
    refine W_seq ?_
    refine W_block ?_
    refine W_seq_reg ?_
    obtain ⟨x2, hx1, hL1⟩ := bind_some hL1
    refine WL_index Tryz.underlying24 ty3 g1 hx1 rfl rfl rfl (fun b1 o1 h1 => ?_)
    refine WL_load ty3 h1 hC1.keep rfl rfl (fun v1 h2 => ?_)
    obtain rfl := ro_int h2
    refine WL_assign rfl rfl ?_
    refine WL_nil ?_
    refine W_seq_reg ?_
    refine WL_move rfl rfl ?_
    refine WL_move rfl rfl ?_
    refine WL_neq rfl rfl rfl ?_
    refine WL_nil ?_
    refine W_cond rfl (fun hc2 => ?_) (fun hc2 => ?_)
    ·replace hL1 := ite_t hL1 hc2
     refine W_seq_reg ?_
     refine WL_move rfl rfl ?_
     refine WL_assign rfl rfl ?_
     refine WL_nil ?_
     refine W_ret ?_
     refine blk_ret ?_
     refine nrm_ret ?_
     refine nrm_ret ?_
     refine blk_ret ?_
     refine nrm_ret ?_
     refine nrm_ret ?_
     have hq1 := Option.some.inj hL1
     subst hq1
     dsimp only at hF
     have hq2 := Option.some.inj hF
     subst hq2
     refine fn_ret1 rfl rfl ?_
     exact ⟨_, rfl, int_res hC1 _⟩
    replace hL1 := ite_f hL1 hc2
    refine W_skip ?_
    refine blk_normal ?_
    refine nrm_normal ?_
    refine W_reg ?_
    refine WL_add rfl rfl rfl ?_
    refine WL_move rfl rfl ?_
    refine WL_nil ?_
    refine nrm_sub (l' := [(3, (.int .i64 0)), (6, u1), (7, (.int .i64 (List.length a1 : Int))), (8, (.int .i64 (w64 (x1 + 1))))]) ⟨rfl, rfl, rfl, rfl, trivial⟩ ?_
    exact ⟨k1, Nat.lt_succ_self _, w64 (x1 + 1), rfl, (Keep.of hB1).below, hC1, hL1⟩
   replace hL1 := ite_f hL1 hc1
   refine W_exit ?_
   refine nrm_exit ?_
   refine nrm_exit ?_
   refine blk_exit ?_
   have hq3 := Option.some.inj hL1
   subst hq3
   refine nrm_sub (l' := [(3, (.int .i64 0))]) ⟨rfl, trivial⟩ ?_
   exact ⟨rfl, rfl, (Keep.of hB1).below, hC1⟩
 rintro l2 _ w2 hs2 ⟨rfl, rfl, hB2, hC2⟩
 try dsimp only at hF
 refine nrm_sub' hs2 ?_
 clear hs2
 refine W_seq_reg ?_
 refine WL_move rfl rfl ?_
 refine WL_assign rfl rfl ?_
 refine WL_nil ?_
 refine W_ret ?_
 have hq4 := Option.some.inj hF
 subst hq4
 refine fn_ret1 rfl rfl ?_
 exact ⟨_, rfl, int_res hC2 _⟩

theorem c_Cmp_isNaN_int {w0 : World} (a1 : Int) (rr : Bool) (hF : Cmp.isNaN_int a1 = some rr) :
 Calls Tryz.prog 203 [(.int .i64 a1)].toArray w0 fun e w' => ∃ v, e = .returned v ∧ Res w0 rr v w' := by
 refine calls_of_W Tryz.func203 rfl rfl ?_
 have hC0 := Ctx.start w0
 unfold Cmp.isNaN_int at hF
 refine W_seq_reg ?_
 refine WL_assign rfl rfl ?_
 refine WL_nil ?_
 refine W_seq_reg ?_
 refine WL_move rfl rfl ?_
 refine WL_move rfl rfl ?_
 refine WL_neq rfl rfl rfl ?_
 refine WL_assign rfl rfl ?_
 refine WL_nil ?_
 refine W_ret ?_
 have hq1 := Option.some.inj hF
 subst hq1
 refine fn_ret1 rfl rfl ?_
 exact ⟨_, rfl, bool_res hC0 _⟩

theorem c_Cmp_Compare_int {w0 : World} (a1 : Int) (a2 : Int) (rr : Int) (hF : Cmp.Compare_int a1 a2 = some rr) :
 Calls Tryz.prog 177 [(.int .i64 a1), (.int .i64 a2)].toArray w0 fun e w' => ∃ v, e = .returned v ∧ Res w0 rr v w' := by
 refine calls_of_W Tryz.func177 rfl rfl ?_
 have hC0 := Ctx.start w0
 unfold Cmp.Compare_int at hF
 refine W_seq_reg ?_
 refine WL_assign rfl rfl ?_
 refine WL_nil ?_
 refine W_seq_reg ?_
 refine WL_move rfl rfl ?_
 obtain ⟨x1, hr1, hF⟩ := bind_some hF
 refine WL_call Tryz.call203 rfl rfl (c_Cmp_isNaN_int a1 x1 hr1) ?_
 intro _ w1 hv1
 obtain ⟨rfl, hB1⟩ := res_bool hv1
 have hC1 := hC0.grow hB1
 refine WL_assign rfl rfl ?_
 refine WL_nil ?_
 refine W_seq_reg ?_
 refine WL_move rfl rfl ?_
 obtain ⟨x2, hr2, hF⟩ := bind_some hF
 refine WL_call Tryz.call203 rfl rfl (c_Cmp_isNaN_int a2 x2 hr2) ?_
 intro _ w2 hv2
 obtain ⟨rfl, hB2⟩ := res_bool hv2
 have hC2 := hC1.grow hB2
 refine WL_assign rfl rfl ?_
 refine WL_nil ?_
 refine W_seq ?_
 refine W_seq_reg ?_
 refine WL_move rfl rfl ?_
 refine WL_nil ?_
 refine W_cond rfl (fun hc1 => ?_) (fun hc1 => ?_)
 ·replace hF := ite_t hF hc1
  refine W_seq ?_
  refine W_seq_reg ?_
  refine WL_move rfl rfl ?_
  refine WL_nil ?_
  refine W_cond rfl (fun hc2 => ?_) (fun hc2 => ?_)
  ·replace hF := ite_t hF hc2
   refine W_seq_reg ?_
   refine WL_assign rfl rfl ?_
   refine WL_nil ?_
   refine W_ret ?_
   refine nrm_ret ?_
   refine nrm_ret ?_
   have hq1 := Option.some.inj hF
   subst hq1
   refine fn_ret1 rfl rfl ?_
   exact ⟨_, rfl, int_res hC2 _⟩
  replace hF := ite_f hF hc2
  refine W_skip ?_
  refine nrm_normal ?_
  refine W_seq_reg ?_
  refine WL_assign rfl rfl ?_
  refine WL_nil ?_
  refine W_ret ?_
  refine nrm_ret ?_
  have hq2 := Option.some.inj hF
  subst hq2
  refine fn_ret1 rfl rfl ?_
  exact ⟨_, rfl, int_res hC2 _⟩
 replace hF := ite_f hF hc1
 refine W_skip ?_
 refine nrm_normal ?_
 refine W_seq ?_
 refine W_seq_reg ?_
 refine WL_move rfl rfl ?_
 refine WL_nil ?_
 refine W_cond rfl (fun hc3 => ?_) (fun hc3 => ?_)
 ·replace hF := ite_t hF hc3
  refine W_seq_reg ?_
  refine WL_assign rfl rfl ?_
  refine WL_nil ?_
  refine W_ret ?_
  refine nrm_ret ?_
  have hq3 := Option.some.inj hF
  subst hq3
  refine fn_ret1 rfl rfl ?_
  exact ⟨_, rfl, int_res hC2 _⟩
 replace hF := ite_f hF hc3
 refine W_skip ?_
 refine nrm_normal ?_
 refine W_seq ?_
 refine W_seq_reg ?_
 refine WL_move rfl rfl ?_
 refine WL_move rfl rfl ?_
 refine WL_lss rfl rfl rfl ?_
 refine WL_nil ?_
 refine W_cond rfl (fun hc4 => ?_) (fun hc4 => ?_)
 ·replace hF := ite_t hF hc4
  refine W_seq_reg ?_
  refine WL_assign rfl rfl ?_
  refine WL_nil ?_
  refine W_ret ?_
  refine nrm_ret ?_
  have hq4 := Option.some.inj hF
  subst hq4
  refine fn_ret1 rfl rfl ?_
  exact ⟨_, rfl, int_res hC2 _⟩
 replace hF := ite_f hF hc4
 refine W_skip ?_
 refine nrm_normal ?_
 refine W_seq ?_
 refine W_seq_reg ?_
 refine WL_move rfl rfl ?_
 refine WL_move rfl rfl ?_
 refine WL_gtr rfl rfl rfl ?_
 refine WL_nil ?_
 refine W_cond rfl (fun hc5 => ?_) (fun hc5 => ?_)
 ·replace hF := ite_t hF hc5
  refine W_seq_reg ?_
  refine WL_assign rfl rfl ?_
  refine WL_nil ?_
  refine W_ret ?_
  refine nrm_ret ?_
  have hq5 := Option.some.inj hF
  subst hq5
  refine fn_ret1 rfl rfl ?_
  exact ⟨_, rfl, int_res hC2 _⟩
 replace hF := ite_f hF hc5
 refine W_skip ?_
 refine nrm_normal ?_
 refine W_seq_reg ?_
 refine WL_assign rfl rfl ?_
 refine WL_nil ?_
 refine W_ret ?_
 have hq6 := Option.some.inj hF
 subst hq6
 refine fn_ret1 rfl rfl ?_
 exact ⟨_, rfl, int_res hC2 _⟩

theorem c_Slices_Compare_Lint_int {w0 : World} (a1 : (List Int)) (u1 : Value) (g1 : RO [] w0 u1 a1) (a2 : (List Int)) (u2 : Value) (g2 : RO [] w0 u2 a2) (rr : Int) (hF : Slices.Compare_Lint_int a1 a2 = some rr) :
 Calls Tryz.prog 178 [u1, u2].toArray w0 fun e w' => ∃ v, e = .returned v ∧ Res w0 rr v w' := by
 refine calls_of_W Tryz.func178 rfl rfl ?_
 have hC0 := Ctx.start w0
 unfold Slices.Compare_Lint_int at hF
 refine W_seq_reg ?_
 refine WL_assign rfl rfl ?_
 refine WL_nil ?_
 refine W_seq ?_
 refine W_seq_reg ?_
 refine WL_move rfl rfl ?_
 refine WL_len Tryz.underlying24 g1 rfl rfl ?_
 refine WL_move rfl rfl ?_
 refine WL_nil ?_
 obtain ⟨r1, hr1, hF⟩ := bind_some hF
 refine W_norm (fun l w => .inl () = r1 ∧ l = [(0, u1), (1, u2)] ∧ Below w0.heap.size w0 w ∧ Ctx [] w0 w []) ?_ ?_
 ·refine W_block ?_
  refine W.sub (l' := [(0, u1), (1, u2), (9, u1), (10, (.int .i64 (List.length a1 : Int))), (11, (.int .i64 0))]) ?_ ⟨rfl, rfl, rfl, rfl, rfl, trivial⟩
  refine W_loop (fun k l w => ∃ x1 : Int, l = [(0, u1), (1, u2), (9, u1), (10, (.int .i64 (List.length a1 : Int))), (11, (.int .i64 x1))] ∧ Below w0.heap.size w0 w ∧ Ctx [] w0 w [] ∧ Slices.Compare_Lint_int_l1 a1 a2 k x1 = some r1) FUEL ⟨0, rfl, (Below.refl _ _), hC0, hr1⟩ ?_
  clear hr1
  rintro k1 _ w1 ⟨x1, rfl, hB1, hC1, hL1⟩
  cases k1 with
  | zero => rw [Slices.Compare_Lint_int_l1] at hL1; cases hL1
  | succ k1 =>
   rw [Slices.Compare_Lint_int_l1] at hL1
   refine W_seq_reg ?_
   refine WL_lss rfl rfl rfl ?_
   refine WL_nil ?_
   refine W_seq ?_
   refine W_cond rfl (fun hc1 => ?_) (fun hc1 => ?_)
   ·replace hL1 := ite_t hL1 hc1
    refine W_skip ?_
    refine nrm_normal ?_
    refine W_seq ?_
    refine W_block ?_
    refine W_seq_reg ?_
    refine WL_move rfl rfl ?_
    obtain ⟨x2, hx1, hL1⟩ := bind_some hL1
    refine WL_index Tryz.underlying24 ty3 g1 hx1 rfl rfl rfl (fun b1 o1 h1 => ?_)
    refine WL_load ty3 h1 hC1.keep rfl rfl (fun v1 h2 => ?_)
    obtain rfl := ro_int h2
    refine WL_assign rfl rfl ?_
    refine WL_assign rfl rfl ?_
    refine WL_nil ?_
    refine W_seq ?_
    refine W_seq_reg ?_
    refine WL_move rfl rfl ?_
    refine WL_move rfl rfl ?_
    refine WL_len Tryz.underlying24 g2 rfl rfl ?_
    refine WL_geq rfl rfl rfl ?_
    refine WL_nil ?_
    refine W_cond rfl (fun hc2 => ?_) (fun hc2 => ?_)
    ·replace hL1 := ite_t hL1 hc2
     refine W_seq_reg ?_
     refine WL_assign rfl rfl ?_
     refine WL_nil ?_
     refine W_ret ?_
     refine nrm_ret ?_
     refine blk_ret ?_
     refine nrm_ret ?_
     refine nrm_ret ?_
     refine blk_ret ?_
     refine nrm_ret ?_
     refine nrm_ret ?_
     have hq1 := Option.some.inj hL1
     subst hq1
     dsimp only at hF
     have hq2 := Option.some.inj hF
     subst hq2
     refine fn_ret1 rfl rfl ?_
     exact ⟨_, rfl, int_res hC1 _⟩
    replace hL1 := ite_f hL1 hc2
    refine W_skip ?_
    refine nrm_normal ?_
    refine W_seq_reg ?_
    refine WL_move rfl rfl ?_
    refine WL_move rfl rfl ?_
    obtain ⟨x3, hx2, hL1⟩ := bind_some hL1
    refine WL_index Tryz.underlying24 ty3 g2 hx2 rfl rfl rfl (fun b2 o2 h3 => ?_)
    refine WL_load ty3 h3 hC1.keep rfl rfl (fun v2 h4 => ?_)
    obtain rfl := ro_int h4
    refine WL_assign rfl rfl ?_
    refine WL_nil ?_
    refine W_seq_reg ?_
    refine WL_move rfl rfl ?_
    refine WL_move rfl rfl ?_
    obtain ⟨x4, hr2, hL1⟩ := bind_some hL1
    refine WL_call Tryz.call177 rfl rfl (c_Cmp_Compare_int x2 x3 x4 hr2) ?_
    intro _ w2 hv1
    obtain ⟨rfl, hB2⟩ := res_int hv1
    have hC2 := hC1.grow hB2
    refine WL_assign rfl rfl ?_
    refine WL_nil ?_
    refine W_seq_reg ?_
    refine WL_move rfl rfl ?_
    refine WL_neq rfl rfl rfl ?_
    refine WL_nil ?_
    refine W_cond rfl (fun hc3 => ?_) (fun hc3 => ?_)
    ·replace hL1 := ite_t hL1 hc3
     refine W_seq_reg ?_
     refine WL_move rfl rfl ?_
     refine WL_assign rfl rfl ?_
     refine WL_nil ?_
     refine W_ret ?_
     refine blk_ret ?_
     refine nrm_ret ?_
     refine nrm_ret ?_
     refine blk_ret ?_
     refine nrm_ret ?_
     refine nrm_ret ?_
     have hq3 := Option.some.inj hL1
     subst hq3
     dsimp only at hF
     have hq4 := Option.some.inj hF
     subst hq4
     refine fn_ret1 rfl rfl ?_
     exact ⟨_, rfl, int_res hC2 _⟩
    replace hL1 := ite_f hL1 hc3
    refine W_skip ?_
    refine blk_normal ?_
    refine nrm_normal ?_
    refine W_reg ?_
    refine WL_add rfl rfl rfl ?_
    refine WL_move rfl rfl ?_
    refine WL_nil ?_
    refine nrm_sub (l' := [(0, u1), (1, u2), (9, u1), (10, (.int .i64 (List.length a1 : Int))), (11, (.int .i64 (w64 (x1 + 1))))]) ⟨rfl, rfl, rfl, rfl, rfl, trivial⟩ ?_
    exact ⟨k1, Nat.lt_succ_self _, w64 (x1 + 1), rfl, ((Keep.of hB1).then hB2).below, hC2, hL1⟩
   replace hL1 := ite_f hL1 hc1
   refine W_exit ?_
   refine nrm_exit ?_
   refine nrm_exit ?_
   refine blk_exit ?_
   have hq5 := Option.some.inj hL1
   subst hq5
   refine nrm_sub (l' := [(0, u1), (1, u2)]) ⟨rfl, rfl, trivial⟩ ?_
   exact ⟨rfl, rfl, (Keep.of hB1).below, hC1⟩
 rintro l2 _ w3 hs2 ⟨rfl, rfl, hB3, hC3⟩
 try dsimp only at hF
 refine nrm_sub' hs2 ?_
 clear hs2
 refine W_seq ?_
 refine W_seq_reg ?_
 refine WL_move rfl rfl ?_
 refine WL_len Tryz.underlying24 g1 rfl rfl ?_
 refine WL_move rfl rfl ?_
 refine WL_len Tryz.underlying24 g2 rfl rfl ?_
 refine WL_lss rfl rfl rfl ?_
 refine WL_nil ?_
 refine W_cond rfl (fun hc4 => ?_) (fun hc4 => ?_)
 ·replace hF := ite_t hF hc4
  refine W_seq_reg ?_
  refine WL_assign rfl rfl ?_
  refine WL_nil ?_
  refine W_ret ?_
  refine nrm_ret ?_
  have hq6 := Option.some.inj hF
  subst hq6
  refine fn_ret1 rfl rfl ?_
  exact ⟨_, rfl, int_res hC3 _⟩
 replace hF := ite_f hF hc4
 refine W_skip ?_
 refine nrm_normal ?_
 refine W_seq_reg ?_
 refine WL_assign rfl rfl ?_
 refine WL_nil ?_
 refine W_ret ?_
 have hq7 := Option.some.inj hF
 subst hq7
 refine fn_ret1 rfl rfl ?_
 exact ⟨_, rfl, int_res hC3 _⟩

theorem c_M_CompareFacts {w0 : World} (a1 : (Int × (List Int))) (u1 : Value) (g1 : RO [] w0 u1 a1.2) (a2 : (Int × (List Int))) (u2 : Value) (g2 : RO [] w0 u2 a2.2) (rr : Int) (hF : M.CompareFacts a1 a2 = some rr) :
 Calls Tryz.prog 128 [(.agg #[(.int .i64 a1.1), u1]), (.agg #[(.int .i64 a2.1), u2])].toArray w0 fun e w' => ∃ v, e = .returned v ∧ Res w0 rr v w' := by
 refine calls_of_W Tryz.func128 rfl rfl ?_
 have hC0 := Ctx.start w0
 unfold M.CompareFacts at hF
 refine W_seq_reg ?_
 refine WL_boxK (cs := [(.int .i64 a1.1), u1]) hC0 rfl rfl rfl (fun b1 w1 hC1 hB1 hN1 => ?_)
 refine WL_boxK (cs := [(.int .i64 a2.1), u2]) hC1 rfl rfl rfl (fun b2 w2 hC2 hB2 hN2 => ?_)
 refine WL_assign rfl rfl ?_
 refine WL_nil ?_
 refine W_seq ?_
 refine W_drawn 13 rfl hmix (fun w3 hB3 => ?_)
 have hC3 := hC2.grow hB3
 refine WA_tk 0 (by kernel_rfl) rfl rfl (fl_field Tryz.underlying88 rfl rfl (fun w => ⟨_, Tryz.sizeOf3 w⟩) rfl) ?_
 refine WL_field Tryz.underlying88 rfl rfl (fun w => ⟨_, Tryz.sizeOf3 w⟩) rfl rfl ?_
 refine WL_nil ?_
 refine WA_tk 2 (by kernel_rfl) rfl rfl (fl_field Tryz.underlying88 rfl rfl (fun w => ⟨_, Tryz.sizeOf3 w⟩) rfl) ?_
 refine WL_field Tryz.underlying88 rfl rfl (fun w => ⟨_, Tryz.sizeOf3 w⟩) rfl rfl ?_
 refine WL_nil ?_
 refine WA_tk 5 (by kernel_rfl) rfl rfl (fl_field Tryz.underlying88 rfl rfl (fun w => ⟨_, Tryz.sizeOf24 w⟩) rfl) ?_
 refine WL_field Tryz.underlying88 rfl rfl (fun w => ⟨_, Tryz.sizeOf24 w⟩) rfl rfl ?_
 refine WL_nil ?_
 refine WA_tk 7 (by kernel_rfl) rfl rfl (fl_field Tryz.underlying88 rfl rfl (fun w => ⟨_, Tryz.sizeOf24 w⟩) rfl) ?_
 refine WL_field Tryz.underlying88 rfl rfl (fun w => ⟨_, Tryz.sizeOf24 w⟩) rfl rfl ?_
 refine WL_nil ?_
 obtain ⟨x1, hr1, hF⟩ := bind_some hF
 refine WA.sub (l' := [(0, (.agg #[(.int .i64 a1.1), u1])), (1, (.agg #[(.int .i64 a2.1), u2])), (2, (ptr b1 0)), (3, (ptr b2 0)), (4, (.int .i64 0)), (5, (ptr b1 0)), (7, (ptr b2 0)), (10, (ptr b1 1)), (12, (ptr b2 1))]) ?_ ⟨rfl, rfl, rfl, rfl, rfl, rfl, rfl, rfl, rfl, trivial⟩
 refine WA_postsE [⟨1, [], fun vs => PW.val (.int .i64 a1.1), []⟩, ⟨3, [], fun vs => PW.val (.int .i64 a2.1), []⟩, ⟨4, [], fun vs => PW.val (.int .i64 x1), []⟩, ⟨6, [], fun vs => PW.val u1, []⟩, ⟨8, [], fun vs => PW.val u2, []⟩] [[], [], [1, 3], [], []] 4 rfl (by kernel_rfl) (by kernel_rfl) rfl ?_ ?_
 ·refine StepsE_cons rfl ?_ ?_
  ·intro w5 hB5
   refine DepsE_nil ?_
   refine ⟨_, rfl, ?_⟩
   refine WL_load_box (hC3.grow hB5) 1 rfl rfl Tryz.isAgg3 rfl rfl ?_
   refine WL_nil ?_
   exact FinE_val (Below.refl _ _) rfl rfl ⟨rfl, rfl⟩
  refine StepsE_cons rfl ?_ ?_
  ·intro w5 hB5
   refine DepsE_nil ?_
   refine ⟨_, rfl, ?_⟩
   refine WL_load_box (hC3.grow hB5) 0 rfl rfl Tryz.isAgg3 rfl rfl ?_
   refine WL_nil ?_
   exact FinE_val (Below.refl _ _) rfl rfl ⟨rfl, rfl⟩
  refine StepsE_cons rfl ?_ ?_
  ·intro w5 hB5
   refine DepsE_cons rfl rfl rfl ?_
   rintro _ _ ⟨rfl, rfl⟩ _
   refine DepsE_cons rfl rfl rfl ?_
   rintro _ _ ⟨rfl, rfl⟩ _
   refine DepsE_nil ?_
   refine ⟨_, rfl, ?_⟩
   refine WL_call Tryz.call177 rfl rfl (c_Cmp_Compare_int a1.1 a2.1 x1 hr1) ?_
   intro _ w4 hv1
   obtain ⟨rfl, hB4⟩ := res_int hv1
   refine WL_nil ?_
   exact FinE_val hB4 rfl rfl ⟨rfl, rfl⟩
  refine StepsE_cons rfl ?_ ?_
  ·intro w5 hB5
   refine DepsE_nil ?_
   refine ⟨_, rfl, ?_⟩
   refine WL_load_box (hC3.grow hB5) 1 rfl rfl Tryz.isAgg24 rfl rfl ?_
   refine WL_nil ?_
   exact FinE_val (Below.refl _ _) rfl rfl ⟨rfl, rfl⟩
  refine StepsE_cons rfl ?_ ?_
  ·intro w5 hB5
   refine DepsE_nil ?_
   refine ⟨_, rfl, ?_⟩
   refine WL_load_box (hC3.grow hB5) 0 rfl rfl Tryz.isAgg24 rfl rfl ?_
   refine WL_nil ?_
   exact FinE_val (Below.refl _ _) rfl rfl ⟨rfl, rfl⟩
  exact StepsE_nil
 intro w6 hB6
 refine AllE_cons rfl rfl rfl ?_
 rintro _ _ ⟨rfl, rfl⟩
 refine AllE_cons rfl rfl rfl ?_
 rintro _ _ ⟨rfl, rfl⟩
 refine AllE_cons rfl rfl rfl ?_
 rintro _ _ ⟨rfl, rfl⟩
 refine AllE_cons rfl rfl rfl ?_
 rintro _ _ ⟨rfl, rfl⟩
 refine AllE_cons rfl rfl rfl ?_
 rintro _ _ ⟨rfl, rfl⟩
 refine AllE_nil ?_
 intro hn1 hb1
 have hC4 := hC3.grow hB6
 obtain ⟨x2, hr2, hF⟩ := bind_some hF
 refine WA_one 9 (by kernel_rfl) rfl ?_
 refine WL_call Tryz.call178 rfl rfl (c_Slices_Compare_Lint_int a1.2 u1 (g1.now hC4.keep) a2.2 u2 (g2.now hC4.keep) x2 hr2) ?_
 intro _ w7 hv2
 obtain ⟨rfl, hB7⟩ := res_int hv2
 have hC5 := hC4.grow hB7
 refine WL_nil ?_
 refine WA_one 10 (by kernel_rfl) rfl ?_
 refine WL_buildSlice (vs := [(.int .i64 x1), (.int .i64 x2)]) hC5 Tryz.underlying24 ty3 rfl rfl rfl rfl (by intro v hv; simp only [List.mem_cons, List.not_mem_nil, or_false] at hv; rcases hv with rfl | rfl <;> rfl) rfl rfl (fun b3 w9 hC6 hB8 => ?_)
 have hC7 := hC6.row0 (α := Int)
 have hC8 := hC7.triv (int_val (x2))
 have hC9 := hC8.row1
 have hC10 := hC9.triv (int_val (x1))
 have hC11 := hC10.row1
 have hC12 := hC11.front 1 rfl
 dsimp only [List.eraseIdx, List.cons_append, List.nil_append, List.append_nil] at hC12
 have hC13 : Ctx [] w0 w9 (Item.own (.slice (some ⟨b3, 0, none⟩) 2 2) ([x1, x2] : List Int) :: [Item.box b2 [(.int .i64 a2.1), u2], Item.box b1 [(.int .i64 a1.1), u1]]) := hC12.rowOwn (by simp [maxLen])
 refine WL_nil ?_
 obtain ⟨x3, hr3, hF⟩ := bind_some hF
 refine WA_one 11 (by kernel_rfl) rfl ?_
 refine WL_call Tryz.call176 rfl rfl (c_Cmp_Or_int ([x1, x2]) (.slice (some ⟨b3, 0, none⟩) 2 2) ((hC13.ro 0 rfl).now (Keep.refl _ _)) x3 hr3) ?_
 intro _ w10 hv3
 obtain ⟨rfl, hB9⟩ := res_int hv3
 have hC14 := hC13.grow hB9
 refine WL_nil ?_
 refine WA_tk 12 (by kernel_rfl) rfl rfl (fl_assign rfl) ?_
 refine WL_assign rfl rfl ?_
 refine WL_nil ?_
 refine WA_done (by kernel_rfl) ?_
 refine nrm_normal ?_
 refine W_ret ?_
 have hq1 := Option.some.inj hF
 subst hq1
 refine fn_ret1 rfl rfl ?_
 exact ⟨_, rfl, int_res hC14 _⟩

end Go.Gx.Px
