/- The contracts of the Go functions against the pure functions, printed by program. Conditions: each says them. -/
import Derived.Test.YtkcdlbgpodogcaaTy
import Derived.Test.YtkcdlbgpodogcaaPure
set_option linter.unusedVariables false
set_option linter.unusedSimpArgs false
set_option maxRecDepth 100000
set_option maxHeartbeats 4000000
namespace Go.Gx.Px
open Go.Proofs Go.RowKit

theorem c_Q_toIntS {w0 : World} (a1 : (List Int)) (u1 : Value) (g1 : RO [] w0 u1 a1) (rr : (List Int)) (hF : Q.toIntS a1 = some rr) :
    Calls Try.prog 15 [u1].toArray w0 fun e w' => ∃ v, e = .returned v ∧ Res w0 rr v w' := by
  refine calls_of_W Try.func15 rfl rfl ?_
  have hC0 := Ctx.start w0
  unfold Q.toIntS at hF
  refine W_seq_reg ?_
  refine WL_assign rfl rfl ?_
  refine WL_nil ?_
  refine W_seq_reg ?_
  refine WL_move rfl rfl ?_
  refine WL_len Try.underlying22 g1 rfl rfl ?_
  obtain ⟨x1, hx1, hF⟩ := bind_some hF
  refine WL_makeSlice hC0 Try.underlying22 ty3 rfl zc3 zr3 hx1 rfl rfl rfl (fun b1 w1 hC1 hB1 => ?_)
  refine WL_assign rfl rfl ?_
  refine WL_nil ?_
  refine W_seq ?_
  refine W_seq_reg ?_
  refine WL_assign rfl rfl ?_
  refine WL_nil ?_
  obtain ⟨r1, hr1, hF⟩ := bind_some hF
  refine W_norm (fun l w => ∃ x4 : (List Int), x4 = r1 ∧ l = [(3, (.slice (some ⟨b1, 0, none⟩) (Int.toNat (List.length a1 : Int)) (Int.toNat (List.length a1 : Int))))] ∧ Ctx [] w0 w [Item.own (.slice (some ⟨b1, 0, none⟩) (Int.toNat (List.length a1 : Int)) (Int.toNat (List.length a1 : Int))) (x4 : (List Int))]) ?_ ?_
  · refine W_block ?_
    refine W.sub (l' := [(0, u1), (3, (.slice (some ⟨b1, 0, none⟩) (Int.toNat (List.length a1 : Int)) (Int.toNat (List.length a1 : Int)))), (4, (.int .i64 0))]) ?_ ⟨rfl, rfl, rfl, trivial⟩
    refine W_loop (fun k l w => ∃ x2 : (List Int), ∃ x3 : Int, l = [(0, u1), (3, (.slice (some ⟨b1, 0, none⟩) (Int.toNat (List.length a1 : Int)) (Int.toNat (List.length a1 : Int)))), (4, (.int .i64 x3))] ∧ Ctx [] w0 w [Item.own (.slice (some ⟨b1, 0, none⟩) (Int.toNat (List.length a1 : Int)) (Int.toNat (List.length a1 : Int))) (x2 : (List Int))] ∧ Q.toIntS_l1 a1 k x2 x3 = some r1) FUEL ⟨x1, 0, rfl, hC1, hr1⟩ ?_
    clear hr1
    rintro k1 _ w2 ⟨x2, x3, rfl, hC2, hL1⟩
    cases k1 with
    | zero => rw [Q.toIntS_l1] at hL1; cases hL1
    | succ k1 =>
      rw [Q.toIntS_l1] at hL1
      refine W_seq ?_
      refine W_seq_reg ?_
      refine WL_move rfl rfl ?_
      refine WL_move rfl rfl ?_
      refine WL_len Try.underlying22 g1 rfl rfl ?_
      refine WL_lss rfl rfl rfl ?_
      refine WL_nil ?_
      refine W_cond rfl (fun hc1 => ?_) (fun hc1 => ?_)
      · replace hL1 := ite_t hL1 hc1
        refine W_skip ?_
        refine nrm_normal ?_
        refine W_seq ?_
        refine W_block ?_
        refine W_reg ?_
        refine WL_move rfl rfl ?_
        refine WL_move rfl rfl ?_
        refine WL_move rfl rfl ?_
        refine WL_move rfl rfl ?_
        obtain ⟨x5, hx2, hL1⟩ := bind_some hL1
        refine WL_index Try.underlying22 ty3 g1 hx2 rfl rfl rfl (fun b2 o1 h1 => ?_)
        refine WL_load ty3 h1 hC2.keep rfl rfl (fun v1 h2 => ?_)
        obtain rfl := ro_int h2
        obtain ⟨x6, hx3, hL1⟩ := bind_some hL1
        refine WL_index_own hC2 0 rfl Try.underlying22 ty3 hx3 rfl rfl rfl (fun b3 hE1 => ?_)
        have hC4 := hC2.triv (int_val (x5))
        refine WL_store_elem hC4 0 rfl ty3 hE1 hx3 rfl rfl rfl (fun w3 hC3 => ?_)
        try dsimp only [List.set] at hC3
        refine WL_nil ?_
        refine blk_normal ?_
        refine nrm_normal ?_
        refine W_reg ?_
        refine WL_move rfl rfl ?_
        refine WL_add rfl rfl rfl ?_
        refine WL_assign rfl rfl ?_
        refine WL_nil ?_
        refine nrm_sub (l' := [(0, u1), (3, (.slice (some ⟨b1, 0, none⟩) (Int.toNat (List.length a1 : Int)) (Int.toNat (List.length a1 : Int)))), (4, (.int .i64 (w64 (x3 + 1))))]) ⟨rfl, rfl, rfl, trivial⟩ ?_
        exact ⟨k1, Nat.lt_succ_self _, (List.set x2 (Int.toNat x3) x5), w64 (x3 + 1), rfl, hC3, hL1⟩
      · replace hL1 := ite_f hL1 hc1
        refine W_exit ?_
        refine nrm_exit ?_
        refine nrm_exit ?_
        refine blk_exit ?_
        have hq1 := Option.some.inj hL1
        subst hq1
        refine nrm_sub (l' := [(3, (.slice (some ⟨b1, 0, none⟩) (Int.toNat (List.length a1 : Int)) (Int.toNat (List.length a1 : Int))))]) ⟨rfl, trivial⟩ ?_
        exact ⟨x2, rfl, rfl, hC2⟩
  · rintro l2 _ w4 hs2 ⟨x4, rfl, rfl, hC5⟩
    try dsimp only at hF
    refine nrm_sub' hs2 ?_
    clear hs2
    refine W_seq_reg ?_
    refine WL_move rfl rfl ?_
    refine WL_assign rfl rfl ?_
    refine WL_nil ?_
    refine W_ret ?_
    have hq2 := Option.some.inj hF
    subst hq2
    refine fn_ret1 rfl rfl ?_
    exact ⟨_, rfl, own_res hC5 0 rfl⟩

theorem c_Q_eqIntS {w0 : World} (a1 : (List Int)) (u1 : Value) (g1 : RO [] w0 u1 a1) (a2 : (List Int)) (u2 : Value) (g2 : RO [] w0 u2 a2) (rr : Bool) (hF : Q.eqIntS a1 a2 = some rr) :
    Calls Try.prog 19 [u1, u2].toArray w0 fun e w' => ∃ v, e = .returned v ∧ Res w0 rr v w' := by
  refine calls_of_W Try.func19 rfl rfl ?_
  have hC0 := Ctx.start w0
  unfold Q.eqIntS at hF
  refine W_seq_reg ?_
  refine WL_assign rfl rfl ?_
  refine WL_nil ?_
  refine W_seq ?_
  refine W_seq_reg ?_
  refine WL_move rfl rfl ?_
  refine WL_len Try.underlying22 g1 rfl rfl ?_
  refine WL_move rfl rfl ?_
  refine WL_len Try.underlying22 g2 rfl rfl ?_
  refine WL_neq rfl rfl rfl ?_
  refine WL_nil ?_
  refine W_cond rfl (fun hc1 => ?_) (fun hc1 => ?_)
  · replace hF := ite_t hF hc1
    refine W_seq_reg ?_
    refine WL_assign rfl rfl ?_
    refine WL_nil ?_
    refine W_ret ?_
    refine nrm_ret ?_
    have hq1 := Option.some.inj hF
    subst hq1
    refine fn_ret1 rfl rfl ?_
    exact ⟨_, rfl, bool_res hC0 _⟩
  · replace hF := ite_f hF hc1
    refine W_skip ?_
    refine nrm_normal ?_
    refine W_seq ?_
    refine W_seq_reg ?_
    refine WL_assign rfl rfl ?_
    refine WL_nil ?_
    obtain ⟨r1, hr1, hF⟩ := bind_some hF
    refine W_norm (fun l w => .inl () = r1 ∧ l = [] ∧ Below w0.heap.size w0 w ∧ Ctx [] w0 w []) ?_ ?_
    · refine W_block ?_
      refine W.sub (l' := [(0, u1), (1, u2), (5, (.int .i64 0))]) ?_ ⟨rfl, rfl, rfl, trivial⟩
      refine W_loop (fun k l w => ∃ x1 : Int, l = [(0, u1), (1, u2), (5, (.int .i64 x1))] ∧ Below w0.heap.size w0 w ∧ Ctx [] w0 w [] ∧ Q.eqIntS_l1 a1 a2 k x1 = some r1) FUEL ⟨0, rfl, (Below.refl _ _), hC0, hr1⟩ ?_
      clear hr1
      rintro k1 _ w1 ⟨x1, rfl, hB1, hC1, hL1⟩
      cases k1 with
      | zero => rw [Q.eqIntS_l1] at hL1; cases hL1
      | succ k1 =>
        rw [Q.eqIntS_l1] at hL1
        refine W_seq ?_
        refine W_seq_reg ?_
        refine WL_move rfl rfl ?_
        refine WL_move rfl rfl ?_
        refine WL_len Try.underlying22 g1 rfl rfl ?_
        refine WL_lss rfl rfl rfl ?_
        refine WL_nil ?_
        refine W_cond rfl (fun hc2 => ?_) (fun hc2 => ?_)
        · replace hL1 := ite_t hL1 hc2
          refine W_skip ?_
          refine nrm_normal ?_
          refine W_seq ?_
          refine W_block ?_
          refine W_seq ?_
          refine W_drawn 9 rfl hmix (fun w2 hB2 => ?_)
          have hC2 := hC1.grow hB2
          refine WA_take 0 rfl (by kernel_rfl) (by kernel_rfl) (by kernel_rfl) rfl (fl_move rfl) ?_
          refine WL_move rfl rfl ?_
          refine WL_nil ?_
          refine WA_take 1 rfl (by kernel_rfl) (by kernel_rfl) (by kernel_rfl) rfl (fl_move rfl) ?_
          refine WL_move rfl rfl ?_
          refine WL_nil ?_
          obtain ⟨x2, hx1, hL1⟩ := bind_some hL1
          refine WA_take 2 rfl (by kernel_rfl) (by kernel_rfl) (by kernel_rfl) rfl (fl_index Try.underlying22 ty3 g1 hx1 rfl rfl) ?_
          refine WL_index Try.underlying22 ty3 g1 hx1 rfl rfl rfl (fun b1 o1 h1 => ?_)
          refine WL_nil ?_
          refine WA_take 4 rfl (by kernel_rfl) (by kernel_rfl) (by kernel_rfl) rfl (fl_move rfl) ?_
          refine WL_move rfl rfl ?_
          refine WL_nil ?_
          refine WA_take 5 rfl (by kernel_rfl) (by kernel_rfl) (by kernel_rfl) rfl (fl_move rfl) ?_
          refine WL_move rfl rfl ?_
          refine WL_nil ?_
          obtain ⟨x3, hx2, hL1⟩ := bind_some hL1
          refine WA_take 6 rfl (by kernel_rfl) (by kernel_rfl) (by kernel_rfl) rfl (fl_index Try.underlying22 ty3 g2 hx2 rfl rfl) ?_
          refine WL_index Try.underlying22 ty3 g2 hx2 rfl rfl rfl (fun b2 o2 h2 => ?_)
          refine WL_nil ?_
          refine WA.sub (l' := [(0, u1), (1, u2), (5, (.int .i64 x1)), (11, (.int .i64 x1)), (12, u1), (13, (.int .i64 (List.length a1 : Int))), (14, (.bool (decide (x1 < (List.length a1 : Int))))), (17, u1), (18, (.int .i64 x1)), (19, (ptr b1 o1)), (21, u2), (22, (.int .i64 x1)), (23, (ptr b2 o2))]) ?_ ⟨rfl, rfl, rfl, rfl, rfl, rfl, rfl, rfl, rfl, rfl, rfl, rfl, rfl, trivial⟩
          refine WA_postsE [⟨3, [], fun vs => PW.val (.int .i64 x2), []⟩, ⟨7, [], fun vs => PW.val (.int .i64 x3), []⟩] [[], []] 1 rfl (by kernel_rfl) (by kernel_rfl) rfl ?_ ?_
          · refine StepsE_cons rfl ?_ ?_
            · intro w3 hB3
              refine DepsE_nil ?_
              refine ⟨_, rfl, ?_⟩
              refine WL_load ty3 h1 (hC2.keep.then hB3) rfl rfl (fun v1 h3 => ?_)
              obtain rfl := ro_int h3
              refine WL_nil ?_
              exact FinE_val (Below.refl _ _) rfl rfl ⟨rfl, rfl⟩
            refine StepsE_cons rfl ?_ ?_
            · intro w3 hB3
              refine DepsE_nil ?_
              refine ⟨_, rfl, ?_⟩
              refine WL_load ty3 h2 (hC2.keep.then hB3) rfl rfl (fun v2 h4 => ?_)
              obtain rfl := ro_int h4
              refine WL_nil ?_
              exact FinE_val (Below.refl _ _) rfl rfl ⟨rfl, rfl⟩
            exact StepsE_nil
          · intro w4 hB4
            refine AllE_cons rfl rfl rfl ?_
            rintro _ _ ⟨rfl, rfl⟩
            refine AllE_cons rfl rfl rfl ?_
            rintro _ _ ⟨rfl, rfl⟩
            refine AllE_nil ?_
            intro hn1 hb1
            have hC3 := hC2.grow hB4
            refine WA_take 8 rfl (by kernel_rfl) (by kernel_rfl) (by kernel_rfl) rfl (fl_neq rfl rfl) ?_
            refine WL_neq rfl rfl rfl ?_
            refine WL_nil ?_
            refine WA_done (by kernel_rfl) ?_
            refine nrm_normal ?_
            refine W_cond rfl (fun hc3 => ?_) (fun hc3 => ?_)
            · replace hL1 := ite_t hL1 hc3
              refine W_seq_reg ?_
              refine WL_assign rfl rfl ?_
              refine WL_nil ?_
              refine W_ret ?_
              refine blk_ret ?_
              refine nrm_ret ?_
              refine nrm_ret ?_
              refine blk_ret ?_
              refine nrm_ret ?_
              refine nrm_ret ?_
              have hq2 := Option.some.inj hL1
              subst hq2
              dsimp only at hF
              have hq3 := Option.some.inj hF
              subst hq3
              refine fn_ret1 rfl rfl ?_
              exact ⟨_, rfl, bool_res hC3 _⟩
            · replace hL1 := ite_f hL1 hc3
              refine W_skip ?_
              refine blk_normal ?_
              refine nrm_normal ?_
              refine W_reg ?_
              refine WL_move rfl rfl ?_
              refine WL_add rfl rfl rfl ?_
              refine WL_assign rfl rfl ?_
              refine WL_nil ?_
              refine nrm_sub (l' := [(0, u1), (1, u2), (5, (.int .i64 (w64 (x1 + 1))))]) ⟨rfl, rfl, rfl, trivial⟩ ?_
              exact ⟨k1, Nat.lt_succ_self _, w64 (x1 + 1), rfl, (((Keep.of hB1).then hB2).then hB4).below, hC3, hL1⟩
        · replace hL1 := ite_f hL1 hc2
          refine W_exit ?_
          refine nrm_exit ?_
          refine nrm_exit ?_
          refine blk_exit ?_
          have hq4 := Option.some.inj hL1
          subst hq4
          refine nrm_sub (l' := []) trivial ?_
          exact ⟨rfl, rfl, (Keep.of hB1).below, hC1⟩
    · rintro l2 _ w5 hs2 ⟨rfl, rfl, hB5, hC4⟩
      try dsimp only at hF
      refine nrm_sub' hs2 ?_
      clear hs2
      refine W_seq_reg ?_
      refine WL_assign rfl rfl ?_
      refine WL_nil ?_
      refine W_ret ?_
      have hq5 := Option.some.inj hF
      subst hq5
      refine fn_ret1 rfl rfl ?_
      exact ⟨_, rfl, bool_res hC4 _⟩

theorem c_Q_szIntS {w0 : World} (a1 : (List Int)) (u1 : Value) (g1 : RO [] w0 u1 a1) (a2 : Int) (rr : Int) (hF : Q.szIntS a1 a2 = some rr) :
    Calls Try.prog 111 [u1, (.int .i64 a2)].toArray w0 fun e w' => ∃ v, e = .returned v ∧ Res w0 rr v w' := by
  refine calls_of_W Try.func111 rfl rfl ?_
  have hC0 := Ctx.start w0
  unfold Q.szIntS at hF
  refine W_seq_reg ?_
  refine WL_assign rfl rfl ?_
  refine WL_nil ?_
  refine W_seq_reg ?_
  refine WL_move rfl rfl ?_
  refine WL_move rfl rfl ?_
  refine WL_len Try.underlying22 g1 rfl rfl ?_
  refine WL_sub rfl rfl rfl ?_
  refine WL_assign rfl rfl ?_
  refine WL_nil ?_
  refine W_seq ?_
  refine W_seq_reg ?_
  refine WL_move rfl rfl ?_
  refine WL_lss rfl rfl rfl ?_
  refine WL_nil ?_
  refine W_cond rfl (fun hc1 => ?_) (fun hc1 => ?_)
  · replace hF := ite_t hF hc1
    refine W_seq_reg ?_
    refine WL_assign rfl rfl ?_
    refine WL_nil ?_
    refine W_ret ?_
    refine nrm_ret ?_
    have hq1 := Option.some.inj hF
    subst hq1
    refine fn_ret1 rfl rfl ?_
    exact ⟨_, rfl, int_res hC0 _⟩
  · replace hF := ite_f hF hc1
    refine W_skip ?_
    refine nrm_normal ?_
    refine W_seq_reg ?_
    refine WL_move rfl rfl ?_
    refine WL_assign rfl rfl ?_
    refine WL_nil ?_
    refine W_ret ?_
    have hq2 := Option.some.inj hF
    subst hq2
    refine fn_ret1 rfl rfl ?_
    exact ⟨_, rfl, int_res hC0 _⟩

theorem c_Q_szFact {w0 : World} (a1 : (Int × (List Int))) (u1 : Value) (g1 : RO [] w0 u1 a1.2) (a2 : Int) (rr : Int) (hF : Q.szFact a1 a2 = some rr) :
    Calls Try.prog 89 [(.agg #[(.int .i64 a1.1), u1]), (.int .i64 a2)].toArray w0 fun e w' => ∃ v, e = .returned v ∧ Res w0 rr v w' := by
  refine calls_of_W Try.func89 rfl rfl ?_
  have hC0 := Ctx.start w0
  unfold Q.szFact at hF
  refine W_seq_reg ?_
  refine WL_box (cs := [(.int .i64 a1.1), u1]) hC0 rfl rfl rfl (fun b1 w1 hC1 hB1 => ?_)
  refine WL_assign rfl rfl ?_
  refine WL_nil ?_
  refine W_seq_reg ?_
  refine WL_field Try.underlying67 rfl rfl (fun w => ⟨_, Try.sizeOf22 w⟩) rfl rfl ?_
  refine WL_load_box hC1 0 rfl rfl Try.isAgg22 rfl rfl ?_
  refine WL_move rfl rfl ?_
  obtain ⟨x1, hr1, hF⟩ := bind_some hF
  refine WL_call Try.call111 rfl rfl (c_Q_szIntS a1.2 u1 (g1.now hC1.keep) a2 x1 hr1) ?_
  intro _ w2 hv1
  obtain ⟨rfl, hB2⟩ := res_int hv1
  have hC2 := hC1.grow hB2
  refine WL_assign rfl rfl ?_
  refine WL_nil ?_
  refine W_seq ?_
  refine W_seq_reg ?_
  refine WL_move rfl rfl ?_
  refine WL_lss rfl rfl rfl ?_
  refine WL_nil ?_
  refine W_cond rfl (fun hc1 => ?_) (fun hc1 => ?_)
  · replace hF := ite_t hF hc1
    refine W_seq_reg ?_
    refine WL_assign rfl rfl ?_
    refine WL_nil ?_
    refine W_ret ?_
    refine nrm_ret ?_
    have hq1 := Option.some.inj hF
    subst hq1
    refine fn_ret1 rfl rfl ?_
    exact ⟨_, rfl, int_res hC2 _⟩
  · replace hF := ite_f hF hc1
    refine W_skip ?_
    refine nrm_normal ?_
    refine W_seq_reg ?_
    refine WL_move rfl rfl ?_
    refine WL_assign rfl rfl ?_
    refine WL_nil ?_
    refine W_ret ?_
    have hq2 := Option.some.inj hF
    subst hq2
    refine fn_ret1 rfl rfl ?_
    exact ⟨_, rfl, int_res hC2 _⟩

theorem c_Q_szFactS {w0 : World} (a1 : (List (Int × (List Int)))) (u1 : Value) (g1 : RO [] w0 u1 a1) (a2 : Int) (rr : Int) (hF : Q.szFactS a1 a2 = some rr) :
    Calls Try.prog 37 [u1, (.int .i64 a2)].toArray w0 fun e w' => ∃ v, e = .returned v ∧ Res w0 rr v w' := by
  refine calls_of_W Try.func37 rfl rfl ?_
  have hC0 := Ctx.start w0
  unfold Q.szFactS at hF
  refine W_seq_reg ?_
  refine WL_assign rfl rfl ?_
  refine WL_nil ?_
  refine W_seq_reg ?_
  refine WL_move rfl rfl ?_
  refine WL_move rfl rfl ?_
  refine WL_len Try.underlying26 g1 rfl rfl ?_
  refine WL_sub rfl rfl rfl ?_
  refine WL_assign rfl rfl ?_
  refine WL_nil ?_
  refine W_seq ?_
  refine W_seq_reg ?_
  refine WL_move rfl rfl ?_
  refine WL_lss rfl rfl rfl ?_
  refine WL_nil ?_
  refine W_cond rfl (fun hc1 => ?_) (fun hc1 => ?_)
  · replace hF := ite_t hF hc1
    refine W_seq_reg ?_
    refine WL_assign rfl rfl ?_
    refine WL_nil ?_
    refine W_ret ?_
    refine nrm_ret ?_
    have hq1 := Option.some.inj hF
    subst hq1
    refine fn_ret1 rfl rfl ?_
    exact ⟨_, rfl, int_res hC0 _⟩
  · replace hF := ite_f hF hc1
    refine W_skip ?_
    refine nrm_normal ?_
    refine W_seq ?_
    refine W_seq_reg ?_
    refine WL_assign rfl rfl ?_
    refine WL_nil ?_
    obtain ⟨r1, hr1, hF⟩ := bind_some hF
    refine W_norm (fun l w => ∃ x3 : Int, .inl x3 = r1 ∧ l = [(1, (.int .i64 x3))] ∧ Below w0.heap.size w0 w ∧ Ctx [] w0 w []) ?_ ?_
    · refine W_block ?_
      refine W.sub (l' := [(0, u1), (1, (.int .i64 (w64 (a2 - (List.length a1 : Int))))), (5, (.int .i64 0))]) ?_ ⟨rfl, rfl, rfl, trivial⟩
      refine W_loop (fun k l w => ∃ x1 : Int, ∃ x2 : Int, l = [(0, u1), (1, (.int .i64 x1)), (5, (.int .i64 x2))] ∧ Below w0.heap.size w0 w ∧ Ctx [] w0 w [] ∧ Q.szFactS_l1 a1 k x1 x2 = some r1) FUEL ⟨w64 (a2 - (List.length a1 : Int)), 0, rfl, (Below.refl _ _), hC0, hr1⟩ ?_
      clear hr1
      rintro k1 _ w1 ⟨x1, x2, rfl, hB1, hC1, hL1⟩
      cases k1 with
      | zero => rw [Q.szFactS_l1] at hL1; cases hL1
      | succ k1 =>
        rw [Q.szFactS_l1] at hL1
        refine W_seq ?_
        refine W_seq_reg ?_
        refine WL_move rfl rfl ?_
        refine WL_move rfl rfl ?_
        refine WL_len Try.underlying26 g1 rfl rfl ?_
        refine WL_lss rfl rfl rfl ?_
        refine WL_nil ?_
        refine W_cond rfl (fun hc2 => ?_) (fun hc2 => ?_)
        · replace hL1 := ite_t hL1 hc2
          refine W_skip ?_
          refine nrm_normal ?_
          refine W_seq ?_
          refine W_block ?_
          refine W_seq_reg ?_
          refine WL_move rfl rfl ?_
          refine WL_move rfl rfl ?_
          obtain ⟨x4, hx1, hL1⟩ := bind_some hL1
          refine WL_index Try.underlying26 ty67 g1 hx1 rfl rfl rfl (fun b1 o1 h1 => ?_)
          refine WL_load ty67 h1 hC1.keep rfl rfl (fun v1 h2 => ?_)
          obtain ⟨v2, rfl, h3⟩ := ro_st67 h2
          refine WL_move rfl rfl ?_
          obtain ⟨x5, hr2, hL1⟩ := bind_some hL1
          refine WL_call Try.call89 rfl rfl (c_Q_szFact x4 v2 (h3.now hC1.keep) x1 x5 hr2) ?_
          intro _ w2 hv1
          obtain ⟨rfl, hB2⟩ := res_int hv1
          have hC2 := hC1.grow hB2
          refine WL_assign rfl rfl ?_
          refine WL_nil ?_
          refine W_seq_reg ?_
          refine WL_move rfl rfl ?_
          refine WL_lss rfl rfl rfl ?_
          refine WL_nil ?_
          refine W_cond rfl (fun hc3 => ?_) (fun hc3 => ?_)
          · replace hL1 := ite_t hL1 hc3
            refine W_seq_reg ?_
            refine WL_assign rfl rfl ?_
            refine WL_nil ?_
            refine W_ret ?_
            refine blk_ret ?_
            refine nrm_ret ?_
            refine nrm_ret ?_
            refine blk_ret ?_
            refine nrm_ret ?_
            refine nrm_ret ?_
            have hq2 := Option.some.inj hL1
            subst hq2
            dsimp only at hF
            have hq3 := Option.some.inj hF
            subst hq3
            refine fn_ret1 rfl rfl ?_
            exact ⟨_, rfl, int_res hC2 _⟩
          · replace hL1 := ite_f hL1 hc3
            refine W_skip ?_
            refine blk_normal ?_
            refine nrm_normal ?_
            refine W_reg ?_
            refine WL_move rfl rfl ?_
            refine WL_add rfl rfl rfl ?_
            refine WL_assign rfl rfl ?_
            refine WL_nil ?_
            refine nrm_sub (l' := [(0, u1), (1, (.int .i64 x5)), (5, (.int .i64 (w64 (x2 + 1))))]) ⟨rfl, rfl, rfl, trivial⟩ ?_
            exact ⟨k1, Nat.lt_succ_self _, x5, w64 (x2 + 1), rfl, ((Keep.of hB1).then hB2).below, hC2, hL1⟩
        · replace hL1 := ite_f hL1 hc2
          refine W_exit ?_
          refine nrm_exit ?_
          refine nrm_exit ?_
          refine blk_exit ?_
          have hq4 := Option.some.inj hL1
          subst hq4
          refine nrm_sub (l' := [(1, (.int .i64 x1))]) ⟨rfl, trivial⟩ ?_
          exact ⟨x1, rfl, rfl, (Keep.of hB1).below, hC1⟩
    · rintro l2 _ w3 hs2 ⟨x3, rfl, rfl, hB3, hC3⟩
      try dsimp only at hF
      refine nrm_sub' hs2 ?_
      clear hs2
      refine W_seq_reg ?_
      refine WL_move rfl rfl ?_
      refine WL_assign rfl rfl ?_
      refine WL_nil ?_
      refine W_ret ?_
      have hq5 := Option.some.inj hF
      subst hq5
      refine fn_ret1 rfl rfl ?_
      exact ⟨_, rfl, int_res hC3 _⟩

theorem c_Q_szSource {w0 : World} (a1 : ((List (Int × (List Int))) × Int)) (u1 : Value) (g1 : RO [] w0 u1 a1.1) (a2 : Int) (rr : Int) (hF : Q.szSource a1 a2 = some rr) :
    Calls Try.prog 41 [(.agg #[u1, (.int .i64 a1.2)]), (.int .i64 a2)].toArray w0 fun e w' => ∃ v, e = .returned v ∧ Res w0 rr v w' := by
  refine calls_of_W Try.func41 rfl rfl ?_
  have hC0 := Ctx.start w0
  unfold Q.szSource at hF
  refine W_seq_reg ?_
  refine WL_box (cs := [u1, (.int .i64 a1.2)]) hC0 rfl rfl rfl (fun b1 w1 hC1 hB1 => ?_)
  refine WL_assign rfl rfl ?_
  refine WL_nil ?_
  refine W_seq_reg ?_
  refine WL_field Try.underlying65 rfl rfl (fun w => ⟨_, Try.sizeOf26 w⟩) rfl rfl ?_
  refine WL_load_box hC1 0 rfl rfl Try.isAgg26 rfl rfl ?_
  refine WL_move rfl rfl ?_
  obtain ⟨x1, hr1, hF⟩ := bind_some hF
  refine WL_call Try.call37 rfl rfl (c_Q_szFactS a1.1 u1 (g1.now hC1.keep) a2 x1 hr1) ?_
  intro _ w2 hv1
  obtain ⟨rfl, hB2⟩ := res_int hv1
  have hC2 := hC1.grow hB2
  refine WL_assign rfl rfl ?_
  refine WL_nil ?_
  refine W_seq ?_
  refine W_seq_reg ?_
  refine WL_move rfl rfl ?_
  refine WL_lss rfl rfl rfl ?_
  refine WL_nil ?_
  refine W_cond rfl (fun hc1 => ?_) (fun hc1 => ?_)
  · replace hF := ite_t hF hc1
    refine W_seq_reg ?_
    refine WL_assign rfl rfl ?_
    refine WL_nil ?_
    refine W_ret ?_
    refine nrm_ret ?_
    have hq1 := Option.some.inj hF
    subst hq1
    refine fn_ret1 rfl rfl ?_
    exact ⟨_, rfl, int_res hC2 _⟩
  · replace hF := ite_f hF hc1
    refine W_skip ?_
    refine nrm_normal ?_
    refine W_seq_reg ?_
    refine WL_move rfl rfl ?_
    refine WL_assign rfl rfl ?_
    refine WL_nil ?_
    refine W_ret ?_
    have hq2 := Option.some.inj hF
    subst hq2
    refine fn_ret1 rfl rfl ?_
    exact ⟨_, rfl, int_res hC2 _⟩

theorem c_Q_szChange {w0 : World} (a1 : (Bool × (Int × (List Int)))) (u1 : Value) (g1 : RO [] w0 u1 a1.2.2) (a2 : Int) (rr : Int) (hF : Q.szChange a1 a2 = some rr) :
    Calls Try.prog 42 [(.agg #[(.bool a1.1), (.int .i64 a1.2.1), u1]), (.int .i64 a2)].toArray w0 fun e w' => ∃ v, e = .returned v ∧ Res w0 rr v w' := by
  refine calls_of_W Try.func42 rfl rfl ?_
  have hC0 := Ctx.start w0
  unfold Q.szChange at hF
  refine W_seq_reg ?_
  refine WL_box (cs := [(.bool a1.1), (.int .i64 a1.2.1), u1]) hC0 rfl rfl rfl (fun b1 w1 hC1 hB1 => ?_)
  refine WL_assign rfl rfl ?_
  refine WL_nil ?_
  refine W_seq_reg ?_
  refine WL_field Try.underlying69 rfl rfl (fun w => ⟨_, Try.sizeOf67 w⟩) rfl rfl ?_
  refine WL_load_box_agg [(.int .i64 a1.2.1), u1] hC1 0 rfl rfl rfl Try.isAgg67 Try.sizeOf67 rfl rfl ?_
  refine WL_move rfl rfl ?_
  obtain ⟨x1, hr1, hF⟩ := bind_some hF
  refine WL_call Try.call89 rfl rfl (c_Q_szFact (a1.2.1, a1.2.2) u1 (g1.now hC1.keep) a2 x1 hr1) ?_
  intro _ w2 hv1
  obtain ⟨rfl, hB2⟩ := res_int hv1
  have hC2 := hC1.grow hB2
  refine WL_assign rfl rfl ?_
  refine WL_nil ?_
  refine W_seq ?_
  refine W_seq_reg ?_
  refine WL_move rfl rfl ?_
  refine WL_lss rfl rfl rfl ?_
  refine WL_nil ?_
  refine W_cond rfl (fun hc1 => ?_) (fun hc1 => ?_)
  · replace hF := ite_t hF hc1
    refine W_seq_reg ?_
    refine WL_assign rfl rfl ?_
    refine WL_nil ?_
    refine W_ret ?_
    refine nrm_ret ?_
    have hq1 := Option.some.inj hF
    subst hq1
    refine fn_ret1 rfl rfl ?_
    exact ⟨_, rfl, int_res hC2 _⟩
  · replace hF := ite_f hF hc1
    refine W_skip ?_
    refine nrm_normal ?_
    refine W_seq_reg ?_
    refine WL_move rfl rfl ?_
    refine WL_assign rfl rfl ?_
    refine WL_nil ?_
    refine W_ret ?_
    have hq2 := Option.some.inj hF
    subst hq2
    refine fn_ret1 rfl rfl ?_
    exact ⟨_, rfl, int_res hC2 _⟩

theorem c_S_CompareFacts {w0 : World} (a1 : (Int × (List Int))) (u1 : Value) (g1 : RO [] w0 u1 a1.2) (a2 : (Int × (List Int))) (u2 : Value) (g2 : RO [] w0 u2 a2.2) (rr : Int) (hF : S.CompareFacts a1 a2 = some rr) :
    Calls Try.prog 101 [(.agg #[(.int .i64 a1.1), u1]), (.agg #[(.int .i64 a2.1), u2])].toArray w0 fun e w' => ∃ v, e = .returned v ∧ Res w0 rr v w' := by
  refine calls_of_W Try.func101 rfl rfl ?_
  have hC0 := Ctx.start w0
  unfold S.CompareFacts at hF
  refine W_seq_reg ?_
  refine WL_box (cs := [(.int .i64 a1.1), u1]) hC0 rfl rfl rfl (fun b1 w1 hC1 hB1 => ?_)
  refine WL_box (cs := [(.int .i64 a2.1), u2]) hC1 rfl rfl rfl (fun b2 w2 hC2 hB2 => ?_)
  refine WL_assign rfl rfl ?_
  refine WL_nil ?_
  refine W_seq ?_
  refine W_seq_reg ?_
  refine WL_field Try.underlying77 rfl rfl (fun w => ⟨_, Try.sizeOf3 w⟩) rfl rfl ?_
  refine WL_load_box hC2 1 rfl rfl Try.isAgg3 rfl rfl ?_
  refine WL_field Try.underlying77 rfl rfl (fun w => ⟨_, Try.sizeOf3 w⟩) rfl rfl ?_
  refine WL_load_box hC2 0 rfl rfl Try.isAgg3 rfl rfl ?_
  refine WL_neq rfl rfl rfl ?_
  refine WL_nil ?_
  refine W_cond rfl (fun hc1 => ?_) (fun hc1 => ?_)
  · replace hF := ite_t hF hc1
    refine W_seq ?_
    refine W_seq_reg ?_
    refine WL_field Try.underlying77 rfl rfl (fun w => ⟨_, Try.sizeOf3 w⟩) rfl rfl ?_
    refine WL_load_box hC2 1 rfl rfl Try.isAgg3 rfl rfl ?_
    refine WL_field Try.underlying77 rfl rfl (fun w => ⟨_, Try.sizeOf3 w⟩) rfl rfl ?_
    refine WL_load_box hC2 0 rfl rfl Try.isAgg3 rfl rfl ?_
    refine WL_lss rfl rfl rfl ?_
    refine WL_nil ?_
    refine W_cond rfl (fun hc2 => ?_) (fun hc2 => ?_)
    · replace hF := ite_t hF hc2
      refine W_seq_reg ?_
      refine WL_assign rfl rfl ?_
      refine WL_nil ?_
      refine W_ret ?_
      refine nrm_ret ?_
      refine nrm_ret ?_
      have hq1 := Option.some.inj hF
      subst hq1
      refine fn_ret1 rfl rfl ?_
      exact ⟨_, rfl, int_res hC2 _⟩
    · replace hF := ite_f hF hc2
      refine W_skip ?_
      refine nrm_normal ?_
      refine W_seq_reg ?_
      refine WL_assign rfl rfl ?_
      refine WL_nil ?_
      refine W_ret ?_
      refine nrm_ret ?_
      have hq2 := Option.some.inj hF
      subst hq2
      refine fn_ret1 rfl rfl ?_
      exact ⟨_, rfl, int_res hC2 _⟩
  · replace hF := ite_f hF hc1
    refine W_skip ?_
    refine nrm_normal ?_
    refine W_seq ?_
    refine W_seq_reg ?_
    refine WL_assign rfl rfl ?_
    refine WL_nil ?_
    obtain ⟨r1, hr1, hF⟩ := bind_some hF
    refine W_norm (fun l w => .inl () = r1 ∧ l = [(2, (ptr b1 0)), (3, (ptr b2 0))] ∧ Below w2.heap.size w2 w ∧ Ctx [] w0 w [Item.box b2 [(.int .i64 a2.1), u2], Item.box b1 [(.int .i64 a1.1), u1]]) ?_ ?_
    · refine W_block ?_
      refine W.sub (l' := [(2, (ptr b1 0)), (3, (ptr b2 0)), (5, (.int .i64 0))]) ?_ ⟨rfl, rfl, rfl, trivial⟩
      refine W_loop (fun k l w => ∃ x1 : Int, l = [(2, (ptr b1 0)), (3, (ptr b2 0)), (5, (.int .i64 x1))] ∧ Below w2.heap.size w2 w ∧ Ctx [] w0 w [Item.box b2 [(.int .i64 a2.1), u2], Item.box b1 [(.int .i64 a1.1), u1]] ∧ S.CompareFacts_l1 a1 a2 k x1 = some r1) FUEL ⟨0, rfl, (Below.refl _ _), hC2, hr1⟩ ?_
      clear hr1
      rintro k1 _ w3 ⟨x1, rfl, hB3, hC3, hL1⟩
      cases k1 with
      | zero => rw [S.CompareFacts_l1] at hL1; cases hL1
      | succ k1 =>
        rw [S.CompareFacts_l1] at hL1
        refine W_seq ?_
        obtain ⟨r2, hr2, hL1⟩ := bind_some hL1
        refine W_cut (fun l w => ∃ x2 : Bool, x2 = r2 ∧ l = [(2, (ptr b1 0)), (3, (ptr b2 0)), (5, (.int .i64 x1)), (27, (.bool x2))] ∧ Below w3.heap.size w3 w ∧ Ctx [] w0 w [Item.box b2 [(.int .i64 a2.1), u2], Item.box b1 [(.int .i64 a1.1), u1]]) ?_ ?_
        · refine W_reg ?_
          refine WL_move rfl rfl ?_
          refine WL_field Try.underlying77 rfl rfl (fun w => ⟨_, Try.sizeOf22 w⟩) rfl rfl ?_
          refine WL_load_box hC3 1 rfl rfl Try.isAgg22 rfl rfl ?_
          refine WL_len Try.underlying22 g1 rfl rfl ?_
          refine WL_lss rfl rfl rfl ?_
          refine WL_move rfl rfl ?_
          refine WL_fork (fun hc3 => ?_) (fun hc3 => ?_)
          · replace hr2 := ite_t hr2 hc3
            refine WL_guard rfl rfl ?_
            refine WL_move rfl rfl ?_
            refine WL_guard rfl rfl ?_
            refine WL_field Try.underlying77 rfl rfl (fun w => ⟨_, Try.sizeOf22 w⟩) rfl rfl ?_
            refine WL_guard rfl rfl ?_
            refine WL_load_box hC3 0 rfl rfl Try.isAgg22 rfl rfl ?_
            refine WL_guard rfl rfl ?_
            refine WL_len Try.underlying22 g2 rfl rfl ?_
            refine WL_guard rfl rfl ?_
            refine WL_lss rfl rfl rfl ?_
            refine WL_pick_t rfl rfl rfl ?_
            refine WL_nil ?_
            have hq3 := Option.some.inj hr2
            subst hq3
            refine nrm_sub (l' := [(2, (ptr b1 0)), (3, (ptr b2 0)), (5, (.int .i64 x1)), (27, (.bool (decide (x1 < (List.length a2.2 : Int)))))]) ⟨rfl, rfl, rfl, rfl, trivial⟩ ?_
            exact ⟨(decide (x1 < (List.length a2.2 : Int))), rfl, rfl, (Below.refl _ _), hC3⟩
          · replace hr2 := ite_f hr2 hc3
            refine WL_guard_skip rfl rfl (by simp) rfl ?_
            refine WL_guard_skip rfl rfl (by simp) rfl ?_
            refine WL_guard_skip rfl rfl (by simp) rfl ?_
            refine WL_guard_skip rfl rfl (by simp) rfl ?_
            refine WL_guard_skip rfl rfl (by simp) rfl ?_
            refine WL_pick_f rfl rfl rfl ?_
            refine WL_nil ?_
            have hq4 := Option.some.inj hr2
            subst hq4
            refine nrm_sub (l' := [(2, (ptr b1 0)), (3, (ptr b2 0)), (5, (.int .i64 x1)), (27, (.bool false))]) ⟨rfl, rfl, rfl, rfl, trivial⟩ ?_
            exact ⟨false, rfl, rfl, (Below.refl _ _), hC3⟩
        · rintro _ w4 ⟨x2, rfl, rfl, hB4, hC4⟩
          try dsimp only at hL1
          refine W_cond rfl (fun hc4 => ?_) (fun hc4 => ?_)
          · replace hL1 := ite_t hL1 hc4
            refine W_skip ?_
            refine nrm_normal ?_
            refine W_seq ?_
            refine W_block ?_
            refine W_seq ?_
            refine W_seq ?_
            refine W_drawn 11 rfl hmix (fun w5 hB5 => ?_)
            have hC5 := hC4.grow hB5
            refine WA_take 0 rfl (by kernel_rfl) (by kernel_rfl) (by kernel_rfl) rfl (fl_field Try.underlying77 rfl rfl (fun w => ⟨_, Try.sizeOf22 w⟩) rfl) ?_
            refine WL_field Try.underlying77 rfl rfl (fun w => ⟨_, Try.sizeOf22 w⟩) rfl rfl ?_
            refine WL_nil ?_
            refine WA_take 2 rfl (by kernel_rfl) (by kernel_rfl) (by kernel_rfl) rfl (fl_move rfl) ?_
            refine WL_move rfl rfl ?_
            refine WL_nil ?_
            refine WA_take 5 rfl (by kernel_rfl) (by kernel_rfl) (by kernel_rfl) rfl (fl_field Try.underlying77 rfl rfl (fun w => ⟨_, Try.sizeOf22 w⟩) rfl) ?_
            refine WL_field Try.underlying77 rfl rfl (fun w => ⟨_, Try.sizeOf22 w⟩) rfl rfl ?_
            refine WL_nil ?_
            refine WA_take 7 rfl (by kernel_rfl) (by kernel_rfl) (by kernel_rfl) rfl (fl_move rfl) ?_
            refine WL_move rfl rfl ?_
            refine WL_nil ?_
            obtain ⟨x3, hx1, hL1⟩ := bind_some hL1
            obtain ⟨x4, hx2, hL1⟩ := bind_some hL1
            refine WA.sub (l' := [(2, (ptr b1 0)), (3, (ptr b2 0)), (5, (.int .i64 x1)), (27, (.bool x2)), (30, (ptr b1 1)), (32, (.int .i64 x1)), (35, (ptr b2 1)), (37, (.int .i64 x1))]) ?_ ⟨rfl, rfl, rfl, rfl, rfl, rfl, rfl, rfl, trivial⟩
            refine WA_postsE [⟨1, [], fun vs => PW.val u1, []⟩, ⟨3, [], fun vs => PW.at [] w0 x3, []⟩, ⟨4, [], fun vs => PW.val (.int .i64 x3), []⟩, ⟨6, [], fun vs => PW.val u2, []⟩, ⟨8, [], fun vs => PW.at [] w0 x4, []⟩, ⟨9, [], fun vs => PW.val (.int .i64 x4), []⟩] [[], [1], [3], [], [6], [8]] 1 rfl (by kernel_rfl) (by kernel_rfl) rfl ?_ ?_
            · refine StepsE_cons rfl ?_ ?_
              · intro w6 hB6
                refine DepsE_nil ?_
                refine ⟨_, rfl, ?_⟩
                refine WL_load_box (hC5.grow hB6) 1 rfl rfl Try.isAgg22 rfl rfl ?_
                refine WL_nil ?_
                exact FinE_val (Below.refl _ _) rfl rfl ⟨rfl, rfl⟩
              refine StepsE_cons rfl ?_ ?_
              · intro w6 hB6
                refine DepsE_cons rfl rfl rfl ?_
                rintro _ _ ⟨rfl, rfl⟩ _
                refine DepsE_nil ?_
                refine ⟨_, rfl, ?_⟩
                refine WL_index Try.underlying22 ty3 g1 hx1 rfl rfl rfl (fun b3 o1 h1 => ?_)
                refine WL_nil ?_
                exact FinE_val (Below.refl _ _) rfl rfl ⟨rfl, _, _, rfl, h1⟩
              refine StepsE_cons rfl ?_ ?_
              · intro w6 hB6
                refine DepsE_cons rfl rfl rfl ?_
                rintro _ _ ⟨rfl, b3, o1, rfl, h1⟩ _
                refine DepsE_nil ?_
                refine ⟨_, rfl, ?_⟩
                refine WL_load ty3 h1 (hC5.keep.then hB6) rfl rfl (fun v1 h2 => ?_)
                obtain rfl := ro_int h2
                refine WL_nil ?_
                exact FinE_val (Below.refl _ _) rfl rfl ⟨rfl, rfl⟩
              refine StepsE_cons rfl ?_ ?_
              · intro w6 hB6
                refine DepsE_nil ?_
                refine ⟨_, rfl, ?_⟩
                refine WL_load_box (hC5.grow hB6) 0 rfl rfl Try.isAgg22 rfl rfl ?_
                refine WL_nil ?_
                exact FinE_val (Below.refl _ _) rfl rfl ⟨rfl, rfl⟩
              refine StepsE_cons rfl ?_ ?_
              · intro w6 hB6
                refine DepsE_cons rfl rfl rfl ?_
                rintro _ _ ⟨rfl, rfl⟩ _
                refine DepsE_nil ?_
                refine ⟨_, rfl, ?_⟩
                refine WL_index Try.underlying22 ty3 g2 hx2 rfl rfl rfl (fun b4 o2 h3 => ?_)
                refine WL_nil ?_
                exact FinE_val (Below.refl _ _) rfl rfl ⟨rfl, _, _, rfl, h3⟩
              refine StepsE_cons rfl ?_ ?_
              · intro w6 hB6
                refine DepsE_cons rfl rfl rfl ?_
                rintro _ _ ⟨rfl, b4, o2, rfl, h3⟩ _
                refine DepsE_nil ?_
                refine ⟨_, rfl, ?_⟩
                refine WL_load ty3 h3 (hC5.keep.then hB6) rfl rfl (fun v2 h4 => ?_)
                obtain rfl := ro_int h4
                refine WL_nil ?_
                exact FinE_val (Below.refl _ _) rfl rfl ⟨rfl, rfl⟩
              exact StepsE_nil
            · intro w7 hB7
              refine AllE_cons rfl rfl rfl ?_
              rintro _ _ ⟨rfl, rfl⟩
              refine AllE_cons rfl rfl rfl ?_
              rintro _ _ ⟨rfl, b3, o1, rfl, h1⟩
              refine AllE_cons rfl rfl rfl ?_
              rintro _ _ ⟨rfl, rfl⟩
              refine AllE_cons rfl rfl rfl ?_
              rintro _ _ ⟨rfl, rfl⟩
              refine AllE_cons rfl rfl rfl ?_
              rintro _ _ ⟨rfl, b4, o2, rfl, h3⟩
              refine AllE_cons rfl rfl rfl ?_
              rintro _ _ ⟨rfl, rfl⟩
              refine AllE_nil ?_
              intro hn1 hb1
              have hC6 := hC5.grow hB7
              refine WA_take 10 rfl (by kernel_rfl) (by kernel_rfl) (by kernel_rfl) rfl (fl_lss rfl rfl) ?_
              refine WL_lss rfl rfl rfl ?_
              refine WL_nil ?_
              refine WA_done (by kernel_rfl) ?_
              refine nrm_normal ?_
              refine W_cond rfl (fun hc5 => ?_) (fun hc5 => ?_)
              · replace hL1 := ite_t hL1 hc5
                refine W_seq_reg ?_
                refine WL_assign rfl rfl ?_
                refine WL_nil ?_
                refine W_ret ?_
                refine nrm_ret ?_
                refine blk_ret ?_
                refine nrm_ret ?_
                refine nrm_ret ?_
                refine blk_ret ?_
                refine nrm_ret ?_
                refine nrm_ret ?_
                have hq5 := Option.some.inj hL1
                subst hq5
                dsimp only at hF
                have hq6 := Option.some.inj hF
                subst hq6
                refine fn_ret1 rfl rfl ?_
                exact ⟨_, rfl, int_res hC6 _⟩
              · replace hL1 := ite_f hL1 hc5
                refine W_skip ?_
                refine nrm_normal ?_
                refine W_seq ?_
                refine W_drawn 11 rfl hmix (fun w8 hB8 => ?_)
                have hC7 := hC6.grow hB8
                refine WA_take 0 rfl (by kernel_rfl) (by kernel_rfl) (by kernel_rfl) rfl (fl_field Try.underlying77 rfl rfl (fun w => ⟨_, Try.sizeOf22 w⟩) rfl) ?_
                refine WL_field Try.underlying77 rfl rfl (fun w => ⟨_, Try.sizeOf22 w⟩) rfl rfl ?_
                refine WL_nil ?_
                refine WA_take 2 rfl (by kernel_rfl) (by kernel_rfl) (by kernel_rfl) rfl (fl_move rfl) ?_
                refine WL_move rfl rfl ?_
                refine WL_nil ?_
                refine WA_take 5 rfl (by kernel_rfl) (by kernel_rfl) (by kernel_rfl) rfl (fl_field Try.underlying77 rfl rfl (fun w => ⟨_, Try.sizeOf22 w⟩) rfl) ?_
                refine WL_field Try.underlying77 rfl rfl (fun w => ⟨_, Try.sizeOf22 w⟩) rfl rfl ?_
                refine WL_nil ?_
                refine WA_take 7 rfl (by kernel_rfl) (by kernel_rfl) (by kernel_rfl) rfl (fl_move rfl) ?_
                refine WL_move rfl rfl ?_
                refine WL_nil ?_
                obtain ⟨x5, hx3, hL1⟩ := bind_some hL1
                obtain ⟨x6, hx4, hL1⟩ := bind_some hL1
                refine WA.sub (l' := [(2, (ptr b1 0)), (3, (ptr b2 0)), (5, (.int .i64 x1)), (27, (.bool x2)), (30, (ptr b1 1)), (31, u1), (32, (.int .i64 x1)), (33, (ptr b3 o1)), (34, (.int .i64 x3)), (35, (ptr b2 1)), (36, u2), (37, (.int .i64 x1)), (38, (ptr b4 o2)), (39, (.int .i64 x4)), (40, (.bool (decide (x3 < x4)))), (41, (ptr b1 1)), (43, (.int .i64 x1)), (46, (ptr b2 1)), (48, (.int .i64 x1))]) ?_ ⟨rfl, rfl, rfl, rfl, rfl, rfl, rfl, rfl, rfl, rfl, rfl, rfl, rfl, rfl, rfl, rfl, rfl, rfl, rfl, trivial⟩
                refine WA_postsE [⟨1, [], fun vs => PW.val u1, []⟩, ⟨3, [], fun vs => PW.at [] w0 x5, []⟩, ⟨4, [], fun vs => PW.val (.int .i64 x5), []⟩, ⟨6, [], fun vs => PW.val u2, []⟩, ⟨8, [], fun vs => PW.at [] w0 x6, []⟩, ⟨9, [], fun vs => PW.val (.int .i64 x6), []⟩] [[], [1], [3], [], [6], [8]] 1 rfl (by kernel_rfl) (by kernel_rfl) rfl ?_ ?_
                · refine StepsE_cons rfl ?_ ?_
                  · intro w9 hB9
                    refine DepsE_nil ?_
                    refine ⟨_, rfl, ?_⟩
                    refine WL_load_box (hC7.grow hB9) 1 rfl rfl Try.isAgg22 rfl rfl ?_
                    refine WL_nil ?_
                    exact FinE_val (Below.refl _ _) rfl rfl ⟨rfl, rfl⟩
                  refine StepsE_cons rfl ?_ ?_
                  · intro w9 hB9
                    refine DepsE_cons rfl rfl rfl ?_
                    rintro _ _ ⟨rfl, rfl⟩ _
                    refine DepsE_nil ?_
                    refine ⟨_, rfl, ?_⟩
                    refine WL_index Try.underlying22 ty3 g1 hx3 rfl rfl rfl (fun b5 o3 h5 => ?_)
                    refine WL_nil ?_
                    exact FinE_val (Below.refl _ _) rfl rfl ⟨rfl, _, _, rfl, h5⟩
                  refine StepsE_cons rfl ?_ ?_
                  · intro w9 hB9
                    refine DepsE_cons rfl rfl rfl ?_
                    rintro _ _ ⟨rfl, b5, o3, rfl, h5⟩ _
                    refine DepsE_nil ?_
                    refine ⟨_, rfl, ?_⟩
                    refine WL_load ty3 h5 (hC7.keep.then hB9) rfl rfl (fun v3 h6 => ?_)
                    obtain rfl := ro_int h6
                    refine WL_nil ?_
                    exact FinE_val (Below.refl _ _) rfl rfl ⟨rfl, rfl⟩
                  refine StepsE_cons rfl ?_ ?_
                  · intro w9 hB9
                    refine DepsE_nil ?_
                    refine ⟨_, rfl, ?_⟩
                    refine WL_load_box (hC7.grow hB9) 0 rfl rfl Try.isAgg22 rfl rfl ?_
                    refine WL_nil ?_
                    exact FinE_val (Below.refl _ _) rfl rfl ⟨rfl, rfl⟩
                  refine StepsE_cons rfl ?_ ?_
                  · intro w9 hB9
                    refine DepsE_cons rfl rfl rfl ?_
                    rintro _ _ ⟨rfl, rfl⟩ _
                    refine DepsE_nil ?_
                    refine ⟨_, rfl, ?_⟩
                    refine WL_index Try.underlying22 ty3 g2 hx4 rfl rfl rfl (fun b6 o4 h7 => ?_)
                    refine WL_nil ?_
                    exact FinE_val (Below.refl _ _) rfl rfl ⟨rfl, _, _, rfl, h7⟩
                  refine StepsE_cons rfl ?_ ?_
                  · intro w9 hB9
                    refine DepsE_cons rfl rfl rfl ?_
                    rintro _ _ ⟨rfl, b6, o4, rfl, h7⟩ _
                    refine DepsE_nil ?_
                    refine ⟨_, rfl, ?_⟩
                    refine WL_load ty3 h7 (hC7.keep.then hB9) rfl rfl (fun v4 h8 => ?_)
                    obtain rfl := ro_int h8
                    refine WL_nil ?_
                    exact FinE_val (Below.refl _ _) rfl rfl ⟨rfl, rfl⟩
                  exact StepsE_nil
                · intro w10 hB10
                  refine AllE_cons rfl rfl rfl ?_
                  rintro _ _ ⟨rfl, rfl⟩
                  refine AllE_cons rfl rfl rfl ?_
                  rintro _ _ ⟨rfl, b5, o3, rfl, h5⟩
                  refine AllE_cons rfl rfl rfl ?_
                  rintro _ _ ⟨rfl, rfl⟩
                  refine AllE_cons rfl rfl rfl ?_
                  rintro _ _ ⟨rfl, rfl⟩
                  refine AllE_cons rfl rfl rfl ?_
                  rintro _ _ ⟨rfl, b6, o4, rfl, h7⟩
                  refine AllE_cons rfl rfl rfl ?_
                  rintro _ _ ⟨rfl, rfl⟩
                  refine AllE_nil ?_
                  intro hn2 hb2
                  have hC8 := hC7.grow hB10
                  refine WA_take 10 rfl (by kernel_rfl) (by kernel_rfl) (by kernel_rfl) rfl (fl_gtr rfl rfl) ?_
                  refine WL_gtr rfl rfl rfl ?_
                  refine WL_nil ?_
                  refine WA_done (by kernel_rfl) ?_
                  refine nrm_normal ?_
                  refine W_cond rfl (fun hc6 => ?_) (fun hc6 => ?_)
                  · replace hL1 := ite_t hL1 hc6
                    refine W_seq_reg ?_
                    refine WL_assign rfl rfl ?_
                    refine WL_nil ?_
                    refine W_ret ?_
                    refine blk_ret ?_
                    refine nrm_ret ?_
                    refine nrm_ret ?_
                    refine blk_ret ?_
                    refine nrm_ret ?_
                    refine nrm_ret ?_
                    have hq7 := Option.some.inj hL1
                    subst hq7
                    dsimp only at hF
                    have hq8 := Option.some.inj hF
                    subst hq8
                    refine fn_ret1 rfl rfl ?_
                    exact ⟨_, rfl, int_res hC8 _⟩
                  · replace hL1 := ite_f hL1 hc6
                    refine W_skip ?_
                    refine blk_normal ?_
                    refine nrm_normal ?_
                    refine W_reg ?_
                    refine WL_move rfl rfl ?_
                    refine WL_add rfl rfl rfl ?_
                    refine WL_assign rfl rfl ?_
                    refine WL_nil ?_
                    refine nrm_sub (l' := [(2, (ptr b1 0)), (3, (ptr b2 0)), (5, (.int .i64 (w64 (x1 + 1))))]) ⟨rfl, rfl, rfl, trivial⟩ ?_
                    exact ⟨k1, Nat.lt_succ_self _, w64 (x1 + 1), rfl, ((((((Keep.of hB3).then hB4).then hB5).then hB7).then hB8).then hB10).below, hC8, hL1⟩
          · replace hL1 := ite_f hL1 hc4
            refine W_exit ?_
            refine nrm_exit ?_
            refine nrm_exit ?_
            refine blk_exit ?_
            have hq9 := Option.some.inj hL1
            subst hq9
            refine nrm_sub (l' := [(2, (ptr b1 0)), (3, (ptr b2 0))]) ⟨rfl, rfl, trivial⟩ ?_
            exact ⟨rfl, rfl, ((Keep.of hB3).then hB4).below, hC4⟩
    · rintro l3 _ w11 hs3 ⟨rfl, rfl, hB11, hC9⟩
      try dsimp only at hF
      refine nrm_sub' hs3 ?_
      clear hs3
      refine W_seq ?_
      refine W_seq_reg ?_
      refine WL_field Try.underlying77 rfl rfl (fun w => ⟨_, Try.sizeOf22 w⟩) rfl rfl ?_
      refine WL_load_box hC9 1 rfl rfl Try.isAgg22 rfl rfl ?_
      refine WL_len Try.underlying22 g1 rfl rfl ?_
      refine WL_field Try.underlying77 rfl rfl (fun w => ⟨_, Try.sizeOf22 w⟩) rfl rfl ?_
      refine WL_load_box hC9 0 rfl rfl Try.isAgg22 rfl rfl ?_
      refine WL_len Try.underlying22 g2 rfl rfl ?_
      refine WL_lss rfl rfl rfl ?_
      refine WL_nil ?_
      refine W_cond rfl (fun hc7 => ?_) (fun hc7 => ?_)
      · replace hF := ite_t hF hc7
        refine W_seq_reg ?_
        refine WL_assign rfl rfl ?_
        refine WL_nil ?_
        refine W_ret ?_
        refine nrm_ret ?_
        have hq10 := Option.some.inj hF
        subst hq10
        refine fn_ret1 rfl rfl ?_
        exact ⟨_, rfl, int_res hC9 _⟩
      · replace hF := ite_f hF hc7
        refine W_skip ?_
        refine nrm_normal ?_
        refine W_seq ?_
        refine W_seq_reg ?_
        refine WL_field Try.underlying77 rfl rfl (fun w => ⟨_, Try.sizeOf22 w⟩) rfl rfl ?_
        refine WL_load_box hC9 1 rfl rfl Try.isAgg22 rfl rfl ?_
        refine WL_len Try.underlying22 g1 rfl rfl ?_
        refine WL_field Try.underlying77 rfl rfl (fun w => ⟨_, Try.sizeOf22 w⟩) rfl rfl ?_
        refine WL_load_box hC9 0 rfl rfl Try.isAgg22 rfl rfl ?_
        refine WL_len Try.underlying22 g2 rfl rfl ?_
        refine WL_gtr rfl rfl rfl ?_
        refine WL_nil ?_
        refine W_cond rfl (fun hc8 => ?_) (fun hc8 => ?_)
        · replace hF := ite_t hF hc8
          refine W_seq_reg ?_
          refine WL_assign rfl rfl ?_
          refine WL_nil ?_
          refine W_ret ?_
          refine nrm_ret ?_
          have hq11 := Option.some.inj hF
          subst hq11
          refine fn_ret1 rfl rfl ?_
          exact ⟨_, rfl, int_res hC9 _⟩
        · replace hF := ite_f hF hc8
          refine W_skip ?_
          refine nrm_normal ?_
          refine W_seq_reg ?_
          refine WL_assign rfl rfl ?_
          refine WL_nil ?_
          refine W_ret ?_
          have hq12 := Option.some.inj hF
          subst hq12
          refine fn_ret1 rfl rfl ?_
          exact ⟨_, rfl, int_res hC9 _⟩

theorem c_S_HasFact {w0 : World} (a1 : (List (Int × (List Int)))) (u1 : Value) (g1 : RO [] w0 u1 a1) (a2 : (Int × (List Int))) (u2 : Value) (g2 : RO [] w0 u2 a2.2) (rr : Bool) (hF : S.HasFact a1 a2 = some rr) :
    Calls Try.prog 92 [u1, (.agg #[(.int .i64 a2.1), u2])].toArray w0 fun e w' => ∃ v, e = .returned v ∧ Res w0 rr v w' := by
  refine calls_of_W Try.func92 rfl rfl ?_
  have hC0 := Ctx.start w0
  unfold S.HasFact at hF
  refine W_seq_reg ?_
  refine WL_box (cs := [(.int .i64 a2.1), u2]) hC0 rfl rfl rfl (fun b1 w1 hC1 hB1 => ?_)
  refine WL_assign rfl rfl ?_
  refine WL_nil ?_
  refine W_seq ?_
  refine W_seq_reg ?_
  refine WL_assign rfl rfl ?_
  refine WL_nil ?_
  obtain ⟨r1, hr1, hF⟩ := bind_some hF
  refine W_norm (fun l w => .inl () = r1 ∧ l = [] ∧ Below w1.heap.size w1 w ∧ Ctx [] w0 w []) ?_ ?_
  · refine W_block ?_
    refine W.sub (l' := [(0, u1), (3, (ptr b1 0)), (5, (.int .i64 0))]) ?_ ⟨rfl, rfl, rfl, trivial⟩
    refine W_loop (fun k l w => ∃ x1 : Int, l = [(0, u1), (3, (ptr b1 0)), (5, (.int .i64 x1))] ∧ Below w1.heap.size w1 w ∧ Ctx [] w0 w [Item.box b1 [(.int .i64 a2.1), u2]] ∧ S.HasFact_l1 a1 a2 k x1 = some r1) FUEL ⟨0, rfl, (Below.refl _ _), hC1, hr1⟩ ?_
    clear hr1
    rintro k1 _ w2 ⟨x1, rfl, hB2, hC2, hL1⟩
    cases k1 with
    | zero => rw [S.HasFact_l1] at hL1; cases hL1
    | succ k1 =>
      rw [S.HasFact_l1] at hL1
      refine W_seq ?_
      refine W_seq_reg ?_
      refine WL_move rfl rfl ?_
      refine WL_move rfl rfl ?_
      refine WL_len Try.underlying36 g1 rfl rfl ?_
      refine WL_lss rfl rfl rfl ?_
      refine WL_nil ?_
      refine W_cond rfl (fun hc1 => ?_) (fun hc1 => ?_)
      · replace hL1 := ite_t hL1 hc1
        refine W_skip ?_
        refine nrm_normal ?_
        refine W_seq ?_
        refine W_block ?_
        refine W_seq ?_
        refine W_drawn 7 rfl hmix (fun w3 hB3 => ?_)
        have hC3 := hC2.grow hB3
        refine WA_take 0 rfl (by kernel_rfl) (by kernel_rfl) (by kernel_rfl) rfl (fl_move rfl) ?_
        refine WL_move rfl rfl ?_
        refine WL_nil ?_
        refine WA_take 1 rfl (by kernel_rfl) (by kernel_rfl) (by kernel_rfl) rfl (fl_move rfl) ?_
        refine WL_move rfl rfl ?_
        refine WL_nil ?_
        obtain ⟨x2, hx1, hL1⟩ := bind_some hL1
        refine WA_take 2 rfl (by kernel_rfl) (by kernel_rfl) (by kernel_rfl) rfl (fl_index Try.underlying36 ty77 g1 hx1 rfl rfl) ?_
        refine WL_index Try.underlying36 ty77 g1 hx1 rfl rfl rfl (fun b2 o1 h1 => ?_)
        refine WL_nil ?_
        refine WA.sub (l' := [(0, u1), (3, (ptr b1 0)), (5, (.int .i64 x1)), (6, (.int .i64 x1)), (7, u1), (8, (.int .i64 (List.length a1 : Int))), (9, (.bool (decide (x1 < (List.length a1 : Int))))), (12, u1), (13, (.int .i64 x1)), (14, (ptr b2 o1))]) ?_ ⟨rfl, rfl, rfl, rfl, rfl, rfl, rfl, rfl, rfl, rfl, trivial⟩
        refine WA_postsE [⟨3, [], fun vs => PW.ro [] w0 x2, []⟩, ⟨4, [], fun vs => PW.val (.agg #[(.int .i64 a2.1), u2]), []⟩] [[], []] 2 rfl (by kernel_rfl) (by kernel_rfl) rfl ?_ ?_
        · refine StepsE_cons rfl ?_ ?_
          · intro w4 hB4
            refine DepsE_nil ?_
            refine ⟨_, rfl, ?_⟩
            refine WL_load ty77 h1 (hC3.keep.then hB4) rfl rfl (fun v3 h4 => ?_)
            refine WL_nil ?_
            exact FinE_val (Below.refl _ _) rfl rfl ⟨rfl, h4⟩
          refine StepsE_cons rfl ?_ ?_
          · intro w4 hB4
            refine DepsE_nil ?_
            refine ⟨_, rfl, ?_⟩
            refine WL_load_box_agg [(.int .i64 a2.1), u2] (hC3.grow hB4) 0 rfl rfl rfl Try.isAgg77 Try.sizeOf77 rfl rfl ?_
            refine WL_nil ?_
            exact FinE_val (Below.refl _ _) rfl rfl ⟨rfl, rfl⟩
          exact StepsE_nil
        · intro w5 hB5
          refine AllE_cons rfl rfl rfl ?_
          rintro v3 _ ⟨rfl, h4⟩
          obtain ⟨v2, rfl, h3⟩ := ro_st77 h4
          refine AllE_cons rfl rfl rfl ?_
          rintro _ _ ⟨rfl, rfl⟩
          refine AllE_nil ?_
          intro hn1 hb1
          have hC4 := hC3.grow hB5
          obtain ⟨x3, hr2, hL1⟩ := bind_some hL1
          refine WA_one 5 (by kernel_rfl) rfl ?_
          refine WL_call Try.call101 rfl rfl (c_S_CompareFacts x2 v2 (h3.now hC4.keep) (a2.1, a2.2) u2 (g2.now hC4.keep) x3 hr2) ?_
          intro _ w6 hv1
          obtain ⟨rfl, hB6⟩ := res_int hv1
          have hC5 := hC4.grow hB6
          refine WL_nil ?_
          refine WA_take 6 rfl (by kernel_rfl) (by kernel_rfl) (by kernel_rfl) rfl (fl_eql rfl rfl) ?_
          refine WL_eql rfl rfl rfl ?_
          refine WL_nil ?_
          refine WA_done (by kernel_rfl) ?_
          refine nrm_normal ?_
          refine W_cond rfl (fun hc2 => ?_) (fun hc2 => ?_)
          · replace hL1 := ite_t hL1 hc2
            refine W_seq_reg ?_
            refine WL_assign rfl rfl ?_
            refine WL_nil ?_
            refine W_ret ?_
            refine blk_ret ?_
            refine nrm_ret ?_
            refine nrm_ret ?_
            refine blk_ret ?_
            refine nrm_ret ?_
            refine nrm_ret ?_
            have hq1 := Option.some.inj hL1
            subst hq1
            dsimp only at hF
            have hq2 := Option.some.inj hF
            subst hq2
            refine fn_ret1 rfl rfl ?_
            exact ⟨_, rfl, bool_res hC5 _⟩
          · replace hL1 := ite_f hL1 hc2
            refine W_skip ?_
            refine blk_normal ?_
            refine nrm_normal ?_
            refine W_reg ?_
            refine WL_move rfl rfl ?_
            refine WL_add rfl rfl rfl ?_
            refine WL_assign rfl rfl ?_
            refine WL_nil ?_
            refine nrm_sub (l' := [(0, u1), (3, (ptr b1 0)), (5, (.int .i64 (w64 (x1 + 1))))]) ⟨rfl, rfl, rfl, trivial⟩ ?_
            exact ⟨k1, Nat.lt_succ_self _, w64 (x1 + 1), rfl, ((((Keep.of hB2).then hB3).then hB5).then hB6).below, hC5, hL1⟩
      · replace hL1 := ite_f hL1 hc1
        refine W_exit ?_
        refine nrm_exit ?_
        refine nrm_exit ?_
        refine blk_exit ?_
        have hq3 := Option.some.inj hL1
        subst hq3
        have hC6 : Ctx [] w0 _ [] := hC2.headN 0
        refine nrm_sub (l' := []) trivial ?_
        exact ⟨rfl, rfl, (Keep.of hB2).below, hC6⟩
  · rintro l2 _ w7 hs2 ⟨rfl, rfl, hB7, hC7⟩
    try dsimp only at hF
    refine nrm_sub' hs2 ?_
    clear hs2
    refine W_seq_reg ?_
    refine WL_assign rfl rfl ?_
    refine WL_nil ?_
    refine W_ret ?_
    have hq4 := Option.some.inj hF
    subst hq4
    refine fn_ret1 rfl rfl ?_
    exact ⟨_, rfl, bool_res hC7 _⟩

theorem c_S_l2One {w0 : World} (a1 : Int) (a2 : (List Int)) (u1 : Value) (g1 : RO [] w0 u1 a2) (rr : (Int × (List Int))) (hF : S.l2One a1 a2 = some rr) :
    Calls Try.prog 102 [(.int .i64 a1), u1].toArray w0 fun e w' => ∃ v, e = .returned v ∧ Res w0 rr v w' := by
  refine calls_of_W Try.func102 rfl rfl ?_
  have hC0 := Ctx.start w0
  unfold S.l2One at hF
  refine W_seq_reg ?_
  refine WL_alloc hC0 zero77 rfl rfl (fun b1 w1 hC1 hB1 => ?_)
  refine WL_nil ?_
  refine W_seq_reg ?_
  refine WL_move rfl rfl ?_
  refine WL_buildSlice (vs := []) hC1 Try.underlying22 ty3 rfl rfl rfl rfl (by simp) rfl rfl (fun b2 w2 hC2 hB2 => ?_)
  have hC3 := hC2.row0 (α := Int)
  have hC4 := hC3.front 1 rfl
  dsimp only [List.eraseIdx, List.cons_append, List.nil_append, List.append_nil] at hC4
  have hC5 : Ctx [] w0 w2 (Item.own (.slice (some ⟨b2, 0, none⟩) 0 0) (([] : List Int) : List Int) :: [Item.box b1 [(.int .i64 0), (.slice none 0 0)]]) := hC4.rowOwn (by simp [maxLen])
  refine WL_move rfl rfl ?_
  obtain ⟨x1, hx1, hF⟩ := bind_some hF
  refine WL_append_flat (α := Int) hC5 0 rfl g1 hC5.keep Try.underlying22 ty3 rfl hx1 rfl rfl rfl (fun v1 w3 hC6 => ?_)
  try dsimp only [List.set] at hC6
  refine WL_build (vs := [(0, (.int .i64 a1)), (1, v1)]) rfl rfl rfl (built77_0_1 rfl (ro_cells (hC6.ro 0 rfl))) ?_
  refine WL_store_box_agg (cs' := [(.int .i64 a1), v1]) (new := [(.int .i64 a1), v1]) hC6 1 rfl rfl (by intro v hv; simp only [List.mem_cons, List.not_mem_nil, or_false] at hv; rcases hv with rfl | rfl; exact rfl; exact (ro_one (hC6.ro 0 rfl))) rfl Try.sizeOf77 rfl rfl (fun w4 hC7 => ?_)
  try dsimp only [List.set] at hC7
  refine WL_nil ?_
  refine W_ret ?_
  have hq1 := Option.some.inj hF
  subst hq1
  refine fn_retG1 rfl (rv_cell_agg (cs' := [(.int .i64 a1), v1]) hC7 (i := 1) rfl rfl rfl Try.isAgg77 Try.sizeOf77 rfl) ?_
  have hC8 := own_st77 a1 v1 x1 hC7
  exact ⟨_, rfl, own_res hC8 0 rfl⟩

theorem c_S_AddFact {w0 : World} (a1 : (List (Int × (List Int)))) (u1 : Value) (g1 : RO [] w0 u1 a1) (a2 : (Int × (List Int))) (u2 : Value) (g2 : RO [] w0 u2 a2.2) (rr : (List (Int × (List Int)))) (hF : S.AddFact a1 a2 = some rr) :
    Calls Try.prog 76 [u1, (.agg #[(.int .i64 a2.1), u2])].toArray w0 fun e w' => ∃ v, e = .returned v ∧ Res w0 rr v w' := by
  refine calls_of_W Try.func76 rfl rfl ?_
  have hC0 := Ctx.start w0
  unfold S.AddFact at hF
  refine W_seq_reg ?_
  refine WL_box (cs := [(.int .i64 a2.1), u2]) hC0 rfl rfl rfl (fun b1 w1 hC1 hB1 => ?_)
  refine WL_assign rfl rfl ?_
  refine WL_nil ?_
  refine W_seq_reg ?_
  refine WL_buildSlice (vs := []) hC1 Try.underlying36 ty77 rfl rfl rfl rfl (by simp) rfl rfl (fun b2 w2 hC2 hB2 => ?_)
  have hC3 := hC2.row0 (α := (Int × (List Int)))
  have hC4 := hC3.front 1 rfl
  dsimp only [List.eraseIdx, List.cons_append, List.nil_append, List.append_nil] at hC4
  have hC5 : Ctx [] w0 w2 (Item.own (.slice (some ⟨b2, 0, none⟩) 0 0) (([] : List (Int × (List Int))) : List (Int × (List Int))) :: [Item.box b1 [(.int .i64 a2.1), u2]]) := hC4.rowOwn (by simp [maxLen])
  refine WL_assign rfl rfl ?_
  refine WL_nil ?_
  refine W_seq_reg ?_
  refine WL_move rfl rfl ?_
  refine WL_load_box_agg [(.int .i64 a2.1), u2] hC5 1 rfl rfl rfl Try.isAgg77 Try.sizeOf77 rfl rfl ?_
  obtain ⟨x1, hr1, hF⟩ := bind_some hF
  refine WL_call Try.call92 rfl rfl (c_S_HasFact a1 u1 (g1.now hC5.keep) (a2.1, a2.2) u2 (g2.now hC5.keep) x1 hr1) ?_
  intro _ w3 hv1
  obtain ⟨rfl, hB3⟩ := res_bool hv1
  have hC6 := hC5.grow hB3
  refine WL_assign rfl rfl ?_
  refine WL_nil ?_
  refine W_seq ?_
  refine W_seq_reg ?_
  refine WL_assign rfl rfl ?_
  refine WL_nil ?_
  obtain ⟨r1, hr2, hF⟩ := bind_some hF
  refine W_norm (fun l w => ∃ v2 : Value, ∃ x5 : (List (Int × (List Int))), ∃ x6 : Bool, (x5, x6) = r1 ∧ l = [(3, (ptr b1 0)), (5, v2), (6, (.bool x6))] ∧ Ctx [] w0 w [Item.own v2 (x5 : (List (Int × (List Int)))), Item.box b1 [(.int .i64 a2.1), u2]]) ?_ ?_
  · refine W_block ?_
    refine W.sub (l' := [(0, u1), (3, (ptr b1 0)), (5, (.slice (some ⟨b2, 0, none⟩) 0 0)), (6, (.bool x1)), (7, (.int .i64 0))]) ?_ ⟨rfl, rfl, rfl, rfl, rfl, trivial⟩
    refine W_loop (fun k l w => ∃ v1 : Value, ∃ x2 : (List (Int × (List Int))), ∃ x3 : Bool, ∃ x4 : Int, l = [(0, u1), (3, (ptr b1 0)), (5, v1), (6, (.bool x3)), (7, (.int .i64 x4))] ∧ Ctx [] w0 w [Item.own v1 (x2 : (List (Int × (List Int)))), Item.box b1 [(.int .i64 a2.1), u2]] ∧ S.AddFact_l1 a1 a2 k x2 x3 x4 = some r1) FUEL ⟨(.slice (some ⟨b2, 0, none⟩) 0 0), ([] : List (Int × (List Int))), x1, 0, rfl, hC6, hr2⟩ ?_
    clear hr2
    rintro k1 _ w4 ⟨v1, x2, x3, x4, rfl, hC7, hL1⟩
    cases k1 with
    | zero => rw [S.AddFact_l1] at hL1; cases hL1
    | succ k1 =>
      rw [S.AddFact_l1] at hL1
      refine W_seq ?_
      refine W_seq_reg ?_
      refine WL_move rfl rfl ?_
      refine WL_move rfl rfl ?_
      refine WL_len Try.underlying36 g1 rfl rfl ?_
      refine WL_lss rfl rfl rfl ?_
      refine WL_nil ?_
      refine W_cond rfl (fun hc1 => ?_) (fun hc1 => ?_)
      · replace hL1 := ite_t hL1 hc1
        refine W_skip ?_
        refine nrm_normal ?_
        refine W_seq ?_
        refine W_block ?_
        refine W_seq ?_
        obtain ⟨r2, hr3, hL1⟩ := bind_some hL1
        refine W_cut (fun l w => ∃ x7 : Bool, x7 = r2 ∧ l = [(0, u1), (3, (ptr b1 0)), (5, v1), (6, (.bool x3)), (7, (.int .i64 x4)), (28, (.bool x7))] ∧ Below w4.heap.size w4 w ∧ Ctx [] w0 w [Item.own v1 (x2 : (List (Int × (List Int)))), Item.box b1 [(.int .i64 a2.1), u2]]) ?_ ?_
        · refine W_drawn 11 rfl hmix (fun w6 hB6 => ?_)
          have hC9 := hC7.grow hB6
          refine WA_take 0 rfl (by kernel_rfl) (by kernel_rfl) (by kernel_rfl) rfl (fl_move rfl) ?_
          refine WL_move rfl rfl ?_
          refine WL_nil ?_
          refine WA_take 1 rfl (by kernel_rfl) (by kernel_rfl) (by kernel_rfl) rfl (fl_not rfl) ?_
          refine WL_not rfl rfl ?_
          refine WL_nil ?_
          refine WA_take 2 rfl (by kernel_rfl) (by kernel_rfl) (by kernel_rfl) rfl (fl_move rfl) ?_
          refine WL_move rfl rfl ?_
          refine WL_nil ?_
          refine WA_fork (fun hc2 => ?_) (fun hc2 => ?_)
          · replace hr3 := ite_t hr3 hc2
            refine WA_takeG 4 rfl (by kernel_rfl) (by kernel_rfl) (by kernel_rfl) rfl rfl rfl (fl_move rfl) ?_
            refine WL_guard rfl rfl ?_
            refine WL_move rfl rfl ?_
            refine WL_nil ?_
            refine WA_takeG 5 rfl (by kernel_rfl) (by kernel_rfl) (by kernel_rfl) rfl rfl rfl (fl_move rfl) ?_
            refine WL_guard rfl rfl ?_
            refine WL_move rfl rfl ?_
            refine WL_nil ?_
            obtain ⟨x8, hx1, hr3⟩ := bind_some hr3
            refine WA_takeG 6 rfl (by kernel_rfl) (by kernel_rfl) (by kernel_rfl) rfl rfl rfl (fl_index Try.underlying36 ty77 g1 hx1 rfl rfl) ?_
            refine WL_guard rfl rfl ?_
            refine WL_index Try.underlying36 ty77 g1 hx1 rfl rfl rfl (fun b3 o1 h1 => ?_)
            refine WL_nil ?_
            refine WA.sub (l' := [(0, u1), (3, (ptr b1 0)), (5, v1), (6, (.bool x3)), (7, (.int .i64 x4)), (12, (.int .i64 x4)), (13, u1), (14, (.int .i64 (List.length a1 : Int))), (15, (.bool (decide (x4 < (List.length a1 : Int))))), (18, (.bool x3)), (19, (.bool (!x3))), (20, (.bool true)), (22, u1), (23, (.int .i64 x4)), (24, (ptr b3 o1))]) ?_ ⟨rfl, rfl, rfl, rfl, rfl, rfl, rfl, rfl, rfl, rfl, rfl, rfl, rfl, rfl, rfl, trivial⟩
            refine WA_postsE [⟨3, [], fun vs => PW.val (.agg #[(.int .i64 a2.1), u2]), []⟩, ⟨7, [], fun vs => PW.ro [] w0 x8, []⟩] [[], []] 3 rfl (by kernel_rfl) (by kernel_rfl) rfl ?_ ?_
            · refine StepsE_cons rfl ?_ ?_
              · intro w7 hB7
                refine DepsE_nil ?_
                refine ⟨_, rfl, ?_⟩
                refine WL_guard rfl rfl ?_
                refine WL_load_box_agg [(.int .i64 a2.1), u2] (hC9.grow hB7) 1 rfl rfl rfl Try.isAgg77 Try.sizeOf77 rfl rfl ?_
                refine WL_nil ?_
                exact FinE_val (Below.refl _ _) rfl rfl ⟨rfl, rfl⟩
              refine StepsE_cons rfl ?_ ?_
              · intro w7 hB7
                refine DepsE_nil ?_
                refine ⟨_, rfl, ?_⟩
                refine WL_guard rfl rfl ?_
                refine WL_load ty77 h1 (hC9.keep.then hB7) rfl rfl (fun v5 h4 => ?_)
                refine WL_nil ?_
                exact FinE_val (Below.refl _ _) rfl rfl ⟨rfl, h4⟩
              exact StepsE_nil
            · intro w8 hB8
              refine AllE_cons rfl rfl rfl ?_
              rintro _ _ ⟨rfl, rfl⟩
              refine AllE_cons rfl rfl rfl ?_
              rintro v5 _ ⟨rfl, h4⟩
              obtain ⟨v4, rfl, h3⟩ := ro_st77 h4
              refine AllE_nil ?_
              intro hn1 hb1
              have hC10 := hC9.grow hB8
              obtain ⟨x9, hr4, hr3⟩ := bind_some hr3
              refine WA_one 8 (by kernel_rfl) rfl ?_
              refine WL_guard rfl rfl ?_
              refine WL_call Try.call101 rfl rfl (c_S_CompareFacts (a2.1, a2.2) u2 (g2.now hC10.keep) x8 v4 (h3.now hC10.keep) x9 hr4) ?_
              intro _ w9 hv2
              obtain ⟨rfl, hB9⟩ := res_int hv2
              have hC11 := hC10.grow hB9
              refine WL_nil ?_
              refine WA_takeG 9 rfl (by kernel_rfl) (by kernel_rfl) (by kernel_rfl) rfl rfl rfl (fl_lss rfl rfl) ?_
              refine WL_guard rfl rfl ?_
              refine WL_lss rfl rfl rfl ?_
              refine WL_nil ?_
              refine WA_take 10 rfl (by kernel_rfl) (by kernel_rfl) (by kernel_rfl) rfl (fl_pick_t rfl rfl) ?_
              refine WL_pick_t rfl rfl rfl ?_
              refine WL_nil ?_
              refine WA_done (by kernel_rfl) ?_
              have hq1 := Option.some.inj hr3
              subst hq1
              refine nrm_sub (l' := [(0, u1), (3, (ptr b1 0)), (5, v1), (6, (.bool x3)), (7, (.int .i64 x4)), (28, (.bool (decide (x9 < 0))))]) ⟨rfl, rfl, rfl, rfl, rfl, rfl, trivial⟩ ?_
              exact ⟨(decide (x9 < 0)), rfl, rfl, (((Keep.of hB6).then hB8).then hB9).below, hC11⟩
          · replace hr3 := ite_f hr3 hc2
            refine WA_skip 3 rfl (by kernel_rfl) (by kernel_rfl) (by kernel_rfl) rfl rfl rfl (by simp) rfl rfl ?_
            refine WA_skip 4 rfl (by kernel_rfl) (by kernel_rfl) (by kernel_rfl) rfl rfl rfl (by simp) rfl rfl ?_
            refine WA_skip 5 rfl (by kernel_rfl) (by kernel_rfl) (by kernel_rfl) rfl rfl rfl (by simp) rfl rfl ?_
            refine WA_skip 6 rfl (by kernel_rfl) (by kernel_rfl) (by kernel_rfl) rfl rfl rfl (by simp) rfl rfl ?_
            refine WA_skip 7 rfl (by kernel_rfl) (by kernel_rfl) (by kernel_rfl) rfl rfl rfl (by simp) rfl rfl ?_
            refine WA_skip 8 rfl (by kernel_rfl) (by kernel_rfl) (by kernel_rfl) rfl rfl rfl (by simp) rfl rfl ?_
            refine WA_skip 9 rfl (by kernel_rfl) (by kernel_rfl) (by kernel_rfl) rfl rfl rfl (by simp) rfl rfl ?_
            refine WA_take 10 rfl (by kernel_rfl) (by kernel_rfl) (by kernel_rfl) rfl (fl_pick_f rfl rfl) ?_
            refine WL_pick_f rfl rfl rfl ?_
            refine WL_nil ?_
            refine WA_done (by kernel_rfl) ?_
            have hq2 := Option.some.inj hr3
            subst hq2
            refine nrm_sub (l' := [(0, u1), (3, (ptr b1 0)), (5, v1), (6, (.bool x3)), (7, (.int .i64 x4)), (28, (.bool false))]) ⟨rfl, rfl, rfl, rfl, rfl, rfl, trivial⟩ ?_
            exact ⟨false, rfl, rfl, (Keep.of hB6).below, hC9⟩
        · rintro _ w5 ⟨x7, rfl, rfl, hB5, hC8⟩
          try dsimp only at hL1
          obtain ⟨r3, hr5, hL1⟩ := bind_some hL1
          refine W_norm (fun l w => ∃ v6 : Value, ∃ x10 : (List (Int × (List Int))), ∃ x11 : Bool, (x10, x11) = r3 ∧ l = [(0, u1), (3, (ptr b1 0)), (5, v6), (6, (.bool x11)), (7, (.int .i64 x4))] ∧ Ctx [] w0 w [Item.own v6 (x10 : (List (Int × (List Int)))), Item.box b1 [(.int .i64 a2.1), u2]]) ?_ ?_
          · refine W_cond rfl (fun hc3 => ?_) (fun hc3 => ?_)
            · replace hr5 := ite_t hr5 hc3
              refine W_seq_reg ?_
              refine WL_move rfl rfl ?_
              refine WL_field Try.underlying77 rfl rfl (fun w => ⟨_, Try.sizeOf3 w⟩) rfl rfl ?_
              refine WL_load_box hC8 1 rfl rfl Try.isAgg3 rfl rfl ?_
              refine WL_field Try.underlying77 rfl rfl (fun w => ⟨_, Try.sizeOf22 w⟩) rfl rfl ?_
              refine WL_load_box hC8 1 rfl rfl Try.isAgg22 rfl rfl ?_
              obtain ⟨x12, hr6, hr5⟩ := bind_some hr5
              refine WL_call Try.call102 rfl rfl (c_S_l2One a2.1 a2.2 u2 (g2.now hC8.keep) x12 hr6) ?_
              rintro v7 w11 ⟨hB11, F1, hv3, hn2, hb2⟩
              have hC13 := hC8.push hB11 (A := Item.own v7 x12) hv3 hn2 hb2
              obtain ⟨v8, rfl, hC14⟩ := st77_own hC13
              refine WL_buildSlice (vs := [(.agg #[(.int .i64 x12.1), v8])]) hC14 Try.underlying36 ty77 rfl rfl rfl rfl (by intro v hv; simp only [List.mem_cons, List.not_mem_nil, or_false] at hv; rcases hv with rfl <;> rfl) rfl rfl (fun b4 w12 hC15 hB12 => ?_)
              have hC16 := hC15.row0 (α := (Int × (List Int)))
              have hC18 := hC16.front 2 rfl
              dsimp only [List.eraseIdx, List.cons_append, List.nil_append, List.append_nil] at hC18
              have hC17 := own_st77 x12.1 v8 x12.2 hC18
              have hC19 := hC17.row1
              have hC20 := hC19.front 1 rfl
              dsimp only [List.eraseIdx, List.cons_append, List.nil_append, List.append_nil] at hC20
              have hC21 : Ctx [] w0 w12 (Item.own (.slice (some ⟨b4, 0, none⟩) 1 1) ([(x12.1, x12.2)] : List (Int × (List Int))) :: [Item.own v1 (x2 : (List (Int × (List Int)))), Item.box b1 [(.int .i64 a2.1), u2]]) := hC20.rowOwn (by simp [maxLen])
              obtain ⟨x13, hx2, hr5⟩ := bind_some hr5
              refine WL_append_head hC21 0 rfl Try.underlying36 ty77 rfl hx2 rfl rfl rfl (fun v9 w13 hC22 => ?_)
              try dsimp only [List.set] at hC22
              refine WL_assign rfl rfl ?_
              refine WL_nil ?_
              refine W_reg ?_
              refine WL_assign rfl rfl ?_
              refine WL_nil ?_
              have hq3 := Option.some.inj hr5
              subst hq3
              refine nrm_sub (l' := [(0, u1), (3, (ptr b1 0)), (5, v9), (6, (.bool true)), (7, (.int .i64 x4))]) ⟨rfl, rfl, rfl, rfl, rfl, trivial⟩ ?_
              exact ⟨v9, x13, true, rfl, rfl, hC22⟩
            · replace hr5 := ite_f hr5 hc3
              refine W_skip ?_
              have hq4 := Option.some.inj hr5
              subst hq4
              refine nrm_sub (l' := [(0, u1), (3, (ptr b1 0)), (5, v1), (6, (.bool x3)), (7, (.int .i64 x4))]) ⟨rfl, rfl, rfl, rfl, rfl, trivial⟩ ?_
              exact ⟨v1, x2, x3, rfl, rfl, hC8⟩
          · rintro l3 _ w10 hs3 ⟨v6, x10, x11, rfl, rfl, hC12⟩
            try dsimp only at hL1
            refine nrm_sub' hs3 ?_
            clear hs3
            refine W_drawn 15 rfl hmix (fun w14 hB13 => ?_)
            have hC24 := hC12.grow hB13
            refine WA_take 0 rfl (by kernel_rfl) (by kernel_rfl) (by kernel_rfl) rfl (fl_move rfl) ?_
            refine WL_move rfl rfl ?_
            refine WL_nil ?_
            refine WA_take 1 rfl (by kernel_rfl) (by kernel_rfl) (by kernel_rfl) rfl (fl_move rfl) ?_
            refine WL_move rfl rfl ?_
            refine WL_nil ?_
            refine WA_take 2 rfl (by kernel_rfl) (by kernel_rfl) (by kernel_rfl) rfl (fl_move rfl) ?_
            refine WL_move rfl rfl ?_
            refine WL_nil ?_
            obtain ⟨x14, hx3, hL1⟩ := bind_some hL1
            refine WA_take 3 rfl (by kernel_rfl) (by kernel_rfl) (by kernel_rfl) rfl (fl_index Try.underlying36 ty77 g1 hx3 rfl rfl) ?_
            refine WL_index Try.underlying36 ty77 g1 hx3 rfl rfl rfl (fun b5 o2 h5 => ?_)
            refine WL_nil ?_
            refine WA_take 4 rfl (by kernel_rfl) (by kernel_rfl) (by kernel_rfl) rfl (fl_field Try.underlying77 rfl rfl (fun w => ⟨_, Try.sizeOf3 w⟩) rfl) ?_
            refine WL_field Try.underlying77 rfl rfl (fun w => ⟨_, Try.sizeOf3 w⟩) rfl rfl ?_
            refine WL_nil ?_
            refine WA_take 6 rfl (by kernel_rfl) (by kernel_rfl) (by kernel_rfl) rfl (fl_move rfl) ?_
            refine WL_move rfl rfl ?_
            refine WL_nil ?_
            refine WA_take 7 rfl (by kernel_rfl) (by kernel_rfl) (by kernel_rfl) rfl (fl_move rfl) ?_
            refine WL_move rfl rfl ?_
            refine WL_nil ?_
            obtain ⟨x15, hx4, hL1⟩ := bind_some hL1
            refine WA_take 8 rfl (by kernel_rfl) (by kernel_rfl) (by kernel_rfl) rfl (fl_index Try.underlying36 ty77 g1 hx4 rfl rfl) ?_
            refine WL_index Try.underlying36 ty77 g1 hx4 rfl rfl rfl (fun b6 o3 h6 => ?_)
            refine WL_nil ?_
            refine WA_take 9 rfl (by kernel_rfl) (by kernel_rfl) (by kernel_rfl) rfl (fl_field Try.underlying77 rfl rfl (fun w => ⟨_, Try.sizeOf22 w⟩) rfl) ?_
            refine WL_field Try.underlying77 rfl rfl (fun w => ⟨_, Try.sizeOf22 w⟩) rfl rfl ?_
            refine WL_nil ?_
            refine WA.sub (l' := [(0, u1), (3, (ptr b1 0)), (5, v6), (6, (.bool x11)), (7, (.int .i64 x4)), (37, v6), (38, u1), (39, (.int .i64 x4)), (40, (ptr b5 o2)), (41, (ptr b5 (o2 + 0))), (43, u1), (44, (.int .i64 x4)), (45, (ptr b6 o3)), (46, (ptr b6 (o3 + 1)))]) ?_ ⟨rfl, rfl, rfl, rfl, rfl, rfl, rfl, rfl, rfl, rfl, rfl, rfl, rfl, rfl, trivial⟩
            refine WA_postsE [⟨5, [], fun vs => PW.val (.int .i64 x14.1), []⟩, ⟨10, [], fun vs => PW.ro [] w0 x15.2, []⟩] [[], []] 4 rfl (by kernel_rfl) (by kernel_rfl) rfl ?_ ?_
            · refine StepsE_cons rfl ?_ ?_
              · intro w15 hB14
                refine DepsE_nil ?_
                refine ⟨_, rfl, ?_⟩
                refine WL_load ty3 h5.fst (hC24.keep.then hB14) rfl rfl (fun v10 h7 => ?_)
                obtain rfl := ro_int h7
                refine WL_nil ?_
                exact FinE_val (Below.refl _ _) rfl rfl ⟨rfl, rfl⟩
              refine StepsE_cons rfl ?_ ?_
              · intro w15 hB14
                refine DepsE_nil ?_
                refine ⟨_, rfl, ?_⟩
                refine WL_load ty22 h6.snd (hC24.keep.then hB14) rfl rfl (fun v11 h8 => ?_)
                refine WL_nil ?_
                exact FinE_val (Below.refl _ _) rfl rfl ⟨rfl, h8⟩
              exact StepsE_nil
            · intro w16 hB15
              refine AllE_cons rfl rfl rfl ?_
              rintro _ _ ⟨rfl, rfl⟩
              refine AllE_cons rfl rfl rfl ?_
              rintro v11 _ ⟨rfl, h8⟩
              refine AllE_nil ?_
              intro hn3 hb3
              have hC25 := hC24.grow hB15
              obtain ⟨x16, hr7, hL1⟩ := bind_some hL1
              refine WA_one 11 (by kernel_rfl) rfl ?_
              refine WL_call Try.call102 rfl rfl (c_S_l2One x14.1 x15.2 v11 (h8.now hC25.keep) x16 hr7) ?_
              rintro v12 w17 ⟨hB16, F2, hv4, hn4, hb4⟩
              have hC26 := hC25.push hB16 (A := Item.own v12 x16) hv4 hn4 hb4
              obtain ⟨v13, rfl, hC27⟩ := st77_own hC26
              refine WL_nil ?_
              refine WA_one 12 (by kernel_rfl) rfl ?_
              refine WL_buildSlice (vs := [(.agg #[(.int .i64 x16.1), v13])]) hC27 Try.underlying36 ty77 rfl rfl rfl rfl (by intro v hv; simp only [List.mem_cons, List.not_mem_nil, or_false] at hv; rcases hv with rfl <;> rfl) rfl rfl (fun b7 w18 hC28 hB17 => ?_)
              have hC29 := hC28.row0 (α := (Int × (List Int)))
              have hC31 := hC29.front 2 rfl
              dsimp only [List.eraseIdx, List.cons_append, List.nil_append, List.append_nil] at hC31
              have hC30 := own_st77 x16.1 v13 x16.2 hC31
              have hC32 := hC30.row1
              have hC33 := hC32.front 1 rfl
              dsimp only [List.eraseIdx, List.cons_append, List.nil_append, List.append_nil] at hC33
              have hC34 : Ctx [] w0 w18 (Item.own (.slice (some ⟨b7, 0, none⟩) 1 1) ([(x16.1, x16.2)] : List (Int × (List Int))) :: [Item.own v6 (x10 : (List (Int × (List Int)))), Item.box b1 [(.int .i64 a2.1), u2]]) := hC33.rowOwn (by simp [maxLen])
              refine WL_nil ?_
              obtain ⟨x17, hx5, hL1⟩ := bind_some hL1
              refine WA_one 13 (by kernel_rfl) rfl ?_
              refine WL_append_head hC34 0 rfl Try.underlying36 ty77 rfl hx5 rfl rfl rfl (fun v14 w19 hC35 => ?_)
              try dsimp only [List.set] at hC35
              refine WL_nil ?_
              refine WA_take 14 rfl (by kernel_rfl) (by kernel_rfl) (by kernel_rfl) rfl (fl_assign rfl) ?_
              refine WL_assign rfl rfl ?_
              refine WL_nil ?_
              refine WA_done (by kernel_rfl) ?_
              refine blk_normal ?_
              refine nrm_normal ?_
              refine W_reg ?_
              refine WL_move rfl rfl ?_
              refine WL_add rfl rfl rfl ?_
              refine WL_assign rfl rfl ?_
              refine WL_nil ?_
              refine nrm_sub (l' := [(0, u1), (3, (ptr b1 0)), (5, v14), (6, (.bool x11)), (7, (.int .i64 (w64 (x4 + 1))))]) ⟨rfl, rfl, rfl, rfl, rfl, trivial⟩ ?_
              exact ⟨k1, Nat.lt_succ_self _, v14, x17, x11, w64 (x4 + 1), rfl, hC35, hL1⟩
      · replace hL1 := ite_f hL1 hc1
        refine W_exit ?_
        refine nrm_exit ?_
        refine nrm_exit ?_
        refine blk_exit ?_
        have hq5 := Option.some.inj hL1
        subst hq5
        refine nrm_sub (l' := [(3, (ptr b1 0)), (5, v1), (6, (.bool x3))]) ⟨rfl, rfl, rfl, trivial⟩ ?_
        exact ⟨v1, x2, x3, rfl, rfl, hC7⟩
  · rintro l4 _ w20 hs4 ⟨v2, x5, x6, rfl, rfl, hC37⟩
    try dsimp only at hF
    refine nrm_sub' hs4 ?_
    clear hs4
    refine W_seq ?_
    refine W_seq_reg ?_
    refine WL_move rfl rfl ?_
    refine WL_not rfl rfl ?_
    refine WL_nil ?_
    obtain ⟨r4, hr8, hF⟩ := bind_some hF
    refine W_norm (fun l w => ∃ v15 : Value, ∃ x18 : (List (Int × (List Int))), x18 = r4 ∧ l = [(5, v15)] ∧ Ctx [] w0 w [Item.own v15 (x18 : (List (Int × (List Int))))]) ?_ ?_
    · refine W_cond rfl (fun hc4 => ?_) (fun hc4 => ?_)
      · replace hr8 := ite_t hr8 hc4
        refine W_reg ?_
        refine WL_move rfl rfl ?_
        refine WL_field Try.underlying77 rfl rfl (fun w => ⟨_, Try.sizeOf3 w⟩) rfl rfl ?_
        refine WL_load_box hC37 1 rfl rfl Try.isAgg3 rfl rfl ?_
        refine WL_field Try.underlying77 rfl rfl (fun w => ⟨_, Try.sizeOf22 w⟩) rfl rfl ?_
        refine WL_load_box hC37 1 rfl rfl Try.isAgg22 rfl rfl ?_
        obtain ⟨x19, hr9, hr8⟩ := bind_some hr8
        refine WL_call Try.call102 rfl rfl (c_S_l2One a2.1 a2.2 u2 (g2.now hC37.keep) x19 hr9) ?_
        rintro v16 w22 ⟨hB20, F3, hv5, hn5, hb5⟩
        have hC39 := hC37.push hB20 (A := Item.own v16 x19) hv5 hn5 hb5
        obtain ⟨v17, rfl, hC40⟩ := st77_own hC39
        refine WL_buildSlice (vs := [(.agg #[(.int .i64 x19.1), v17])]) hC40 Try.underlying36 ty77 rfl rfl rfl rfl (by intro v hv; simp only [List.mem_cons, List.not_mem_nil, or_false] at hv; rcases hv with rfl <;> rfl) rfl rfl (fun b8 w23 hC41 hB21 => ?_)
        have hC42 := hC41.row0 (α := (Int × (List Int)))
        have hC44 := hC42.front 2 rfl
        dsimp only [List.eraseIdx, List.cons_append, List.nil_append, List.append_nil] at hC44
        have hC43 := own_st77 x19.1 v17 x19.2 hC44
        have hC45 := hC43.row1
        have hC46 := hC45.front 1 rfl
        dsimp only [List.eraseIdx, List.cons_append, List.nil_append, List.append_nil] at hC46
        have hC47 : Ctx [] w0 w23 (Item.own (.slice (some ⟨b8, 0, none⟩) 1 1) ([(x19.1, x19.2)] : List (Int × (List Int))) :: [Item.own v2 (x5 : (List (Int × (List Int)))), Item.box b1 [(.int .i64 a2.1), u2]]) := hC46.rowOwn (by simp [maxLen])
        obtain ⟨x20, hx6, hr8⟩ := bind_some hr8
        refine WL_append_head hC47 0 rfl Try.underlying36 ty77 rfl hx6 rfl rfl rfl (fun v18 w24 hC48 => ?_)
        try dsimp only [List.set] at hC48
        refine WL_assign rfl rfl ?_
        refine WL_nil ?_
        have hq6 := Option.some.inj hr8
        subst hq6
        have hC50 : Ctx [] w0 _ [Item.own v18 (x20 : (List (Int × (List Int))))] := hC48.headN 1
        refine nrm_sub (l' := [(5, v18)]) ⟨rfl, trivial⟩ ?_
        exact ⟨v18, x20, rfl, rfl, hC50⟩
      · replace hr8 := ite_f hr8 hc4
        refine W_skip ?_
        have hq7 := Option.some.inj hr8
        subst hq7
        have hC51 : Ctx [] w0 _ [Item.own v2 (x5 : (List (Int × (List Int))))] := hC37.headN 1
        refine nrm_sub (l' := [(5, v2)]) ⟨rfl, trivial⟩ ?_
        exact ⟨v2, x5, rfl, rfl, hC51⟩
    · rintro l5 _ w21 hs5 ⟨v15, x18, rfl, rfl, hC38⟩
      try dsimp only at hF
      refine nrm_sub' hs5 ?_
      clear hs5
      refine W_seq_reg ?_
      refine WL_move rfl rfl ?_
      refine WL_assign rfl rfl ?_
      refine WL_nil ?_
      refine W_ret ?_
      have hq8 := Option.some.inj hF
      subst hq8
      refine fn_ret1 rfl rfl ?_
      exact ⟨_, rfl, own_res hC38 0 rfl⟩

theorem c_S_l2Copy {w0 : World} (a1 : (List (Int × (List Int)))) (u1 : Value) (g1 : RO [] w0 u1 a1) (rr : (List (Int × (List Int)))) (hF : S.l2Copy a1 = some rr) :
    Calls Try.prog 132 [u1].toArray w0 fun e w' => ∃ v, e = .returned v ∧ Res w0 rr v w' := by
  refine calls_of_W Try.func132 rfl rfl ?_
  have hC0 := Ctx.start w0
  unfold S.l2Copy at hF
  refine W_seq_reg ?_
  refine WL_assign rfl rfl ?_
  refine WL_nil ?_
  refine W_seq_reg ?_
  refine WL_buildSlice (vs := []) hC0 Try.underlying36 ty77 rfl rfl rfl rfl (by simp) rfl rfl (fun b1 w1 hC1 hB1 => ?_)
  have hC2 := hC1.row0 (α := (Int × (List Int)))
  have hC3 := hC2.front 1 rfl
  dsimp only [List.eraseIdx, List.cons_append, List.nil_append, List.append_nil] at hC3
  have hC4 : Ctx [] w0 w1 (Item.own (.slice (some ⟨b1, 0, none⟩) 0 0) (([] : List (Int × (List Int))) : List (Int × (List Int))) :: []) := hC3.rowOwn (by simp [maxLen])
  refine WL_assign rfl rfl ?_
  refine WL_nil ?_
  refine W_seq ?_
  refine W_seq_reg ?_
  refine WL_assign rfl rfl ?_
  refine WL_nil ?_
  obtain ⟨r1, hr1, hF⟩ := bind_some hF
  refine W_norm (fun l w => ∃ v2 : Value, ∃ x3 : (List (Int × (List Int))), x3 = r1 ∧ l = [(3, v2)] ∧ Ctx [] w0 w [Item.own v2 (x3 : (List (Int × (List Int))))]) ?_ ?_
  · refine W_block ?_
    refine W.sub (l' := [(0, u1), (3, (.slice (some ⟨b1, 0, none⟩) 0 0)), (4, (.int .i64 0))]) ?_ ⟨rfl, rfl, rfl, trivial⟩
    refine W_loop (fun k l w => ∃ v1 : Value, ∃ x1 : (List (Int × (List Int))), ∃ x2 : Int, l = [(0, u1), (3, v1), (4, (.int .i64 x2))] ∧ Ctx [] w0 w [Item.own v1 (x1 : (List (Int × (List Int))))] ∧ S.l2Copy_l1 a1 k x1 x2 = some r1) FUEL ⟨(.slice (some ⟨b1, 0, none⟩) 0 0), ([] : List (Int × (List Int))), 0, rfl, hC4, hr1⟩ ?_
    clear hr1
    rintro k1 _ w2 ⟨v1, x1, x2, rfl, hC5, hL1⟩
    cases k1 with
    | zero => rw [S.l2Copy_l1] at hL1; cases hL1
    | succ k1 =>
      rw [S.l2Copy_l1] at hL1
      refine W_seq ?_
      refine W_seq_reg ?_
      refine WL_move rfl rfl ?_
      refine WL_move rfl rfl ?_
      refine WL_len Try.underlying36 g1 rfl rfl ?_
      refine WL_lss rfl rfl rfl ?_
      refine WL_nil ?_
      refine W_cond rfl (fun hc1 => ?_) (fun hc1 => ?_)
      · replace hL1 := ite_t hL1 hc1
        refine W_skip ?_
        refine nrm_normal ?_
        refine W_seq ?_
        refine W_block ?_
        refine W_drawn 15 rfl hmix (fun w3 hB3 => ?_)
        have hC6 := hC5.grow hB3
        refine WA_take 0 rfl (by kernel_rfl) (by kernel_rfl) (by kernel_rfl) rfl (fl_move rfl) ?_
        refine WL_move rfl rfl ?_
        refine WL_nil ?_
        refine WA_take 1 rfl (by kernel_rfl) (by kernel_rfl) (by kernel_rfl) rfl (fl_move rfl) ?_
        refine WL_move rfl rfl ?_
        refine WL_nil ?_
        refine WA_take 2 rfl (by kernel_rfl) (by kernel_rfl) (by kernel_rfl) rfl (fl_move rfl) ?_
        refine WL_move rfl rfl ?_
        refine WL_nil ?_
        obtain ⟨x4, hx1, hL1⟩ := bind_some hL1
        refine WA_take 3 rfl (by kernel_rfl) (by kernel_rfl) (by kernel_rfl) rfl (fl_index Try.underlying36 ty77 g1 hx1 rfl rfl) ?_
        refine WL_index Try.underlying36 ty77 g1 hx1 rfl rfl rfl (fun b2 o1 h1 => ?_)
        refine WL_nil ?_
        refine WA_take 4 rfl (by kernel_rfl) (by kernel_rfl) (by kernel_rfl) rfl (fl_field Try.underlying77 rfl rfl (fun w => ⟨_, Try.sizeOf3 w⟩) rfl) ?_
        refine WL_field Try.underlying77 rfl rfl (fun w => ⟨_, Try.sizeOf3 w⟩) rfl rfl ?_
        refine WL_nil ?_
        refine WA_take 6 rfl (by kernel_rfl) (by kernel_rfl) (by kernel_rfl) rfl (fl_move rfl) ?_
        refine WL_move rfl rfl ?_
        refine WL_nil ?_
        refine WA_take 7 rfl (by kernel_rfl) (by kernel_rfl) (by kernel_rfl) rfl (fl_move rfl) ?_
        refine WL_move rfl rfl ?_
        refine WL_nil ?_
        obtain ⟨x5, hx2, hL1⟩ := bind_some hL1
        refine WA_take 8 rfl (by kernel_rfl) (by kernel_rfl) (by kernel_rfl) rfl (fl_index Try.underlying36 ty77 g1 hx2 rfl rfl) ?_
        refine WL_index Try.underlying36 ty77 g1 hx2 rfl rfl rfl (fun b3 o2 h2 => ?_)
        refine WL_nil ?_
        refine WA_take 9 rfl (by kernel_rfl) (by kernel_rfl) (by kernel_rfl) rfl (fl_field Try.underlying77 rfl rfl (fun w => ⟨_, Try.sizeOf22 w⟩) rfl) ?_
        refine WL_field Try.underlying77 rfl rfl (fun w => ⟨_, Try.sizeOf22 w⟩) rfl rfl ?_
        refine WL_nil ?_
        refine WA.sub (l' := [(0, u1), (3, v1), (4, (.int .i64 x2)), (6, (.int .i64 x2)), (7, u1), (8, (.int .i64 (List.length a1 : Int))), (9, (.bool (decide (x2 < (List.length a1 : Int))))), (12, v1), (13, u1), (14, (.int .i64 x2)), (15, (ptr b2 o1)), (16, (ptr b2 (o1 + 0))), (18, u1), (19, (.int .i64 x2)), (20, (ptr b3 o2)), (21, (ptr b3 (o2 + 1)))]) ?_ ⟨rfl, rfl, rfl, rfl, rfl, rfl, rfl, rfl, rfl, rfl, rfl, rfl, rfl, rfl, rfl, rfl, trivial⟩
        refine WA_postsE [⟨5, [], fun vs => PW.val (.int .i64 x4.1), []⟩, ⟨10, [], fun vs => PW.ro [] w0 x5.2, []⟩] [[], []] 4 rfl (by kernel_rfl) (by kernel_rfl) rfl ?_ ?_
        · refine StepsE_cons rfl ?_ ?_
          · intro w4 hB4
            refine DepsE_nil ?_
            refine ⟨_, rfl, ?_⟩
            refine WL_load ty3 h1.fst (hC6.keep.then hB4) rfl rfl (fun v3 h3 => ?_)
            obtain rfl := ro_int h3
            refine WL_nil ?_
            exact FinE_val (Below.refl _ _) rfl rfl ⟨rfl, rfl⟩
          refine StepsE_cons rfl ?_ ?_
          · intro w4 hB4
            refine DepsE_nil ?_
            refine ⟨_, rfl, ?_⟩
            refine WL_load ty22 h2.snd (hC6.keep.then hB4) rfl rfl (fun v4 h4 => ?_)
            refine WL_nil ?_
            exact FinE_val (Below.refl _ _) rfl rfl ⟨rfl, h4⟩
          exact StepsE_nil
        · intro w5 hB5
          refine AllE_cons rfl rfl rfl ?_
          rintro _ _ ⟨rfl, rfl⟩
          refine AllE_cons rfl rfl rfl ?_
          rintro v4 _ ⟨rfl, h4⟩
          refine AllE_nil ?_
          intro hn1 hb1
          have hC7 := hC6.grow hB5
          obtain ⟨x6, hr2, hL1⟩ := bind_some hL1
          refine WA_one 11 (by kernel_rfl) rfl ?_
          refine WL_call Try.call102 rfl rfl (c_S_l2One x4.1 x5.2 v4 (h4.now hC7.keep) x6 hr2) ?_
          rintro v5 w6 ⟨hB6, F1, hv1, hn2, hb2⟩
          have hC8 := hC7.push hB6 (A := Item.own v5 x6) hv1 hn2 hb2
          obtain ⟨v6, rfl, hC9⟩ := st77_own hC8
          refine WL_nil ?_
          refine WA_one 12 (by kernel_rfl) rfl ?_
          refine WL_buildSlice (vs := [(.agg #[(.int .i64 x6.1), v6])]) hC9 Try.underlying36 ty77 rfl rfl rfl rfl (by intro v hv; simp only [List.mem_cons, List.not_mem_nil, or_false] at hv; rcases hv with rfl <;> rfl) rfl rfl (fun b4 w7 hC10 hB7 => ?_)
          have hC11 := hC10.row0 (α := (Int × (List Int)))
          have hC13 := hC11.front 2 rfl
          dsimp only [List.eraseIdx, List.cons_append, List.nil_append, List.append_nil] at hC13
          have hC12 := own_st77 x6.1 v6 x6.2 hC13
          have hC14 := hC12.row1
          have hC15 := hC14.front 1 rfl
          dsimp only [List.eraseIdx, List.cons_append, List.nil_append, List.append_nil] at hC15
          have hC16 : Ctx [] w0 w7 (Item.own (.slice (some ⟨b4, 0, none⟩) 1 1) ([(x6.1, x6.2)] : List (Int × (List Int))) :: [Item.own v1 (x1 : (List (Int × (List Int))))]) := hC15.rowOwn (by simp [maxLen])
          refine WL_nil ?_
          obtain ⟨x7, hx3, hL1⟩ := bind_some hL1
          refine WA_one 13 (by kernel_rfl) rfl ?_
          refine WL_append_head hC16 0 rfl Try.underlying36 ty77 rfl hx3 rfl rfl rfl (fun v7 w8 hC17 => ?_)
          try dsimp only [List.set] at hC17
          refine WL_nil ?_
          refine WA_take 14 rfl (by kernel_rfl) (by kernel_rfl) (by kernel_rfl) rfl (fl_assign rfl) ?_
          refine WL_assign rfl rfl ?_
          refine WL_nil ?_
          refine WA_done (by kernel_rfl) ?_
          refine blk_normal ?_
          refine nrm_normal ?_
          refine W_reg ?_
          refine WL_move rfl rfl ?_
          refine WL_add rfl rfl rfl ?_
          refine WL_assign rfl rfl ?_
          refine WL_nil ?_
          refine nrm_sub (l' := [(0, u1), (3, v7), (4, (.int .i64 (w64 (x2 + 1))))]) ⟨rfl, rfl, rfl, trivial⟩ ?_
          exact ⟨k1, Nat.lt_succ_self _, v7, x7, w64 (x2 + 1), rfl, hC17, hL1⟩
      · replace hL1 := ite_f hL1 hc1
        refine W_exit ?_
        refine nrm_exit ?_
        refine nrm_exit ?_
        refine blk_exit ?_
        have hq1 := Option.some.inj hL1
        subst hq1
        refine nrm_sub (l' := [(3, v1)]) ⟨rfl, trivial⟩ ?_
        exact ⟨v1, x1, rfl, rfl, hC5⟩
  · rintro l2 _ w9 hs2 ⟨v2, x3, rfl, rfl, hC19⟩
    try dsimp only at hF
    refine nrm_sub' hs2 ?_
    clear hs2
    refine W_seq_reg ?_
    refine WL_move rfl rfl ?_
    refine WL_assign rfl rfl ?_
    refine WL_nil ?_
    refine W_ret ?_
    have hq2 := Option.some.inj hF
    subst hq2
    refine fn_ret1 rfl rfl ?_
    exact ⟨_, rfl, own_res hC19 0 rfl⟩

theorem c_S_l25Copy {w0 : World} (a1 : ((List (Int × (List Int))) × Int)) (u1 : Value) (g1 : RO [] w0 u1 a1.1) (rr : ((List (Int × (List Int))) × Int)) (hF : S.l25Copy a1 = some rr) :
    Calls Try.prog 98 [(.agg #[u1, (.int .i64 a1.2)])].toArray w0 fun e w' => ∃ v, e = .returned v ∧ Res w0 rr v w' := by
  refine calls_of_W Try.func98 rfl rfl ?_
  have hC0 := Ctx.start w0
  unfold S.l25Copy at hF
  refine W_seq_reg ?_
  refine WL_box (cs := [u1, (.int .i64 a1.2)]) hC0 rfl rfl rfl (fun b1 w1 hC1 hB1 => ?_)
  refine WL_alloc hC1 zero73 rfl rfl (fun b2 w2 hC2 hB2 => ?_)
  refine WL_nil ?_
  refine W_seq ?_
  refine W_drawn 7 rfl hmix (fun w3 hB3 => ?_)
  have hC3 := hC2.grow hB3
  refine WA_take 0 rfl (by kernel_rfl) (by kernel_rfl) (by kernel_rfl) rfl (fl_field Try.underlying73 rfl rfl (fun w => ⟨_, Try.sizeOf36 w⟩) rfl) ?_
  refine WL_field Try.underlying73 rfl rfl (fun w => ⟨_, Try.sizeOf36 w⟩) rfl rfl ?_
  refine WL_nil ?_
  refine WA_take 3 rfl (by kernel_rfl) (by kernel_rfl) (by kernel_rfl) rfl (fl_field Try.underlying73 rfl rfl (fun w => ⟨_, Try.sizeOf3 w⟩) rfl) ?_
  refine WL_field Try.underlying73 rfl rfl (fun w => ⟨_, Try.sizeOf3 w⟩) rfl rfl ?_
  refine WL_nil ?_
  obtain ⟨x1, hr1, hF⟩ := bind_some hF
  refine WA.sub (l' := [(0, (.agg #[u1, (.int .i64 a1.2)])), (1, (ptr b1 0)), (2, (ptr b2 0)), (3, (ptr b1 0)), (6, (ptr b1 1))]) ?_ ⟨rfl, rfl, rfl, rfl, rfl, trivial⟩
  refine WA_postsE [⟨1, [], fun vs => PW.val u1, []⟩, ⟨2, [], fun vs => PW.own x1, []⟩, ⟨4, [], fun vs => PW.val (.int .i64 a1.2), []⟩] [[], [1], []] 2 rfl (by kernel_rfl) (by kernel_rfl) rfl ?_ ?_
  · refine StepsE_cons rfl ?_ ?_
    · intro w5 hB5
      refine DepsE_nil ?_
      refine ⟨_, rfl, ?_⟩
      refine WL_load_box (hC3.grow hB5) 1 rfl rfl Try.isAgg36 rfl rfl ?_
      refine WL_nil ?_
      exact FinE_val (Below.refl _ _) rfl rfl ⟨rfl, rfl⟩
    refine StepsE_cons rfl ?_ ?_
    · intro w5 hB5
      refine DepsE_cons rfl rfl rfl ?_
      rintro _ _ ⟨rfl, rfl⟩ _
      refine DepsE_nil ?_
      refine ⟨_, rfl, ?_⟩
      refine WL_call Try.call132 rfl rfl (c_S_l2Copy a1.1 u1 (g1.now (hC3.keep.then hB5)) x1 hr1) ?_
      rintro v1 w4 ⟨hB4, F1, hv1, hn1, hb1⟩
      refine WL_nil ?_
      exact FinE_own hB4 rfl rfl hv1 hn1 hb1 (Val.inh hv1)
    refine StepsE_cons rfl ?_ ?_
    · intro w5 hB5
      refine DepsE_nil ?_
      refine ⟨_, rfl, ?_⟩
      refine WL_load_box (hC3.grow hB5) 1 rfl rfl Try.isAgg3 rfl rfl ?_
      refine WL_nil ?_
      exact FinE_val (Below.refl _ _) rfl rfl ⟨rfl, rfl⟩
    exact StepsE_nil
  · intro w6 hB6
    refine AllE_cons rfl rfl rfl ?_
    rintro _ _ ⟨rfl, rfl⟩
    refine AllE_cons rfl rfl rfl ?_
    intro v1 F1 hv1
    refine AllE_cons rfl rfl rfl ?_
    rintro _ _ ⟨rfl, rfl⟩
    refine AllE_nil ?_
    intro hn2 hb2
    have hC4 := hC3.pushL hB6 (Bs := [Item.own v1 (x1 : (List (Int × (List Int))))]) (Fs := [F1]) ⟨F1, _, rfl, hv1, rfl⟩ (by simpa using hn2) (fun b h => (hb2 b (by simpa using h)).1)
    refine WA_take 5 rfl (by kernel_rfl) (by kernel_rfl) (by kernel_rfl) rfl (fl_build (vs := [(0, v1), (1, (.int .i64 a1.2))]) rfl rfl (built73_0_1 (ro_cells (hC4.ro 0 rfl)) rfl)) ?_
    refine WL_build (vs := [(0, v1), (1, (.int .i64 a1.2))]) rfl rfl rfl (built73_0_1 (ro_cells (hC4.ro 0 rfl)) rfl) ?_
    refine WL_nil ?_
    refine WA_one 6 (by kernel_rfl) rfl ?_
    refine WL_store_box_agg (cs' := [v1, (.int .i64 a1.2)]) (new := [v1, (.int .i64 a1.2)]) hC4 1 rfl rfl (by intro v hv; simp only [List.mem_cons, List.not_mem_nil, or_false] at hv; rcases hv with rfl | rfl; exact (ro_one (hC4.ro 0 rfl)); exact rfl) rfl Try.sizeOf73 rfl rfl (fun w7 hC5 => ?_)
    try dsimp only [List.set] at hC5
    refine WL_nil ?_
    refine WA_done (by kernel_rfl) ?_
    refine nrm_normal ?_
    refine W_ret ?_
    have hq1 := Option.some.inj hF
    subst hq1
    refine fn_retG1 rfl (rv_cell_agg (cs' := [v1, (.int .i64 a1.2)]) hC5 (i := 1) rfl rfl rfl Try.isAgg73 Try.sizeOf73 rfl) ?_
    have hC6 := own_st73 v1 x1 a1.2 hC5
    exact ⟨_, rfl, own_res hC6 0 rfl⟩

theorem c_S_l1In {w0 : World} (a1 : Int) (a2 : Int) (a3 : Int) (rr : Bool) (hF : S.l1In a1 a2 a3 = some rr) :
    Calls Try.prog 133 [(.int .i64 a1), (.int .i64 a2), (.int .i64 a3)].toArray w0 fun e w' => ∃ v, e = .returned v ∧ Res w0 rr v w' := by
  refine calls_of_W Try.func133 rfl rfl ?_
  have hC0 := Ctx.start w0
  unfold S.l1In at hF
  refine W_seq_reg ?_
  refine WL_assign rfl rfl ?_
  refine WL_nil ?_
  obtain ⟨r1, hr1, hF⟩ := bind_some hF
  refine W_cut (fun l w => ∃ x1 : Bool, x1 = r1 ∧ l = [(6, (.bool x1))] ∧ Below w0.heap.size w0 w ∧ Ctx [] w0 w []) ?_ ?_
  · refine W_reg ?_
    refine WL_move rfl rfl ?_
    refine WL_move rfl rfl ?_
    refine WL_geq rfl rfl rfl ?_
    refine WL_move rfl rfl ?_
    refine WL_fork (fun hc1 => ?_) (fun hc1 => ?_)
    · replace hr1 := ite_t hr1 hc1
      refine WL_guard rfl rfl ?_
      refine WL_move rfl rfl ?_
      refine WL_guard rfl rfl ?_
      refine WL_move rfl rfl ?_
      refine WL_guard rfl rfl ?_
      refine WL_leq rfl rfl rfl ?_
      refine WL_pick_t rfl rfl rfl ?_
      refine WL_assign rfl rfl ?_
      refine WL_nil ?_
      have hq1 := Option.some.inj hr1
      subst hq1
      refine nrm_sub (l' := [(6, (.bool (decide (a1 ≤ a3))))]) ⟨rfl, trivial⟩ ?_
      exact ⟨(decide (a1 ≤ a3)), rfl, rfl, (Below.refl _ _), hC0⟩
    · replace hr1 := ite_f hr1 hc1
      refine WL_guard_skip rfl rfl (by simp) rfl ?_
      refine WL_guard_skip rfl rfl (by simp) rfl ?_
      refine WL_guard_skip rfl rfl (by simp) rfl ?_
      refine WL_pick_f rfl rfl rfl ?_
      refine WL_assign rfl rfl ?_
      refine WL_nil ?_
      have hq2 := Option.some.inj hr1
      subst hq2
      refine nrm_sub (l' := [(6, (.bool false))]) ⟨rfl, trivial⟩ ?_
      exact ⟨false, rfl, rfl, (Below.refl _ _), hC0⟩
  · rintro _ w1 ⟨x1, rfl, rfl, hB1, hC1⟩
    try dsimp only at hF
    refine W_ret ?_
    have hq3 := Option.some.inj hF
    subst hq3
    refine fn_ret1 rfl rfl ?_
    exact ⟨_, rfl, bool_res hC1 _⟩

theorem c_S_IsSchema {w0 : World} (a1 : (List Int)) (u1 : Value) (g1 : RO [] w0 u1 a1) (rr : Bool) (hF : S.IsSchema a1 = some rr) :
    Calls Try.prog 126 [u1].toArray w0 fun e w' => ∃ v, e = .returned v ∧ Res w0 rr v w' := by
  refine calls_of_W Try.func126 rfl rfl ?_
  have hC0 := Ctx.start w0
  unfold S.IsSchema at hF
  refine W_seq_reg ?_
  refine WL_assign rfl rfl ?_
  refine WL_nil ?_
  refine W_seq ?_
  refine W_seq_reg ?_
  refine WL_assign rfl rfl ?_
  refine WL_nil ?_
  obtain ⟨r1, hr1, hF⟩ := bind_some hF
  refine W_norm (fun l w => .inl () = r1 ∧ l = [(0, u1)] ∧ Below w0.heap.size w0 w ∧ Ctx [] w0 w []) ?_ ?_
  · refine W_block ?_
    refine W.sub (l' := [(0, u1), (3, (.int .i64 0))]) ?_ ⟨rfl, rfl, trivial⟩
    refine W_loop (fun k l w => ∃ x1 : Int, l = [(0, u1), (3, (.int .i64 x1))] ∧ Below w0.heap.size w0 w ∧ Ctx [] w0 w [] ∧ S.IsSchema_l1 a1 k x1 = some r1) FUEL ⟨0, rfl, (Below.refl _ _), hC0, hr1⟩ ?_
    clear hr1
    rintro k1 _ w1 ⟨x1, rfl, hB1, hC1, hL1⟩
    cases k1 with
    | zero => rw [S.IsSchema_l1] at hL1; cases hL1
    | succ k1 =>
      rw [S.IsSchema_l1] at hL1
      refine W_seq ?_
      refine W_seq_reg ?_
      refine WL_move rfl rfl ?_
      refine WL_move rfl rfl ?_
      refine WL_len Try.underlying22 g1 rfl rfl ?_
      refine WL_lss rfl rfl rfl ?_
      refine WL_nil ?_
      refine W_cond rfl (fun hc1 => ?_) (fun hc1 => ?_)
      · replace hL1 := ite_t hL1 hc1
        refine W_skip ?_
        refine nrm_normal ?_
        refine W_seq ?_
        refine W_block ?_
        refine W_seq_reg ?_
        refine WL_move rfl rfl ?_
        refine WL_move rfl rfl ?_
        obtain ⟨x2, hx1, hL1⟩ := bind_some hL1
        refine WL_index Try.underlying22 ty3 g1 hx1 rfl rfl rfl (fun b1 o1 h1 => ?_)
        refine WL_load ty3 h1 hC1.keep rfl rfl (fun v1 h2 => ?_)
        obtain rfl := ro_int h2
        obtain ⟨x3, hr2, hL1⟩ := bind_some hL1
        refine WL_call Try.call133 rfl rfl (c_S_l1In x2 1 3 x3 hr2) ?_
        intro _ w2 hv1
        obtain ⟨rfl, hB2⟩ := res_bool hv1
        have hC2 := hC1.grow hB2
        refine WL_not rfl rfl ?_
        refine WL_nil ?_
        refine W_cond rfl (fun hc2 => ?_) (fun hc2 => ?_)
        · replace hL1 := ite_t hL1 hc2
          refine W_seq_reg ?_
          refine WL_assign rfl rfl ?_
          refine WL_nil ?_
          refine W_ret ?_
          refine blk_ret ?_
          refine nrm_ret ?_
          refine nrm_ret ?_
          refine blk_ret ?_
          refine nrm_ret ?_
          refine nrm_ret ?_
          have hq1 := Option.some.inj hL1
          subst hq1
          dsimp only at hF
          have hq2 := Option.some.inj hF
          subst hq2
          refine fn_ret1 rfl rfl ?_
          exact ⟨_, rfl, bool_res hC2 _⟩
        · replace hL1 := ite_f hL1 hc2
          refine W_skip ?_
          refine blk_normal ?_
          refine nrm_normal ?_
          refine W_reg ?_
          refine WL_move rfl rfl ?_
          refine WL_add rfl rfl rfl ?_
          refine WL_assign rfl rfl ?_
          refine WL_nil ?_
          refine nrm_sub (l' := [(0, u1), (3, (.int .i64 (w64 (x1 + 1))))]) ⟨rfl, rfl, trivial⟩ ?_
          exact ⟨k1, Nat.lt_succ_self _, w64 (x1 + 1), rfl, ((Keep.of hB1).then hB2).below, hC2, hL1⟩
      · replace hL1 := ite_f hL1 hc1
        refine W_exit ?_
        refine nrm_exit ?_
        refine nrm_exit ?_
        refine blk_exit ?_
        have hq3 := Option.some.inj hL1
        subst hq3
        refine nrm_sub (l' := [(0, u1)]) ⟨rfl, trivial⟩ ?_
        exact ⟨rfl, rfl, (Keep.of hB1).below, hC1⟩
  · rintro l2 _ w3 hs2 ⟨rfl, rfl, hB3, hC3⟩
    try dsimp only at hF
    refine nrm_sub' hs2 ?_
    clear hs2
    refine W_seq_reg ?_
    refine WL_move rfl rfl ?_
    refine WL_len Try.underlying22 g1 rfl rfl ?_
    obtain ⟨x4, hr3, hF⟩ := bind_some hF
    refine WL_call Try.call133 rfl rfl (c_S_l1In (List.length a1 : Int) 1 3 x4 hr3) ?_
    intro _ w4 hv2
    obtain ⟨rfl, hB4⟩ := res_bool hv2
    have hC4 := hC3.grow hB4
    refine WL_assign rfl rfl ?_
    refine WL_nil ?_
    refine W_ret ?_
    have hq4 := Option.some.inj hF
    subst hq4
    refine fn_ret1 rfl rfl ?_
    exact ⟨_, rfl, bool_res hC4 _⟩

theorem c_S_IsFact {w0 : World} (a1 : (List Int)) (u1 : Value) (g1 : RO [] w0 u1 a1) (a2 : (Int × (List Int))) (u2 : Value) (g2 : RO [] w0 u2 a2.2) (rr : Bool) (hF : S.IsFact a1 a2 = some rr) :
    Calls Try.prog 100 [u1, (.agg #[(.int .i64 a2.1), u2])].toArray w0 fun e w' => ∃ v, e = .returned v ∧ Res w0 rr v w' := by
  refine calls_of_W Try.func100 rfl rfl ?_
  have hC0 := Ctx.start w0
  unfold S.IsFact at hF
  refine W_seq_reg ?_
  refine WL_box (cs := [(.int .i64 a2.1), u2]) hC0 rfl rfl rfl (fun b1 w1 hC1 hB1 => ?_)
  refine WL_assign rfl rfl ?_
  refine WL_nil ?_
  refine W_seq ?_
  obtain ⟨r1, hr1, hF⟩ := bind_some hF
  refine W_cut (fun l w => ∃ x1 : Bool, x1 = r1 ∧ l = [(3, (ptr b1 0)), (28, (.bool x1))] ∧ Below w1.heap.size w1 w ∧ Ctx [] w0 w [Item.box b1 [(.int .i64 a2.1), u2]]) ?_ ?_
  · refine W_drawn 23 rfl hmix (fun w3 hB3 => ?_)
    have hC3 := hC1.grow hB3
    refine WA_take 0 rfl (by kernel_rfl) (by kernel_rfl) (by kernel_rfl) rfl (fl_move rfl) ?_
    refine WL_move rfl rfl ?_
    refine WL_nil ?_
    obtain ⟨x2, hr2, hr1⟩ := bind_some hr1
    refine WA_one 1 (by kernel_rfl) rfl ?_
    refine WL_call Try.call126 rfl rfl (c_S_IsSchema a1 u1 (g1.now hC3.keep) x2 hr2) ?_
    intro _ w4 hv1
    obtain ⟨rfl, hB4⟩ := res_bool hv1
    have hC4 := hC3.grow hB4
    refine WL_nil ?_
    refine WA_take 2 rfl (by kernel_rfl) (by kernel_rfl) (by kernel_rfl) rfl (fl_not rfl) ?_
    refine WL_not rfl rfl ?_
    refine WL_nil ?_
    refine WA_take 3 rfl (by kernel_rfl) (by kernel_rfl) (by kernel_rfl) rfl (fl_move rfl) ?_
    refine WL_move rfl rfl ?_
    refine WL_nil ?_
    refine WA_fork (fun hc1 => ?_) (fun hc1 => ?_)
    · replace hr1 := ite_t hr1 hc1
      refine WA_skip 4 rfl (by kernel_rfl) (by kernel_rfl) (by kernel_rfl) rfl rfl rfl (by simp) rfl rfl ?_
      refine WA_skip 5 rfl (by kernel_rfl) (by kernel_rfl) (by kernel_rfl) rfl rfl rfl (by simp) rfl rfl ?_
      refine WA_skip 6 rfl (by kernel_rfl) (by kernel_rfl) (by kernel_rfl) rfl rfl rfl (by simp) rfl rfl ?_
      refine WA_skip 7 rfl (by kernel_rfl) (by kernel_rfl) (by kernel_rfl) rfl rfl rfl (by simp) rfl rfl ?_
      refine WA_skip 8 rfl (by kernel_rfl) (by kernel_rfl) (by kernel_rfl) rfl rfl rfl (by simp) rfl rfl ?_
      refine WA_skip 9 rfl (by kernel_rfl) (by kernel_rfl) (by kernel_rfl) rfl rfl rfl (by simp) rfl rfl ?_
      refine WA_skip 10 rfl (by kernel_rfl) (by kernel_rfl) (by kernel_rfl) rfl rfl rfl (by simp) rfl rfl ?_
      refine WA_take 11 rfl (by kernel_rfl) (by kernel_rfl) (by kernel_rfl) rfl (fl_pick_t rfl rfl) ?_
      refine WL_pick_t rfl rfl rfl ?_
      refine WL_nil ?_
      refine WA_take 12 rfl (by kernel_rfl) (by kernel_rfl) (by kernel_rfl) rfl (fl_move rfl) ?_
      refine WL_move rfl rfl ?_
      refine WL_nil ?_
      refine WA_skip 13 rfl (by kernel_rfl) (by kernel_rfl) (by kernel_rfl) rfl rfl rfl (by simp) rfl rfl ?_
      refine WA_skip 14 rfl (by kernel_rfl) (by kernel_rfl) (by kernel_rfl) rfl rfl rfl (by simp) rfl rfl ?_
      refine WA_skip 15 rfl (by kernel_rfl) (by kernel_rfl) (by kernel_rfl) rfl rfl rfl (by simp) rfl rfl ?_
      refine WA_skip 16 rfl (by kernel_rfl) (by kernel_rfl) (by kernel_rfl) rfl rfl rfl (by simp) rfl rfl ?_
      refine WA_skip 17 rfl (by kernel_rfl) (by kernel_rfl) (by kernel_rfl) rfl rfl rfl (by simp) rfl rfl ?_
      refine WA_skip 18 rfl (by kernel_rfl) (by kernel_rfl) (by kernel_rfl) rfl rfl rfl (by simp) rfl rfl ?_
      refine WA_skip 19 rfl (by kernel_rfl) (by kernel_rfl) (by kernel_rfl) rfl rfl rfl (by simp) rfl rfl ?_
      refine WA_skip 20 rfl (by kernel_rfl) (by kernel_rfl) (by kernel_rfl) rfl rfl rfl (by simp) rfl rfl ?_
      refine WA_skip 21 rfl (by kernel_rfl) (by kernel_rfl) (by kernel_rfl) rfl rfl rfl (by simp) rfl rfl ?_
      refine WA_take 22 rfl (by kernel_rfl) (by kernel_rfl) (by kernel_rfl) rfl (fl_pick_t rfl rfl) ?_
      refine WL_pick_t rfl rfl rfl ?_
      refine WL_nil ?_
      refine WA_done (by kernel_rfl) ?_
      have hq1 := Option.some.inj hr1
      subst hq1
      refine nrm_sub (l' := [(3, (ptr b1 0)), (28, (.bool true))]) ⟨rfl, rfl, trivial⟩ ?_
      exact ⟨true, rfl, rfl, ((Keep.of hB3).then hB4).below, hC4⟩
    · replace hr1 := ite_f hr1 hc1
      refine WA_takeG 4 rfl (by kernel_rfl) (by kernel_rfl) (by kernel_rfl) rfl rfl rfl (fl_field Try.underlying77 rfl rfl (fun w => ⟨_, Try.sizeOf3 w⟩) rfl) ?_
      refine WL_guard rfl rfl ?_
      refine WL_field Try.underlying77 rfl rfl (fun w => ⟨_, Try.sizeOf3 w⟩) rfl rfl ?_
      refine WL_nil ?_
      refine WA_takeG 6 rfl (by kernel_rfl) (by kernel_rfl) (by kernel_rfl) rfl rfl rfl (fl_move rfl) ?_
      refine WL_guard rfl rfl ?_
      refine WL_move rfl rfl ?_
      refine WL_nil ?_
      refine WA_takeG 7 rfl (by kernel_rfl) (by kernel_rfl) (by kernel_rfl) rfl rfl rfl (fl_len Try.underlying22 g1 rfl) ?_
      refine WL_guard rfl rfl ?_
      refine WL_len Try.underlying22 g1 rfl rfl ?_
      refine WL_nil ?_
      refine WA_takeG 8 rfl (by kernel_rfl) (by kernel_rfl) (by kernel_rfl) rfl rfl rfl (fl_sub rfl rfl) ?_
      refine WL_guard rfl rfl ?_
      refine WL_sub rfl rfl rfl ?_
      refine WL_nil ?_
      refine WA_one 5 (by kernel_rfl) rfl ?_
      refine WL_guard rfl rfl ?_
      refine WL_load_box hC4 0 rfl rfl Try.isAgg3 rfl rfl ?_
      refine WL_nil ?_
      obtain ⟨x3, hr3, hr1⟩ := bind_some hr1
      refine WA_one 9 (by kernel_rfl) rfl ?_
      refine WL_guard rfl rfl ?_
      refine WL_call Try.call133 rfl rfl (c_S_l1In a2.1 0 (w64 ((List.length a1 : Int) - 1)) x3 hr3) ?_
      intro _ w5 hv2
      obtain ⟨rfl, hB5⟩ := res_bool hv2
      have hC5 := hC4.grow hB5
      refine WL_nil ?_
      refine WA_takeG 10 rfl (by kernel_rfl) (by kernel_rfl) (by kernel_rfl) rfl rfl rfl (fl_not rfl) ?_
      refine WL_guard rfl rfl ?_
      refine WL_not rfl rfl ?_
      refine WL_nil ?_
      refine WA_take 11 rfl (by kernel_rfl) (by kernel_rfl) (by kernel_rfl) rfl (fl_pick_f rfl rfl) ?_
      refine WL_pick_f rfl rfl rfl ?_
      refine WL_nil ?_
      refine WA_take 12 rfl (by kernel_rfl) (by kernel_rfl) (by kernel_rfl) rfl (fl_move rfl) ?_
      refine WL_move rfl rfl ?_
      refine WL_nil ?_
      refine WA_fork (fun hc2 => ?_) (fun hc2 => ?_)
      · replace hr1 := ite_t hr1 hc2
        refine WA_skip 13 rfl (by kernel_rfl) (by kernel_rfl) (by kernel_rfl) rfl rfl rfl (by simp) rfl rfl ?_
        refine WA_skip 14 rfl (by kernel_rfl) (by kernel_rfl) (by kernel_rfl) rfl rfl rfl (by simp) rfl rfl ?_
        refine WA_skip 15 rfl (by kernel_rfl) (by kernel_rfl) (by kernel_rfl) rfl rfl rfl (by simp) rfl rfl ?_
        refine WA_skip 16 rfl (by kernel_rfl) (by kernel_rfl) (by kernel_rfl) rfl rfl rfl (by simp) rfl rfl ?_
        refine WA_skip 17 rfl (by kernel_rfl) (by kernel_rfl) (by kernel_rfl) rfl rfl rfl (by simp) rfl rfl ?_
        refine WA_skip 18 rfl (by kernel_rfl) (by kernel_rfl) (by kernel_rfl) rfl rfl rfl (by simp) rfl rfl ?_
        refine WA_skip 19 rfl (by kernel_rfl) (by kernel_rfl) (by kernel_rfl) rfl rfl rfl (by simp) rfl rfl ?_
        refine WA_skip 20 rfl (by kernel_rfl) (by kernel_rfl) (by kernel_rfl) rfl rfl rfl (by simp) rfl rfl ?_
        refine WA_skip 21 rfl (by kernel_rfl) (by kernel_rfl) (by kernel_rfl) rfl rfl rfl (by simp) rfl rfl ?_
        refine WA_take 22 rfl (by kernel_rfl) (by kernel_rfl) (by kernel_rfl) rfl (fl_pick_t rfl rfl) ?_
        refine WL_pick_t rfl rfl rfl ?_
        refine WL_nil ?_
        refine WA_done (by kernel_rfl) ?_
        have hq2 := Option.some.inj hr1
        subst hq2
        refine nrm_sub (l' := [(3, (ptr b1 0)), (28, (.bool true))]) ⟨rfl, rfl, trivial⟩ ?_
        exact ⟨true, rfl, rfl, (((Keep.of hB3).then hB4).then hB5).below, hC5⟩
      · replace hr1 := ite_f hr1 hc2
        refine WA_takeG 13 rfl (by kernel_rfl) (by kernel_rfl) (by kernel_rfl) rfl rfl rfl (fl_field Try.underlying77 rfl rfl (fun w => ⟨_, Try.sizeOf22 w⟩) rfl) ?_
        refine WL_guard rfl rfl ?_
        refine WL_field Try.underlying77 rfl rfl (fun w => ⟨_, Try.sizeOf22 w⟩) rfl rfl ?_
        refine WL_nil ?_
        refine WA_takeG 16 rfl (by kernel_rfl) (by kernel_rfl) (by kernel_rfl) rfl rfl rfl (fl_move rfl) ?_
        refine WL_guard rfl rfl ?_
        refine WL_move rfl rfl ?_
        refine WL_nil ?_
        refine WA_takeG 17 rfl (by kernel_rfl) (by kernel_rfl) (by kernel_rfl) rfl rfl rfl (fl_field Try.underlying77 rfl rfl (fun w => ⟨_, Try.sizeOf3 w⟩) rfl) ?_
        refine WL_guard rfl rfl ?_
        refine WL_field Try.underlying77 rfl rfl (fun w => ⟨_, Try.sizeOf3 w⟩) rfl rfl ?_
        refine WL_nil ?_
        obtain ⟨x4, hx1, hr1⟩ := bind_some hr1
        refine WA.sub (l' := [(0, u1), (1, (.agg #[(.int .i64 a2.1), u2])), (3, (ptr b1 0)), (4, (.bool false)), (6, u1), (7, (.bool x2)), (8, (.bool (!x2))), (9, (.bool false)), (10, (ptr b1 0)), (11, (.int .i64 a2.1)), (12, u1), (13, (.int .i64 (List.length a1 : Int))), (14, (.int .i64 (w64 ((List.length a1 : Int) - 1)))), (15, (.bool x3)), (16, (.bool (!x3))), (17, (.bool (!x3))), (18, (.bool false)), (19, (ptr b1 1)), (22, u1), (23, (ptr b1 0))]) ?_ ⟨rfl, rfl, rfl, rfl, rfl, rfl, rfl, rfl, rfl, rfl, rfl, rfl, rfl, rfl, rfl, rfl, rfl, rfl, rfl, rfl, trivial⟩
        refine WA_postsE [⟨14, [], fun vs => PW.val u2, []⟩, ⟨15, [], fun vs => PW.val (.int .i64 (List.length a2.2 : Int)), []⟩, ⟨18, [], fun vs => PW.val (.int .i64 a2.1), []⟩, ⟨19, [], fun vs => PW.at [] w0 x4, []⟩, ⟨20, [], fun vs => PW.val (.int .i64 x4), []⟩] [[], [14], [], [18], [19]] 2 rfl (by kernel_rfl) (by kernel_rfl) rfl ?_ ?_
        · refine StepsE_cons rfl ?_ ?_
          · intro w6 hB6
            refine DepsE_nil ?_
            refine ⟨_, rfl, ?_⟩
            refine WL_guard rfl rfl ?_
            refine WL_load_box (hC5.grow hB6) 0 rfl rfl Try.isAgg22 rfl rfl ?_
            refine WL_nil ?_
            exact FinE_val (Below.refl _ _) rfl rfl ⟨rfl, rfl⟩
          refine StepsE_cons rfl ?_ ?_
          · intro w6 hB6
            refine DepsE_cons rfl rfl rfl ?_
            rintro _ _ ⟨rfl, rfl⟩ _
            refine DepsE_nil ?_
            refine ⟨_, rfl, ?_⟩
            refine WL_guard rfl rfl ?_
            refine WL_len Try.underlying22 g2 rfl rfl ?_
            refine WL_nil ?_
            exact FinE_val (Below.refl _ _) rfl rfl ⟨rfl, rfl⟩
          refine StepsE_cons rfl ?_ ?_
          · intro w6 hB6
            refine DepsE_nil ?_
            refine ⟨_, rfl, ?_⟩
            refine WL_guard rfl rfl ?_
            refine WL_load_box (hC5.grow hB6) 0 rfl rfl Try.isAgg3 rfl rfl ?_
            refine WL_nil ?_
            exact FinE_val (Below.refl _ _) rfl rfl ⟨rfl, rfl⟩
          refine StepsE_cons rfl ?_ ?_
          · intro w6 hB6
            refine DepsE_cons rfl rfl rfl ?_
            rintro _ _ ⟨rfl, rfl⟩ _
            refine DepsE_nil ?_
            refine ⟨_, rfl, ?_⟩
            refine WL_guard rfl rfl ?_
            refine WL_index Try.underlying22 ty3 g1 hx1 rfl rfl rfl (fun b2 o1 h1 => ?_)
            refine WL_nil ?_
            exact FinE_val (Below.refl _ _) rfl rfl ⟨rfl, _, _, rfl, h1⟩
          refine StepsE_cons rfl ?_ ?_
          · intro w6 hB6
            refine DepsE_cons rfl rfl rfl ?_
            rintro _ _ ⟨rfl, b2, o1, rfl, h1⟩ _
            refine DepsE_nil ?_
            refine ⟨_, rfl, ?_⟩
            refine WL_guard rfl rfl ?_
            refine WL_load ty3 h1 (hC5.keep.then hB6) rfl rfl (fun v1 h2 => ?_)
            obtain rfl := ro_int h2
            refine WL_nil ?_
            exact FinE_val (Below.refl _ _) rfl rfl ⟨rfl, rfl⟩
          exact StepsE_nil
        · intro w7 hB7
          refine AllE_cons rfl rfl rfl ?_
          rintro _ _ ⟨rfl, rfl⟩
          refine AllE_cons rfl rfl rfl ?_
          rintro _ _ ⟨rfl, rfl⟩
          refine AllE_cons rfl rfl rfl ?_
          rintro _ _ ⟨rfl, rfl⟩
          refine AllE_cons rfl rfl rfl ?_
          rintro _ _ ⟨rfl, b2, o1, rfl, h1⟩
          refine AllE_cons rfl rfl rfl ?_
          rintro _ _ ⟨rfl, rfl⟩
          refine AllE_nil ?_
          intro hn1 hb1
          have hC6 := hC5.grow hB7
          refine WA_takeG 21 rfl (by kernel_rfl) (by kernel_rfl) (by kernel_rfl) rfl rfl rfl (fl_neq rfl rfl) ?_
          refine WL_guard rfl rfl ?_
          refine WL_neq rfl rfl rfl ?_
          refine WL_nil ?_
          refine WA_take 22 rfl (by kernel_rfl) (by kernel_rfl) (by kernel_rfl) rfl (fl_pick_f rfl rfl) ?_
          refine WL_pick_f rfl rfl rfl ?_
          refine WL_nil ?_
          refine WA_done (by kernel_rfl) ?_
          have hq3 := Option.some.inj hr1
          subst hq3
          refine nrm_sub (l' := [(3, (ptr b1 0)), (28, (.bool (!decide ((List.length a2.2 : Int) = x4))))]) ⟨rfl, rfl, trivial⟩ ?_
          exact ⟨(!decide ((List.length a2.2 : Int) = x4)), rfl, rfl, ((((Keep.of hB3).then hB4).then hB5).then hB7).below, hC6⟩
  · rintro _ w2 ⟨x1, rfl, rfl, hB2, hC2⟩
    try dsimp only at hF
    refine W_cond rfl (fun hc3 => ?_) (fun hc3 => ?_)
    · replace hF := ite_t hF hc3
      refine W_seq_reg ?_
      refine WL_assign rfl rfl ?_
      refine WL_nil ?_
      refine W_ret ?_
      refine nrm_ret ?_
      have hq4 := Option.some.inj hF
      subst hq4
      refine fn_ret1 rfl rfl ?_
      exact ⟨_, rfl, bool_res hC2 _⟩
    · replace hF := ite_f hF hc3
      refine W_skip ?_
      refine nrm_normal ?_
      refine W_seq ?_
      refine W_seq_reg ?_
      refine WL_assign rfl rfl ?_
      refine WL_nil ?_
      obtain ⟨r2, hr4, hF⟩ := bind_some hF
      refine W_norm (fun l w => .inl () = r2 ∧ l = [] ∧ Below w2.heap.size w2 w ∧ Ctx [] w0 w []) ?_ ?_
      · refine W_block ?_
        refine W.sub (l' := [(3, (ptr b1 0)), (5, (.int .i64 0))]) ?_ ⟨rfl, rfl, trivial⟩
        refine W_loop (fun k l w => ∃ x5 : Int, l = [(3, (ptr b1 0)), (5, (.int .i64 x5))] ∧ Below w2.heap.size w2 w ∧ Ctx [] w0 w [Item.box b1 [(.int .i64 a2.1), u2]] ∧ S.IsFact_l1 a2 k x5 = some r2) FUEL ⟨0, rfl, (Below.refl _ _), hC2, hr4⟩ ?_
        clear hr4
        rintro k1 _ w8 ⟨x5, rfl, hB8, hC7, hL1⟩
        cases k1 with
        | zero => rw [S.IsFact_l1] at hL1; cases hL1
        | succ k1 =>
          rw [S.IsFact_l1] at hL1
          refine W_seq ?_
          refine W_seq_reg ?_
          refine WL_move rfl rfl ?_
          refine WL_field Try.underlying77 rfl rfl (fun w => ⟨_, Try.sizeOf22 w⟩) rfl rfl ?_
          refine WL_load_box hC7 0 rfl rfl Try.isAgg22 rfl rfl ?_
          refine WL_len Try.underlying22 g2 rfl rfl ?_
          refine WL_lss rfl rfl rfl ?_
          refine WL_nil ?_
          refine W_cond rfl (fun hc4 => ?_) (fun hc4 => ?_)
          · replace hL1 := ite_t hL1 hc4
            refine W_skip ?_
            refine nrm_normal ?_
            refine W_seq ?_
            refine W_block ?_
            refine W_seq_reg ?_
            refine WL_field Try.underlying77 rfl rfl (fun w => ⟨_, Try.sizeOf22 w⟩) rfl rfl ?_
            refine WL_load_box hC7 0 rfl rfl Try.isAgg22 rfl rfl ?_
            refine WL_move rfl rfl ?_
            obtain ⟨x6, hx2, hL1⟩ := bind_some hL1
            refine WL_index Try.underlying22 ty3 g2 hx2 rfl rfl rfl (fun b3 o2 h3 => ?_)
            refine WL_load ty3 h3 hC7.keep rfl rfl (fun v2 h4 => ?_)
            obtain rfl := ro_int h4
            obtain ⟨x7, hr5, hL1⟩ := bind_some hL1
            refine WL_call Try.call133 rfl rfl (c_S_l1In x6 0 9 x7 hr5) ?_
            intro _ w9 hv3
            obtain ⟨rfl, hB9⟩ := res_bool hv3
            have hC8 := hC7.grow hB9
            refine WL_not rfl rfl ?_
            refine WL_nil ?_
            refine W_cond rfl (fun hc5 => ?_) (fun hc5 => ?_)
            · replace hL1 := ite_t hL1 hc5
              refine W_seq_reg ?_
              refine WL_assign rfl rfl ?_
              refine WL_nil ?_
              refine W_ret ?_
              refine blk_ret ?_
              refine nrm_ret ?_
              refine nrm_ret ?_
              refine blk_ret ?_
              refine nrm_ret ?_
              refine nrm_ret ?_
              have hq5 := Option.some.inj hL1
              subst hq5
              dsimp only at hF
              have hq6 := Option.some.inj hF
              subst hq6
              refine fn_ret1 rfl rfl ?_
              exact ⟨_, rfl, bool_res hC8 _⟩
            · replace hL1 := ite_f hL1 hc5
              refine W_skip ?_
              refine blk_normal ?_
              refine nrm_normal ?_
              refine W_reg ?_
              refine WL_move rfl rfl ?_
              refine WL_add rfl rfl rfl ?_
              refine WL_assign rfl rfl ?_
              refine WL_nil ?_
              refine nrm_sub (l' := [(3, (ptr b1 0)), (5, (.int .i64 (w64 (x5 + 1))))]) ⟨rfl, rfl, trivial⟩ ?_
              exact ⟨k1, Nat.lt_succ_self _, w64 (x5 + 1), rfl, ((Keep.of hB8).then hB9).below, hC8, hL1⟩
          · replace hL1 := ite_f hL1 hc4
            refine W_exit ?_
            refine nrm_exit ?_
            refine nrm_exit ?_
            refine blk_exit ?_
            have hq7 := Option.some.inj hL1
            subst hq7
            have hC9 : Ctx [] w0 _ [] := hC7.headN 0
            refine nrm_sub (l' := []) trivial ?_
            exact ⟨rfl, rfl, (Keep.of hB8).below, hC9⟩
      · rintro l3 _ w10 hs3 ⟨rfl, rfl, hB10, hC10⟩
        try dsimp only at hF
        refine nrm_sub' hs3 ?_
        clear hs3
        refine W_seq_reg ?_
        refine WL_assign rfl rfl ?_
        refine WL_nil ?_
        refine W_ret ?_
        have hq8 := Option.some.inj hF
        subst hq8
        refine fn_ret1 rfl rfl ?_
        exact ⟨_, rfl, bool_res hC10 _⟩

theorem c_S_AreFacts {w0 : World} (a1 : (List Int)) (u1 : Value) (g1 : RO [] w0 u1 a1) (a2 : (List (Int × (List Int)))) (u2 : Value) (g2 : RO [] w0 u2 a2) (rr : Bool) (hF : S.AreFacts a1 a2 = some rr) :
    Calls Try.prog 117 [u1, u2].toArray w0 fun e w' => ∃ v, e = .returned v ∧ Res w0 rr v w' := by
  refine calls_of_W Try.func117 rfl rfl ?_
  have hC0 := Ctx.start w0
  unfold S.AreFacts at hF
  refine W_seq_reg ?_
  refine WL_assign rfl rfl ?_
  refine WL_nil ?_
  refine W_seq ?_
  refine W_seq_reg ?_
  refine WL_assign rfl rfl ?_
  refine WL_nil ?_
  obtain ⟨r1, hr1, hF⟩ := bind_some hF
  refine W_norm (fun l w => .inl () = r1 ∧ l = [(0, u1), (1, u2)] ∧ Below w0.heap.size w0 w ∧ Ctx [] w0 w []) ?_ ?_
  · refine W_block ?_
    refine W.sub (l' := [(0, u1), (1, u2), (5, (.int .i64 0))]) ?_ ⟨rfl, rfl, rfl, trivial⟩
    refine W_loop (fun k l w => ∃ x1 : Int, l = [(0, u1), (1, u2), (5, (.int .i64 x1))] ∧ Below w0.heap.size w0 w ∧ Ctx [] w0 w [] ∧ S.AreFacts_l1 a2 a1 k x1 = some r1) FUEL ⟨0, rfl, (Below.refl _ _), hC0, hr1⟩ ?_
    clear hr1
    rintro k1 _ w1 ⟨x1, rfl, hB1, hC1, hL1⟩
    cases k1 with
    | zero => rw [S.AreFacts_l1] at hL1; cases hL1
    | succ k1 =>
      rw [S.AreFacts_l1] at hL1
      refine W_seq ?_
      refine W_seq_reg ?_
      refine WL_move rfl rfl ?_
      refine WL_move rfl rfl ?_
      refine WL_len Try.underlying36 g2 rfl rfl ?_
      refine WL_lss rfl rfl rfl ?_
      refine WL_nil ?_
      refine W_cond rfl (fun hc1 => ?_) (fun hc1 => ?_)
      · replace hL1 := ite_t hL1 hc1
        refine W_skip ?_
        refine nrm_normal ?_
        refine W_seq ?_
        refine W_block ?_
        obtain ⟨r2, hr2, hL1⟩ := bind_some hL1
        refine W_cut (fun l w => ∃ x2 : Bool, x2 = r2 ∧ l = [(0, u1), (1, u2), (5, (.int .i64 x1)), (35, (.bool x2))] ∧ Below w1.heap.size w1 w ∧ Ctx [] w0 w []) ?_ ?_
        · refine W_drawn 24 rfl hmix (fun w3 hB3 => ?_)
          have hC3 := hC1.grow hB3
          refine WA_take 0 rfl (by kernel_rfl) (by kernel_rfl) (by kernel_rfl) rfl (fl_move rfl) ?_
          refine WL_move rfl rfl ?_
          refine WL_nil ?_
          refine WA_take 1 rfl (by kernel_rfl) (by kernel_rfl) (by kernel_rfl) rfl (fl_move rfl) ?_
          refine WL_move rfl rfl ?_
          refine WL_nil ?_
          refine WA_take 2 rfl (by kernel_rfl) (by kernel_rfl) (by kernel_rfl) rfl (fl_move rfl) ?_
          refine WL_move rfl rfl ?_
          refine WL_nil ?_
          obtain ⟨x3, hx1, hr2⟩ := bind_some hr2
          refine WA_take 3 rfl (by kernel_rfl) (by kernel_rfl) (by kernel_rfl) rfl (fl_index Try.underlying36 ty77 g2 hx1 rfl rfl) ?_
          refine WL_index Try.underlying36 ty77 g2 hx1 rfl rfl rfl (fun b1 o1 h1 => ?_)
          refine WL_nil ?_
          refine WA_one 4 (by kernel_rfl) rfl ?_
          refine WL_load ty77 h1 hC3.keep rfl rfl (fun v1 h2 => ?_)
          obtain ⟨v2, rfl, h3⟩ := ro_st77 h2
          refine WL_nil ?_
          obtain ⟨x4, hr3, hr2⟩ := bind_some hr2
          refine WA_one 5 (by kernel_rfl) rfl ?_
          refine WL_call Try.call100 rfl rfl (c_S_IsFact a1 u1 (g1.now hC3.keep) x3 v2 (h3.now hC3.keep) x4 hr3) ?_
          intro _ w4 hv1
          obtain ⟨rfl, hB4⟩ := res_bool hv1
          have hC4 := hC3.grow hB4
          refine WL_nil ?_
          refine WA_take 6 rfl (by kernel_rfl) (by kernel_rfl) (by kernel_rfl) rfl (fl_not rfl) ?_
          refine WL_not rfl rfl ?_
          refine WL_nil ?_
          refine WA_take 7 rfl (by kernel_rfl) (by kernel_rfl) (by kernel_rfl) rfl (fl_move rfl) ?_
          refine WL_move rfl rfl ?_
          refine WL_nil ?_
          refine WA_fork (fun hc2 => ?_) (fun hc2 => ?_)
          · replace hr2 := ite_t hr2 hc2
            refine WA_skip 8 rfl (by kernel_rfl) (by kernel_rfl) (by kernel_rfl) rfl rfl rfl (by simp) rfl rfl ?_
            refine WA_skip 9 rfl (by kernel_rfl) (by kernel_rfl) (by kernel_rfl) rfl rfl rfl (by simp) rfl rfl ?_
            refine WA_skip 10 rfl (by kernel_rfl) (by kernel_rfl) (by kernel_rfl) rfl rfl rfl (by simp) rfl rfl ?_
            refine WA_skip 11 rfl (by kernel_rfl) (by kernel_rfl) (by kernel_rfl) rfl rfl rfl (by simp [undef]) rfl rfl ?_
            refine WA_skip 12 rfl (by kernel_rfl) (by kernel_rfl) (by kernel_rfl) rfl rfl rfl (by simp [undef]) rfl rfl ?_
            refine WA_skip 13 rfl (by kernel_rfl) (by kernel_rfl) (by kernel_rfl) rfl rfl rfl (by simp [undef]) rfl rfl ?_
            refine WA_skip 14 rfl (by kernel_rfl) (by kernel_rfl) (by kernel_rfl) rfl rfl rfl (by simp [undef]) rfl rfl ?_
            refine WA_skip 15 rfl (by kernel_rfl) (by kernel_rfl) (by kernel_rfl) rfl rfl rfl (by simp [undef]) rfl rfl ?_
            refine WA_skip 16 rfl (by kernel_rfl) (by kernel_rfl) (by kernel_rfl) rfl rfl rfl (by simp [undef]) rfl rfl ?_
            refine WA_skip 17 rfl (by kernel_rfl) (by kernel_rfl) (by kernel_rfl) rfl rfl rfl (by simp [undef]) rfl rfl ?_
            refine WA_skip 18 rfl (by kernel_rfl) (by kernel_rfl) (by kernel_rfl) rfl rfl rfl (by simp [undef]) rfl rfl ?_
            refine WA_skip 19 rfl (by kernel_rfl) (by kernel_rfl) (by kernel_rfl) rfl rfl rfl (by simp [undef]) rfl rfl ?_
            refine WA_skip 20 rfl (by kernel_rfl) (by kernel_rfl) (by kernel_rfl) rfl rfl rfl (by simp [undef]) rfl rfl ?_
            refine WA_skip 21 rfl (by kernel_rfl) (by kernel_rfl) (by kernel_rfl) rfl rfl rfl (by simp [undef]) rfl rfl ?_
            refine WA_skip 22 rfl (by kernel_rfl) (by kernel_rfl) (by kernel_rfl) rfl rfl rfl (by simp) rfl rfl ?_
            refine WA_take 23 rfl (by kernel_rfl) (by kernel_rfl) (by kernel_rfl) rfl (fl_pick_t rfl rfl) ?_
            refine WL_pick_t rfl rfl rfl ?_
            refine WL_nil ?_
            refine WA_done (by kernel_rfl) ?_
            have hq1 := Option.some.inj hr2
            subst hq1
            refine nrm_sub (l' := [(0, u1), (1, u2), (5, (.int .i64 x1)), (35, (.bool true))]) ⟨rfl, rfl, rfl, rfl, trivial⟩ ?_
            exact ⟨true, rfl, rfl, ((Keep.of hB3).then hB4).below, hC4⟩
          · replace hr2 := ite_f hr2 hc2
            refine WA_takeG 8 rfl (by kernel_rfl) (by kernel_rfl) (by kernel_rfl) rfl rfl rfl (fl_move rfl) ?_
            refine WL_guard rfl rfl ?_
            refine WL_move rfl rfl ?_
            refine WL_nil ?_
            refine WA_takeG 9 rfl (by kernel_rfl) (by kernel_rfl) (by kernel_rfl) rfl rfl rfl (fl_gtr rfl rfl) ?_
            refine WL_guard rfl rfl ?_
            refine WL_gtr rfl rfl rfl ?_
            refine WL_nil ?_
            refine WA_takeG 10 rfl (by kernel_rfl) (by kernel_rfl) (by kernel_rfl) rfl rfl rfl (fl_move rfl) ?_
            refine WL_guard rfl rfl ?_
            refine WL_move rfl rfl ?_
            refine WL_nil ?_
            refine WA_fork (fun hc3 => ?_) (fun hc3 => ?_)
            · replace hr2 := ite_t hr2 hc3
              refine WA_takeG 11 rfl (by kernel_rfl) (by kernel_rfl) (by kernel_rfl) rfl rfl rfl (fl_move rfl) ?_
              refine WL_guard rfl rfl ?_
              refine WL_move rfl rfl ?_
              refine WL_nil ?_
              refine WA_takeG 12 rfl (by kernel_rfl) (by kernel_rfl) (by kernel_rfl) rfl rfl rfl (fl_move rfl) ?_
              refine WL_guard rfl rfl ?_
              refine WL_move rfl rfl ?_
              refine WL_nil ?_
              refine WA_takeG 13 rfl (by kernel_rfl) (by kernel_rfl) (by kernel_rfl) rfl rfl rfl (fl_sub rfl rfl) ?_
              refine WL_guard rfl rfl ?_
              refine WL_sub rfl rfl rfl ?_
              refine WL_nil ?_
              obtain ⟨x5, hx2, hr2⟩ := bind_some hr2
              refine WA_takeG 14 rfl (by kernel_rfl) (by kernel_rfl) (by kernel_rfl) rfl rfl rfl (fl_index Try.underlying36 ty77 g2 hx2 rfl rfl) ?_
              refine WL_guard rfl rfl ?_
              refine WL_index Try.underlying36 ty77 g2 hx2 rfl rfl rfl (fun b2 o2 h4 => ?_)
              refine WL_nil ?_
              refine WA_takeG 16 rfl (by kernel_rfl) (by kernel_rfl) (by kernel_rfl) rfl rfl rfl (fl_move rfl) ?_
              refine WL_guard rfl rfl ?_
              refine WL_move rfl rfl ?_
              refine WL_nil ?_
              refine WA_takeG 17 rfl (by kernel_rfl) (by kernel_rfl) (by kernel_rfl) rfl rfl rfl (fl_move rfl) ?_
              refine WL_guard rfl rfl ?_
              refine WL_move rfl rfl ?_
              refine WL_nil ?_
              obtain ⟨x6, hx3, hr2⟩ := bind_some hr2
              refine WA_takeG 18 rfl (by kernel_rfl) (by kernel_rfl) (by kernel_rfl) rfl rfl rfl (fl_index Try.underlying36 ty77 g2 hx3 rfl rfl) ?_
              refine WL_guard rfl rfl ?_
              refine WL_index Try.underlying36 ty77 g2 hx3 rfl rfl rfl (fun b3 o3 h5 => ?_)
              refine WL_nil ?_
              refine WA.sub (l' := [(0, u1), (1, u2), (5, (.int .i64 x1)), (6, (.int .i64 x1)), (7, u2), (8, (.int .i64 (List.length a2 : Int))), (9, (.bool (decide (x1 < (List.length a2 : Int))))), (12, u1), (13, u2), (14, (.int .i64 x1)), (15, (ptr b1 o1)), (16, (.agg #[(.int .i64 x3.1), v2])), (17, (.bool x4)), (18, (.bool (!x4))), (19, (.bool false)), (20, (.int .i64 x1)), (21, (.bool (decide (0 < x1)))), (22, (.bool true)), (23, u2), (24, (.int .i64 x1)), (25, (.int .i64 (w64 (x1 - 1)))), (26, (ptr b2 o2)), (28, u2), (29, (.int .i64 x1)), (30, (ptr b3 o3))]) ?_ ⟨rfl, rfl, rfl, rfl, rfl, rfl, rfl, rfl, rfl, rfl, rfl, rfl, rfl, rfl, rfl, rfl, rfl, rfl, rfl, rfl, rfl, rfl, rfl, rfl, rfl, trivial⟩
              refine WA_postsE [⟨15, [], fun vs => PW.ro [] w0 x5, []⟩, ⟨19, [], fun vs => PW.ro [] w0 x6, []⟩] [[], []] 4 rfl (by kernel_rfl) (by kernel_rfl) rfl ?_ ?_
              · refine StepsE_cons rfl ?_ ?_
                · intro w5 hB5
                  refine DepsE_nil ?_
                  refine ⟨_, rfl, ?_⟩
                  refine WL_guard rfl rfl ?_
                  refine WL_load ty77 h4 (hC4.keep.then hB5) rfl rfl (fun v5 h8 => ?_)
                  refine WL_nil ?_
                  exact FinE_val (Below.refl _ _) rfl rfl ⟨rfl, h8⟩
                refine StepsE_cons rfl ?_ ?_
                · intro w5 hB5
                  refine DepsE_nil ?_
                  refine ⟨_, rfl, ?_⟩
                  refine WL_guard rfl rfl ?_
                  refine WL_load ty77 h5 (hC4.keep.then hB5) rfl rfl (fun v8 h11 => ?_)
                  refine WL_nil ?_
                  exact FinE_val (Below.refl _ _) rfl rfl ⟨rfl, h11⟩
                exact StepsE_nil
              · intro w6 hB6
                refine AllE_cons rfl rfl rfl ?_
                rintro v5 _ ⟨rfl, h8⟩
                obtain ⟨v4, rfl, h7⟩ := ro_st77 h8
                refine AllE_cons rfl rfl rfl ?_
                rintro v8 _ ⟨rfl, h11⟩
                obtain ⟨v7, rfl, h10⟩ := ro_st77 h11
                refine AllE_nil ?_
                intro hn1 hb1
                have hC5 := hC4.grow hB6
                obtain ⟨x7, hr4, hr2⟩ := bind_some hr2
                refine WA_one 20 (by kernel_rfl) rfl ?_
                refine WL_guard rfl rfl ?_
                refine WL_call Try.call101 rfl rfl (c_S_CompareFacts x5 v4 (h7.now hC5.keep) x6 v7 (h10.now hC5.keep) x7 hr4) ?_
                intro _ w7 hv2
                obtain ⟨rfl, hB7⟩ := res_int hv2
                have hC6 := hC5.grow hB7
                refine WL_nil ?_
                refine WA_takeG 21 rfl (by kernel_rfl) (by kernel_rfl) (by kernel_rfl) rfl rfl rfl (fl_geq rfl rfl) ?_
                refine WL_guard rfl rfl ?_
                refine WL_geq rfl rfl rfl ?_
                refine WL_nil ?_
                refine WA_takeG 22 rfl (by kernel_rfl) (by kernel_rfl) (by kernel_rfl) rfl rfl rfl (fl_pick_t rfl rfl) ?_
                refine WL_guard rfl rfl ?_
                refine WL_pick_t rfl rfl rfl ?_
                refine WL_nil ?_
                refine WA_take 23 rfl (by kernel_rfl) (by kernel_rfl) (by kernel_rfl) rfl (fl_pick_f rfl rfl) ?_
                refine WL_pick_f rfl rfl rfl ?_
                refine WL_nil ?_
                refine WA_done (by kernel_rfl) ?_
                have hq2 := Option.some.inj hr2
                subst hq2
                refine nrm_sub (l' := [(0, u1), (1, u2), (5, (.int .i64 x1)), (35, (.bool (decide (0 ≤ x7))))]) ⟨rfl, rfl, rfl, rfl, trivial⟩ ?_
                exact ⟨(decide (0 ≤ x7)), rfl, rfl, ((((Keep.of hB3).then hB4).then hB6).then hB7).below, hC6⟩
            · replace hr2 := ite_f hr2 hc3
              refine WA_skip 11 rfl (by kernel_rfl) (by kernel_rfl) (by kernel_rfl) rfl rfl rfl (by simp) rfl rfl ?_
              refine WA_skip 12 rfl (by kernel_rfl) (by kernel_rfl) (by kernel_rfl) rfl rfl rfl (by simp) rfl rfl ?_
              refine WA_skip 13 rfl (by kernel_rfl) (by kernel_rfl) (by kernel_rfl) rfl rfl rfl (by simp) rfl rfl ?_
              refine WA_skip 14 rfl (by kernel_rfl) (by kernel_rfl) (by kernel_rfl) rfl rfl rfl (by simp) rfl rfl ?_
              refine WA_skip 15 rfl (by kernel_rfl) (by kernel_rfl) (by kernel_rfl) rfl rfl rfl (by simp) rfl rfl ?_
              refine WA_skip 16 rfl (by kernel_rfl) (by kernel_rfl) (by kernel_rfl) rfl rfl rfl (by simp) rfl rfl ?_
              refine WA_skip 17 rfl (by kernel_rfl) (by kernel_rfl) (by kernel_rfl) rfl rfl rfl (by simp) rfl rfl ?_
              refine WA_skip 18 rfl (by kernel_rfl) (by kernel_rfl) (by kernel_rfl) rfl rfl rfl (by simp) rfl rfl ?_
              refine WA_skip 19 rfl (by kernel_rfl) (by kernel_rfl) (by kernel_rfl) rfl rfl rfl (by simp) rfl rfl ?_
              refine WA_skip 20 rfl (by kernel_rfl) (by kernel_rfl) (by kernel_rfl) rfl rfl rfl (by simp) rfl rfl ?_
              refine WA_skip 21 rfl (by kernel_rfl) (by kernel_rfl) (by kernel_rfl) rfl rfl rfl (by simp) rfl rfl ?_
              refine WA_takeG 22 rfl (by kernel_rfl) (by kernel_rfl) (by kernel_rfl) rfl rfl rfl (fl_pick_f rfl rfl) ?_
              refine WL_guard rfl rfl ?_
              refine WL_pick_f rfl rfl rfl ?_
              refine WL_nil ?_
              refine WA_take 23 rfl (by kernel_rfl) (by kernel_rfl) (by kernel_rfl) rfl (fl_pick_f rfl rfl) ?_
              refine WL_pick_f rfl rfl rfl ?_
              refine WL_nil ?_
              refine WA_done (by kernel_rfl) ?_
              have hq3 := Option.some.inj hr2
              subst hq3
              refine nrm_sub (l' := [(0, u1), (1, u2), (5, (.int .i64 x1)), (35, (.bool false))]) ⟨rfl, rfl, rfl, rfl, trivial⟩ ?_
              exact ⟨false, rfl, rfl, ((Keep.of hB3).then hB4).below, hC4⟩
        · rintro _ w2 ⟨x2, rfl, rfl, hB2, hC2⟩
          try dsimp only at hL1
          refine W_cond rfl (fun hc4 => ?_) (fun hc4 => ?_)
          · replace hL1 := ite_t hL1 hc4
            refine W_seq_reg ?_
            refine WL_assign rfl rfl ?_
            refine WL_nil ?_
            refine W_ret ?_
            refine blk_ret ?_
            refine nrm_ret ?_
            refine nrm_ret ?_
            refine blk_ret ?_
            refine nrm_ret ?_
            refine nrm_ret ?_
            have hq4 := Option.some.inj hL1
            subst hq4
            dsimp only at hF
            have hq5 := Option.some.inj hF
            subst hq5
            refine fn_ret1 rfl rfl ?_
            exact ⟨_, rfl, bool_res hC2 _⟩
          · replace hL1 := ite_f hL1 hc4
            refine W_skip ?_
            refine blk_normal ?_
            refine nrm_normal ?_
            refine W_reg ?_
            refine WL_move rfl rfl ?_
            refine WL_add rfl rfl rfl ?_
            refine WL_assign rfl rfl ?_
            refine WL_nil ?_
            refine nrm_sub (l' := [(0, u1), (1, u2), (5, (.int .i64 (w64 (x1 + 1))))]) ⟨rfl, rfl, rfl, trivial⟩ ?_
            exact ⟨k1, Nat.lt_succ_self _, w64 (x1 + 1), rfl, ((Keep.of hB1).then hB2).below, hC2, hL1⟩
      · replace hL1 := ite_f hL1 hc1
        refine W_exit ?_
        refine nrm_exit ?_
        refine nrm_exit ?_
        refine blk_exit ?_
        have hq6 := Option.some.inj hL1
        subst hq6
        refine nrm_sub (l' := [(0, u1), (1, u2)]) ⟨rfl, rfl, trivial⟩ ?_
        exact ⟨rfl, rfl, (Keep.of hB1).below, hC1⟩
  · rintro l3 _ w8 hs3 ⟨rfl, rfl, hB8, hC7⟩
    try dsimp only at hF
    refine nrm_sub' hs3 ?_
    clear hs3
    obtain ⟨r3, hr5, hF⟩ := bind_some hF
    refine W_cut (fun l w => ∃ x8 : Bool, x8 = r3 ∧ l = [(4, (.bool x8))] ∧ Below w8.heap.size w8 w ∧ Ctx [] w0 w []) ?_ ?_
    · refine W_reg ?_
      refine WL_move rfl rfl ?_
      obtain ⟨x9, hr6, hr5⟩ := bind_some hr5
      refine WL_call Try.call126 rfl rfl (c_S_IsSchema a1 u1 (g1.now hC7.keep) x9 hr6) ?_
      intro _ w10 hv3
      obtain ⟨rfl, hB10⟩ := res_bool hv3
      have hC9 := hC7.grow hB10
      refine WL_move rfl rfl ?_
      refine WL_fork (fun hc5 => ?_) (fun hc5 => ?_)
      · replace hr5 := ite_t hr5 hc5
        refine WL_guard rfl rfl ?_
        refine WL_move rfl rfl ?_
        refine WL_guard rfl rfl ?_
        refine WL_len Try.underlying36 g2 rfl rfl ?_
        refine WL_guard rfl rfl ?_
        refine WL_leq rfl rfl rfl ?_
        refine WL_pick_t rfl rfl rfl ?_
        refine WL_assign rfl rfl ?_
        refine WL_nil ?_
        have hq7 := Option.some.inj hr5
        subst hq7
        refine nrm_sub (l' := [(4, (.bool (decide ((List.length a2 : Int) ≤ 24))))]) ⟨rfl, trivial⟩ ?_
        exact ⟨(decide ((List.length a2 : Int) ≤ 24)), rfl, rfl, (Keep.of hB10).below, hC9⟩
      · replace hr5 := ite_f hr5 hc5
        refine WL_guard_skip rfl rfl (by simp) rfl ?_
        refine WL_guard_skip rfl rfl (by simp) rfl ?_
        refine WL_guard_skip rfl rfl (by simp) rfl ?_
        refine WL_pick_f rfl rfl rfl ?_
        refine WL_assign rfl rfl ?_
        refine WL_nil ?_
        have hq8 := Option.some.inj hr5
        subst hq8
        refine nrm_sub (l' := [(4, (.bool false))]) ⟨rfl, trivial⟩ ?_
        exact ⟨false, rfl, rfl, (Keep.of hB10).below, hC9⟩
    · rintro _ w9 ⟨x8, rfl, rfl, hB9, hC8⟩
      try dsimp only at hF
      refine W_ret ?_
      have hq9 := Option.some.inj hF
      subst hq9
      refine fn_ret1 rfl rfl ?_
      exact ⟨_, rfl, bool_res hC8 _⟩

theorem c_S_IsSource {w0 : World} (a1 : (List Int)) (u1 : Value) (g1 : RO [] w0 u1 a1) (a2 : ((List (Int × (List Int))) × Int)) (u2 : Value) (g2 : RO [] w0 u2 a2.1) (rr : Bool) (hF : S.IsSource a1 a2 = some rr) :
    Calls Try.prog 99 [u1, (.agg #[u2, (.int .i64 a2.2)])].toArray w0 fun e w' => ∃ v, e = .returned v ∧ Res w0 rr v w' := by
  refine calls_of_W Try.func99 rfl rfl ?_
  have hC0 := Ctx.start w0
  unfold S.IsSource at hF
  refine W_seq_reg ?_
  refine WL_box (cs := [u2, (.int .i64 a2.2)]) hC0 rfl rfl rfl (fun b1 w1 hC1 hB1 => ?_)
  refine WL_assign rfl rfl ?_
  refine WL_nil ?_
  obtain ⟨r1, hr1, hF⟩ := bind_some hF
  refine W_cut (fun l w => ∃ x1 : Bool, x1 = r1 ∧ l = [(4, (.bool x1))] ∧ Below w1.heap.size w1 w ∧ Ctx [] w0 w []) ?_ ?_
  · refine W_reg ?_
    refine WL_move rfl rfl ?_
    refine WL_field Try.underlying73 rfl rfl (fun w => ⟨_, Try.sizeOf36 w⟩) rfl rfl ?_
    refine WL_load_box hC1 0 rfl rfl Try.isAgg36 rfl rfl ?_
    obtain ⟨x2, hr2, hr1⟩ := bind_some hr1
    refine WL_call Try.call117 rfl rfl (c_S_AreFacts a1 u1 (g1.now hC1.keep) a2.1 u2 (g2.now hC1.keep) x2 hr2) ?_
    intro _ w3 hv1
    obtain ⟨rfl, hB3⟩ := res_bool hv1
    have hC3 := hC1.grow hB3
    refine WL_move rfl rfl ?_
    refine WL_fork (fun hc1 => ?_) (fun hc1 => ?_)
    · replace hr1 := ite_t hr1 hc1
      refine WL_guard rfl rfl ?_
      refine WL_field Try.underlying73 rfl rfl (fun w => ⟨_, Try.sizeOf3 w⟩) rfl rfl ?_
      refine WL_guard rfl rfl ?_
      refine WL_load_box hC3 0 rfl rfl Try.isAgg3 rfl rfl ?_
      obtain ⟨x3, hr3, hr1⟩ := bind_some hr1
      refine WL_guard rfl rfl ?_
      refine WL_call Try.call133 rfl rfl (c_S_l1In a2.2 0 1000 x3 hr3) ?_
      intro _ w4 hv2
      obtain ⟨rfl, hB4⟩ := res_bool hv2
      have hC4 := hC3.grow hB4
      refine WL_pick_t rfl rfl rfl ?_
      refine WL_assign rfl rfl ?_
      refine WL_nil ?_
      have hq1 := Option.some.inj hr1
      subst hq1
      have hC5 : Ctx [] w0 _ [] := hC4.headN 0
      refine nrm_sub (l' := [(4, (.bool x3))]) ⟨rfl, trivial⟩ ?_
      exact ⟨x3, rfl, rfl, ((Keep.of hB3).then hB4).below, hC5⟩
    · replace hr1 := ite_f hr1 hc1
      refine WL_guard_skip rfl rfl (by simp) rfl ?_
      refine WL_guard_skip rfl rfl (by simp) rfl ?_
      refine WL_guard_skip rfl rfl (by simp) rfl ?_
      refine WL_pick_f rfl rfl rfl ?_
      refine WL_assign rfl rfl ?_
      refine WL_nil ?_
      have hq2 := Option.some.inj hr1
      subst hq2
      have hC6 : Ctx [] w0 _ [] := hC3.headN 0
      refine nrm_sub (l' := [(4, (.bool false))]) ⟨rfl, trivial⟩ ?_
      exact ⟨false, rfl, rfl, (Keep.of hB3).below, hC6⟩
  · rintro _ w2 ⟨x1, rfl, rfl, hB2, hC2⟩
    try dsimp only at hF
    refine W_ret ?_
    have hq3 := Option.some.inj hF
    subst hq3
    refine fn_ret1 rfl rfl ?_
    exact ⟨_, rfl, bool_res hC2 _⟩

theorem c_S_ApplyChange {w0 : World} (a1 : (List Int)) (u1 : Value) (g1 : RO [] w0 u1 a1) (a2 : ((List (Int × (List Int))) × Int)) (u2 : Value) (g2 : RO [] w0 u2 a2.1) (a3 : (Bool × (Int × (List Int)))) (u3 : Value) (g3 : RO [] w0 u3 a3.2.2) (rr : (((List (Int × (List Int))) × Int) × Bool)) (hF : S.ApplyChange a1 a2 a3 = some rr) :
    Calls Try.prog 43 [u1, (.agg #[u2, (.int .i64 a2.2)]), (.agg #[(.bool a3.1), (.int .i64 a3.2.1), u3])].toArray w0 fun e w' => ∃ v, e = .returned v ∧ Res2 w0 rr.1 rr.2 v w' := by
  refine calls_of_W Try.func43 rfl rfl ?_
  have hC0 := Ctx.start w0
  unfold S.ApplyChange at hF
  refine W_seq_reg ?_
  refine WL_box (cs := [u2, (.int .i64 a2.2)]) hC0 rfl rfl rfl (fun b1 w1 hC1 hB1 => ?_)
  refine WL_box (cs := [(.bool a3.1), (.int .i64 a3.2.1), u3]) hC1 rfl rfl rfl (fun b2 w2 hC2 hB2 => ?_)
  refine WL_alloc hC2 zero73 rfl rfl (fun b3 w3 hC3 hB3 => ?_)
  refine WL_assign rfl rfl ?_
  refine WL_nil ?_
  refine W_seq_reg ?_
  refine WL_load_box_agg [u2, (.int .i64 a2.2)] hC3 2 rfl rfl rfl Try.isAgg73 Try.sizeOf73 rfl rfl ?_
  obtain ⟨x1, hr1, hF⟩ := bind_some hF
  refine WL_call Try.call98 rfl rfl (c_S_l25Copy (a2.1, a2.2) u2 (g2.now hC3.keep) x1 hr1) ?_
  rintro v1 w4 ⟨hB4, F1, hv1, hn1, hb1⟩
  have hC4 := hC3.push hB4 (A := Item.own v1 x1) hv1 hn1 hb1
  obtain ⟨v2, rfl, hC5⟩ := st73_own hC4
  refine WL_alloc hC5 zero73 rfl rfl (fun b4 w5 hC6 hB5 => ?_)
  refine WL_store_box_agg (cs' := [v2, (.int .i64 x1.2)]) (new := [v2, (.int .i64 x1.2)]) hC6 0 rfl rfl (by intro v hv; simp only [List.mem_cons, List.not_mem_nil, or_false] at hv; rcases hv with rfl | rfl; exact (ro_one (hC6.ro 1 rfl)); exact rfl) rfl Try.sizeOf73 rfl rfl (fun w6 hC7 => ?_)
  try dsimp only [List.set] at hC7
  refine WL_nil ?_
  refine W_seq ?_
  obtain ⟨r1, hr2, hF⟩ := bind_some hF
  refine W_cut (fun l w => ∃ x2 : Bool, x2 = r1 ∧ l = [(4, (ptr b1 0)), (5, (ptr b2 0)), (6, (ptr b3 0)), (8, (ptr b4 0)), (47, (.bool x2))] ∧ Below w6.heap.size w6 w ∧ Ctx [] w0 w [Item.box b4 [v2, (.int .i64 x1.2)], Item.own v2 (x1.1 : (List (Int × (List Int)))), Item.box b3 [(.slice none 0 0), (.int .i64 0)], Item.box b2 [(.bool a3.1), (.int .i64 a3.2.1), u3], Item.box b1 [u2, (.int .i64 a2.2)]]) ?_ ?_
  · refine W_drawn 36 rfl hmix (fun w8 hB7 => ?_)
    have hC9 := hC7.grow hB7
    refine WA_take 0 rfl (by kernel_rfl) (by kernel_rfl) (by kernel_rfl) rfl (fl_move rfl) ?_
    refine WL_move rfl rfl ?_
    refine WL_nil ?_
    refine WA_one 1 (by kernel_rfl) rfl ?_
    refine WL_load_box_agg [u2, (.int .i64 a2.2)] hC9 4 rfl rfl rfl Try.isAgg73 Try.sizeOf73 rfl rfl ?_
    refine WL_nil ?_
    obtain ⟨x3, hr3, hr2⟩ := bind_some hr2
    refine WA_one 2 (by kernel_rfl) rfl ?_
    refine WL_call Try.call99 rfl rfl (c_S_IsSource a1 u1 (g1.now hC9.keep) (a2.1, a2.2) u2 (g2.now hC9.keep) x3 hr3) ?_
    intro _ w9 hv2
    obtain ⟨rfl, hB8⟩ := res_bool hv2
    have hC10 := hC9.grow hB8
    refine WL_nil ?_
    refine WA_take 3 rfl (by kernel_rfl) (by kernel_rfl) (by kernel_rfl) rfl (fl_not rfl) ?_
    refine WL_not rfl rfl ?_
    refine WL_nil ?_
    refine WA_take 4 rfl (by kernel_rfl) (by kernel_rfl) (by kernel_rfl) rfl (fl_move rfl) ?_
    refine WL_move rfl rfl ?_
    refine WL_nil ?_
    refine WA_fork (fun hc1 => ?_) (fun hc1 => ?_)
    · replace hr2 := ite_t hr2 hc1
      refine WA_skip 5 rfl (by kernel_rfl) (by kernel_rfl) (by kernel_rfl) rfl rfl rfl (by simp) rfl rfl ?_
      refine WA_skip 6 rfl (by kernel_rfl) (by kernel_rfl) (by kernel_rfl) rfl rfl rfl (by simp) rfl rfl ?_
      refine WA_skip 7 rfl (by kernel_rfl) (by kernel_rfl) (by kernel_rfl) rfl rfl rfl (by simp) rfl rfl ?_
      refine WA_skip 8 rfl (by kernel_rfl) (by kernel_rfl) (by kernel_rfl) rfl rfl rfl (by simp) rfl rfl ?_
      refine WA_skip 9 rfl (by kernel_rfl) (by kernel_rfl) (by kernel_rfl) rfl rfl rfl (by simp) rfl rfl ?_
      refine WA_take 10 rfl (by kernel_rfl) (by kernel_rfl) (by kernel_rfl) rfl (fl_pick_t rfl rfl) ?_
      refine WL_pick_t rfl rfl rfl ?_
      refine WL_nil ?_
      refine WA_take 11 rfl (by kernel_rfl) (by kernel_rfl) (by kernel_rfl) rfl (fl_move rfl) ?_
      refine WL_move rfl rfl ?_
      refine WL_nil ?_
      refine WA_skip 12 rfl (by kernel_rfl) (by kernel_rfl) (by kernel_rfl) rfl rfl rfl (by simp) rfl rfl ?_
      refine WA_skip 13 rfl (by kernel_rfl) (by kernel_rfl) (by kernel_rfl) rfl rfl rfl (by simp) rfl rfl ?_
      refine WA_skip 14 rfl (by kernel_rfl) (by kernel_rfl) (by kernel_rfl) rfl rfl rfl (by simp) rfl rfl ?_
      refine WA_take 15 rfl (by kernel_rfl) (by kernel_rfl) (by kernel_rfl) rfl (fl_pick_t rfl rfl) ?_
      refine WL_pick_t rfl rfl rfl ?_
      refine WL_nil ?_
      refine WA_take 16 rfl (by kernel_rfl) (by kernel_rfl) (by kernel_rfl) rfl (fl_move rfl) ?_
      refine WL_move rfl rfl ?_
      refine WL_nil ?_
      refine WA_skip 17 rfl (by kernel_rfl) (by kernel_rfl) (by kernel_rfl) rfl rfl rfl (by simp) rfl rfl ?_
      refine WA_skip 18 rfl (by kernel_rfl) (by kernel_rfl) (by kernel_rfl) rfl rfl rfl (by simp) rfl rfl ?_
      refine WA_skip 19 rfl (by kernel_rfl) (by kernel_rfl) (by kernel_rfl) rfl rfl rfl (by simp) rfl rfl ?_
      refine WA_skip 20 rfl (by kernel_rfl) (by kernel_rfl) (by kernel_rfl) rfl rfl rfl (by simp) rfl rfl ?_
      refine WA_skip 21 rfl (by kernel_rfl) (by kernel_rfl) (by kernel_rfl) rfl rfl rfl (by simp) rfl rfl ?_
      refine WA_skip 22 rfl (by kernel_rfl) (by kernel_rfl) (by kernel_rfl) rfl rfl rfl (by simp) rfl rfl ?_
      refine WA_skip 23 rfl (by kernel_rfl) (by kernel_rfl) (by kernel_rfl) rfl rfl rfl (by simp) rfl rfl ?_
      refine WA_skip 24 rfl (by kernel_rfl) (by kernel_rfl) (by kernel_rfl) rfl rfl rfl (by simp) rfl rfl ?_
      refine WA_take 25 rfl (by kernel_rfl) (by kernel_rfl) (by kernel_rfl) rfl (fl_pick_t rfl rfl) ?_
      refine WL_pick_t rfl rfl rfl ?_
      refine WL_nil ?_
      refine WA_take 26 rfl (by kernel_rfl) (by kernel_rfl) (by kernel_rfl) rfl (fl_move rfl) ?_
      refine WL_move rfl rfl ?_
      refine WL_nil ?_
      refine WA_skip 27 rfl (by kernel_rfl) (by kernel_rfl) (by kernel_rfl) rfl rfl rfl (by simp) rfl rfl ?_
      refine WA_skip 28 rfl (by kernel_rfl) (by kernel_rfl) (by kernel_rfl) rfl rfl rfl (by simp) rfl rfl ?_
      refine WA_skip 29 rfl (by kernel_rfl) (by kernel_rfl) (by kernel_rfl) rfl rfl rfl (by simp) rfl rfl ?_
      refine WA_skip 30 rfl (by kernel_rfl) (by kernel_rfl) (by kernel_rfl) rfl rfl rfl (by simp [undef]) rfl rfl ?_
      refine WA_skip 31 rfl (by kernel_rfl) (by kernel_rfl) (by kernel_rfl) rfl rfl rfl (by simp [undef]) rfl rfl ?_
      refine WA_skip 32 rfl (by kernel_rfl) (by kernel_rfl) (by kernel_rfl) rfl rfl rfl (by simp [undef]) rfl rfl ?_
      refine WA_skip 33 rfl (by kernel_rfl) (by kernel_rfl) (by kernel_rfl) rfl rfl rfl (by simp [undef]) rfl rfl ?_
      refine WA_skip 34 rfl (by kernel_rfl) (by kernel_rfl) (by kernel_rfl) rfl rfl rfl (by simp) rfl rfl ?_
      refine WA_take 35 rfl (by kernel_rfl) (by kernel_rfl) (by kernel_rfl) rfl (fl_pick_t rfl rfl) ?_
      refine WL_pick_t rfl rfl rfl ?_
      refine WL_nil ?_
      refine WA_done (by kernel_rfl) ?_
      have hq1 := Option.some.inj hr2
      subst hq1
      refine nrm_sub (l' := [(4, (ptr b1 0)), (5, (ptr b2 0)), (6, (ptr b3 0)), (8, (ptr b4 0)), (47, (.bool true))]) ⟨rfl, rfl, rfl, rfl, rfl, trivial⟩ ?_
      exact ⟨true, rfl, rfl, ((Keep.of hB7).then hB8).below, hC10⟩
    · replace hr2 := ite_f hr2 hc1
      refine WA_takeG 5 rfl (by kernel_rfl) (by kernel_rfl) (by kernel_rfl) rfl rfl rfl (fl_move rfl) ?_
      refine WL_guard rfl rfl ?_
      refine WL_move rfl rfl ?_
      refine WL_nil ?_
      refine WA_takeG 6 rfl (by kernel_rfl) (by kernel_rfl) (by kernel_rfl) rfl rfl rfl (fl_field Try.underlying79 rfl rfl (fun w => ⟨_, Try.sizeOf77 w⟩) rfl) ?_
      refine WL_guard rfl rfl ?_
      refine WL_field Try.underlying79 rfl rfl (fun w => ⟨_, Try.sizeOf77 w⟩) rfl rfl ?_
      refine WL_nil ?_
      refine WA_one 7 (by kernel_rfl) rfl ?_
      refine WL_guard rfl rfl ?_
      refine WL_load_box_agg [(.int .i64 a3.2.1), u3] hC10 3 rfl rfl rfl Try.isAgg77 Try.sizeOf77 rfl rfl ?_
      refine WL_nil ?_
      obtain ⟨x4, hr4, hr2⟩ := bind_some hr2
      refine WA_one 8 (by kernel_rfl) rfl ?_
      refine WL_guard rfl rfl ?_
      refine WL_call Try.call100 rfl rfl (c_S_IsFact a1 u1 (g1.now hC10.keep) (a3.2.1, a3.2.2) u3 (g3.now hC10.keep) x4 hr4) ?_
      intro _ w10 hv3
      obtain ⟨rfl, hB9⟩ := res_bool hv3
      have hC11 := hC10.grow hB9
      refine WL_nil ?_
      refine WA_takeG 9 rfl (by kernel_rfl) (by kernel_rfl) (by kernel_rfl) rfl rfl rfl (fl_not rfl) ?_
      refine WL_guard rfl rfl ?_
      refine WL_not rfl rfl ?_
      refine WL_nil ?_
      refine WA_take 10 rfl (by kernel_rfl) (by kernel_rfl) (by kernel_rfl) rfl (fl_pick_f rfl rfl) ?_
      refine WL_pick_f rfl rfl rfl ?_
      refine WL_nil ?_
      refine WA_take 11 rfl (by kernel_rfl) (by kernel_rfl) (by kernel_rfl) rfl (fl_move rfl) ?_
      refine WL_move rfl rfl ?_
      refine WL_nil ?_
      refine WA_fork (fun hc2 => ?_) (fun hc2 => ?_)
      · replace hr2 := ite_t hr2 hc2
        refine WA_skip 12 rfl (by kernel_rfl) (by kernel_rfl) (by kernel_rfl) rfl rfl rfl (by simp) rfl rfl ?_
        refine WA_skip 13 rfl (by kernel_rfl) (by kernel_rfl) (by kernel_rfl) rfl rfl rfl (by simp) rfl rfl ?_
        refine WA_skip 14 rfl (by kernel_rfl) (by kernel_rfl) (by kernel_rfl) rfl rfl rfl (by simp) rfl rfl ?_
        refine WA_take 15 rfl (by kernel_rfl) (by kernel_rfl) (by kernel_rfl) rfl (fl_pick_t rfl rfl) ?_
        refine WL_pick_t rfl rfl rfl ?_
        refine WL_nil ?_
        refine WA_take 16 rfl (by kernel_rfl) (by kernel_rfl) (by kernel_rfl) rfl (fl_move rfl) ?_
        refine WL_move rfl rfl ?_
        refine WL_nil ?_
        refine WA_skip 17 rfl (by kernel_rfl) (by kernel_rfl) (by kernel_rfl) rfl rfl rfl (by simp) rfl rfl ?_
        refine WA_skip 18 rfl (by kernel_rfl) (by kernel_rfl) (by kernel_rfl) rfl rfl rfl (by simp) rfl rfl ?_
        refine WA_skip 19 rfl (by kernel_rfl) (by kernel_rfl) (by kernel_rfl) rfl rfl rfl (by simp) rfl rfl ?_
        refine WA_skip 20 rfl (by kernel_rfl) (by kernel_rfl) (by kernel_rfl) rfl rfl rfl (by simp) rfl rfl ?_
        refine WA_skip 21 rfl (by kernel_rfl) (by kernel_rfl) (by kernel_rfl) rfl rfl rfl (by simp) rfl rfl ?_
        refine WA_skip 22 rfl (by kernel_rfl) (by kernel_rfl) (by kernel_rfl) rfl rfl rfl (by simp) rfl rfl ?_
        refine WA_skip 23 rfl (by kernel_rfl) (by kernel_rfl) (by kernel_rfl) rfl rfl rfl (by simp) rfl rfl ?_
        refine WA_skip 24 rfl (by kernel_rfl) (by kernel_rfl) (by kernel_rfl) rfl rfl rfl (by simp) rfl rfl ?_
        refine WA_take 25 rfl (by kernel_rfl) (by kernel_rfl) (by kernel_rfl) rfl (fl_pick_t rfl rfl) ?_
        refine WL_pick_t rfl rfl rfl ?_
        refine WL_nil ?_
        refine WA_take 26 rfl (by kernel_rfl) (by kernel_rfl) (by kernel_rfl) rfl (fl_move rfl) ?_
        refine WL_move rfl rfl ?_
        refine WL_nil ?_
        refine WA_skip 27 rfl (by kernel_rfl) (by kernel_rfl) (by kernel_rfl) rfl rfl rfl (by simp) rfl rfl ?_
        refine WA_skip 28 rfl (by kernel_rfl) (by kernel_rfl) (by kernel_rfl) rfl rfl rfl (by simp) rfl rfl ?_
        refine WA_skip 29 rfl (by kernel_rfl) (by kernel_rfl) (by kernel_rfl) rfl rfl rfl (by simp) rfl rfl ?_
        refine WA_skip 30 rfl (by kernel_rfl) (by kernel_rfl) (by kernel_rfl) rfl rfl rfl (by simp [undef]) rfl rfl ?_
        refine WA_skip 31 rfl (by kernel_rfl) (by kernel_rfl) (by kernel_rfl) rfl rfl rfl (by simp [undef]) rfl rfl ?_
        refine WA_skip 32 rfl (by kernel_rfl) (by kernel_rfl) (by kernel_rfl) rfl rfl rfl (by simp [undef]) rfl rfl ?_
        refine WA_skip 33 rfl (by kernel_rfl) (by kernel_rfl) (by kernel_rfl) rfl rfl rfl (by simp [undef]) rfl rfl ?_
        refine WA_skip 34 rfl (by kernel_rfl) (by kernel_rfl) (by kernel_rfl) rfl rfl rfl (by simp) rfl rfl ?_
        refine WA_take 35 rfl (by kernel_rfl) (by kernel_rfl) (by kernel_rfl) rfl (fl_pick_t rfl rfl) ?_
        refine WL_pick_t rfl rfl rfl ?_
        refine WL_nil ?_
        refine WA_done (by kernel_rfl) ?_
        have hq2 := Option.some.inj hr2
        subst hq2
        refine nrm_sub (l' := [(4, (ptr b1 0)), (5, (ptr b2 0)), (6, (ptr b3 0)), (8, (ptr b4 0)), (47, (.bool true))]) ⟨rfl, rfl, rfl, rfl, rfl, trivial⟩ ?_
        exact ⟨true, rfl, rfl, (((Keep.of hB7).then hB8).then hB9).below, hC11⟩
      · replace hr2 := ite_f hr2 hc2
        refine WA_takeG 12 rfl (by kernel_rfl) (by kernel_rfl) (by kernel_rfl) rfl rfl rfl (fl_field Try.underlying73 rfl rfl (fun w => ⟨_, Try.sizeOf3 w⟩) rfl) ?_
        refine WL_guard rfl rfl ?_
        refine WL_field Try.underlying73 rfl rfl (fun w => ⟨_, Try.sizeOf3 w⟩) rfl rfl ?_
        refine WL_nil ?_
        refine WA_one 13 (by kernel_rfl) rfl ?_
        refine WL_guard rfl rfl ?_
        refine WL_load_box hC11 4 rfl rfl Try.isAgg3 rfl rfl ?_
        refine WL_nil ?_
        refine WA_takeG 14 rfl (by kernel_rfl) (by kernel_rfl) (by kernel_rfl) rfl rfl rfl (fl_geq rfl rfl) ?_
        refine WL_guard rfl rfl ?_
        refine WL_geq rfl rfl rfl ?_
        refine WL_nil ?_
        refine WA_take 15 rfl (by kernel_rfl) (by kernel_rfl) (by kernel_rfl) rfl (fl_pick_f rfl rfl) ?_
        refine WL_pick_f rfl rfl rfl ?_
        refine WL_nil ?_
        refine WA_take 16 rfl (by kernel_rfl) (by kernel_rfl) (by kernel_rfl) rfl (fl_move rfl) ?_
        refine WL_move rfl rfl ?_
        refine WL_nil ?_
        refine WA_fork (fun hc3 => ?_) (fun hc3 => ?_)
        · replace hr2 := ite_t hr2 hc3
          refine WA_skip 17 rfl (by kernel_rfl) (by kernel_rfl) (by kernel_rfl) rfl rfl rfl (by simp) rfl rfl ?_
          refine WA_skip 18 rfl (by kernel_rfl) (by kernel_rfl) (by kernel_rfl) rfl rfl rfl (by simp) rfl rfl ?_
          refine WA_skip 19 rfl (by kernel_rfl) (by kernel_rfl) (by kernel_rfl) rfl rfl rfl (by simp) rfl rfl ?_
          refine WA_skip 20 rfl (by kernel_rfl) (by kernel_rfl) (by kernel_rfl) rfl rfl rfl (by simp) rfl rfl ?_
          refine WA_skip 21 rfl (by kernel_rfl) (by kernel_rfl) (by kernel_rfl) rfl rfl rfl (by simp) rfl rfl ?_
          refine WA_skip 22 rfl (by kernel_rfl) (by kernel_rfl) (by kernel_rfl) rfl rfl rfl (by simp) rfl rfl ?_
          refine WA_skip 23 rfl (by kernel_rfl) (by kernel_rfl) (by kernel_rfl) rfl rfl rfl (by simp) rfl rfl ?_
          refine WA_skip 24 rfl (by kernel_rfl) (by kernel_rfl) (by kernel_rfl) rfl rfl rfl (by simp) rfl rfl ?_
          refine WA_take 25 rfl (by kernel_rfl) (by kernel_rfl) (by kernel_rfl) rfl (fl_pick_t rfl rfl) ?_
          refine WL_pick_t rfl rfl rfl ?_
          refine WL_nil ?_
          refine WA_take 26 rfl (by kernel_rfl) (by kernel_rfl) (by kernel_rfl) rfl (fl_move rfl) ?_
          refine WL_move rfl rfl ?_
          refine WL_nil ?_
          refine WA_skip 27 rfl (by kernel_rfl) (by kernel_rfl) (by kernel_rfl) rfl rfl rfl (by simp) rfl rfl ?_
          refine WA_skip 28 rfl (by kernel_rfl) (by kernel_rfl) (by kernel_rfl) rfl rfl rfl (by simp) rfl rfl ?_
          refine WA_skip 29 rfl (by kernel_rfl) (by kernel_rfl) (by kernel_rfl) rfl rfl rfl (by simp) rfl rfl ?_
          refine WA_skip 30 rfl (by kernel_rfl) (by kernel_rfl) (by kernel_rfl) rfl rfl rfl (by simp [undef]) rfl rfl ?_
          refine WA_skip 31 rfl (by kernel_rfl) (by kernel_rfl) (by kernel_rfl) rfl rfl rfl (by simp [undef]) rfl rfl ?_
          refine WA_skip 32 rfl (by kernel_rfl) (by kernel_rfl) (by kernel_rfl) rfl rfl rfl (by simp [undef]) rfl rfl ?_
          refine WA_skip 33 rfl (by kernel_rfl) (by kernel_rfl) (by kernel_rfl) rfl rfl rfl (by simp [undef]) rfl rfl ?_
          refine WA_skip 34 rfl (by kernel_rfl) (by kernel_rfl) (by kernel_rfl) rfl rfl rfl (by simp) rfl rfl ?_
          refine WA_take 35 rfl (by kernel_rfl) (by kernel_rfl) (by kernel_rfl) rfl (fl_pick_t rfl rfl) ?_
          refine WL_pick_t rfl rfl rfl ?_
          refine WL_nil ?_
          refine WA_done (by kernel_rfl) ?_
          have hq3 := Option.some.inj hr2
          subst hq3
          refine nrm_sub (l' := [(4, (ptr b1 0)), (5, (ptr b2 0)), (6, (ptr b3 0)), (8, (ptr b4 0)), (47, (.bool true))]) ⟨rfl, rfl, rfl, rfl, rfl, trivial⟩ ?_
          exact ⟨true, rfl, rfl, (((Keep.of hB7).then hB8).then hB9).below, hC11⟩
        · replace hr2 := ite_f hr2 hc3
          refine WA_takeG 17 rfl (by kernel_rfl) (by kernel_rfl) (by kernel_rfl) rfl rfl rfl (fl_field Try.underlying73 rfl rfl (fun w => ⟨_, Try.sizeOf36 w⟩) rfl) ?_
          refine WL_guard rfl rfl ?_
          refine WL_field Try.underlying73 rfl rfl (fun w => ⟨_, Try.sizeOf36 w⟩) rfl rfl ?_
          refine WL_nil ?_
          refine WA_takeG 19 rfl (by kernel_rfl) (by kernel_rfl) (by kernel_rfl) rfl rfl rfl (fl_field Try.underlying79 rfl rfl (fun w => ⟨_, Try.sizeOf77 w⟩) rfl) ?_
          refine WL_guard rfl rfl ?_
          refine WL_field Try.underlying79 rfl rfl (fun w => ⟨_, Try.sizeOf77 w⟩) rfl rfl ?_
          refine WL_nil ?_
          refine WA_takeG 22 rfl (by kernel_rfl) (by kernel_rfl) (by kernel_rfl) rfl rfl rfl (fl_field Try.underlying79 rfl rfl (fun w => ⟨_, Try.sizeOf4 w⟩) rfl) ?_
          refine WL_guard rfl rfl ?_
          refine WL_field Try.underlying79 rfl rfl (fun w => ⟨_, Try.sizeOf4 w⟩) rfl rfl ?_
          refine WL_nil ?_
          obtain ⟨x5, hr5, hr2⟩ := bind_some hr2
          refine WA.sub (l' := [(0, u1), (1, (.agg #[u2, (.int .i64 a2.2)])), (2, (.agg #[(.bool a3.1), (.int .i64 a3.2.1), u3])), (4, (ptr b1 0)), (5, (ptr b2 0)), (6, (ptr b3 0)), (7, (.bool false)), (8, (ptr b4 0)), (10, (.agg #[u2, (.int .i64 a2.2)])), (11, (.agg #[v2, (.int .i64 x1.2)])), (12, u1), (13, (.agg #[u2, (.int .i64 a2.2)])), (14, (.bool x3)), (15, (.bool (!x3))), (16, (.bool false)), (17, u1), (18, (ptr b2 1)), (19, (.agg #[(.int .i64 a3.2.1), u3])), (20, (.bool x4)), (21, (.bool (!x4))), (22, (.bool (!x4))), (23, (.bool false)), (24, (ptr b1 1)), (25, (.int .i64 a2.2)), (26, (.bool (decide (1000 ≤ a2.2)))), (27, (.bool (decide (1000 ≤ a2.2)))), (28, (.bool false)), (29, (ptr b1 0)), (31, (ptr b2 1)), (34, (ptr b2 0))]) ?_ ⟨rfl, rfl, rfl, rfl, rfl, rfl, rfl, rfl, rfl, rfl, rfl, rfl, rfl, rfl, rfl, rfl, rfl, rfl, rfl, rfl, rfl, rfl, rfl, rfl, rfl, rfl, rfl, rfl, rfl, rfl, trivial⟩
          refine WA_postsE [⟨18, [], fun vs => PW.val u2, []⟩, ⟨20, [], fun vs => PW.val (.agg #[(.int .i64 a3.2.1), u3]), []⟩, ⟨21, [], fun vs => PW.val (.bool x5), []⟩, ⟨23, [], fun vs => PW.val (.bool a3.1), []⟩] [[], [], [18, 20], []] 12 rfl (by kernel_rfl) (by kernel_rfl) rfl ?_ ?_
          · refine StepsE_cons rfl ?_ ?_
            · intro w12 hB11
              refine DepsE_nil ?_
              refine ⟨_, rfl, ?_⟩
              refine WL_guard rfl rfl ?_
              refine WL_load_box (hC11.grow hB11) 4 rfl rfl Try.isAgg36 rfl rfl ?_
              refine WL_nil ?_
              exact FinE_val (Below.refl _ _) rfl rfl ⟨rfl, rfl⟩
            refine StepsE_cons rfl ?_ ?_
            · intro w12 hB11
              refine DepsE_nil ?_
              refine ⟨_, rfl, ?_⟩
              refine WL_guard rfl rfl ?_
              refine WL_load_box_agg [(.int .i64 a3.2.1), u3] (hC11.grow hB11) 3 rfl rfl rfl Try.isAgg77 Try.sizeOf77 rfl rfl ?_
              refine WL_nil ?_
              exact FinE_val (Below.refl _ _) rfl rfl ⟨rfl, rfl⟩
            refine StepsE_cons rfl ?_ ?_
            · intro w12 hB11
              refine DepsE_cons rfl rfl rfl ?_
              rintro _ _ ⟨rfl, rfl⟩ _
              refine DepsE_cons rfl rfl rfl ?_
              rintro _ _ ⟨rfl, rfl⟩ _
              refine DepsE_nil ?_
              refine ⟨_, rfl, ?_⟩
              refine WL_guard rfl rfl ?_
              refine WL_call Try.call92 rfl rfl (c_S_HasFact a2.1 u2 (g2.now (hC11.keep.then hB11)) (a3.2.1, a3.2.2) u3 (g3.now (hC11.keep.then hB11)) x5 hr5) ?_
              intro _ w11 hv4
              obtain ⟨rfl, hB10⟩ := res_bool hv4
              refine WL_nil ?_
              exact FinE_val hB10 rfl rfl ⟨rfl, rfl⟩
            refine StepsE_cons rfl ?_ ?_
            · intro w12 hB11
              refine DepsE_nil ?_
              refine ⟨_, rfl, ?_⟩
              refine WL_guard rfl rfl ?_
              refine WL_load_box (hC11.grow hB11) 3 rfl rfl Try.isAgg4 rfl rfl ?_
              refine WL_nil ?_
              exact FinE_val (Below.refl _ _) rfl rfl ⟨rfl, rfl⟩
            exact StepsE_nil
          · intro w13 hB12
            refine AllE_cons rfl rfl rfl ?_
            rintro _ _ ⟨rfl, rfl⟩
            refine AllE_cons rfl rfl rfl ?_
            rintro _ _ ⟨rfl, rfl⟩
            refine AllE_cons rfl rfl rfl ?_
            rintro _ _ ⟨rfl, rfl⟩
            refine AllE_cons rfl rfl rfl ?_
            rintro _ _ ⟨rfl, rfl⟩
            refine AllE_nil ?_
            intro hn2 hb2
            have hC12 := hC11.grow hB12
            refine WA_takeG 24 rfl (by kernel_rfl) (by kernel_rfl) (by kernel_rfl) rfl rfl rfl (fl_bool_eql Try.underlying4 rfl rfl) ?_
            refine WL_guard rfl rfl ?_
            refine WL_bool_eql Try.underlying4 rfl rfl rfl ?_
            refine WL_nil ?_
            refine WA_take 25 rfl (by kernel_rfl) (by kernel_rfl) (by kernel_rfl) rfl (fl_pick_f rfl rfl) ?_
            refine WL_pick_f rfl rfl rfl ?_
            refine WL_nil ?_
            refine WA_take 26 rfl (by kernel_rfl) (by kernel_rfl) (by kernel_rfl) rfl (fl_move rfl) ?_
            refine WL_move rfl rfl ?_
            refine WL_nil ?_
            refine WA_fork (fun hc4 => ?_) (fun hc4 => ?_)
            · replace hr2 := ite_t hr2 hc4
              refine WA_skip 27 rfl (by kernel_rfl) (by kernel_rfl) (by kernel_rfl) rfl rfl rfl (by simp) rfl rfl ?_
              refine WA_skip 28 rfl (by kernel_rfl) (by kernel_rfl) (by kernel_rfl) rfl rfl rfl (by simp) rfl rfl ?_
              refine WA_skip 29 rfl (by kernel_rfl) (by kernel_rfl) (by kernel_rfl) rfl rfl rfl (by simp) rfl rfl ?_
              refine WA_skip 30 rfl (by kernel_rfl) (by kernel_rfl) (by kernel_rfl) rfl rfl rfl (by simp [undef]) rfl rfl ?_
              refine WA_skip 31 rfl (by kernel_rfl) (by kernel_rfl) (by kernel_rfl) rfl rfl rfl (by simp [undef]) rfl rfl ?_
              refine WA_skip 32 rfl (by kernel_rfl) (by kernel_rfl) (by kernel_rfl) rfl rfl rfl (by simp [undef]) rfl rfl ?_
              refine WA_skip 33 rfl (by kernel_rfl) (by kernel_rfl) (by kernel_rfl) rfl rfl rfl (by simp [undef]) rfl rfl ?_
              refine WA_skip 34 rfl (by kernel_rfl) (by kernel_rfl) (by kernel_rfl) rfl rfl rfl (by simp) rfl rfl ?_
              refine WA_take 35 rfl (by kernel_rfl) (by kernel_rfl) (by kernel_rfl) rfl (fl_pick_t rfl rfl) ?_
              refine WL_pick_t rfl rfl rfl ?_
              refine WL_nil ?_
              refine WA_done (by kernel_rfl) ?_
              have hq4 := Option.some.inj hr2
              subst hq4
              refine nrm_sub (l' := [(4, (ptr b1 0)), (5, (ptr b2 0)), (6, (ptr b3 0)), (8, (ptr b4 0)), (47, (.bool true))]) ⟨rfl, rfl, rfl, rfl, rfl, trivial⟩ ?_
              exact ⟨true, rfl, rfl, ((((Keep.of hB7).then hB8).then hB9).then hB12).below, hC12⟩
            · replace hr2 := ite_f hr2 hc4
              refine WA_takeG 27 rfl (by kernel_rfl) (by kernel_rfl) (by kernel_rfl) rfl rfl rfl (fl_field Try.underlying79 rfl rfl (fun w => ⟨_, Try.sizeOf4 w⟩) rfl) ?_
              refine WL_guard rfl rfl ?_
              refine WL_field Try.underlying79 rfl rfl (fun w => ⟨_, Try.sizeOf4 w⟩) rfl rfl ?_
              refine WL_nil ?_
              refine WA_one 28 (by kernel_rfl) rfl ?_
              refine WL_guard rfl rfl ?_
              refine WL_load_box hC12 3 rfl rfl Try.isAgg4 rfl rfl ?_
              refine WL_nil ?_
              refine WA_takeG 29 rfl (by kernel_rfl) (by kernel_rfl) (by kernel_rfl) rfl rfl rfl (fl_move rfl) ?_
              refine WL_guard rfl rfl ?_
              refine WL_move rfl rfl ?_
              refine WL_nil ?_
              refine WA_fork (fun hc5 => ?_) (fun hc5 => ?_)
              · replace hr2 := ite_t hr2 hc5
                refine WA_takeG 30 rfl (by kernel_rfl) (by kernel_rfl) (by kernel_rfl) rfl rfl rfl (fl_field Try.underlying73 rfl rfl (fun w => ⟨_, Try.sizeOf36 w⟩) rfl) ?_
                refine WL_guard rfl rfl ?_
                refine WL_field Try.underlying73 rfl rfl (fun w => ⟨_, Try.sizeOf36 w⟩) rfl rfl ?_
                refine WL_nil ?_
                refine WA_one 31 (by kernel_rfl) rfl ?_
                refine WL_guard rfl rfl ?_
                refine WL_load_box hC12 4 rfl rfl Try.isAgg36 rfl rfl ?_
                refine WL_nil ?_
                refine WA_takeG 32 rfl (by kernel_rfl) (by kernel_rfl) (by kernel_rfl) rfl rfl rfl (fl_len Try.underlying36 g2 rfl) ?_
                refine WL_guard rfl rfl ?_
                refine WL_len Try.underlying36 g2 rfl rfl ?_
                refine WL_nil ?_
                refine WA_takeG 33 rfl (by kernel_rfl) (by kernel_rfl) (by kernel_rfl) rfl rfl rfl (fl_geq rfl rfl) ?_
                refine WL_guard rfl rfl ?_
                refine WL_geq rfl rfl rfl ?_
                refine WL_nil ?_
                refine WA_takeG 34 rfl (by kernel_rfl) (by kernel_rfl) (by kernel_rfl) rfl rfl rfl (fl_pick_t rfl rfl) ?_
                refine WL_guard rfl rfl ?_
                refine WL_pick_t rfl rfl rfl ?_
                refine WL_nil ?_
                refine WA_take 35 rfl (by kernel_rfl) (by kernel_rfl) (by kernel_rfl) rfl (fl_pick_f rfl rfl) ?_
                refine WL_pick_f rfl rfl rfl ?_
                refine WL_nil ?_
                refine WA_done (by kernel_rfl) ?_
                have hq5 := Option.some.inj hr2
                subst hq5
                refine nrm_sub (l' := [(4, (ptr b1 0)), (5, (ptr b2 0)), (6, (ptr b3 0)), (8, (ptr b4 0)), (47, (.bool (decide (24 ≤ (List.length a2.1 : Int)))))]) ⟨rfl, rfl, rfl, rfl, rfl, trivial⟩ ?_
                exact ⟨(decide (24 ≤ (List.length a2.1 : Int))), rfl, rfl, ((((Keep.of hB7).then hB8).then hB9).then hB12).below, hC12⟩
              · replace hr2 := ite_f hr2 hc5
                refine WA_skip 30 rfl (by kernel_rfl) (by kernel_rfl) (by kernel_rfl) rfl rfl rfl (by simp) rfl rfl ?_
                refine WA_skip 31 rfl (by kernel_rfl) (by kernel_rfl) (by kernel_rfl) rfl rfl rfl (by simp) rfl rfl ?_
                refine WA_skip 32 rfl (by kernel_rfl) (by kernel_rfl) (by kernel_rfl) rfl rfl rfl (by simp) rfl rfl ?_
                refine WA_skip 33 rfl (by kernel_rfl) (by kernel_rfl) (by kernel_rfl) rfl rfl rfl (by simp) rfl rfl ?_
                refine WA_takeG 34 rfl (by kernel_rfl) (by kernel_rfl) (by kernel_rfl) rfl rfl rfl (fl_pick_f rfl rfl) ?_
                refine WL_guard rfl rfl ?_
                refine WL_pick_f rfl rfl rfl ?_
                refine WL_nil ?_
                refine WA_take 35 rfl (by kernel_rfl) (by kernel_rfl) (by kernel_rfl) rfl (fl_pick_f rfl rfl) ?_
                refine WL_pick_f rfl rfl rfl ?_
                refine WL_nil ?_
                refine WA_done (by kernel_rfl) ?_
                have hq6 := Option.some.inj hr2
                subst hq6
                refine nrm_sub (l' := [(4, (ptr b1 0)), (5, (ptr b2 0)), (6, (ptr b3 0)), (8, (ptr b4 0)), (47, (.bool false))]) ⟨rfl, rfl, rfl, rfl, rfl, trivial⟩ ?_
                exact ⟨false, rfl, rfl, ((((Keep.of hB7).then hB8).then hB9).then hB12).below, hC12⟩
  · rintro _ w7 ⟨x2, rfl, rfl, hB6, hC8⟩
    try dsimp only at hF
    refine W_cond rfl (fun hc6 => ?_) (fun hc6 => ?_)
    · replace hF := ite_t hF hc6
      refine W_seq_reg ?_
      refine WL_load_box_agg [v2, (.int .i64 x1.2)] hC8 0 rfl rfl rfl Try.isAgg73 Try.sizeOf73 rfl rfl ?_
      refine WL_store_box_agg (cs' := [v2, (.int .i64 x1.2)]) (new := [v2, (.int .i64 x1.2)]) hC8 2 rfl rfl (by intro v hv; simp only [List.mem_cons, List.not_mem_nil, or_false] at hv; rcases hv with rfl | rfl; exact (ro_one (hC8.ro 1 rfl)); exact rfl) rfl Try.sizeOf73 rfl rfl (fun w14 hC13 => ?_)
      try dsimp only [List.set] at hC13
      refine WL_assign rfl rfl ?_
      refine WL_nil ?_
      refine W_ret ?_
      refine nrm_ret ?_
      have hq7 := Option.some.inj hF
      subst hq7
      refine fn_retG2 rfl (rv_cell_agg (cs' := [v2, (.int .i64 x1.2)]) hC13 (i := 2) rfl rfl rfl Try.isAgg73 Try.sizeOf73 rfl) (rv_tmp rfl) ?_
      have hC14 := hC13.triv (bool_val (false))
      have hC16 : Ctx [] w0 _ [Item.own v2 (x1.1 : (List (Int × (List Int)))), Item.own (.bool false) (false : Bool), Item.box b4 [v2, (.int .i64 x1.2)], Item.box b3 [v2, (.int .i64 x1.2)], Item.box b2 [(.bool a3.1), (.int .i64 a3.2.1), u3], Item.box b1 [u2, (.int .i64 a2.2)]] := hC14.front 2 rfl
      have hC15 := own_st73 v2 x1.1 x1.2 hC16
      exact ⟨_, rfl, res2_of hC15⟩
    · replace hF := ite_f hF hc6
      refine W_skip ?_
      refine nrm_normal ?_
      refine W_seq_reg ?_
      refine WL_field Try.underlying73 rfl rfl (fun w => ⟨_, Try.sizeOf3 w⟩) rfl rfl ?_
      refine WL_load_box hC8 4 rfl rfl Try.isAgg3 rfl rfl ?_
      refine WL_add rfl rfl rfl ?_
      refine WL_field Try.underlying73 rfl rfl (fun w => ⟨_, Try.sizeOf3 w⟩) rfl rfl ?_
      refine WL_store_box (cs' := [v2, (.int .i64 (w64 (a2.2 + 1)))]) hC8 0 rfl rfl rfl rfl Try.sizeOf3 rfl rfl (fun w15 hC17 => ?_)
      try dsimp only [List.set] at hC17
      refine WL_nil ?_
      refine W_seq ?_
      refine W_seq_reg ?_
      refine WL_field Try.underlying79 rfl rfl (fun w => ⟨_, Try.sizeOf4 w⟩) rfl rfl ?_
      refine WL_load_box hC17 3 rfl rfl Try.isAgg4 rfl rfl ?_
      refine WL_nil ?_
      refine W_cond rfl (fun hc7 => ?_) (fun hc7 => ?_)
      · replace hF := ite_t hF hc7
        refine W_seq_reg ?_
        refine WL_field Try.underlying73 rfl rfl (fun w => ⟨_, Try.sizeOf36 w⟩) rfl rfl ?_
        refine WL_load_box hC17 4 rfl rfl Try.isAgg36 rfl rfl ?_
        refine WL_field Try.underlying79 rfl rfl (fun w => ⟨_, Try.sizeOf77 w⟩) rfl rfl ?_
        refine WL_load_box_agg [(.int .i64 a3.2.1), u3] hC17 3 rfl rfl rfl Try.isAgg77 Try.sizeOf77 rfl rfl ?_
        obtain ⟨x6, hr6, hF⟩ := bind_some hF
        refine WL_call Try.call76 rfl rfl (c_S_AddFact a2.1 u2 (g2.now hC17.keep) (a3.2.1, a3.2.2) u3 (g3.now hC17.keep) x6 hr6) ?_
        rintro v3 w16 ⟨hB13, F2, hv5, hn3, hb3⟩
        have hC18 := hC17.push hB13 (A := Item.own v3 x6) hv5 hn3 hb3
        refine WL_field Try.underlying73 rfl rfl (fun w => ⟨_, Try.sizeOf36 w⟩) rfl rfl ?_
        refine WL_store_box (cs' := [v3, (.int .i64 (w64 (a2.2 + 1)))]) hC18 1 rfl rfl (ro_one (hC18.ro 0 rfl)) rfl Try.sizeOf36 rfl rfl (fun w17 hC19 => ?_)
        try dsimp only [List.set] at hC19
        refine WL_nil ?_
        refine W_seq_reg ?_
        refine WL_load_box_agg [v3, (.int .i64 (w64 (a2.2 + 1)))] hC19 1 rfl rfl rfl Try.isAgg73 Try.sizeOf73 rfl rfl ?_
        refine WL_store_box_agg (cs' := [v3, (.int .i64 (w64 (a2.2 + 1)))]) (new := [v3, (.int .i64 (w64 (a2.2 + 1)))]) hC19 3 rfl rfl (by intro v hv; simp only [List.mem_cons, List.not_mem_nil, or_false] at hv; rcases hv with rfl | rfl; exact (ro_one (hC19.ro 0 rfl)); exact rfl) rfl Try.sizeOf73 rfl rfl (fun w18 hC20 => ?_)
        try dsimp only [List.set] at hC20
        refine WL_assign rfl rfl ?_
        refine WL_nil ?_
        refine W_ret ?_
        refine nrm_ret ?_
        have hq8 := Option.some.inj hF
        subst hq8
        refine fn_retG2 rfl (rv_cell_agg (cs' := [v3, (.int .i64 (w64 (a2.2 + 1)))]) hC20 (i := 3) rfl rfl rfl Try.isAgg73 Try.sizeOf73 rfl) (rv_tmp rfl) ?_
        have hC21 := hC20.triv (bool_val (true))
        have hC23 : Ctx [] w0 _ [Item.own v3 (x6 : (List (Int × (List Int)))), Item.own (.bool true) (true : Bool), Item.box b4 [v3, (.int .i64 (w64 (a2.2 + 1)))], Item.own v2 (x1.1 : (List (Int × (List Int)))), Item.box b3 [v3, (.int .i64 (w64 (a2.2 + 1)))], Item.box b2 [(.bool a3.1), (.int .i64 a3.2.1), u3], Item.box b1 [u2, (.int .i64 a2.2)]] := hC21.front 1 rfl
        have hC22 := own_st73 v3 x6 (w64 (a2.2 + 1)) hC23
        exact ⟨_, rfl, res2_of hC22⟩
      · replace hF := ite_f hF hc7
        refine W_skip ?_
        refine nrm_normal ?_
        refine W_seq_reg ?_
        refine WL_buildSlice (vs := []) hC17 Try.underlying36 ty77 rfl rfl rfl rfl (by simp) rfl rfl (fun b5 w19 hC24 hB14 => ?_)
        have hC25 := hC24.row0 (α := (Int × (List Int)))
        have hC26 := hC25.front 1 rfl
        dsimp only [List.eraseIdx, List.cons_append, List.nil_append, List.append_nil] at hC26
        have hC27 : Ctx [] w0 w19 (Item.own (.slice (some ⟨b5, 0, none⟩) 0 0) (([] : List (Int × (List Int))) : List (Int × (List Int))) :: [Item.box b4 [v2, (.int .i64 (w64 (a2.2 + 1)))], Item.own v2 (x1.1 : (List (Int × (List Int)))), Item.box b3 [(.slice none 0 0), (.int .i64 0)], Item.box b2 [(.bool a3.1), (.int .i64 a3.2.1), u3], Item.box b1 [u2, (.int .i64 a2.2)]]) := hC26.rowOwn (by simp [maxLen])
        refine WL_field Try.underlying73 rfl rfl (fun w => ⟨_, Try.sizeOf36 w⟩) rfl rfl ?_
        refine WL_store_box (cs' := [(.slice (some ⟨b5, 0, none⟩) 0 0), (.int .i64 (w64 (a2.2 + 1)))]) hC27 1 rfl rfl (ro_one (hC27.ro 0 rfl)) rfl Try.sizeOf36 rfl rfl (fun w20 hC28 => ?_)
        try dsimp only [List.set] at hC28
        refine WL_nil ?_
        refine W_seq ?_
        refine W_seq_reg ?_
        refine WL_assign rfl rfl ?_
        refine WL_nil ?_
        obtain ⟨r2, hr7, hF⟩ := bind_some hF
        refine W_norm (fun l w => ∃ v5 : Value, ∃ x10 : (List (Int × (List Int))), ∃ x11 : Int, (x10, x11) = r2 ∧ l = [(6, (ptr b3 0)), (8, (ptr b4 0))] ∧ Ctx [] w0 w [Item.own v5 (x10 : (List (Int × (List Int)))), Item.box b4 [v5, (.int .i64 x11)], Item.box b3 [(.slice none 0 0), (.int .i64 0)]]) ?_ ?_
        · refine W_block ?_
          have hC52 : Ctx [] w0 _ [Item.box b1 [u2, (.int .i64 a2.2)], Item.own (.slice (some ⟨b5, 0, none⟩) 0 0) (([] : List (Int × (List Int))) : (List (Int × (List Int)))), Item.box b4 [(.slice (some ⟨b5, 0, none⟩) 0 0), (.int .i64 (w64 (a2.2 + 1)))], Item.own v2 (x1.1 : (List (Int × (List Int)))), Item.box b3 [(.slice none 0 0), (.int .i64 0)], Item.box b2 [(.bool a3.1), (.int .i64 a3.2.1), u3]] := hC28.front 5 rfl
          have hC53 : Ctx [] w0 _ [Item.box b2 [(.bool a3.1), (.int .i64 a3.2.1), u3], Item.box b1 [u2, (.int .i64 a2.2)], Item.own (.slice (some ⟨b5, 0, none⟩) 0 0) (([] : List (Int × (List Int))) : (List (Int × (List Int)))), Item.box b4 [(.slice (some ⟨b5, 0, none⟩) 0 0), (.int .i64 (w64 (a2.2 + 1)))], Item.own v2 (x1.1 : (List (Int × (List Int)))), Item.box b3 [(.slice none 0 0), (.int .i64 0)]] := hC52.front 5 rfl
          have hC54 : Ctx [] w0 _ [Item.box b3 [(.slice none 0 0), (.int .i64 0)], Item.box b2 [(.bool a3.1), (.int .i64 a3.2.1), u3], Item.box b1 [u2, (.int .i64 a2.2)], Item.own (.slice (some ⟨b5, 0, none⟩) 0 0) (([] : List (Int × (List Int))) : (List (Int × (List Int)))), Item.box b4 [(.slice (some ⟨b5, 0, none⟩) 0 0), (.int .i64 (w64 (a2.2 + 1)))], Item.own v2 (x1.1 : (List (Int × (List Int))))] := hC53.front 5 rfl
          have hC55 : Ctx [] w0 _ [Item.box b4 [(.slice (some ⟨b5, 0, none⟩) 0 0), (.int .i64 (w64 (a2.2 + 1)))], Item.box b3 [(.slice none 0 0), (.int .i64 0)], Item.box b2 [(.bool a3.1), (.int .i64 a3.2.1), u3], Item.box b1 [u2, (.int .i64 a2.2)], Item.own (.slice (some ⟨b5, 0, none⟩) 0 0) (([] : List (Int × (List Int))) : (List (Int × (List Int)))), Item.own v2 (x1.1 : (List (Int × (List Int))))] := hC54.front 4 rfl
          have hC56 : Ctx [] w0 _ [Item.own (.slice (some ⟨b5, 0, none⟩) 0 0) (([] : List (Int × (List Int))) : (List (Int × (List Int)))), Item.box b4 [(.slice (some ⟨b5, 0, none⟩) 0 0), (.int .i64 (w64 (a2.2 + 1)))], Item.box b3 [(.slice none 0 0), (.int .i64 0)], Item.box b2 [(.bool a3.1), (.int .i64 a3.2.1), u3], Item.box b1 [u2, (.int .i64 a2.2)], Item.own v2 (x1.1 : (List (Int × (List Int))))] := hC55.front 4 rfl
          have hC57 : Ctx [] w0 _ [Item.own (.slice (some ⟨b5, 0, none⟩) 0 0) (([] : List (Int × (List Int))) : (List (Int × (List Int)))), Item.box b4 [(.slice (some ⟨b5, 0, none⟩) 0 0), (.int .i64 (w64 (a2.2 + 1)))], Item.box b3 [(.slice none 0 0), (.int .i64 0)], Item.box b2 [(.bool a3.1), (.int .i64 a3.2.1), u3], Item.box b1 [u2, (.int .i64 a2.2)]] := hC56.headN 5
          refine W.sub (l' := [(4, (ptr b1 0)), (5, (ptr b2 0)), (6, (ptr b3 0)), (8, (ptr b4 0)), (9, (.int .i64 0))]) ?_ ⟨rfl, rfl, rfl, rfl, rfl, trivial⟩
          refine W_loop (fun k l w => ∃ v4 : Value, ∃ x7 : (List (Int × (List Int))), ∃ x8 : Int, ∃ x9 : Int, l = [(4, (ptr b1 0)), (5, (ptr b2 0)), (6, (ptr b3 0)), (8, (ptr b4 0)), (9, (.int .i64 x9))] ∧ Ctx [] w0 w [Item.own v4 (x7 : (List (Int × (List Int)))), Item.box b4 [v4, (.int .i64 x8)], Item.box b3 [(.slice none 0 0), (.int .i64 0)], Item.box b2 [(.bool a3.1), (.int .i64 a3.2.1), u3], Item.box b1 [u2, (.int .i64 a2.2)]] ∧ S.ApplyChange_l1 a2 a3 k x7 x8 x9 = some r2) FUEL ⟨(.slice (some ⟨b5, 0, none⟩) 0 0), ([] : List (Int × (List Int))), w64 (a2.2 + 1), 0, rfl, hC57, hr7⟩ ?_
          clear hr7
          rintro k1 _ w21 ⟨v4, x7, x8, x9, rfl, hC29, hL1⟩
          cases k1 with
          | zero => rw [S.ApplyChange_l1] at hL1; cases hL1
          | succ k1 =>
            rw [S.ApplyChange_l1] at hL1
            refine W_seq ?_
            refine W_seq_reg ?_
            refine WL_move rfl rfl ?_
            refine WL_field Try.underlying73 rfl rfl (fun w => ⟨_, Try.sizeOf36 w⟩) rfl rfl ?_
            refine WL_load_box hC29 4 rfl rfl Try.isAgg36 rfl rfl ?_
            refine WL_len Try.underlying36 g2 rfl rfl ?_
            refine WL_lss rfl rfl rfl ?_
            refine WL_nil ?_
            refine W_cond rfl (fun hc8 => ?_) (fun hc8 => ?_)
            · replace hL1 := ite_t hL1 hc8
              refine W_skip ?_
              refine nrm_normal ?_
              refine W_seq ?_
              refine W_block ?_
              refine W_seq ?_
              refine W_drawn 9 rfl hmix (fun w22 hB16 => ?_)
              have hC30 := hC29.grow hB16
              refine WA_take 0 rfl (by kernel_rfl) (by kernel_rfl) (by kernel_rfl) rfl (fl_field Try.underlying73 rfl rfl (fun w => ⟨_, Try.sizeOf36 w⟩) rfl) ?_
              refine WL_field Try.underlying73 rfl rfl (fun w => ⟨_, Try.sizeOf36 w⟩) rfl rfl ?_
              refine WL_nil ?_
              refine WA_take 2 rfl (by kernel_rfl) (by kernel_rfl) (by kernel_rfl) rfl (fl_move rfl) ?_
              refine WL_move rfl rfl ?_
              refine WL_nil ?_
              refine WA_take 5 rfl (by kernel_rfl) (by kernel_rfl) (by kernel_rfl) rfl (fl_field Try.underlying79 rfl rfl (fun w => ⟨_, Try.sizeOf77 w⟩) rfl) ?_
              refine WL_field Try.underlying79 rfl rfl (fun w => ⟨_, Try.sizeOf77 w⟩) rfl rfl ?_
              refine WL_nil ?_
              obtain ⟨x12, hx1, hL1⟩ := bind_some hL1
              refine WA.sub (l' := [(4, (ptr b1 0)), (5, (ptr b2 0)), (6, (ptr b3 0)), (8, (ptr b4 0)), (9, (.int .i64 x9)), (64, (.int .i64 x9)), (65, (ptr b1 0)), (66, u2), (67, (.int .i64 (List.length a2.1 : Int))), (68, (.bool (decide (x9 < (List.length a2.1 : Int))))), (71, (ptr b1 0)), (73, (.int .i64 x9)), (76, (ptr b2 1))]) ?_ ⟨rfl, rfl, rfl, rfl, rfl, rfl, rfl, rfl, rfl, rfl, rfl, rfl, rfl, trivial⟩
              refine WA_postsE [⟨1, [], fun vs => PW.val u2, []⟩, ⟨3, [], fun vs => PW.at [] w0 x12, []⟩, ⟨4, [], fun vs => PW.ro [] w0 x12, []⟩, ⟨6, [], fun vs => PW.val (.agg #[(.int .i64 a3.2.1), u3]), []⟩] [[], [1], [3], []] 2 rfl (by kernel_rfl) (by kernel_rfl) rfl ?_ ?_
              · refine StepsE_cons rfl ?_ ?_
                · intro w23 hB17
                  refine DepsE_nil ?_
                  refine ⟨_, rfl, ?_⟩
                  refine WL_load_box (hC30.grow hB17) 4 rfl rfl Try.isAgg36 rfl rfl ?_
                  refine WL_nil ?_
                  exact FinE_val (Below.refl _ _) rfl rfl ⟨rfl, rfl⟩
                refine StepsE_cons rfl ?_ ?_
                · intro w23 hB17
                  refine DepsE_cons rfl rfl rfl ?_
                  rintro _ _ ⟨rfl, rfl⟩ _
                  refine DepsE_nil ?_
                  refine ⟨_, rfl, ?_⟩
                  refine WL_index Try.underlying36 ty77 g2 hx1 rfl rfl rfl (fun b6 o1 h1 => ?_)
                  refine WL_nil ?_
                  exact FinE_val (Below.refl _ _) rfl rfl ⟨rfl, _, _, rfl, h1⟩
                refine StepsE_cons rfl ?_ ?_
                · intro w23 hB17
                  refine DepsE_cons rfl rfl rfl ?_
                  rintro _ _ ⟨rfl, b6, o1, rfl, h1⟩ _
                  refine DepsE_nil ?_
                  refine ⟨_, rfl, ?_⟩
                  refine WL_load ty77 h1 (hC30.keep.then hB17) rfl rfl (fun v8 h4 => ?_)
                  refine WL_nil ?_
                  exact FinE_val (Below.refl _ _) rfl rfl ⟨rfl, h4⟩
                refine StepsE_cons rfl ?_ ?_
                · intro w23 hB17
                  refine DepsE_nil ?_
                  refine ⟨_, rfl, ?_⟩
                  refine WL_load_box_agg [(.int .i64 a3.2.1), u3] (hC30.grow hB17) 3 rfl rfl rfl Try.isAgg77 Try.sizeOf77 rfl rfl ?_
                  refine WL_nil ?_
                  exact FinE_val (Below.refl _ _) rfl rfl ⟨rfl, rfl⟩
                exact StepsE_nil
              · intro w24 hB18
                refine AllE_cons rfl rfl rfl ?_
                rintro _ _ ⟨rfl, rfl⟩
                refine AllE_cons rfl rfl rfl ?_
                rintro _ _ ⟨rfl, b6, o1, rfl, h1⟩
                refine AllE_cons rfl rfl rfl ?_
                rintro v8 _ ⟨rfl, h4⟩
                obtain ⟨v7, rfl, h3⟩ := ro_st77 h4
                refine AllE_cons rfl rfl rfl ?_
                rintro _ _ ⟨rfl, rfl⟩
                refine AllE_nil ?_
                intro hn4 hb4
                have hC31 := hC30.grow hB18
                obtain ⟨x13, hr8, hL1⟩ := bind_some hL1
                refine WA_one 7 (by kernel_rfl) rfl ?_
                refine WL_call Try.call101 rfl rfl (c_S_CompareFacts x12 v7 (h3.now hC31.keep) (a3.2.1, a3.2.2) u3 (g3.now hC31.keep) x13 hr8) ?_
                intro _ w25 hv6
                obtain ⟨rfl, hB19⟩ := res_int hv6
                have hC32 := hC31.grow hB19
                refine WL_nil ?_
                refine WA_take 8 rfl (by kernel_rfl) (by kernel_rfl) (by kernel_rfl) rfl (fl_neq rfl rfl) ?_
                refine WL_neq rfl rfl rfl ?_
                refine WL_nil ?_
                refine WA_done (by kernel_rfl) ?_
                refine nrm_normal ?_
                obtain ⟨r3, hr9, hL1⟩ := bind_some hL1
                refine W_norm (fun l w => ∃ v9 : Value, ∃ x14 : (List (Int × (List Int))), ∃ x15 : Int, (x14, x15) = r3 ∧ l = [(4, (ptr b1 0)), (5, (ptr b2 0)), (6, (ptr b3 0)), (8, (ptr b4 0)), (9, (.int .i64 x9))] ∧ Ctx [] w0 w [Item.own v9 (x14 : (List (Int × (List Int)))), Item.box b4 [v9, (.int .i64 x15)], Item.box b3 [(.slice none 0 0), (.int .i64 0)], Item.box b2 [(.bool a3.1), (.int .i64 a3.2.1), u3], Item.box b1 [u2, (.int .i64 a2.2)]]) ?_ ?_
                · refine W_cond rfl (fun hc9 => ?_) (fun hc9 => ?_)
                  · replace hr9 := ite_t hr9 hc9
                    refine W_drawn 19 rfl hmix (fun w27 hB21 => ?_)
                    have hC34 := hC32.grow hB21
                    refine WA_take 0 rfl (by kernel_rfl) (by kernel_rfl) (by kernel_rfl) rfl (fl_field Try.underlying73 rfl rfl (fun w => ⟨_, Try.sizeOf36 w⟩) rfl) ?_
                    refine WL_field Try.underlying73 rfl rfl (fun w => ⟨_, Try.sizeOf36 w⟩) rfl rfl ?_
                    refine WL_nil ?_
                    refine WA_take 2 rfl (by kernel_rfl) (by kernel_rfl) (by kernel_rfl) rfl (fl_field Try.underlying73 rfl rfl (fun w => ⟨_, Try.sizeOf36 w⟩) rfl) ?_
                    refine WL_field Try.underlying73 rfl rfl (fun w => ⟨_, Try.sizeOf36 w⟩) rfl rfl ?_
                    refine WL_nil ?_
                    refine WA_take 4 rfl (by kernel_rfl) (by kernel_rfl) (by kernel_rfl) rfl (fl_move rfl) ?_
                    refine WL_move rfl rfl ?_
                    refine WL_nil ?_
                    refine WA_take 8 rfl (by kernel_rfl) (by kernel_rfl) (by kernel_rfl) rfl (fl_field Try.underlying73 rfl rfl (fun w => ⟨_, Try.sizeOf36 w⟩) rfl) ?_
                    refine WL_field Try.underlying73 rfl rfl (fun w => ⟨_, Try.sizeOf36 w⟩) rfl rfl ?_
                    refine WL_nil ?_
                    refine WA_take 10 rfl (by kernel_rfl) (by kernel_rfl) (by kernel_rfl) rfl (fl_move rfl) ?_
                    refine WL_move rfl rfl ?_
                    refine WL_nil ?_
                    obtain ⟨x16, hx2, hr9⟩ := bind_some hr9
                    obtain ⟨x17, hx3, hr9⟩ := bind_some hr9
                    obtain ⟨x18, hr10, hr9⟩ := bind_some hr9
                    refine WA.sub (l' := [(4, (ptr b1 0)), (5, (ptr b2 0)), (6, (ptr b3 0)), (8, (ptr b4 0)), (9, (.int .i64 x9)), (64, (.int .i64 x9)), (65, (ptr b1 0)), (66, u2), (67, (.int .i64 (List.length a2.1 : Int))), (68, (.bool (decide (x9 < (List.length a2.1 : Int))))), (71, (ptr b1 0)), (72, u2), (73, (.int .i64 x9)), (74, (ptr b6 o1)), (75, (.agg #[(.int .i64 x12.1), v7])), (76, (ptr b2 1)), (77, (.agg #[(.int .i64 a3.2.1), u3])), (78, (.int .i64 x13)), (79, (.bool (!decide (x13 = 0)))), (80, (ptr b4 0)), (82, (ptr b1 0)), (84, (.int .i64 x9)), (88, (ptr b1 0)), (90, (.int .i64 x9))]) ?_ ⟨rfl, rfl, rfl, rfl, rfl, rfl, rfl, rfl, rfl, rfl, rfl, rfl, rfl, rfl, rfl, rfl, rfl, rfl, rfl, rfl, rfl, rfl, rfl, rfl, trivial⟩
                    refine WA_postsE [⟨1, [], fun vs => PW.val v4, []⟩, ⟨3, [], fun vs => PW.val u2, []⟩, ⟨5, [], fun vs => PW.at [] w0 x16, []⟩, ⟨6, [], fun vs => PW.at [] w0 x16.1, []⟩, ⟨7, [], fun vs => PW.val (.int .i64 x16.1), []⟩, ⟨9, [], fun vs => PW.val u2, []⟩, ⟨11, [], fun vs => PW.at [] w0 x17, []⟩, ⟨12, [], fun vs => PW.at [] w0 x17.2, []⟩, ⟨13, [], fun vs => PW.ro [] w0 x17.2, []⟩, ⟨14, [], fun vs => PW.own x18, []⟩, ⟨15, [], fun vs => PW.own ([(x18.1, x18.2)] : (List (Int × (List Int)))), [14]⟩] [[], [], [3], [5], [6], [], [9], [11], [12], [7, 13], []] 3 rfl (by kernel_rfl) (by kernel_rfl) rfl ?_ ?_
                    · refine StepsE_cons rfl ?_ ?_
                      · intro w30 hB24
                        refine DepsE_nil ?_
                        refine ⟨_, rfl, ?_⟩
                        refine WL_load_box (hC34.grow hB24) 1 rfl rfl Try.isAgg36 rfl rfl ?_
                        refine WL_nil ?_
                        exact FinE_val (Below.refl _ _) rfl rfl ⟨rfl, rfl⟩
                      refine StepsE_cons rfl ?_ ?_
                      · intro w30 hB24
                        refine DepsE_nil ?_
                        refine ⟨_, rfl, ?_⟩
                        refine WL_load_box (hC34.grow hB24) 4 rfl rfl Try.isAgg36 rfl rfl ?_
                        refine WL_nil ?_
                        exact FinE_val (Below.refl _ _) rfl rfl ⟨rfl, rfl⟩
                      refine StepsE_cons rfl ?_ ?_
                      · intro w30 hB24
                        refine DepsE_cons rfl rfl rfl ?_
                        rintro _ _ ⟨rfl, rfl⟩ _
                        refine DepsE_nil ?_
                        refine ⟨_, rfl, ?_⟩
                        refine WL_index Try.underlying36 ty77 g2 hx2 rfl rfl rfl (fun b7 o2 h5 => ?_)
                        refine WL_nil ?_
                        exact FinE_val (Below.refl _ _) rfl rfl ⟨rfl, _, _, rfl, h5⟩
                      refine StepsE_cons rfl ?_ ?_
                      · intro w30 hB24
                        refine DepsE_cons rfl rfl rfl ?_
                        rintro _ _ ⟨rfl, b7, o2, rfl, h5⟩ _
                        refine DepsE_nil ?_
                        refine ⟨_, rfl, ?_⟩
                        refine WL_field Try.underlying77 rfl rfl (fun w => ⟨_, Try.sizeOf3 w⟩) rfl rfl ?_
                        refine WL_nil ?_
                        exact FinE_val (Below.refl _ _) rfl rfl ⟨rfl, _, _, rfl, h5.fst⟩
                      refine StepsE_cons rfl ?_ ?_
                      · intro w30 hB24
                        refine DepsE_cons rfl rfl rfl ?_
                        rintro _ _ ⟨rfl, b8, o3, rfl, h6⟩ _
                        refine DepsE_nil ?_
                        refine ⟨_, rfl, ?_⟩
                        refine WL_load ty3 h6 (hC34.keep.then hB24) rfl rfl (fun v10 h7 => ?_)
                        obtain rfl := ro_int h7
                        refine WL_nil ?_
                        exact FinE_val (Below.refl _ _) rfl rfl ⟨rfl, rfl⟩
                      refine StepsE_cons rfl ?_ ?_
                      · intro w30 hB24
                        refine DepsE_nil ?_
                        refine ⟨_, rfl, ?_⟩
                        refine WL_load_box (hC34.grow hB24) 4 rfl rfl Try.isAgg36 rfl rfl ?_
                        refine WL_nil ?_
                        exact FinE_val (Below.refl _ _) rfl rfl ⟨rfl, rfl⟩
                      refine StepsE_cons rfl ?_ ?_
                      · intro w30 hB24
                        refine DepsE_cons rfl rfl rfl ?_
                        rintro _ _ ⟨rfl, rfl⟩ _
                        refine DepsE_nil ?_
                        refine ⟨_, rfl, ?_⟩
                        refine WL_index Try.underlying36 ty77 g2 hx3 rfl rfl rfl (fun b9 o4 h8 => ?_)
                        refine WL_nil ?_
                        exact FinE_val (Below.refl _ _) rfl rfl ⟨rfl, _, _, rfl, h8⟩
                      refine StepsE_cons rfl ?_ ?_
                      · intro w30 hB24
                        refine DepsE_cons rfl rfl rfl ?_
                        rintro _ _ ⟨rfl, b9, o4, rfl, h8⟩ _
                        refine DepsE_nil ?_
                        refine ⟨_, rfl, ?_⟩
                        refine WL_field Try.underlying77 rfl rfl (fun w => ⟨_, Try.sizeOf22 w⟩) rfl rfl ?_
                        refine WL_nil ?_
                        exact FinE_val (Below.refl _ _) rfl rfl ⟨rfl, _, _, rfl, h8.snd⟩
                      refine StepsE_cons rfl ?_ ?_
                      · intro w30 hB24
                        refine DepsE_cons rfl rfl rfl ?_
                        rintro _ _ ⟨rfl, b10, o5, rfl, h9⟩ _
                        refine DepsE_nil ?_
                        refine ⟨_, rfl, ?_⟩
                        refine WL_load ty22 h9 (hC34.keep.then hB24) rfl rfl (fun v11 h10 => ?_)
                        refine WL_nil ?_
                        exact FinE_val (Below.refl _ _) rfl rfl ⟨rfl, h10⟩
                      refine StepsE_cons rfl ?_ ?_
                      · intro w30 hB24
                        refine DepsE_cons rfl rfl rfl ?_
                        rintro _ _ ⟨rfl, rfl⟩ _
                        refine DepsE_cons rfl rfl rfl ?_
                        rintro v11 _ ⟨rfl, h10⟩ _
                        refine DepsE_nil ?_
                        refine ⟨_, rfl, ?_⟩
                        refine WL_call Try.call102 rfl rfl (c_S_l2One x16.1 x17.2 v11 (h10.now (hC34.keep.then hB24)) x18 hr10) ?_
                        rintro v12 w28 ⟨hB22, F3, hv7, hn5, hb5⟩
                        refine WL_nil ?_
                        exact FinE_own hB22 rfl rfl hv7 hn5 hb5 (Val.inh hv7)
                      refine StepsE_use rfl rfl rfl ?_ ?_
                      · intro w30 hB24
                        refine DepsE_nil ?_
                        refine ⟨_, _, rfl, rfl, ?_⟩
                        intro v12 F3 hv7 ho1
                        have hC35 := Ctx.local hv7 ho1
                        obtain ⟨v14, rfl, hC36⟩ := st77_own hC35
                        refine WL_buildSlice (vs := [(.agg #[(.int .i64 x18.1), v14])]) hC36 Try.underlying36 ty77 rfl rfl rfl rfl (by intro v hv; simp only [List.mem_cons, List.not_mem_nil, or_false] at hv; rcases hv with rfl <;> rfl) rfl rfl (fun b11 w29 hC37 hB23 => ?_)
                        have hC38 := hC37.row0 (α := (Int × (List Int)))
                        have hC40 := hC38.front 2 rfl
                        dsimp only [List.eraseIdx, List.cons_append, List.nil_append, List.append_nil] at hC40
                        have hC39 := own_st77 x18.1 v14 x18.2 hC40
                        have hC41 := hC39.row1
                        have hC42 := hC41.front 1 rfl
                        dsimp only [List.eraseIdx, List.cons_append, List.nil_append, List.append_nil] at hC42
                        have hC43 : Ctx F3 w30 w29 (Item.own (.slice (some ⟨b11, 0, none⟩) 1 1) ([(x18.1, x18.2)] : List (Int × (List Int))) :: []) := hC42.rowOwn (by simp [maxLen])
                        refine WL_nil ?_
                        exact FinE_ctx hC43 rfl rfl (fun F h => h)
                      exact StepsE_nil
                    · intro w31 hB25
                      refine AllE_cons rfl rfl rfl ?_
                      rintro _ _ ⟨rfl, rfl⟩
                      refine AllE_cons rfl rfl rfl ?_
                      rintro _ _ ⟨rfl, rfl⟩
                      refine AllE_cons rfl rfl rfl ?_
                      rintro _ _ ⟨rfl, b7, o2, rfl, h5⟩
                      refine AllE_cons rfl rfl rfl ?_
                      rintro _ _ ⟨rfl, b8, o3, rfl, h6⟩
                      refine AllE_cons rfl rfl rfl ?_
                      rintro _ _ ⟨rfl, rfl⟩
                      refine AllE_cons rfl rfl rfl ?_
                      rintro _ _ ⟨rfl, rfl⟩
                      refine AllE_cons rfl rfl rfl ?_
                      rintro _ _ ⟨rfl, b9, o4, rfl, h8⟩
                      refine AllE_cons rfl rfl rfl ?_
                      rintro _ _ ⟨rfl, b10, o5, rfl, h9⟩
                      refine AllE_cons rfl rfl rfl ?_
                      rintro v11 _ ⟨rfl, h10⟩
                      refine AllE_skip rfl ?_
                      refine AllE_cons rfl rfl rfl ?_
                      intro v15 F4 hv8
                      refine AllE_nil ?_
                      intro hn6 hb6
                      have hC44 := hC34.pushL hB25 (Bs := [Item.own v15 ([(x18.1, x18.2)] : (List (Int × (List Int))))]) (Fs := [F4]) ⟨F4, _, rfl, hv8, rfl⟩ (by simpa using hn6) (fun b h => (hb6 b (by simpa using h)).1)
                      obtain ⟨x19, hx4, hr9⟩ := bind_some hr9
                      refine WA_one 16 (by kernel_rfl) rfl ?_
                      refine WL_append_head hC44 0 rfl Try.underlying36 ty77 rfl hx4 rfl rfl rfl (fun v16 w32 hC45 => ?_)
                      try dsimp only [List.set] at hC45
                      refine WL_nil ?_
                      refine WA_take 17 rfl (by kernel_rfl) (by kernel_rfl) (by kernel_rfl) rfl (fl_field Try.underlying73 rfl rfl (fun w => ⟨_, Try.sizeOf36 w⟩) rfl) ?_
                      refine WL_field Try.underlying73 rfl rfl (fun w => ⟨_, Try.sizeOf36 w⟩) rfl rfl ?_
                      refine WL_nil ?_
                      refine WA_one 18 (by kernel_rfl) rfl ?_
                      refine WL_store_box (cs' := [v16, (.int .i64 x8)]) hC45 1 rfl rfl (ro_one (hC45.ro 0 rfl)) rfl Try.sizeOf36 rfl rfl (fun w33 hC47 => ?_)
                      try dsimp only [List.set] at hC47
                      refine WL_nil ?_
                      refine WA_done (by kernel_rfl) ?_
                      have hq9 := Option.some.inj hr9
                      subst hq9
                      refine nrm_sub (l' := [(4, (ptr b1 0)), (5, (ptr b2 0)), (6, (ptr b3 0)), (8, (ptr b4 0)), (9, (.int .i64 x9))]) ⟨rfl, rfl, rfl, rfl, rfl, trivial⟩ ?_
                      exact ⟨v16, x19, x8, rfl, rfl, hC47⟩
                  · replace hr9 := ite_f hr9 hc9
                    refine W_skip ?_
                    have hq10 := Option.some.inj hr9
                    subst hq10
                    refine nrm_sub (l' := [(4, (ptr b1 0)), (5, (ptr b2 0)), (6, (ptr b3 0)), (8, (ptr b4 0)), (9, (.int .i64 x9))]) ⟨rfl, rfl, rfl, rfl, rfl, trivial⟩ ?_
                    exact ⟨v4, x7, x8, rfl, rfl, hC32⟩
                · rintro l3 _ w26 hs3 ⟨v9, x14, x15, rfl, rfl, hC33⟩
                  try dsimp only at hL1
                  refine blk_normal ?_
                  refine nrm_sub' hs3 ?_
                  clear hs3
                  refine W_reg ?_
                  refine WL_move rfl rfl ?_
                  refine WL_add rfl rfl rfl ?_
                  refine WL_assign rfl rfl ?_
                  refine WL_nil ?_
                  refine nrm_sub (l' := [(4, (ptr b1 0)), (5, (ptr b2 0)), (6, (ptr b3 0)), (8, (ptr b4 0)), (9, (.int .i64 (w64 (x9 + 1))))]) ⟨rfl, rfl, rfl, rfl, rfl, trivial⟩ ?_
                  exact ⟨k1, Nat.lt_succ_self _, v9, x14, x15, w64 (x9 + 1), rfl, hC33, hL1⟩
            · replace hL1 := ite_f hL1 hc8
              refine W_exit ?_
              refine nrm_exit ?_
              refine nrm_exit ?_
              refine blk_exit ?_
              have hq11 := Option.some.inj hL1
              subst hq11
              have hC48 : Ctx [] w0 _ [Item.box b3 [(.slice none 0 0), (.int .i64 0)], Item.own v4 (x7 : (List (Int × (List Int)))), Item.box b4 [v4, (.int .i64 x8)], Item.box b2 [(.bool a3.1), (.int .i64 a3.2.1), u3], Item.box b1 [u2, (.int .i64 a2.2)]] := hC29.front 2 rfl
              have hC49 : Ctx [] w0 _ [Item.box b4 [v4, (.int .i64 x8)], Item.box b3 [(.slice none 0 0), (.int .i64 0)], Item.own v4 (x7 : (List (Int × (List Int)))), Item.box b2 [(.bool a3.1), (.int .i64 a3.2.1), u3], Item.box b1 [u2, (.int .i64 a2.2)]] := hC48.front 2 rfl
              have hC50 : Ctx [] w0 _ [Item.own v4 (x7 : (List (Int × (List Int)))), Item.box b4 [v4, (.int .i64 x8)], Item.box b3 [(.slice none 0 0), (.int .i64 0)], Item.box b2 [(.bool a3.1), (.int .i64 a3.2.1), u3], Item.box b1 [u2, (.int .i64 a2.2)]] := hC49.front 2 rfl
              have hC51 : Ctx [] w0 _ [Item.own v4 (x7 : (List (Int × (List Int)))), Item.box b4 [v4, (.int .i64 x8)], Item.box b3 [(.slice none 0 0), (.int .i64 0)]] := hC50.headN 3
              refine nrm_sub (l' := [(6, (ptr b3 0)), (8, (ptr b4 0))]) ⟨rfl, rfl, trivial⟩ ?_
              exact ⟨v4, x7, x8, rfl, rfl, hC51⟩
        · rintro l4 _ w34 hs4 ⟨v5, x10, x11, rfl, rfl, hC58⟩
          try dsimp only at hF
          refine nrm_sub' hs4 ?_
          clear hs4
          refine W_seq_reg ?_
          refine WL_load_box_agg [v5, (.int .i64 x11)] hC58 1 rfl rfl rfl Try.isAgg73 Try.sizeOf73 rfl rfl ?_
          refine WL_store_box_agg (cs' := [v5, (.int .i64 x11)]) (new := [v5, (.int .i64 x11)]) hC58 2 rfl rfl (by intro v hv; simp only [List.mem_cons, List.not_mem_nil, or_false] at hv; rcases hv with rfl | rfl; exact (ro_one (hC58.ro 0 rfl)); exact rfl) rfl Try.sizeOf73 rfl rfl (fun w35 hC59 => ?_)
          try dsimp only [List.set] at hC59
          refine WL_assign rfl rfl ?_
          refine WL_nil ?_
          refine W_ret ?_
          have hq12 := Option.some.inj hF
          subst hq12
          refine fn_retG2 rfl (rv_cell_agg (cs' := [v5, (.int .i64 x11)]) hC59 (i := 2) rfl rfl rfl Try.isAgg73 Try.sizeOf73 rfl) (rv_tmp rfl) ?_
          have hC60 := hC59.triv (bool_val (true))
          have hC62 : Ctx [] w0 _ [Item.own v5 (x10 : (List (Int × (List Int)))), Item.own (.bool true) (true : Bool), Item.box b4 [v5, (.int .i64 x11)], Item.box b3 [v5, (.int .i64 x11)]] := hC60.front 1 rfl
          have hC61 := own_st73 v5 x10 x11 hC62
          exact ⟨_, rfl, res2_of hC61⟩

theorem c_Q_toFact {w0 : World} (a1 : (Int × (List Int))) (u1 : Value) (g1 : RO [] w0 u1 a1.2) (rr : (Int × (List Int))) (hF : Q.toFact a1 = some rr) :
    Calls Try.prog 93 [(.agg #[(.int .i64 a1.1), u1])].toArray w0 fun e w' => ∃ v, e = .returned v ∧ Res w0 rr v w' := by
  refine calls_of_W Try.func93 rfl rfl ?_
  have hC0 := Ctx.start w0
  unfold Q.toFact at hF
  refine W_seq_reg ?_
  refine WL_box (cs := [(.int .i64 a1.1), u1]) hC0 rfl rfl rfl (fun b1 w1 hC1 hB1 => ?_)
  refine WL_alloc hC1 zero77 rfl rfl (fun b2 w2 hC2 hB2 => ?_)
  refine WL_nil ?_
  refine W_seq_reg ?_
  refine WL_alloc hC2 zero77 rfl rfl (fun b3 w3 hC3 hB3 => ?_)
  refine WL_nil ?_
  refine W_seq_reg ?_
  refine WL_field Try.underlying67 rfl rfl (fun w => ⟨_, Try.sizeOf3 w⟩) rfl rfl ?_
  refine WL_load_box hC3 2 rfl rfl Try.isAgg3 rfl rfl ?_
  refine WL_field Try.underlying77 rfl rfl (fun w => ⟨_, Try.sizeOf3 w⟩) rfl rfl ?_
  refine WL_store_box (cs' := [(.int .i64 a1.1), (.slice none 0 0)]) hC3 0 rfl rfl rfl rfl Try.sizeOf3 rfl rfl (fun w4 hC4 => ?_)
  try dsimp only [List.set] at hC4
  refine WL_nil ?_
  refine W_seq_reg ?_
  refine WL_field Try.underlying67 rfl rfl (fun w => ⟨_, Try.sizeOf22 w⟩) rfl rfl ?_
  refine WL_load_box hC4 2 rfl rfl Try.isAgg22 rfl rfl ?_
  obtain ⟨x1, hr1, hF⟩ := bind_some hF
  refine WL_call Try.call15 rfl rfl (c_Q_toIntS a1.2 u1 (g1.now hC4.keep) x1 hr1) ?_
  rintro v1 w5 ⟨hB4, F1, hv1, hn1, hb1⟩
  have hC5 := hC4.push hB4 (A := Item.own v1 x1) hv1 hn1 hb1
  refine WL_field Try.underlying77 rfl rfl (fun w => ⟨_, Try.sizeOf22 w⟩) rfl rfl ?_
  refine WL_store_box (cs' := [(.int .i64 a1.1), v1]) hC5 1 rfl rfl (ro_one (hC5.ro 0 rfl)) rfl Try.sizeOf22 rfl rfl (fun w6 hC6 => ?_)
  try dsimp only [List.set] at hC6
  refine WL_nil ?_
  refine W_seq_reg ?_
  refine WL_load_box_agg [(.int .i64 a1.1), v1] hC6 1 rfl rfl rfl Try.isAgg77 Try.sizeOf77 rfl rfl ?_
  refine WL_store_box_agg (cs' := [(.int .i64 a1.1), v1]) (new := [(.int .i64 a1.1), v1]) hC6 2 rfl rfl (by intro v hv; simp only [List.mem_cons, List.not_mem_nil, or_false] at hv; rcases hv with rfl | rfl; exact rfl; exact (ro_one (hC6.ro 0 rfl))) rfl Try.sizeOf77 rfl rfl (fun w7 hC7 => ?_)
  try dsimp only [List.set] at hC7
  refine WL_nil ?_
  refine W_ret ?_
  have hq1 := Option.some.inj hF
  subst hq1
  refine fn_retG1 rfl (rv_cell_agg (cs' := [(.int .i64 a1.1), v1]) hC7 (i := 2) rfl rfl rfl Try.isAgg77 Try.sizeOf77 rfl) ?_
  have hC8 := own_st77 a1.1 v1 x1 hC7
  exact ⟨_, rfl, own_res hC8 0 rfl⟩

theorem c_Q_toFactS {w0 : World} (a1 : (List (Int × (List Int)))) (u1 : Value) (g1 : RO [] w0 u1 a1) (rr : (List (Int × (List Int)))) (hF : Q.toFactS a1 = some rr) :
    Calls Try.prog 39 [u1].toArray w0 fun e w' => ∃ v, e = .returned v ∧ Res w0 rr v w' := by
  refine calls_of_W Try.func39 rfl rfl ?_
  have hC0 := Ctx.start w0
  unfold Q.toFactS at hF
  refine W_seq_reg ?_
  refine WL_assign rfl rfl ?_
  refine WL_nil ?_
  refine W_seq_reg ?_
  refine WL_move rfl rfl ?_
  refine WL_len Try.underlying26 g1 rfl rfl ?_
  obtain ⟨x1, hx1, hF⟩ := bind_some hF
  refine WL_makeSlice hC0 Try.underlying36 ty77 rfl zc77 zr77 hx1 rfl rfl rfl (fun b1 w1 hC1 hB1 => ?_)
  refine WL_assign rfl rfl ?_
  refine WL_nil ?_
  refine W_seq ?_
  refine W_seq_reg ?_
  refine WL_assign rfl rfl ?_
  refine WL_nil ?_
  obtain ⟨r1, hr1, hF⟩ := bind_some hF
  refine W_norm (fun l w => ∃ x4 : (List (Int × (List Int))), x4 = r1 ∧ l = [(3, (.slice (some ⟨b1, 0, none⟩) (Int.toNat (List.length a1 : Int)) (Int.toNat (List.length a1 : Int))))] ∧ Ctx [] w0 w [Item.own (.slice (some ⟨b1, 0, none⟩) (Int.toNat (List.length a1 : Int)) (Int.toNat (List.length a1 : Int))) (x4 : (List (Int × (List Int))))]) ?_ ?_
  · refine W_block ?_
    refine W.sub (l' := [(0, u1), (3, (.slice (some ⟨b1, 0, none⟩) (Int.toNat (List.length a1 : Int)) (Int.toNat (List.length a1 : Int)))), (4, (.int .i64 0))]) ?_ ⟨rfl, rfl, rfl, trivial⟩
    refine W_loop (fun k l w => ∃ x2 : (List (Int × (List Int))), ∃ x3 : Int, l = [(0, u1), (3, (.slice (some ⟨b1, 0, none⟩) (Int.toNat (List.length a1 : Int)) (Int.toNat (List.length a1 : Int)))), (4, (.int .i64 x3))] ∧ Ctx [] w0 w [Item.own (.slice (some ⟨b1, 0, none⟩) (Int.toNat (List.length a1 : Int)) (Int.toNat (List.length a1 : Int))) (x2 : (List (Int × (List Int))))] ∧ Q.toFactS_l1 a1 k x2 x3 = some r1) FUEL ⟨x1, 0, rfl, hC1, hr1⟩ ?_
    clear hr1
    rintro k1 _ w2 ⟨x2, x3, rfl, hC2, hL1⟩
    cases k1 with
    | zero => rw [Q.toFactS_l1] at hL1; cases hL1
    | succ k1 =>
      rw [Q.toFactS_l1] at hL1
      refine W_seq ?_
      refine W_seq_reg ?_
      refine WL_move rfl rfl ?_
      refine WL_move rfl rfl ?_
      refine WL_len Try.underlying26 g1 rfl rfl ?_
      refine WL_lss rfl rfl rfl ?_
      refine WL_nil ?_
      refine W_cond rfl (fun hc1 => ?_) (fun hc1 => ?_)
      · replace hL1 := ite_t hL1 hc1
        refine W_skip ?_
        refine nrm_normal ?_
        refine W_seq ?_
        refine W_block ?_
        refine W_reg ?_
        refine WL_move rfl rfl ?_
        refine WL_move rfl rfl ?_
        refine WL_move rfl rfl ?_
        refine WL_move rfl rfl ?_
        obtain ⟨x5, hx2, hL1⟩ := bind_some hL1
        refine WL_index Try.underlying26 ty67 g1 hx2 rfl rfl rfl (fun b2 o1 h1 => ?_)
        refine WL_load ty67 h1 hC2.keep rfl rfl (fun v1 h2 => ?_)
        obtain ⟨v2, rfl, h3⟩ := ro_st67 h2
        obtain ⟨x6, hr2, hL1⟩ := bind_some hL1
        refine WL_call Try.call93 rfl rfl (c_Q_toFact x5 v2 (h3.now hC2.keep) x6 hr2) ?_
        rintro v3 w3 ⟨hB3, F1, hv1, hn1, hb1⟩
        have hC3 := hC2.push hB3 (A := Item.own v3 x6) hv1 hn1 hb1
        obtain ⟨v4, rfl, hC4⟩ := st77_own hC3
        obtain ⟨x7, hx3, hL1⟩ := bind_some hL1
        refine WL_index_own hC4 1 rfl Try.underlying36 ty77 hx3 rfl rfl rfl (fun b3 hE1 => ?_)
        have hC6 := own_st77 x6.1 v4 x6.2 hC4
        refine WL_store_elem hC6 0 rfl ty77 hE1 hx3 rfl rfl rfl (fun w4 hC5 => ?_)
        try dsimp only [List.set] at hC5
        refine WL_nil ?_
        refine blk_normal ?_
        refine nrm_normal ?_
        refine W_reg ?_
        refine WL_move rfl rfl ?_
        refine WL_add rfl rfl rfl ?_
        refine WL_assign rfl rfl ?_
        refine WL_nil ?_
        refine nrm_sub (l' := [(0, u1), (3, (.slice (some ⟨b1, 0, none⟩) (Int.toNat (List.length a1 : Int)) (Int.toNat (List.length a1 : Int)))), (4, (.int .i64 (w64 (x3 + 1))))]) ⟨rfl, rfl, rfl, trivial⟩ ?_
        exact ⟨k1, Nat.lt_succ_self _, (List.set x2 (Int.toNat x3) (x6.1, x6.2)), w64 (x3 + 1), rfl, hC5, hL1⟩
      · replace hL1 := ite_f hL1 hc1
        refine W_exit ?_
        refine nrm_exit ?_
        refine nrm_exit ?_
        refine blk_exit ?_
        have hq1 := Option.some.inj hL1
        subst hq1
        refine nrm_sub (l' := [(3, (.slice (some ⟨b1, 0, none⟩) (Int.toNat (List.length a1 : Int)) (Int.toNat (List.length a1 : Int))))]) ⟨rfl, trivial⟩ ?_
        exact ⟨x2, rfl, rfl, hC2⟩
  · rintro l2 _ w5 hs2 ⟨x4, rfl, rfl, hC8⟩
    try dsimp only at hF
    refine nrm_sub' hs2 ?_
    clear hs2
    refine W_seq_reg ?_
    refine WL_move rfl rfl ?_
    refine WL_assign rfl rfl ?_
    refine WL_nil ?_
    refine W_ret ?_
    have hq2 := Option.some.inj hF
    subst hq2
    refine fn_ret1 rfl rfl ?_
    exact ⟨_, rfl, own_res hC8 0 rfl⟩

theorem c_Q_toSource {w0 : World} (a1 : ((List (Int × (List Int))) × Int)) (u1 : Value) (g1 : RO [] w0 u1 a1.1) (rr : ((List (Int × (List Int))) × Int)) (hF : Q.toSource a1 = some rr) :
    Calls Try.prog 44 [(.agg #[u1, (.int .i64 a1.2)])].toArray w0 fun e w' => ∃ v, e = .returned v ∧ Res w0 rr v w' := by
  refine calls_of_W Try.func44 rfl rfl ?_
  have hC0 := Ctx.start w0
  unfold Q.toSource at hF
  refine W_seq_reg ?_
  refine WL_box (cs := [u1, (.int .i64 a1.2)]) hC0 rfl rfl rfl (fun b1 w1 hC1 hB1 => ?_)
  refine WL_alloc hC1 zero73 rfl rfl (fun b2 w2 hC2 hB2 => ?_)
  refine WL_nil ?_
  refine W_seq_reg ?_
  refine WL_alloc hC2 zero73 rfl rfl (fun b3 w3 hC3 hB3 => ?_)
  refine WL_nil ?_
  refine W_seq_reg ?_
  refine WL_field Try.underlying65 rfl rfl (fun w => ⟨_, Try.sizeOf26 w⟩) rfl rfl ?_
  refine WL_load_box hC3 2 rfl rfl Try.isAgg26 rfl rfl ?_
  obtain ⟨x1, hr1, hF⟩ := bind_some hF
  refine WL_call Try.call39 rfl rfl (c_Q_toFactS a1.1 u1 (g1.now hC3.keep) x1 hr1) ?_
  rintro v1 w4 ⟨hB4, F1, hv1, hn1, hb1⟩
  have hC4 := hC3.push hB4 (A := Item.own v1 x1) hv1 hn1 hb1
  refine WL_field Try.underlying73 rfl rfl (fun w => ⟨_, Try.sizeOf36 w⟩) rfl rfl ?_
  refine WL_store_box (cs' := [v1, (.int .i64 0)]) hC4 1 rfl rfl (ro_one (hC4.ro 0 rfl)) rfl Try.sizeOf36 rfl rfl (fun w5 hC5 => ?_)
  try dsimp only [List.set] at hC5
  refine WL_nil ?_
  refine W_seq_reg ?_
  refine WL_field Try.underlying65 rfl rfl (fun w => ⟨_, Try.sizeOf3 w⟩) rfl rfl ?_
  refine WL_load_box hC5 3 rfl rfl Try.isAgg3 rfl rfl ?_
  refine WL_field Try.underlying73 rfl rfl (fun w => ⟨_, Try.sizeOf3 w⟩) rfl rfl ?_
  refine WL_store_box (cs' := [v1, (.int .i64 a1.2)]) hC5 1 rfl rfl rfl rfl Try.sizeOf3 rfl rfl (fun w6 hC6 => ?_)
  try dsimp only [List.set] at hC6
  refine WL_nil ?_
  refine W_seq_reg ?_
  refine WL_load_box_agg [v1, (.int .i64 a1.2)] hC6 1 rfl rfl rfl Try.isAgg73 Try.sizeOf73 rfl rfl ?_
  refine WL_store_box_agg (cs' := [v1, (.int .i64 a1.2)]) (new := [v1, (.int .i64 a1.2)]) hC6 2 rfl rfl (by intro v hv; simp only [List.mem_cons, List.not_mem_nil, or_false] at hv; rcases hv with rfl | rfl; exact (ro_one (hC6.ro 0 rfl)); exact rfl) rfl Try.sizeOf73 rfl rfl (fun w7 hC7 => ?_)
  try dsimp only [List.set] at hC7
  refine WL_nil ?_
  refine W_ret ?_
  have hq1 := Option.some.inj hF
  subst hq1
  refine fn_retG1 rfl (rv_cell_agg (cs' := [v1, (.int .i64 a1.2)]) hC7 (i := 2) rfl rfl rfl Try.isAgg73 Try.sizeOf73 rfl) ?_
  have hC8 := own_st73 v1 x1 a1.2 hC7
  exact ⟨_, rfl, own_res hC8 0 rfl⟩

theorem c_Q_toChange {w0 : World} (a1 : (Bool × (Int × (List Int)))) (u1 : Value) (g1 : RO [] w0 u1 a1.2.2) (rr : (Bool × (Int × (List Int)))) (hF : Q.toChange a1 = some rr) :
    Calls Try.prog 45 [(.agg #[(.bool a1.1), (.int .i64 a1.2.1), u1])].toArray w0 fun e w' => ∃ v, e = .returned v ∧ Res w0 rr v w' := by
  refine calls_of_W Try.func45 rfl rfl ?_
  have hC0 := Ctx.start w0
  unfold Q.toChange at hF
  refine W_seq_reg ?_
  refine WL_box (cs := [(.bool a1.1), (.int .i64 a1.2.1), u1]) hC0 rfl rfl rfl (fun b1 w1 hC1 hB1 => ?_)
  refine WL_alloc hC1 zero79 rfl rfl (fun b2 w2 hC2 hB2 => ?_)
  refine WL_nil ?_
  refine W_seq_reg ?_
  refine WL_alloc hC2 zero79 rfl rfl (fun b3 w3 hC3 hB3 => ?_)
  refine WL_nil ?_
  refine W_seq_reg ?_
  refine WL_field Try.underlying69 rfl rfl (fun w => ⟨_, Try.sizeOf4 w⟩) rfl rfl ?_
  refine WL_load_box hC3 2 rfl rfl Try.isAgg4 rfl rfl ?_
  refine WL_field Try.underlying79 rfl rfl (fun w => ⟨_, Try.sizeOf4 w⟩) rfl rfl ?_
  refine WL_store_box (cs' := [(.bool a1.1), (.int .i64 0), (.slice none 0 0)]) hC3 0 rfl rfl rfl rfl Try.sizeOf4 rfl rfl (fun w4 hC4 => ?_)
  try dsimp only [List.set] at hC4
  refine WL_nil ?_
  refine W_seq_reg ?_
  refine WL_field Try.underlying69 rfl rfl (fun w => ⟨_, Try.sizeOf67 w⟩) rfl rfl ?_
  refine WL_load_box_agg [(.int .i64 a1.2.1), u1] hC4 2 rfl rfl rfl Try.isAgg67 Try.sizeOf67 rfl rfl ?_
  obtain ⟨x1, hr1, hF⟩ := bind_some hF
  refine WL_call Try.call93 rfl rfl (c_Q_toFact (a1.2.1, a1.2.2) u1 (g1.now hC4.keep) x1 hr1) ?_
  rintro v1 w5 ⟨hB4, F1, hv1, hn1, hb1⟩
  have hC5 := hC4.push hB4 (A := Item.own v1 x1) hv1 hn1 hb1
  obtain ⟨v2, rfl, hC6⟩ := st77_own hC5
  refine WL_field Try.underlying79 rfl rfl (fun w => ⟨_, Try.sizeOf77 w⟩) rfl rfl ?_
  refine WL_store_box_agg (cs' := [(.bool a1.1), (.int .i64 x1.1), v2]) (new := [(.int .i64 x1.1), v2]) hC6 1 rfl rfl (by intro v hv; simp only [List.mem_cons, List.not_mem_nil, or_false] at hv; rcases hv with rfl | rfl; exact rfl; exact (ro_one (hC6.ro 0 rfl))) rfl Try.sizeOf77 rfl rfl (fun w6 hC7 => ?_)
  try dsimp only [List.set] at hC7
  refine WL_nil ?_
  refine W_seq_reg ?_
  refine WL_load_box_agg [(.bool a1.1), (.int .i64 x1.1), v2] hC7 1 rfl rfl rfl Try.isAgg79 Try.sizeOf79 rfl rfl ?_
  refine WL_store_box_agg (cs' := [(.bool a1.1), (.int .i64 x1.1), v2]) (new := [(.bool a1.1), (.int .i64 x1.1), v2]) hC7 2 rfl rfl (by intro v hv; simp only [List.mem_cons, List.not_mem_nil, or_false] at hv; rcases hv with rfl | rfl | rfl; exact rfl; exact rfl; exact (ro_one (hC7.ro 0 rfl))) rfl Try.sizeOf79 rfl rfl (fun w7 hC8 => ?_)
  try dsimp only [List.set] at hC8
  refine WL_nil ?_
  refine W_ret ?_
  have hq1 := Option.some.inj hF
  subst hq1
  refine fn_retG1 rfl (rv_cell_agg (cs' := [(.bool a1.1), (.int .i64 x1.1), v2]) hC8 (i := 2) rfl rfl rfl Try.isAgg79 Try.sizeOf79 rfl) ?_
  have hC9 := own_st79 a1.1 x1.1 v2 x1.2 hC8
  exact ⟨_, rfl, own_res hC9 0 rfl⟩

theorem c_Cmp_Or_int {w0 : World} (a1 : (List Int)) (u1 : Value) (g1 : RO [] w0 u1 a1) (rr : Int) (hF : Cmp.Or_int a1 = some rr) :
    Calls Try.prog 138 [u1].toArray w0 fun e w' => ∃ v, e = .returned v ∧ Res w0 rr v w' := by
  refine calls_of_W Try.func138 rfl rfl ?_
  have hC0 := Ctx.start w0
  unfold Cmp.Or_int at hF
  refine W_seq_reg ?_
  refine WL_assign rfl rfl ?_
  refine WL_nil ?_
  refine W_seq_reg ?_
  refine WL_assign rfl rfl ?_
  refine WL_nil ?_
  refine W_seq ?_
  refine W_seq_reg ?_
  refine WL_move rfl rfl ?_
  refine WL_len Try.underlying22 g1 rfl rfl ?_
  refine WL_move rfl rfl ?_
  refine WL_nil ?_
  obtain ⟨r1, hr1, hF⟩ := bind_some hF
  refine W_norm (fun l w => .inl () = r1 ∧ l = [(3, (.int .i64 0))] ∧ Below w0.heap.size w0 w ∧ Ctx [] w0 w []) ?_ ?_
  · refine W_block ?_
    refine W.sub (l' := [(3, (.int .i64 0)), (6, u1), (7, (.int .i64 (List.length a1 : Int))), (8, (.int .i64 0))]) ?_ ⟨rfl, rfl, rfl, rfl, trivial⟩
    refine W_loop (fun k l w => ∃ x1 : Int, l = [(3, (.int .i64 0)), (6, u1), (7, (.int .i64 (List.length a1 : Int))), (8, (.int .i64 x1))] ∧ Below w0.heap.size w0 w ∧ Ctx [] w0 w [] ∧ Cmp.Or_int_l1 a1 k x1 = some r1) FUEL ⟨0, rfl, (Below.refl _ _), hC0, hr1⟩ ?_
    clear hr1
    rintro k1 _ w1 ⟨x1, rfl, hB1, hC1, hL1⟩
    cases k1 with
    | zero => rw [Cmp.Or_int_l1] at hL1; cases hL1
    | succ k1 =>
      rw [Cmp.Or_int_l1] at hL1
      refine W_seq_reg ?_
      refine WL_lss rfl rfl rfl ?_
      refine WL_nil ?_
      refine W_seq ?_
      refine W_cond rfl (fun hc1 => ?_) (fun hc1 => ?_)
      · replace hL1 := ite_t hL1 hc1
        refine W_skip ?_
        refine nrm_normal ?_
        refine W_seq ?_
        refine W_block ?_
        refine W_seq_reg ?_
        obtain ⟨x2, hx1, hL1⟩ := bind_some hL1
        refine WL_index Try.underlying22 ty3 g1 hx1 rfl rfl rfl (fun b1 o1 h1 => ?_)
        refine WL_load ty3 h1 hC1.keep rfl rfl (fun v1 h2 => ?_)
        obtain rfl := ro_int h2
        refine WL_assign rfl rfl ?_
        refine WL_nil ?_
        refine W_seq_reg ?_
        refine WL_move rfl rfl ?_
        refine WL_move rfl rfl ?_
        refine WL_neq rfl rfl rfl ?_
        refine WL_nil ?_
        refine W_cond rfl (fun hc2 => ?_) (fun hc2 => ?_)
        · replace hL1 := ite_t hL1 hc2
          refine W_seq_reg ?_
          refine WL_move rfl rfl ?_
          refine WL_assign rfl rfl ?_
          refine WL_nil ?_
          refine W_ret ?_
          refine blk_ret ?_
          refine nrm_ret ?_
          refine nrm_ret ?_
          refine blk_ret ?_
          refine nrm_ret ?_
          refine nrm_ret ?_
          have hq1 := Option.some.inj hL1
          subst hq1
          dsimp only at hF
          have hq2 := Option.some.inj hF
          subst hq2
          refine fn_ret1 rfl rfl ?_
          exact ⟨_, rfl, int_res hC1 _⟩
        · replace hL1 := ite_f hL1 hc2
          refine W_skip ?_
          refine blk_normal ?_
          refine nrm_normal ?_
          refine W_reg ?_
          refine WL_add rfl rfl rfl ?_
          refine WL_move rfl rfl ?_
          refine WL_nil ?_
          refine nrm_sub (l' := [(3, (.int .i64 0)), (6, u1), (7, (.int .i64 (List.length a1 : Int))), (8, (.int .i64 (w64 (x1 + 1))))]) ⟨rfl, rfl, rfl, rfl, trivial⟩ ?_
          exact ⟨k1, Nat.lt_succ_self _, w64 (x1 + 1), rfl, (Keep.of hB1).below, hC1, hL1⟩
      · replace hL1 := ite_f hL1 hc1
        refine W_exit ?_
        refine nrm_exit ?_
        refine nrm_exit ?_
        refine blk_exit ?_
        have hq3 := Option.some.inj hL1
        subst hq3
        refine nrm_sub (l' := [(3, (.int .i64 0))]) ⟨rfl, trivial⟩ ?_
        exact ⟨rfl, rfl, (Keep.of hB1).below, hC1⟩
  · rintro l2 _ w2 hs2 ⟨rfl, rfl, hB2, hC2⟩
    try dsimp only at hF
    refine nrm_sub' hs2 ?_
    clear hs2
    refine W_seq_reg ?_
    refine WL_move rfl rfl ?_
    refine WL_assign rfl rfl ?_
    refine WL_nil ?_
    refine W_ret ?_
    have hq4 := Option.some.inj hF
    subst hq4
    refine fn_ret1 rfl rfl ?_
    exact ⟨_, rfl, int_res hC2 _⟩

theorem c_Cmp_isNaN_int {w0 : World} (a1 : Int) (rr : Bool) (hF : Cmp.isNaN_int a1 = some rr) :
    Calls Try.prog 150 [(.int .i64 a1)].toArray w0 fun e w' => ∃ v, e = .returned v ∧ Res w0 rr v w' := by
  refine calls_of_W Try.func150 rfl rfl ?_
  have hC0 := Ctx.start w0
  unfold Cmp.isNaN_int at hF
  refine W_seq_reg ?_
  refine WL_assign rfl rfl ?_
  refine WL_nil ?_
  refine W_seq_reg ?_
  refine WL_move rfl rfl ?_
  refine WL_move rfl rfl ?_
  refine WL_neq rfl rfl rfl ?_
  refine WL_assign rfl rfl ?_
  refine WL_nil ?_
  refine W_ret ?_
  have hq1 := Option.some.inj hF
  subst hq1
  refine fn_ret1 rfl rfl ?_
  exact ⟨_, rfl, bool_res hC0 _⟩

theorem c_Cmp_Compare_int {w0 : World} (a1 : Int) (a2 : Int) (rr : Int) (hF : Cmp.Compare_int a1 a2 = some rr) :
    Calls Try.prog 139 [(.int .i64 a1), (.int .i64 a2)].toArray w0 fun e w' => ∃ v, e = .returned v ∧ Res w0 rr v w' := by
  refine calls_of_W Try.func139 rfl rfl ?_
  have hC0 := Ctx.start w0
  unfold Cmp.Compare_int at hF
  refine W_seq_reg ?_
  refine WL_assign rfl rfl ?_
  refine WL_nil ?_
  refine W_seq_reg ?_
  refine WL_move rfl rfl ?_
  obtain ⟨x1, hr1, hF⟩ := bind_some hF
  refine WL_call Try.call150 rfl rfl (c_Cmp_isNaN_int a1 x1 hr1) ?_
  intro _ w1 hv1
  obtain ⟨rfl, hB1⟩ := res_bool hv1
  have hC1 := hC0.grow hB1
  refine WL_assign rfl rfl ?_
  refine WL_nil ?_
  refine W_seq_reg ?_
  refine WL_move rfl rfl ?_
  obtain ⟨x2, hr2, hF⟩ := bind_some hF
  refine WL_call Try.call150 rfl rfl (c_Cmp_isNaN_int a2 x2 hr2) ?_
  intro _ w2 hv2
  obtain ⟨rfl, hB2⟩ := res_bool hv2
  have hC2 := hC1.grow hB2
  refine WL_assign rfl rfl ?_
  refine WL_nil ?_
  refine W_seq ?_
  refine W_seq_reg ?_
  refine WL_move rfl rfl ?_
  refine WL_nil ?_
  refine W_cond rfl (fun hc1 => ?_) (fun hc1 => ?_)
  · replace hF := ite_t hF hc1
    refine W_seq ?_
    refine W_seq_reg ?_
    refine WL_move rfl rfl ?_
    refine WL_nil ?_
    refine W_cond rfl (fun hc2 => ?_) (fun hc2 => ?_)
    · replace hF := ite_t hF hc2
      refine W_seq_reg ?_
      refine WL_assign rfl rfl ?_
      refine WL_nil ?_
      refine W_ret ?_
      refine nrm_ret ?_
      refine nrm_ret ?_
      have hq1 := Option.some.inj hF
      subst hq1
      refine fn_ret1 rfl rfl ?_
      exact ⟨_, rfl, int_res hC2 _⟩
    · replace hF := ite_f hF hc2
      refine W_skip ?_
      refine nrm_normal ?_
      refine W_seq_reg ?_
      refine WL_assign rfl rfl ?_
      refine WL_nil ?_
      refine W_ret ?_
      refine nrm_ret ?_
      have hq2 := Option.some.inj hF
      subst hq2
      refine fn_ret1 rfl rfl ?_
      exact ⟨_, rfl, int_res hC2 _⟩
  · replace hF := ite_f hF hc1
    refine W_skip ?_
    refine nrm_normal ?_
    refine W_seq ?_
    refine W_seq_reg ?_
    refine WL_move rfl rfl ?_
    refine WL_nil ?_
    refine W_cond rfl (fun hc3 => ?_) (fun hc3 => ?_)
    · replace hF := ite_t hF hc3
      refine W_seq_reg ?_
      refine WL_assign rfl rfl ?_
      refine WL_nil ?_
      refine W_ret ?_
      refine nrm_ret ?_
      have hq3 := Option.some.inj hF
      subst hq3
      refine fn_ret1 rfl rfl ?_
      exact ⟨_, rfl, int_res hC2 _⟩
    · replace hF := ite_f hF hc3
      refine W_skip ?_
      refine nrm_normal ?_
      refine W_seq ?_
      refine W_seq_reg ?_
      refine WL_move rfl rfl ?_
      refine WL_move rfl rfl ?_
      refine WL_lss rfl rfl rfl ?_
      refine WL_nil ?_
      refine W_cond rfl (fun hc4 => ?_) (fun hc4 => ?_)
      · replace hF := ite_t hF hc4
        refine W_seq_reg ?_
        refine WL_assign rfl rfl ?_
        refine WL_nil ?_
        refine W_ret ?_
        refine nrm_ret ?_
        have hq4 := Option.some.inj hF
        subst hq4
        refine fn_ret1 rfl rfl ?_
        exact ⟨_, rfl, int_res hC2 _⟩
      · replace hF := ite_f hF hc4
        refine W_skip ?_
        refine nrm_normal ?_
        refine W_seq ?_
        refine W_seq_reg ?_
        refine WL_move rfl rfl ?_
        refine WL_move rfl rfl ?_
        refine WL_gtr rfl rfl rfl ?_
        refine WL_nil ?_
        refine W_cond rfl (fun hc5 => ?_) (fun hc5 => ?_)
        · replace hF := ite_t hF hc5
          refine W_seq_reg ?_
          refine WL_assign rfl rfl ?_
          refine WL_nil ?_
          refine W_ret ?_
          refine nrm_ret ?_
          have hq5 := Option.some.inj hF
          subst hq5
          refine fn_ret1 rfl rfl ?_
          exact ⟨_, rfl, int_res hC2 _⟩
        · replace hF := ite_f hF hc5
          refine W_skip ?_
          refine nrm_normal ?_
          refine W_seq_reg ?_
          refine WL_assign rfl rfl ?_
          refine WL_nil ?_
          refine W_ret ?_
          have hq6 := Option.some.inj hF
          subst hq6
          refine fn_ret1 rfl rfl ?_
          exact ⟨_, rfl, int_res hC2 _⟩

theorem c_Slices_Compare_Lint_int {w0 : World} (a1 : (List Int)) (u1 : Value) (g1 : RO [] w0 u1 a1) (a2 : (List Int)) (u2 : Value) (g2 : RO [] w0 u2 a2) (rr : Int) (hF : Slices.Compare_Lint_int a1 a2 = some rr) :
    Calls Try.prog 140 [u1, u2].toArray w0 fun e w' => ∃ v, e = .returned v ∧ Res w0 rr v w' := by
  refine calls_of_W Try.func140 rfl rfl ?_
  have hC0 := Ctx.start w0
  unfold Slices.Compare_Lint_int at hF
  refine W_seq_reg ?_
  refine WL_assign rfl rfl ?_
  refine WL_nil ?_
  refine W_seq ?_
  refine W_seq_reg ?_
  refine WL_move rfl rfl ?_
  refine WL_len Try.underlying22 g1 rfl rfl ?_
  refine WL_move rfl rfl ?_
  refine WL_nil ?_
  obtain ⟨r1, hr1, hF⟩ := bind_some hF
  refine W_norm (fun l w => .inl () = r1 ∧ l = [(0, u1), (1, u2)] ∧ Below w0.heap.size w0 w ∧ Ctx [] w0 w []) ?_ ?_
  · refine W_block ?_
    refine W.sub (l' := [(0, u1), (1, u2), (9, u1), (10, (.int .i64 (List.length a1 : Int))), (11, (.int .i64 0))]) ?_ ⟨rfl, rfl, rfl, rfl, rfl, trivial⟩
    refine W_loop (fun k l w => ∃ x1 : Int, l = [(0, u1), (1, u2), (9, u1), (10, (.int .i64 (List.length a1 : Int))), (11, (.int .i64 x1))] ∧ Below w0.heap.size w0 w ∧ Ctx [] w0 w [] ∧ Slices.Compare_Lint_int_l1 a1 a2 k x1 = some r1) FUEL ⟨0, rfl, (Below.refl _ _), hC0, hr1⟩ ?_
    clear hr1
    rintro k1 _ w1 ⟨x1, rfl, hB1, hC1, hL1⟩
    cases k1 with
    | zero => rw [Slices.Compare_Lint_int_l1] at hL1; cases hL1
    | succ k1 =>
      rw [Slices.Compare_Lint_int_l1] at hL1
      refine W_seq_reg ?_
      refine WL_lss rfl rfl rfl ?_
      refine WL_nil ?_
      refine W_seq ?_
      refine W_cond rfl (fun hc1 => ?_) (fun hc1 => ?_)
      · replace hL1 := ite_t hL1 hc1
        refine W_skip ?_
        refine nrm_normal ?_
        refine W_seq ?_
        refine W_block ?_
        refine W_seq_reg ?_
        refine WL_move rfl rfl ?_
        obtain ⟨x2, hx1, hL1⟩ := bind_some hL1
        refine WL_index Try.underlying22 ty3 g1 hx1 rfl rfl rfl (fun b1 o1 h1 => ?_)
        refine WL_load ty3 h1 hC1.keep rfl rfl (fun v1 h2 => ?_)
        obtain rfl := ro_int h2
        refine WL_assign rfl rfl ?_
        refine WL_assign rfl rfl ?_
        refine WL_nil ?_
        refine W_seq ?_
        refine W_seq_reg ?_
        refine WL_move rfl rfl ?_
        refine WL_move rfl rfl ?_
        refine WL_len Try.underlying22 g2 rfl rfl ?_
        refine WL_geq rfl rfl rfl ?_
        refine WL_nil ?_
        refine W_cond rfl (fun hc2 => ?_) (fun hc2 => ?_)
        · replace hL1 := ite_t hL1 hc2
          refine W_seq_reg ?_
          refine WL_assign rfl rfl ?_
          refine WL_nil ?_
          refine W_ret ?_
          refine nrm_ret ?_
          refine blk_ret ?_
          refine nrm_ret ?_
          refine nrm_ret ?_
          refine blk_ret ?_
          refine nrm_ret ?_
          refine nrm_ret ?_
          have hq1 := Option.some.inj hL1
          subst hq1
          dsimp only at hF
          have hq2 := Option.some.inj hF
          subst hq2
          refine fn_ret1 rfl rfl ?_
          exact ⟨_, rfl, int_res hC1 _⟩
        · replace hL1 := ite_f hL1 hc2
          refine W_skip ?_
          refine nrm_normal ?_
          refine W_seq_reg ?_
          refine WL_move rfl rfl ?_
          refine WL_move rfl rfl ?_
          obtain ⟨x3, hx2, hL1⟩ := bind_some hL1
          refine WL_index Try.underlying22 ty3 g2 hx2 rfl rfl rfl (fun b2 o2 h3 => ?_)
          refine WL_load ty3 h3 hC1.keep rfl rfl (fun v2 h4 => ?_)
          obtain rfl := ro_int h4
          refine WL_assign rfl rfl ?_
          refine WL_nil ?_
          refine W_seq_reg ?_
          refine WL_move rfl rfl ?_
          refine WL_move rfl rfl ?_
          obtain ⟨x4, hr2, hL1⟩ := bind_some hL1
          refine WL_call Try.call139 rfl rfl (c_Cmp_Compare_int x2 x3 x4 hr2) ?_
          intro _ w2 hv1
          obtain ⟨rfl, hB2⟩ := res_int hv1
          have hC2 := hC1.grow hB2
          refine WL_assign rfl rfl ?_
          refine WL_nil ?_
          refine W_seq_reg ?_
          refine WL_move rfl rfl ?_
          refine WL_neq rfl rfl rfl ?_
          refine WL_nil ?_
          refine W_cond rfl (fun hc3 => ?_) (fun hc3 => ?_)
          · replace hL1 := ite_t hL1 hc3
            refine W_seq_reg ?_
            refine WL_move rfl rfl ?_
            refine WL_assign rfl rfl ?_
            refine WL_nil ?_
            refine W_ret ?_
            refine blk_ret ?_
            refine nrm_ret ?_
            refine nrm_ret ?_
            refine blk_ret ?_
            refine nrm_ret ?_
            refine nrm_ret ?_
            have hq3 := Option.some.inj hL1
            subst hq3
            dsimp only at hF
            have hq4 := Option.some.inj hF
            subst hq4
            refine fn_ret1 rfl rfl ?_
            exact ⟨_, rfl, int_res hC2 _⟩
          · replace hL1 := ite_f hL1 hc3
            refine W_skip ?_
            refine blk_normal ?_
            refine nrm_normal ?_
            refine W_reg ?_
            refine WL_add rfl rfl rfl ?_
            refine WL_move rfl rfl ?_
            refine WL_nil ?_
            refine nrm_sub (l' := [(0, u1), (1, u2), (9, u1), (10, (.int .i64 (List.length a1 : Int))), (11, (.int .i64 (w64 (x1 + 1))))]) ⟨rfl, rfl, rfl, rfl, rfl, trivial⟩ ?_
            exact ⟨k1, Nat.lt_succ_self _, w64 (x1 + 1), rfl, ((Keep.of hB1).then hB2).below, hC2, hL1⟩
      · replace hL1 := ite_f hL1 hc1
        refine W_exit ?_
        refine nrm_exit ?_
        refine nrm_exit ?_
        refine blk_exit ?_
        have hq5 := Option.some.inj hL1
        subst hq5
        refine nrm_sub (l' := [(0, u1), (1, u2)]) ⟨rfl, rfl, trivial⟩ ?_
        exact ⟨rfl, rfl, (Keep.of hB1).below, hC1⟩
  · rintro l2 _ w3 hs2 ⟨rfl, rfl, hB3, hC3⟩
    try dsimp only at hF
    refine nrm_sub' hs2 ?_
    clear hs2
    refine W_seq ?_
    refine W_seq_reg ?_
    refine WL_move rfl rfl ?_
    refine WL_len Try.underlying22 g1 rfl rfl ?_
    refine WL_move rfl rfl ?_
    refine WL_len Try.underlying22 g2 rfl rfl ?_
    refine WL_lss rfl rfl rfl ?_
    refine WL_nil ?_
    refine W_cond rfl (fun hc4 => ?_) (fun hc4 => ?_)
    · replace hF := ite_t hF hc4
      refine W_seq_reg ?_
      refine WL_assign rfl rfl ?_
      refine WL_nil ?_
      refine W_ret ?_
      refine nrm_ret ?_
      have hq6 := Option.some.inj hF
      subst hq6
      refine fn_ret1 rfl rfl ?_
      exact ⟨_, rfl, int_res hC3 _⟩
    · replace hF := ite_f hF hc4
      refine W_skip ?_
      refine nrm_normal ?_
      refine W_seq_reg ?_
      refine WL_assign rfl rfl ?_
      refine WL_nil ?_
      refine W_ret ?_
      have hq7 := Option.some.inj hF
      subst hq7
      refine fn_ret1 rfl rfl ?_
      exact ⟨_, rfl, int_res hC3 _⟩

end Go.Gx.Px
