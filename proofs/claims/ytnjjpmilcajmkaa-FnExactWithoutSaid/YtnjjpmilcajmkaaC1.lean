/- The contracts of the Go functions against the pure functions, printed by program. Conditions: each says them. -/
import Derived.Test.YtnjjpmilcajmkaaTy
import Derived.Test.YtnjjpmilcajmkaaPure
set_option linter.unusedVariables false
set_option linter.unusedSimpArgs false
set_option maxRecDepth 100000
namespace Go.Gx.Px
open Go.Proofs Go.RowKit

theorem c_Q_toIntS {w0 : World} (a1 : (List Int)) (u1 : Value) (g1 : RO [] w0 u1 a1) (rr : (List Int)) (hF : Q.toIntS a1 = some rr) :
    Calls Try.prog 37 [u1].toArray w0 fun e w' => ∃ v, e = .returned v ∧ Res w0 rr v w' := by
  refine calls_of_W Try.func37 rfl rfl ?_
  have hC0 := Ctx.start w0
  unfold Q.toIntS at hF
  refine W_seq_reg ?_
  refine WL_assign rfl rfl ?_
  refine WL_nil ?_
  refine W_seq_reg ?_
  refine WL_move rfl rfl ?_
  refine WL_len Try.underlying22 g1 rfl rfl ?_
  obtain ⟨x1, hx1, hF⟩ := bind_some hF
  refine WL_makeSlice hC0 Try.underlying22 ty3 rfl zc3 zr3 hx1 rfl rfl rfl (fun b1 w1 hC1 hB1 => ?_)
  refine WL_assign rfl rfl ?_
  refine WL_nil ?_
  refine W_seq ?_
  refine W_seq_reg ?_
  refine WL_assign rfl rfl ?_
  refine WL_nil ?_
  obtain ⟨r1, hr1, hF⟩ := bind_some hF
  refine W_norm (fun l w => ∃ x4 : (List Int), x4 = r1 ∧ l = [(3, (.slice (some ⟨b1, 0, none⟩) (Int.toNat (List.length a1 : Int)) (Int.toNat (List.length a1 : Int))))] ∧ Ctx [] w0 w [Item.own (.slice (some ⟨b1, 0, none⟩) (Int.toNat (List.length a1 : Int)) (Int.toNat (List.length a1 : Int))) (x4 : (List Int))]) ?_ ?_
  · refine W_block ?_
    refine W.sub (l' := [(0, u1), (3, (.slice (some ⟨b1, 0, none⟩) (Int.toNat (List.length a1 : Int)) (Int.toNat (List.length a1 : Int)))), (4, (.int .i64 0))]) ?_ ⟨rfl, rfl, rfl, trivial⟩
    refine W_loop (fun k l w => ∃ x2 : (List Int), ∃ x3 : Int, l = [(0, u1), (3, (.slice (some ⟨b1, 0, none⟩) (Int.toNat (List.length a1 : Int)) (Int.toNat (List.length a1 : Int)))), (4, (.int .i64 x3))] ∧ Ctx [] w0 w [Item.own (.slice (some ⟨b1, 0, none⟩) (Int.toNat (List.length a1 : Int)) (Int.toNat (List.length a1 : Int))) (x2 : (List Int))] ∧ Q.toIntS_l1 a1 k x2 x3 = some r1) FUEL ⟨x1, 0, rfl, hC1, hr1⟩ ?_
    clear hr1
    rintro k1 _ w2 ⟨x2, x3, rfl, hC2, hL1⟩
    cases k1 with
    | zero => rw [Q.toIntS_l1] at hL1; cases hL1
    | succ k1 =>
      rw [Q.toIntS_l1] at hL1
      refine W_seq ?_
      refine W_seq_reg ?_
      refine WL_move rfl rfl ?_
      refine WL_move rfl rfl ?_
      refine WL_len Try.underlying22 g1 rfl rfl ?_
      refine WL_lss rfl rfl rfl ?_
      refine WL_nil ?_
      refine W_cond rfl (fun hc1 => ?_) (fun hc1 => ?_)
      · replace hL1 := ite_t hL1 hc1
        refine W_skip ?_
        refine nrm_normal ?_
        refine W_seq ?_
        refine W_block ?_
        refine W_reg ?_
        refine WL_move rfl rfl ?_
        refine WL_move rfl rfl ?_
        refine WL_move rfl rfl ?_
        refine WL_move rfl rfl ?_
        obtain ⟨x5, hx2, hL1⟩ := bind_some hL1
        refine WL_index Try.underlying22 ty3 g1 hx2 rfl rfl rfl (fun b2 o1 h1 => ?_)
        refine WL_load ty3 h1 hC2.keep rfl rfl (fun v1 h2 => ?_)
        obtain rfl := ro_int h2
        obtain ⟨x6, hx3, hL1⟩ := bind_some hL1
        refine WL_index_own hC2 0 rfl Try.underlying22 ty3 hx3 rfl rfl rfl (fun b3 hE1 => ?_)
        have hC4 := hC2.triv (int_val (x5))
        refine WL_store_elem hC4 0 rfl ty3 hE1 hx3 rfl rfl rfl (fun w3 hC3 => ?_)
        try dsimp only [List.set] at hC3
        refine WL_nil ?_
        refine blk_normal ?_
        refine nrm_normal ?_
        refine W_reg ?_
        refine WL_move rfl rfl ?_
        refine WL_add rfl rfl rfl ?_
        refine WL_assign rfl rfl ?_
        refine WL_nil ?_
        refine nrm_sub (l' := [(0, u1), (3, (.slice (some ⟨b1, 0, none⟩) (Int.toNat (List.length a1 : Int)) (Int.toNat (List.length a1 : Int)))), (4, (.int .i64 (w64 (x3 + 1))))]) ⟨rfl, rfl, rfl, trivial⟩ ?_
        exact ⟨k1, Nat.lt_succ_self _, (List.set x2 (Int.toNat x3) x5), w64 (x3 + 1), rfl, hC3, hL1⟩
      · replace hL1 := ite_f hL1 hc1
        refine W_exit ?_
        refine nrm_exit ?_
        refine nrm_exit ?_
        refine blk_exit ?_
        have hq1 := Option.some.inj hL1
        subst hq1
        refine nrm_sub (l' := [(3, (.slice (some ⟨b1, 0, none⟩) (Int.toNat (List.length a1 : Int)) (Int.toNat (List.length a1 : Int))))]) ⟨rfl, trivial⟩ ?_
        exact ⟨x2, rfl, rfl, hC2⟩
  · rintro l2 _ w4 hs2 ⟨x4, rfl, rfl, hC5⟩
    try dsimp only at hF
    refine nrm_sub' hs2 ?_
    clear hs2
    refine W_seq_reg ?_
    refine WL_move rfl rfl ?_
    refine WL_assign rfl rfl ?_
    refine WL_nil ?_
    refine W_ret ?_
    have hq2 := Option.some.inj hF
    subst hq2
    refine fn_ret1 rfl rfl ?_
    exact ⟨_, rfl, own_res hC5 0 rfl⟩

theorem c_Q_eqIntS {w0 : World} (a1 : (List Int)) (u1 : Value) (g1 : RO [] w0 u1 a1) (a2 : (List Int)) (u2 : Value) (g2 : RO [] w0 u2 a2) (rr : Bool) (hF : Q.eqIntS a1 a2 = some rr) :
    Calls Try.prog 39 [u1, u2].toArray w0 fun e w' => ∃ v, e = .returned v ∧ Res w0 rr v w' := by
  refine calls_of_W Try.func39 rfl rfl ?_
  have hC0 := Ctx.start w0
  unfold Q.eqIntS at hF
  refine W_seq_reg ?_
  refine WL_assign rfl rfl ?_
  refine WL_nil ?_
  refine W_seq ?_
  refine W_seq_reg ?_
  refine WL_move rfl rfl ?_
  refine WL_len Try.underlying22 g1 rfl rfl ?_
  refine WL_move rfl rfl ?_
  refine WL_len Try.underlying22 g2 rfl rfl ?_
  refine WL_neq rfl rfl rfl ?_
  refine WL_nil ?_
  refine W_cond rfl (fun hc1 => ?_) (fun hc1 => ?_)
  · replace hF := ite_t hF hc1
    refine W_seq_reg ?_
    refine WL_assign rfl rfl ?_
    refine WL_nil ?_
    refine W_ret ?_
    refine nrm_ret ?_
    have hq1 := Option.some.inj hF
    subst hq1
    refine fn_ret1 rfl rfl ?_
    exact ⟨_, rfl, bool_res hC0 _⟩
  · replace hF := ite_f hF hc1
    refine W_skip ?_
    refine nrm_normal ?_
    refine W_seq ?_
    refine W_seq_reg ?_
    refine WL_assign rfl rfl ?_
    refine WL_nil ?_
    obtain ⟨r1, hr1, hF⟩ := bind_some hF
    refine W_norm (fun l w => .inl () = r1 ∧ l = [] ∧ Below w0.heap.size w0 w ∧ Ctx [] w0 w []) ?_ ?_
    · refine W_block ?_
      refine W.sub (l' := [(0, u1), (1, u2), (5, (.int .i64 0))]) ?_ ⟨rfl, rfl, rfl, trivial⟩
      refine W_loop (fun k l w => ∃ x1 : Int, l = [(0, u1), (1, u2), (5, (.int .i64 x1))] ∧ Below w0.heap.size w0 w ∧ Ctx [] w0 w [] ∧ Q.eqIntS_l1 a1 a2 k x1 = some r1) FUEL ⟨0, rfl, (Below.refl _ _), hC0, hr1⟩ ?_
      clear hr1
      rintro k1 _ w1 ⟨x1, rfl, hB1, hC1, hL1⟩
      cases k1 with
      | zero => rw [Q.eqIntS_l1] at hL1; cases hL1
      | succ k1 =>
        rw [Q.eqIntS_l1] at hL1
        refine W_seq ?_
        refine W_seq_reg ?_
        refine WL_move rfl rfl ?_
        refine WL_move rfl rfl ?_
        refine WL_len Try.underlying22 g1 rfl rfl ?_
        refine WL_lss rfl rfl rfl ?_
        refine WL_nil ?_
        refine W_cond rfl (fun hc2 => ?_) (fun hc2 => ?_)
        · replace hL1 := ite_t hL1 hc2
          refine W_skip ?_
          refine nrm_normal ?_
          refine W_seq ?_
          refine W_block ?_
          refine W_seq ?_
          refine W_drawn 9 rfl hmix (fun w2 hB2 => ?_)
          have hC2 := hC1.grow hB2
          refine WA_take 0 rfl (by kernel_rfl) (by kernel_rfl) (by kernel_rfl) rfl (fl_move rfl) ?_
          refine WL_move rfl rfl ?_
          refine WL_nil ?_
          refine WA_take 1 rfl (by kernel_rfl) (by kernel_rfl) (by kernel_rfl) rfl (fl_move rfl) ?_
          refine WL_move rfl rfl ?_
          refine WL_nil ?_
          obtain ⟨x2, hx1, hL1⟩ := bind_some hL1
          refine WA_take 2 rfl (by kernel_rfl) (by kernel_rfl) (by kernel_rfl) rfl (fl_index Try.underlying22 ty3 g1 hx1 rfl rfl) ?_
          refine WL_index Try.underlying22 ty3 g1 hx1 rfl rfl rfl (fun b1 o1 h1 => ?_)
          refine WL_nil ?_
          refine WA_take 4 rfl (by kernel_rfl) (by kernel_rfl) (by kernel_rfl) rfl (fl_move rfl) ?_
          refine WL_move rfl rfl ?_
          refine WL_nil ?_
          refine WA_take 5 rfl (by kernel_rfl) (by kernel_rfl) (by kernel_rfl) rfl (fl_move rfl) ?_
          refine WL_move rfl rfl ?_
          refine WL_nil ?_
          obtain ⟨x3, hx2, hL1⟩ := bind_some hL1
          refine WA_take 6 rfl (by kernel_rfl) (by kernel_rfl) (by kernel_rfl) rfl (fl_index Try.underlying22 ty3 g2 hx2 rfl rfl) ?_
          refine WL_index Try.underlying22 ty3 g2 hx2 rfl rfl rfl (fun b2 o2 h2 => ?_)
          refine WL_nil ?_
          refine WA.sub (l' := [(0, u1), (1, u2), (5, (.int .i64 x1)), (11, (.int .i64 x1)), (12, u1), (13, (.int .i64 (List.length a1 : Int))), (14, (.bool (decide (x1 < (List.length a1 : Int))))), (17, u1), (18, (.int .i64 x1)), (19, (ptr b1 o1)), (21, u2), (22, (.int .i64 x1)), (23, (ptr b2 o2))]) ?_ ⟨rfl, rfl, rfl, rfl, rfl, rfl, rfl, rfl, rfl, rfl, rfl, rfl, rfl, trivial⟩
          refine WA_postsE [⟨3, [], fun vs => PW.val (.int .i64 x2), []⟩, ⟨7, [], fun vs => PW.val (.int .i64 x3), []⟩] [[], []] 1 rfl (by kernel_rfl) (by kernel_rfl) rfl ?_ ?_
          · refine StepsE_cons rfl ?_ ?_
            · intro w3 hB3
              refine DepsE_nil ?_
              refine ⟨_, rfl, ?_⟩
              refine WL_load ty3 h1 (hC2.keep.then hB3) rfl rfl (fun v1 h3 => ?_)
              obtain rfl := ro_int h3
              refine WL_nil ?_
              exact FinE_val (Below.refl _ _) rfl rfl ⟨rfl, rfl⟩
            refine StepsE_cons rfl ?_ ?_
            · intro w3 hB3
              refine DepsE_nil ?_
              refine ⟨_, rfl, ?_⟩
              refine WL_load ty3 h2 (hC2.keep.then hB3) rfl rfl (fun v2 h4 => ?_)
              obtain rfl := ro_int h4
              refine WL_nil ?_
              exact FinE_val (Below.refl _ _) rfl rfl ⟨rfl, rfl⟩
            exact StepsE_nil
          · intro w4 hB4
            refine AllE_cons rfl rfl rfl ?_
            rintro _ _ ⟨rfl, rfl⟩
            refine AllE_cons rfl rfl rfl ?_
            rintro _ _ ⟨rfl, rfl⟩
            refine AllE_nil ?_
            intro hn1 hb1
            have hC3 := hC2.grow hB4
            refine WA_take 8 rfl (by kernel_rfl) (by kernel_rfl) (by kernel_rfl) rfl (fl_neq rfl rfl) ?_
            refine WL_neq rfl rfl rfl ?_
            refine WL_nil ?_
            refine WA_done (by kernel_rfl) ?_
            refine nrm_normal ?_
            refine W_cond rfl (fun hc3 => ?_) (fun hc3 => ?_)
            · replace hL1 := ite_t hL1 hc3
              refine W_seq_reg ?_
              refine WL_assign rfl rfl ?_
              refine WL_nil ?_
              refine W_ret ?_
              refine blk_ret ?_
              refine nrm_ret ?_
              refine nrm_ret ?_
              refine blk_ret ?_
              refine nrm_ret ?_
              refine nrm_ret ?_
              have hq2 := Option.some.inj hL1
              subst hq2
              dsimp only at hF
              have hq3 := Option.some.inj hF
              subst hq3
              refine fn_ret1 rfl rfl ?_
              exact ⟨_, rfl, bool_res hC3 _⟩
            · replace hL1 := ite_f hL1 hc3
              refine W_skip ?_
              refine blk_normal ?_
              refine nrm_normal ?_
              refine W_reg ?_
              refine WL_move rfl rfl ?_
              refine WL_add rfl rfl rfl ?_
              refine WL_assign rfl rfl ?_
              refine WL_nil ?_
              refine nrm_sub (l' := [(0, u1), (1, u2), (5, (.int .i64 (w64 (x1 + 1))))]) ⟨rfl, rfl, rfl, trivial⟩ ?_
              exact ⟨k1, Nat.lt_succ_self _, w64 (x1 + 1), rfl, (((Keep.of hB1).then hB2).then hB4).below, hC3, hL1⟩
        · replace hL1 := ite_f hL1 hc2
          refine W_exit ?_
          refine nrm_exit ?_
          refine nrm_exit ?_
          refine blk_exit ?_
          have hq4 := Option.some.inj hL1
          subst hq4
          refine nrm_sub (l' := []) trivial ?_
          exact ⟨rfl, rfl, (Keep.of hB1).below, hC1⟩
    · rintro l2 _ w5 hs2 ⟨rfl, rfl, hB5, hC4⟩
      try dsimp only at hF
      refine nrm_sub' hs2 ?_
      clear hs2
      refine W_seq_reg ?_
      refine WL_assign rfl rfl ?_
      refine WL_nil ?_
      refine W_ret ?_
      have hq5 := Option.some.inj hF
      subst hq5
      refine fn_ret1 rfl rfl ?_
      exact ⟨_, rfl, bool_res hC4 _⟩

theorem c_Q_markIntS {w0 : World} {Fs : List (List Nat)} (a1 : (List Int)) (u1 : Value) (a2 : Int) (hH : Hold [Item.own u1 (a1 : (List Int))] w0 Fs) (hn : Fs.flatten.Nodup) (rr : (Int × (List Int))) (hF : Q.markIntS a1 a2 = some rr) :
    Calls Try.prog 40 [u1, (.int .i64 a2)].toArray w0 fun e w' => ∃ v, e = .returned v ∧ v = (.int .i64 rr.1) ∧ Ctx Fs.flatten w0 w' [Item.own u1 (rr.2 : (List Int))] := by
  refine calls_of_W Try.func40 rfl rfl ?_
  have hC0 := Ctx.startIn hH hn
  unfold Q.markIntS at hF
  refine W_seq_reg ?_
  refine WL_assign rfl rfl ?_
  refine WL_nil ?_
  refine W_seq ?_
  refine W_seq_reg ?_
  refine WL_assign rfl rfl ?_
  refine WL_nil ?_
  obtain ⟨r1, hr1, hF⟩ := bind_some hF
  refine W_norm (fun l w => ∃ x4 : (List Int), ∃ x5 : Int, (x4, x5) = r1 ∧ l = [(1, (.int .i64 x5))] ∧ Ctx Fs.flatten w0 w [Item.own u1 (x4 : (List Int))]) ?_ ?_
  · refine W_block ?_
    refine W.sub (l' := [(0, u1), (1, (.int .i64 a2)), (5, (.int .i64 0))]) ?_ ⟨rfl, rfl, rfl, trivial⟩
    refine W_loop (fun k l w => ∃ x1 : (List Int), ∃ x2 : Int, ∃ x3 : Int, l = [(0, u1), (1, (.int .i64 x2)), (5, (.int .i64 x3))] ∧ Ctx Fs.flatten w0 w [Item.own u1 (x1 : (List Int))] ∧ Q.markIntS_l1 k x1 x2 x3 = some r1) FUEL ⟨a1, a2, 0, rfl, hC0, hr1⟩ ?_
    clear hr1
    rintro k1 _ w1 ⟨x1, x2, x3, rfl, hC1, hL1⟩
    cases k1 with
    | zero => rw [Q.markIntS_l1] at hL1; cases hL1
    | succ k1 =>
      rw [Q.markIntS_l1] at hL1
      refine W_seq ?_
      refine W_seq_reg ?_
      refine WL_move rfl rfl ?_
      refine WL_move rfl rfl ?_
      refine WL_len Try.underlying22 (hC1.ro 0 rfl) rfl rfl ?_
      refine WL_lss rfl rfl rfl ?_
      refine WL_nil ?_
      refine W_cond rfl (fun hc1 => ?_) (fun hc1 => ?_)
      · replace hL1 := ite_t hL1 hc1
        refine W_skip ?_
        refine nrm_normal ?_
        refine W_seq ?_
        refine W_block ?_
        refine W_seq_reg ?_
        refine WL_move rfl rfl ?_
        refine WL_move rfl rfl ?_
        refine WL_move rfl rfl ?_
        obtain ⟨x6, hx1, hL1⟩ := bind_some hL1
        refine WL_index_own hC1 0 rfl Try.underlying22 ty3 hx1 rfl rfl rfl (fun b1 hE1 => ?_)
        have hC3 := hC1.triv (int_val (x2))
        refine WL_store_elem hC3 0 rfl ty3 hE1 hx1 rfl rfl rfl (fun w2 hC2 => ?_)
        try dsimp only [List.set] at hC2
        refine WL_nil ?_
        refine W_reg ?_
        refine WL_move rfl rfl ?_
        refine WL_add rfl rfl rfl ?_
        refine WL_assign rfl rfl ?_
        refine WL_nil ?_
        refine blk_normal ?_
        refine nrm_normal ?_
        refine W_reg ?_
        refine WL_move rfl rfl ?_
        refine WL_add rfl rfl rfl ?_
        refine WL_assign rfl rfl ?_
        refine WL_nil ?_
        refine nrm_sub (l' := [(0, u1), (1, (.int .i64 (w64 (x2 + 1)))), (5, (.int .i64 (w64 (x3 + 1))))]) ⟨rfl, rfl, rfl, trivial⟩ ?_
        exact ⟨k1, Nat.lt_succ_self _, (List.set x1 (Int.toNat x3) x2), w64 (x2 + 1), w64 (x3 + 1), rfl, hC2, hL1⟩
      · replace hL1 := ite_f hL1 hc1
        refine W_exit ?_
        refine nrm_exit ?_
        refine nrm_exit ?_
        refine blk_exit ?_
        have hq1 := Option.some.inj hL1
        subst hq1
        refine nrm_sub (l' := [(1, (.int .i64 x2))]) ⟨rfl, trivial⟩ ?_
        exact ⟨x1, x2, rfl, rfl, hC1⟩
  · rintro l2 _ w3 hs2 ⟨x4, x5, rfl, rfl, hC4⟩
    try dsimp only at hF
    refine nrm_sub' hs2 ?_
    clear hs2
    refine W_seq_reg ?_
    refine WL_move rfl rfl ?_
    refine WL_assign rfl rfl ?_
    refine WL_nil ?_
    refine W_ret ?_
    have hq2 := Option.some.inj hF
    subst hq2
    refine fn_ret1 rfl rfl ?_
    exact ⟨_, rfl, rfl, hC4⟩

theorem c_Q_szIntS {w0 : World} (a1 : (List Int)) (u1 : Value) (g1 : RO [] w0 u1 a1) (a2 : Int) (rr : Int) (hF : Q.szIntS a1 a2 = some rr) :
    Calls Try.prog 88 [u1, (.int .i64 a2)].toArray w0 fun e w' => ∃ v, e = .returned v ∧ Res w0 rr v w' := by
  refine calls_of_W Try.func88 rfl rfl ?_
  have hC0 := Ctx.start w0
  unfold Q.szIntS at hF
  refine W_seq_reg ?_
  refine WL_assign rfl rfl ?_
  refine WL_nil ?_
  refine W_seq_reg ?_
  refine WL_move rfl rfl ?_
  refine WL_move rfl rfl ?_
  refine WL_len Try.underlying22 g1 rfl rfl ?_
  refine WL_sub rfl rfl rfl ?_
  refine WL_assign rfl rfl ?_
  refine WL_nil ?_
  refine W_seq ?_
  refine W_seq_reg ?_
  refine WL_move rfl rfl ?_
  refine WL_lss rfl rfl rfl ?_
  refine WL_nil ?_
  refine W_cond rfl (fun hc1 => ?_) (fun hc1 => ?_)
  · replace hF := ite_t hF hc1
    refine W_seq_reg ?_
    refine WL_assign rfl rfl ?_
    refine WL_nil ?_
    refine W_ret ?_
    refine nrm_ret ?_
    have hq1 := Option.some.inj hF
    subst hq1
    refine fn_ret1 rfl rfl ?_
    exact ⟨_, rfl, int_res hC0 _⟩
  · replace hF := ite_f hF hc1
    refine W_skip ?_
    refine nrm_normal ?_
    refine W_seq_reg ?_
    refine WL_move rfl rfl ?_
    refine WL_assign rfl rfl ?_
    refine WL_nil ?_
    refine W_ret ?_
    have hq2 := Option.some.inj hF
    subst hq2
    refine fn_ret1 rfl rfl ?_
    exact ⟨_, rfl, int_res hC0 _⟩

theorem c_Q_szFact {w0 : World} (a1 : (Int × (List Int))) (u1 : Value) (g1 : RO [] w0 u1 a1.2) (a2 : Int) (rr : Int) (hF : Q.szFact a1 a2 = some rr) :
    Calls Try.prog 126 [(.agg #[(.int .i64 a1.1), u1]), (.int .i64 a2)].toArray w0 fun e w' => ∃ v, e = .returned v ∧ Res w0 rr v w' := by
  refine calls_of_W Try.func126 rfl rfl ?_
  have hC0 := Ctx.start w0
  unfold Q.szFact at hF
  refine W_seq_reg ?_
  refine WL_box (cs := [(.int .i64 a1.1), u1]) hC0 rfl rfl rfl (fun b1 w1 hC1 hB1 => ?_)
  refine WL_assign rfl rfl ?_
  refine WL_nil ?_
  refine W_seq_reg ?_
  refine WL_field Try.underlying164 rfl rfl (fun w => ⟨_, Try.sizeOf22 w⟩) rfl rfl ?_
  refine WL_load_box hC1 0 rfl rfl Try.isAgg22 rfl rfl ?_
  refine WL_move rfl rfl ?_
  obtain ⟨x1, hr1, hF⟩ := bind_some hF
  refine WL_call Try.call88 rfl rfl (c_Q_szIntS a1.2 u1 (g1.now hC1.keep) a2 x1 hr1) ?_
  intro _ w2 hv1
  obtain ⟨rfl, hB2⟩ := res_int hv1
  have hC2 := hC1.grow hB2
  refine WL_assign rfl rfl ?_
  refine WL_nil ?_
  refine W_seq ?_
  refine W_seq_reg ?_
  refine WL_move rfl rfl ?_
  refine WL_lss rfl rfl rfl ?_
  refine WL_nil ?_
  refine W_cond rfl (fun hc1 => ?_) (fun hc1 => ?_)
  · replace hF := ite_t hF hc1
    refine W_seq_reg ?_
    refine WL_assign rfl rfl ?_
    refine WL_nil ?_
    refine W_ret ?_
    refine nrm_ret ?_
    have hq1 := Option.some.inj hF
    subst hq1
    refine fn_ret1 rfl rfl ?_
    exact ⟨_, rfl, int_res hC2 _⟩
  · replace hF := ite_f hF hc1
    refine W_skip ?_
    refine nrm_normal ?_
    refine W_seq_reg ?_
    refine WL_move rfl rfl ?_
    refine WL_assign rfl rfl ?_
    refine WL_nil ?_
    refine W_ret ?_
    have hq2 := Option.some.inj hF
    subst hq2
    refine fn_ret1 rfl rfl ?_
    exact ⟨_, rfl, int_res hC2 _⟩

theorem c_Q_szFactS {w0 : World} (a1 : (List (Int × (List Int)))) (u1 : Value) (g1 : RO [] w0 u1 a1) (a2 : Int) (rr : Int) (hF : Q.szFactS a1 a2 = some rr) :
    Calls Try.prog 81 [u1, (.int .i64 a2)].toArray w0 fun e w' => ∃ v, e = .returned v ∧ Res w0 rr v w' := by
  refine calls_of_W Try.func81 rfl rfl ?_
  have hC0 := Ctx.start w0
  unfold Q.szFactS at hF
  refine W_seq_reg ?_
  refine WL_assign rfl rfl ?_
  refine WL_nil ?_
  refine W_seq_reg ?_
  refine WL_move rfl rfl ?_
  refine WL_move rfl rfl ?_
  refine WL_len Try.underlying95 g1 rfl rfl ?_
  refine WL_sub rfl rfl rfl ?_
  refine WL_assign rfl rfl ?_
  refine WL_nil ?_
  refine W_seq ?_
  refine W_seq_reg ?_
  refine WL_move rfl rfl ?_
  refine WL_lss rfl rfl rfl ?_
  refine WL_nil ?_
  refine W_cond rfl (fun hc1 => ?_) (fun hc1 => ?_)
  · replace hF := ite_t hF hc1
    refine W_seq_reg ?_
    refine WL_assign rfl rfl ?_
    refine WL_nil ?_
    refine W_ret ?_
    refine nrm_ret ?_
    have hq1 := Option.some.inj hF
    subst hq1
    refine fn_ret1 rfl rfl ?_
    exact ⟨_, rfl, int_res hC0 _⟩
  · replace hF := ite_f hF hc1
    refine W_skip ?_
    refine nrm_normal ?_
    refine W_seq ?_
    refine W_seq_reg ?_
    refine WL_assign rfl rfl ?_
    refine WL_nil ?_
    obtain ⟨r1, hr1, hF⟩ := bind_some hF
    refine W_norm (fun l w => ∃ x3 : Int, .inl x3 = r1 ∧ l = [(1, (.int .i64 x3))] ∧ Below w0.heap.size w0 w ∧ Ctx [] w0 w []) ?_ ?_
    · refine W_block ?_
      refine W.sub (l' := [(0, u1), (1, (.int .i64 (w64 (a2 - (List.length a1 : Int))))), (5, (.int .i64 0))]) ?_ ⟨rfl, rfl, rfl, trivial⟩
      refine W_loop (fun k l w => ∃ x1 : Int, ∃ x2 : Int, l = [(0, u1), (1, (.int .i64 x1)), (5, (.int .i64 x2))] ∧ Below w0.heap.size w0 w ∧ Ctx [] w0 w [] ∧ Q.szFactS_l1 a1 k x1 x2 = some r1) FUEL ⟨w64 (a2 - (List.length a1 : Int)), 0, rfl, (Below.refl _ _), hC0, hr1⟩ ?_
      clear hr1
      rintro k1 _ w1 ⟨x1, x2, rfl, hB1, hC1, hL1⟩
      cases k1 with
      | zero => rw [Q.szFactS_l1] at hL1; cases hL1
      | succ k1 =>
        rw [Q.szFactS_l1] at hL1
        refine W_seq ?_
        refine W_seq_reg ?_
        refine WL_move rfl rfl ?_
        refine WL_move rfl rfl ?_
        refine WL_len Try.underlying95 g1 rfl rfl ?_
        refine WL_lss rfl rfl rfl ?_
        refine WL_nil ?_
        refine W_cond rfl (fun hc2 => ?_) (fun hc2 => ?_)
        · replace hL1 := ite_t hL1 hc2
          refine W_skip ?_
          refine nrm_normal ?_
          refine W_seq ?_
          refine W_block ?_
          refine W_seq_reg ?_
          refine WL_move rfl rfl ?_
          refine WL_move rfl rfl ?_
          obtain ⟨x4, hx1, hL1⟩ := bind_some hL1
          refine WL_index Try.underlying95 ty164 g1 hx1 rfl rfl rfl (fun b1 o1 h1 => ?_)
          refine WL_load ty164 h1 hC1.keep rfl rfl (fun v1 h2 => ?_)
          obtain ⟨v2, rfl, h3⟩ := ro_st164 h2
          refine WL_move rfl rfl ?_
          obtain ⟨x5, hr2, hL1⟩ := bind_some hL1
          refine WL_call Try.call126 rfl rfl (c_Q_szFact x4 v2 (h3.now hC1.keep) x1 x5 hr2) ?_
          intro _ w2 hv1
          obtain ⟨rfl, hB2⟩ := res_int hv1
          have hC2 := hC1.grow hB2
          refine WL_assign rfl rfl ?_
          refine WL_nil ?_
          refine W_seq_reg ?_
          refine WL_move rfl rfl ?_
          refine WL_lss rfl rfl rfl ?_
          refine WL_nil ?_
          refine W_cond rfl (fun hc3 => ?_) (fun hc3 => ?_)
          · replace hL1 := ite_t hL1 hc3
            refine W_seq_reg ?_
            refine WL_assign rfl rfl ?_
            refine WL_nil ?_
            refine W_ret ?_
            refine blk_ret ?_
            refine nrm_ret ?_
            refine nrm_ret ?_
            refine blk_ret ?_
            refine nrm_ret ?_
            refine nrm_ret ?_
            have hq2 := Option.some.inj hL1
            subst hq2
            dsimp only at hF
            have hq3 := Option.some.inj hF
            subst hq3
            refine fn_ret1 rfl rfl ?_
            exact ⟨_, rfl, int_res hC2 _⟩
          · replace hL1 := ite_f hL1 hc3
            refine W_skip ?_
            refine blk_normal ?_
            refine nrm_normal ?_
            refine W_reg ?_
            refine WL_move rfl rfl ?_
            refine WL_add rfl rfl rfl ?_
            refine WL_assign rfl rfl ?_
            refine WL_nil ?_
            refine nrm_sub (l' := [(0, u1), (1, (.int .i64 x5)), (5, (.int .i64 (w64 (x2 + 1))))]) ⟨rfl, rfl, rfl, trivial⟩ ?_
            exact ⟨k1, Nat.lt_succ_self _, x5, w64 (x2 + 1), rfl, ((Keep.of hB1).then hB2).below, hC2, hL1⟩
        · replace hL1 := ite_f hL1 hc2
          refine W_exit ?_
          refine nrm_exit ?_
          refine nrm_exit ?_
          refine blk_exit ?_
          have hq4 := Option.some.inj hL1
          subst hq4
          refine nrm_sub (l' := [(1, (.int .i64 x1))]) ⟨rfl, trivial⟩ ?_
          exact ⟨x1, rfl, rfl, (Keep.of hB1).below, hC1⟩
    · rintro l2 _ w3 hs2 ⟨x3, rfl, rfl, hB3, hC3⟩
      try dsimp only at hF
      refine nrm_sub' hs2 ?_
      clear hs2
      refine W_seq_reg ?_
      refine WL_move rfl rfl ?_
      refine WL_assign rfl rfl ?_
      refine WL_nil ?_
      refine W_ret ?_
      have hq5 := Option.some.inj hF
      subst hq5
      refine fn_ret1 rfl rfl ?_
      exact ⟨_, rfl, int_res hC3 _⟩

theorem c_Q_szAccess {w0 : World} (a1 : (Int × (List Int))) (u1 : Value) (g1 : RO [] w0 u1 a1.2) (a2 : Int) (rr : Int) (hF : Q.szAccess a1 a2 = some rr) :
    Calls Try.prog 108 [(.agg #[(.int .i64 a1.1), u1]), (.int .i64 a2)].toArray w0 fun e w' => ∃ v, e = .returned v ∧ Res w0 rr v w' := by
  refine calls_of_W Try.func108 rfl rfl ?_
  have hC0 := Ctx.start w0
  unfold Q.szAccess at hF
  refine W_seq_reg ?_
  refine WL_box (cs := [(.int .i64 a1.1), u1]) hC0 rfl rfl rfl (fun b1 w1 hC1 hB1 => ?_)
  refine WL_assign rfl rfl ?_
  refine WL_nil ?_
  refine W_seq_reg ?_
  refine WL_field Try.underlying106 rfl rfl (fun w => ⟨_, Try.sizeOf22 w⟩) rfl rfl ?_
  refine WL_load_box hC1 0 rfl rfl Try.isAgg22 rfl rfl ?_
  refine WL_move rfl rfl ?_
  obtain ⟨x1, hr1, hF⟩ := bind_some hF
  refine WL_call Try.call88 rfl rfl (c_Q_szIntS a1.2 u1 (g1.now hC1.keep) a2 x1 hr1) ?_
  intro _ w2 hv1
  obtain ⟨rfl, hB2⟩ := res_int hv1
  have hC2 := hC1.grow hB2
  refine WL_assign rfl rfl ?_
  refine WL_nil ?_
  refine W_seq ?_
  refine W_seq_reg ?_
  refine WL_move rfl rfl ?_
  refine WL_lss rfl rfl rfl ?_
  refine WL_nil ?_
  refine W_cond rfl (fun hc1 => ?_) (fun hc1 => ?_)
  · replace hF := ite_t hF hc1
    refine W_seq_reg ?_
    refine WL_assign rfl rfl ?_
    refine WL_nil ?_
    refine W_ret ?_
    refine nrm_ret ?_
    have hq1 := Option.some.inj hF
    subst hq1
    refine fn_ret1 rfl rfl ?_
    exact ⟨_, rfl, int_res hC2 _⟩
  · replace hF := ite_f hF hc1
    refine W_skip ?_
    refine nrm_normal ?_
    refine W_seq_reg ?_
    refine WL_move rfl rfl ?_
    refine WL_assign rfl rfl ?_
    refine WL_nil ?_
    refine W_ret ?_
    have hq2 := Option.some.inj hF
    subst hq2
    refine fn_ret1 rfl rfl ?_
    exact ⟨_, rfl, int_res hC2 _⟩

theorem c_Q_szTold {w0 : World} (a1 : ((Int × (List Int)) × (List (Int × (List Int))))) (u1 : Value) (g1 : RO [] w0 u1 a1.1.2) (u2 : Value) (g2 : RO [] w0 u2 a1.2) (a2 : Int) (rr : Int) (hF : Q.szTold a1 a2 = some rr) :
    Calls Try.prog 69 [(.agg #[(.int .i64 a1.1.1), u1, u2]), (.int .i64 a2)].toArray w0 fun e w' => ∃ v, e = .returned v ∧ Res w0 rr v w' := by
  refine calls_of_W Try.func69 rfl rfl ?_
  have hC0 := Ctx.start w0
  unfold Q.szTold at hF
  refine W_seq_reg ?_
  refine WL_box (cs := [(.int .i64 a1.1.1), u1, u2]) hC0 rfl rfl rfl (fun b1 w1 hC1 hB1 => ?_)
  refine WL_assign rfl rfl ?_
  refine WL_nil ?_
  refine W_seq_reg ?_
  refine WL_field Try.underlying108 rfl rfl (fun w => ⟨_, Try.sizeOf106 w⟩) rfl rfl ?_
  refine WL_load_box_agg [(.int .i64 a1.1.1), u1] hC1 0 rfl rfl rfl Try.isAgg106 Try.sizeOf106 rfl rfl ?_
  refine WL_move rfl rfl ?_
  obtain ⟨x1, hr1, hF⟩ := bind_some hF
  refine WL_call Try.call108 rfl rfl (c_Q_szAccess (a1.1.1, a1.1.2) u1 (g1.now hC1.keep) a2 x1 hr1) ?_
  intro _ w2 hv1
  obtain ⟨rfl, hB2⟩ := res_int hv1
  have hC2 := hC1.grow hB2
  refine WL_assign rfl rfl ?_
  refine WL_nil ?_
  refine W_seq ?_
  refine W_seq_reg ?_
  refine WL_move rfl rfl ?_
  refine WL_lss rfl rfl rfl ?_
  refine WL_nil ?_
  refine W_cond rfl (fun hc1 => ?_) (fun hc1 => ?_)
  · replace hF := ite_t hF hc1
    refine W_seq_reg ?_
    refine WL_assign rfl rfl ?_
    refine WL_nil ?_
    refine W_ret ?_
    refine nrm_ret ?_
    have hq1 := Option.some.inj hF
    subst hq1
    refine fn_ret1 rfl rfl ?_
    exact ⟨_, rfl, int_res hC2 _⟩
  · replace hF := ite_f hF hc1
    refine W_skip ?_
    refine nrm_normal ?_
    refine W_seq_reg ?_
    refine WL_field Try.underlying108 rfl rfl (fun w => ⟨_, Try.sizeOf95 w⟩) rfl rfl ?_
    refine WL_load_box hC2 0 rfl rfl Try.isAgg95 rfl rfl ?_
    refine WL_move rfl rfl ?_
    obtain ⟨x2, hr2, hF⟩ := bind_some hF
    refine WL_call Try.call81 rfl rfl (c_Q_szFactS a1.2 u2 (g2.now hC2.keep) x1 x2 hr2) ?_
    intro _ w3 hv2
    obtain ⟨rfl, hB3⟩ := res_int hv2
    have hC3 := hC2.grow hB3
    refine WL_assign rfl rfl ?_
    refine WL_nil ?_
    refine W_seq ?_
    refine W_seq_reg ?_
    refine WL_move rfl rfl ?_
    refine WL_lss rfl rfl rfl ?_
    refine WL_nil ?_
    refine W_cond rfl (fun hc2 => ?_) (fun hc2 => ?_)
    · replace hF := ite_t hF hc2
      refine W_seq_reg ?_
      refine WL_assign rfl rfl ?_
      refine WL_nil ?_
      refine W_ret ?_
      refine nrm_ret ?_
      have hq2 := Option.some.inj hF
      subst hq2
      refine fn_ret1 rfl rfl ?_
      exact ⟨_, rfl, int_res hC3 _⟩
    · replace hF := ite_f hF hc2
      refine W_skip ?_
      refine nrm_normal ?_
      refine W_seq_reg ?_
      refine WL_move rfl rfl ?_
      refine WL_assign rfl rfl ?_
      refine WL_nil ?_
      refine W_ret ?_
      have hq3 := Option.some.inj hF
      subst hq3
      refine fn_ret1 rfl rfl ?_
      exact ⟨_, rfl, int_res hC3 _⟩

theorem c_Q_szToldS {w0 : World} (a1 : (List ((Int × (List Int)) × (List (Int × (List Int)))))) (u1 : Value) (g1 : RO [] w0 u1 a1) (a2 : Int) (rr : Int) (hF : Q.szToldS a1 a2 = some rr) :
    Calls Try.prog 74 [u1, (.int .i64 a2)].toArray w0 fun e w' => ∃ v, e = .returned v ∧ Res w0 rr v w' := by
  refine calls_of_W Try.func74 rfl rfl ?_
  have hC0 := Ctx.start w0
  unfold Q.szToldS at hF
  refine W_seq_reg ?_
  refine WL_assign rfl rfl ?_
  refine WL_nil ?_
  refine W_seq_reg ?_
  refine WL_move rfl rfl ?_
  refine WL_move rfl rfl ?_
  refine WL_len Try.underlying116 g1 rfl rfl ?_
  refine WL_sub rfl rfl rfl ?_
  refine WL_assign rfl rfl ?_
  refine WL_nil ?_
  refine W_seq ?_
  refine W_seq_reg ?_
  refine WL_move rfl rfl ?_
  refine WL_lss rfl rfl rfl ?_
  refine WL_nil ?_
  refine W_cond rfl (fun hc1 => ?_) (fun hc1 => ?_)
  · replace hF := ite_t hF hc1
    refine W_seq_reg ?_
    refine WL_assign rfl rfl ?_
    refine WL_nil ?_
    refine W_ret ?_
    refine nrm_ret ?_
    have hq1 := Option.some.inj hF
    subst hq1
    refine fn_ret1 rfl rfl ?_
    exact ⟨_, rfl, int_res hC0 _⟩
  · replace hF := ite_f hF hc1
    refine W_skip ?_
    refine nrm_normal ?_
    refine W_seq ?_
    refine W_seq_reg ?_
    refine WL_assign rfl rfl ?_
    refine WL_nil ?_
    obtain ⟨r1, hr1, hF⟩ := bind_some hF
    refine W_norm (fun l w => ∃ x3 : Int, .inl x3 = r1 ∧ l = [(1, (.int .i64 x3))] ∧ Below w0.heap.size w0 w ∧ Ctx [] w0 w []) ?_ ?_
    · refine W_block ?_
      refine W.sub (l' := [(0, u1), (1, (.int .i64 (w64 (a2 - (List.length a1 : Int))))), (5, (.int .i64 0))]) ?_ ⟨rfl, rfl, rfl, trivial⟩
      refine W_loop (fun k l w => ∃ x1 : Int, ∃ x2 : Int, l = [(0, u1), (1, (.int .i64 x1)), (5, (.int .i64 x2))] ∧ Below w0.heap.size w0 w ∧ Ctx [] w0 w [] ∧ Q.szToldS_l1 a1 k x1 x2 = some r1) FUEL ⟨w64 (a2 - (List.length a1 : Int)), 0, rfl, (Below.refl _ _), hC0, hr1⟩ ?_
      clear hr1
      rintro k1 _ w1 ⟨x1, x2, rfl, hB1, hC1, hL1⟩
      cases k1 with
      | zero => rw [Q.szToldS_l1] at hL1; cases hL1
      | succ k1 =>
        rw [Q.szToldS_l1] at hL1
        refine W_seq ?_
        refine W_seq_reg ?_
        refine WL_move rfl rfl ?_
        refine WL_move rfl rfl ?_
        refine WL_len Try.underlying116 g1 rfl rfl ?_
        refine WL_lss rfl rfl rfl ?_
        refine WL_nil ?_
        refine W_cond rfl (fun hc2 => ?_) (fun hc2 => ?_)
        · replace hL1 := ite_t hL1 hc2
          refine W_skip ?_
          refine nrm_normal ?_
          refine W_seq ?_
          refine W_block ?_
          refine W_seq_reg ?_
          refine WL_move rfl rfl ?_
          refine WL_move rfl rfl ?_
          obtain ⟨x4, hx1, hL1⟩ := bind_some hL1
          refine WL_index Try.underlying116 ty108 g1 hx1 rfl rfl rfl (fun b1 o1 h1 => ?_)
          refine WL_load ty108 h1 hC1.keep rfl rfl (fun v1 h2 => ?_)
          obtain ⟨v2, v3, rfl, h3, h4⟩ := ro_st108 h2
          refine WL_move rfl rfl ?_
          obtain ⟨x5, hr2, hL1⟩ := bind_some hL1
          refine WL_call Try.call69 rfl rfl (c_Q_szTold x4 v2 (h3.now hC1.keep) v3 (h4.now hC1.keep) x1 x5 hr2) ?_
          intro _ w2 hv1
          obtain ⟨rfl, hB2⟩ := res_int hv1
          have hC2 := hC1.grow hB2
          refine WL_assign rfl rfl ?_
          refine WL_nil ?_
          refine W_seq_reg ?_
          refine WL_move rfl rfl ?_
          refine WL_lss rfl rfl rfl ?_
          refine WL_nil ?_
          refine W_cond rfl (fun hc3 => ?_) (fun hc3 => ?_)
          · replace hL1 := ite_t hL1 hc3
            refine W_seq_reg ?_
            refine WL_assign rfl rfl ?_
            refine WL_nil ?_
            refine W_ret ?_
            refine blk_ret ?_
            refine nrm_ret ?_
            refine nrm_ret ?_
            refine blk_ret ?_
            refine nrm_ret ?_
            refine nrm_ret ?_
            have hq2 := Option.some.inj hL1
            subst hq2
            dsimp only at hF
            have hq3 := Option.some.inj hF
            subst hq3
            refine fn_ret1 rfl rfl ?_
            exact ⟨_, rfl, int_res hC2 _⟩
          · replace hL1 := ite_f hL1 hc3
            refine W_skip ?_
            refine blk_normal ?_
            refine nrm_normal ?_
            refine W_reg ?_
            refine WL_move rfl rfl ?_
            refine WL_add rfl rfl rfl ?_
            refine WL_assign rfl rfl ?_
            refine WL_nil ?_
            refine nrm_sub (l' := [(0, u1), (1, (.int .i64 x5)), (5, (.int .i64 (w64 (x2 + 1))))]) ⟨rfl, rfl, rfl, trivial⟩ ?_
            exact ⟨k1, Nat.lt_succ_self _, x5, w64 (x2 + 1), rfl, ((Keep.of hB1).then hB2).below, hC2, hL1⟩
        · replace hL1 := ite_f hL1 hc2
          refine W_exit ?_
          refine nrm_exit ?_
          refine nrm_exit ?_
          refine blk_exit ?_
          have hq4 := Option.some.inj hL1
          subst hq4
          refine nrm_sub (l' := [(1, (.int .i64 x1))]) ⟨rfl, trivial⟩ ?_
          exact ⟨x1, rfl, rfl, (Keep.of hB1).below, hC1⟩
    · rintro l2 _ w3 hs2 ⟨x3, rfl, rfl, hB3, hC3⟩
      try dsimp only at hF
      refine nrm_sub' hs2 ?_
      clear hs2
      refine W_seq_reg ?_
      refine WL_move rfl rfl ?_
      refine WL_assign rfl rfl ?_
      refine WL_nil ?_
      refine W_ret ?_
      have hq5 := Option.some.inj hF
      subst hq5
      refine fn_ret1 rfl rfl ?_
      exact ⟨_, rfl, int_res hC3 _⟩

theorem c_S_l2Has {w0 : World} (a1 : (List Int)) (u1 : Value) (g1 : RO [] w0 u1 a1) (a2 : Int) (rr : Bool) (hF : S.l2Has a1 a2 = some rr) :
    Calls Try.prog 91 [u1, (.int .i64 a2)].toArray w0 fun e w' => ∃ v, e = .returned v ∧ Res w0 rr v w' := by
  refine calls_of_W Try.func91 rfl rfl ?_
  have hC0 := Ctx.start w0
  unfold S.l2Has at hF
  refine W_seq_reg ?_
  refine WL_assign rfl rfl ?_
  refine WL_nil ?_
  refine W_seq ?_
  refine W_seq_reg ?_
  refine WL_assign rfl rfl ?_
  refine WL_nil ?_
  obtain ⟨r1, hr1, hF⟩ := bind_some hF
  refine W_norm (fun l w => .inl () = r1 ∧ l = [] ∧ Below w0.heap.size w0 w ∧ Ctx [] w0 w []) ?_ ?_
  · refine W_block ?_
    refine W.sub (l' := [(0, u1), (1, (.int .i64 a2)), (5, (.int .i64 0))]) ?_ ⟨rfl, rfl, rfl, trivial⟩
    refine W_loop (fun k l w => ∃ x1 : Int, l = [(0, u1), (1, (.int .i64 a2)), (5, (.int .i64 x1))] ∧ Below w0.heap.size w0 w ∧ Ctx [] w0 w [] ∧ S.l2Has_l1 a1 a2 k x1 = some r1) FUEL ⟨0, rfl, (Below.refl _ _), hC0, hr1⟩ ?_
    clear hr1
    rintro k1 _ w1 ⟨x1, rfl, hB1, hC1, hL1⟩
    cases k1 with
    | zero => rw [S.l2Has_l1] at hL1; cases hL1
    | succ k1 =>
      rw [S.l2Has_l1] at hL1
      refine W_seq ?_
      refine W_seq_reg ?_
      refine WL_move rfl rfl ?_
      refine WL_move rfl rfl ?_
      refine WL_len Try.underlying22 g1 rfl rfl ?_
      refine WL_lss rfl rfl rfl ?_
      refine WL_nil ?_
      refine W_cond rfl (fun hc1 => ?_) (fun hc1 => ?_)
      · replace hL1 := ite_t hL1 hc1
        refine W_skip ?_
        refine nrm_normal ?_
        refine W_seq ?_
        refine W_block ?_
        refine W_seq_reg ?_
        refine WL_move rfl rfl ?_
        refine WL_move rfl rfl ?_
        obtain ⟨x2, hx1, hL1⟩ := bind_some hL1
        refine WL_index Try.underlying22 ty3 g1 hx1 rfl rfl rfl (fun b1 o1 h1 => ?_)
        refine WL_load ty3 h1 hC1.keep rfl rfl (fun v1 h2 => ?_)
        obtain rfl := ro_int h2
        refine WL_move rfl rfl ?_
        refine WL_eql rfl rfl rfl ?_
        refine WL_nil ?_
        refine W_cond rfl (fun hc2 => ?_) (fun hc2 => ?_)
        · replace hL1 := ite_t hL1 hc2
          refine W_seq_reg ?_
          refine WL_assign rfl rfl ?_
          refine WL_nil ?_
          refine W_ret ?_
          refine blk_ret ?_
          refine nrm_ret ?_
          refine nrm_ret ?_
          refine blk_ret ?_
          refine nrm_ret ?_
          refine nrm_ret ?_
          have hq1 := Option.some.inj hL1
          subst hq1
          dsimp only at hF
          have hq2 := Option.some.inj hF
          subst hq2
          refine fn_ret1 rfl rfl ?_
          exact ⟨_, rfl, bool_res hC1 _⟩
        · replace hL1 := ite_f hL1 hc2
          refine W_skip ?_
          refine blk_normal ?_
          refine nrm_normal ?_
          refine W_reg ?_
          refine WL_move rfl rfl ?_
          refine WL_add rfl rfl rfl ?_
          refine WL_assign rfl rfl ?_
          refine WL_nil ?_
          refine nrm_sub (l' := [(0, u1), (1, (.int .i64 a2)), (5, (.int .i64 (w64 (x1 + 1))))]) ⟨rfl, rfl, rfl, trivial⟩ ?_
          exact ⟨k1, Nat.lt_succ_self _, w64 (x1 + 1), rfl, (Keep.of hB1).below, hC1, hL1⟩
      · replace hL1 := ite_f hL1 hc1
        refine W_exit ?_
        refine nrm_exit ?_
        refine nrm_exit ?_
        refine blk_exit ?_
        have hq3 := Option.some.inj hL1
        subst hq3
        refine nrm_sub (l' := []) trivial ?_
        exact ⟨rfl, rfl, (Keep.of hB1).below, hC1⟩
  · rintro l2 _ w2 hs2 ⟨rfl, rfl, hB2, hC2⟩
    try dsimp only at hF
    refine nrm_sub' hs2 ?_
    clear hs2
    refine W_seq_reg ?_
    refine WL_assign rfl rfl ?_
    refine WL_nil ?_
    refine W_ret ?_
    have hq4 := Option.some.inj hF
    subst hq4
    refine fn_ret1 rfl rfl ?_
    exact ⟨_, rfl, bool_res hC2 _⟩

theorem c_S_l8Access {w0 : World} (a1 : Int) (a2 : (List Int)) (u1 : Value) (g1 : RO [] w0 u1 a2) (rr : (Int × (List Int))) (hF : S.l8Access a1 a2 = some rr) :
    Calls Try.prog 153 [(.int .i64 a1), u1].toArray w0 fun e w' => ∃ v, e = .returned v ∧ Res w0 rr v w' := by
  refine calls_of_W Try.func153 rfl rfl ?_
  have hC0 := Ctx.start w0
  unfold S.l8Access at hF
  refine W_seq_reg ?_
  refine WL_alloc hC0 zero89 rfl rfl (fun b1 w1 hC1 hB1 => ?_)
  refine WL_nil ?_
  refine W_seq_reg ?_
  refine WL_move rfl rfl ?_
  refine WL_buildSlice (vs := []) hC1 Try.underlying22 ty3 rfl rfl rfl rfl (by simp) rfl rfl (fun b2 w2 hC2 hB2 => ?_)
  have hC3 := hC2.row0 (α := Int)
  have hC4 := hC3.front 1 rfl
  dsimp only [List.eraseIdx, List.cons_append, List.nil_append, List.append_nil] at hC4
  have hC5 : Ctx [] w0 w2 (Item.own (.slice (some ⟨b2, 0, none⟩) 0 0) (([] : List Int) : List Int) :: [Item.box b1 [(.int .i64 0), (.slice none 0 0)]]) := hC4.rowOwn (by simp [maxLen])
  refine WL_move rfl rfl ?_
  obtain ⟨x1, hx1, hF⟩ := bind_some hF
  refine WL_append_flat (α := Int) hC5 0 rfl g1 hC5.keep Try.underlying22 ty3 rfl hx1 rfl rfl rfl (fun v1 w3 hC6 => ?_)
  try dsimp only [List.set] at hC6
  refine WL_build (vs := [(0, (.int .i64 a1)), (1, v1)]) rfl rfl rfl (built89_0_1 rfl (ro_cells (hC6.ro 0 rfl))) ?_
  refine WL_store_box_agg (cs' := [(.int .i64 a1), v1]) (new := [(.int .i64 a1), v1]) hC6 1 rfl rfl (by intro v hv; simp only [List.mem_cons, List.not_mem_nil, or_false] at hv; rcases hv with rfl | rfl; exact rfl; exact (ro_one (hC6.ro 0 rfl))) rfl Try.sizeOf89 rfl rfl (fun w4 hC7 => ?_)
  try dsimp only [List.set] at hC7
  refine WL_nil ?_
  refine W_ret ?_
  have hq1 := Option.some.inj hF
  subst hq1
  refine fn_retG1 rfl (rv_cell_agg (cs' := [(.int .i64 a1), v1]) hC7 (i := 1) rfl rfl rfl Try.isAgg89 Try.sizeOf89 rfl) ?_
  have hC8 := own_st89 a1 v1 x1 hC7
  exact ⟨_, rfl, own_res hC8 0 rfl⟩

theorem c_S_l2One {w0 : World} (a1 : Int) (a2 : (List Int)) (u1 : Value) (g1 : RO [] w0 u1 a2) (rr : (Int × (List Int))) (hF : S.l2One a1 a2 = some rr) :
    Calls Try.prog 159 [(.int .i64 a1), u1].toArray w0 fun e w' => ∃ v, e = .returned v ∧ Res w0 rr v w' := by
  refine calls_of_W Try.func159 rfl rfl ?_
  have hC0 := Ctx.start w0
  unfold S.l2One at hF
  refine W_seq_reg ?_
  refine WL_alloc hC0 zero165 rfl rfl (fun b1 w1 hC1 hB1 => ?_)
  refine WL_nil ?_
  refine W_seq_reg ?_
  refine WL_move rfl rfl ?_
  refine WL_buildSlice (vs := []) hC1 Try.underlying22 ty3 rfl rfl rfl rfl (by simp) rfl rfl (fun b2 w2 hC2 hB2 => ?_)
  have hC3 := hC2.row0 (α := Int)
  have hC4 := hC3.front 1 rfl
  dsimp only [List.eraseIdx, List.cons_append, List.nil_append, List.append_nil] at hC4
  have hC5 : Ctx [] w0 w2 (Item.own (.slice (some ⟨b2, 0, none⟩) 0 0) (([] : List Int) : List Int) :: [Item.box b1 [(.int .i64 0), (.slice none 0 0)]]) := hC4.rowOwn (by simp [maxLen])
  refine WL_move rfl rfl ?_
  obtain ⟨x1, hx1, hF⟩ := bind_some hF
  refine WL_append_flat (α := Int) hC5 0 rfl g1 hC5.keep Try.underlying22 ty3 rfl hx1 rfl rfl rfl (fun v1 w3 hC6 => ?_)
  try dsimp only [List.set] at hC6
  refine WL_build (vs := [(0, (.int .i64 a1)), (1, v1)]) rfl rfl rfl (built165_0_1 rfl (ro_cells (hC6.ro 0 rfl))) ?_
  refine WL_store_box_agg (cs' := [(.int .i64 a1), v1]) (new := [(.int .i64 a1), v1]) hC6 1 rfl rfl (by intro v hv; simp only [List.mem_cons, List.not_mem_nil, or_false] at hv; rcases hv with rfl | rfl; exact rfl; exact (ro_one (hC6.ro 0 rfl))) rfl Try.sizeOf165 rfl rfl (fun w4 hC7 => ?_)
  try dsimp only [List.set] at hC7
  refine WL_nil ?_
  refine W_ret ?_
  have hq1 := Option.some.inj hF
  subst hq1
  refine fn_retG1 rfl (rv_cell_agg (cs' := [(.int .i64 a1), v1]) hC7 (i := 1) rfl rfl rfl Try.isAgg165 Try.sizeOf165 rfl) ?_
  have hC8 := own_st165 a1 v1 x1 hC7
  exact ⟨_, rfl, own_res hC8 0 rfl⟩

theorem c_S_l2Copy {w0 : World} (a1 : (List (Int × (List Int)))) (u1 : Value) (g1 : RO [] w0 u1 a1) (rr : (List (Int × (List Int)))) (hF : S.l2Copy a1 = some rr) :
    Calls Try.prog 154 [u1].toArray w0 fun e w' => ∃ v, e = .returned v ∧ Res w0 rr v w' := by
  refine calls_of_W Try.func154 rfl rfl ?_
  have hC0 := Ctx.start w0
  unfold S.l2Copy at hF
  refine W_seq_reg ?_
  refine WL_assign rfl rfl ?_
  refine WL_nil ?_
  refine W_seq_reg ?_
  refine WL_buildSlice (vs := []) hC0 Try.underlying100 ty165 rfl rfl rfl rfl (by simp) rfl rfl (fun b1 w1 hC1 hB1 => ?_)
  have hC2 := hC1.row0 (α := (Int × (List Int)))
  have hC3 := hC2.front 1 rfl
  dsimp only [List.eraseIdx, List.cons_append, List.nil_append, List.append_nil] at hC3
  have hC4 : Ctx [] w0 w1 (Item.own (.slice (some ⟨b1, 0, none⟩) 0 0) (([] : List (Int × (List Int))) : List (Int × (List Int))) :: []) := hC3.rowOwn (by simp [maxLen])
  refine WL_assign rfl rfl ?_
  refine WL_nil ?_
  refine W_seq ?_
  refine W_seq_reg ?_
  refine WL_assign rfl rfl ?_
  refine WL_nil ?_
  obtain ⟨r1, hr1, hF⟩ := bind_some hF
  refine W_norm (fun l w => ∃ v2 : Value, ∃ x3 : (List (Int × (List Int))), x3 = r1 ∧ l = [(3, v2)] ∧ Ctx [] w0 w [Item.own v2 (x3 : (List (Int × (List Int))))]) ?_ ?_
  · refine W_block ?_
    refine W.sub (l' := [(0, u1), (3, (.slice (some ⟨b1, 0, none⟩) 0 0)), (4, (.int .i64 0))]) ?_ ⟨rfl, rfl, rfl, trivial⟩
    refine W_loop (fun k l w => ∃ v1 : Value, ∃ x1 : (List (Int × (List Int))), ∃ x2 : Int, l = [(0, u1), (3, v1), (4, (.int .i64 x2))] ∧ Ctx [] w0 w [Item.own v1 (x1 : (List (Int × (List Int))))] ∧ S.l2Copy_l1 a1 k x1 x2 = some r1) FUEL ⟨(.slice (some ⟨b1, 0, none⟩) 0 0), ([] : List (Int × (List Int))), 0, rfl, hC4, hr1⟩ ?_
    clear hr1
    rintro k1 _ w2 ⟨v1, x1, x2, rfl, hC5, hL1⟩
    cases k1 with
    | zero => rw [S.l2Copy_l1] at hL1; cases hL1
    | succ k1 =>
      rw [S.l2Copy_l1] at hL1
      refine W_seq ?_
      refine W_seq_reg ?_
      refine WL_move rfl rfl ?_
      refine WL_move rfl rfl ?_
      refine WL_len Try.underlying100 g1 rfl rfl ?_
      refine WL_lss rfl rfl rfl ?_
      refine WL_nil ?_
      refine W_cond rfl (fun hc1 => ?_) (fun hc1 => ?_)
      · replace hL1 := ite_t hL1 hc1
        refine W_skip ?_
        refine nrm_normal ?_
        refine W_seq ?_
        refine W_block ?_
        refine W_drawn 15 rfl hmix (fun w3 hB3 => ?_)
        have hC6 := hC5.grow hB3
        refine WA_take 0 rfl (by kernel_rfl) (by kernel_rfl) (by kernel_rfl) rfl (fl_move rfl) ?_
        refine WL_move rfl rfl ?_
        refine WL_nil ?_
        refine WA_take 1 rfl (by kernel_rfl) (by kernel_rfl) (by kernel_rfl) rfl (fl_move rfl) ?_
        refine WL_move rfl rfl ?_
        refine WL_nil ?_
        refine WA_take 2 rfl (by kernel_rfl) (by kernel_rfl) (by kernel_rfl) rfl (fl_move rfl) ?_
        refine WL_move rfl rfl ?_
        refine WL_nil ?_
        obtain ⟨x4, hx1, hL1⟩ := bind_some hL1
        refine WA_take 3 rfl (by kernel_rfl) (by kernel_rfl) (by kernel_rfl) rfl (fl_index Try.underlying100 ty165 g1 hx1 rfl rfl) ?_
        refine WL_index Try.underlying100 ty165 g1 hx1 rfl rfl rfl (fun b2 o1 h1 => ?_)
        refine WL_nil ?_
        refine WA_take 4 rfl (by kernel_rfl) (by kernel_rfl) (by kernel_rfl) rfl (fl_field Try.underlying165 rfl rfl (fun w => ⟨_, Try.sizeOf3 w⟩) rfl) ?_
        refine WL_field Try.underlying165 rfl rfl (fun w => ⟨_, Try.sizeOf3 w⟩) rfl rfl ?_
        refine WL_nil ?_
        refine WA_take 6 rfl (by kernel_rfl) (by kernel_rfl) (by kernel_rfl) rfl (fl_move rfl) ?_
        refine WL_move rfl rfl ?_
        refine WL_nil ?_
        refine WA_take 7 rfl (by kernel_rfl) (by kernel_rfl) (by kernel_rfl) rfl (fl_move rfl) ?_
        refine WL_move rfl rfl ?_
        refine WL_nil ?_
        obtain ⟨x5, hx2, hL1⟩ := bind_some hL1
        refine WA_take 8 rfl (by kernel_rfl) (by kernel_rfl) (by kernel_rfl) rfl (fl_index Try.underlying100 ty165 g1 hx2 rfl rfl) ?_
        refine WL_index Try.underlying100 ty165 g1 hx2 rfl rfl rfl (fun b3 o2 h2 => ?_)
        refine WL_nil ?_
        refine WA_take 9 rfl (by kernel_rfl) (by kernel_rfl) (by kernel_rfl) rfl (fl_field Try.underlying165 rfl rfl (fun w => ⟨_, Try.sizeOf22 w⟩) rfl) ?_
        refine WL_field Try.underlying165 rfl rfl (fun w => ⟨_, Try.sizeOf22 w⟩) rfl rfl ?_
        refine WL_nil ?_
        refine WA.sub (l' := [(0, u1), (3, v1), (4, (.int .i64 x2)), (6, (.int .i64 x2)), (7, u1), (8, (.int .i64 (List.length a1 : Int))), (9, (.bool (decide (x2 < (List.length a1 : Int))))), (12, v1), (13, u1), (14, (.int .i64 x2)), (15, (ptr b2 o1)), (16, (ptr b2 (o1 + 0))), (18, u1), (19, (.int .i64 x2)), (20, (ptr b3 o2)), (21, (ptr b3 (o2 + 1)))]) ?_ ⟨rfl, rfl, rfl, rfl, rfl, rfl, rfl, rfl, rfl, rfl, rfl, rfl, rfl, rfl, rfl, rfl, trivial⟩
        refine WA_postsE [⟨5, [], fun vs => PW.val (.int .i64 x4.1), []⟩, ⟨10, [], fun vs => PW.ro [] w0 x5.2, []⟩] [[], []] 4 rfl (by kernel_rfl) (by kernel_rfl) rfl ?_ ?_
        · refine StepsE_cons rfl ?_ ?_
          · intro w4 hB4
            refine DepsE_nil ?_
            refine ⟨_, rfl, ?_⟩
            refine WL_load ty3 h1.fst (hC6.keep.then hB4) rfl rfl (fun v3 h3 => ?_)
            obtain rfl := ro_int h3
            refine WL_nil ?_
            exact FinE_val (Below.refl _ _) rfl rfl ⟨rfl, rfl⟩
          refine StepsE_cons rfl ?_ ?_
          · intro w4 hB4
            refine DepsE_nil ?_
            refine ⟨_, rfl, ?_⟩
            refine WL_load ty22 h2.snd (hC6.keep.then hB4) rfl rfl (fun v4 h4 => ?_)
            refine WL_nil ?_
            exact FinE_val (Below.refl _ _) rfl rfl ⟨rfl, h4⟩
          exact StepsE_nil
        · intro w5 hB5
          refine AllE_cons rfl rfl rfl ?_
          rintro _ _ ⟨rfl, rfl⟩
          refine AllE_cons rfl rfl rfl ?_
          rintro v4 _ ⟨rfl, h4⟩
          refine AllE_nil ?_
          intro hn1 hb1
          have hC7 := hC6.grow hB5
          obtain ⟨x6, hr2, hL1⟩ := bind_some hL1
          refine WA_one 11 (by kernel_rfl) rfl ?_
          refine WL_call Try.call159 rfl rfl (c_S_l2One x4.1 x5.2 v4 (h4.now hC7.keep) x6 hr2) ?_
          rintro v5 w6 ⟨hB6, F1, hv1, hn2, hb2⟩
          have hC8 := hC7.push hB6 (A := Item.own v5 x6) hv1 hn2 hb2
          obtain ⟨v6, rfl, hC9⟩ := st165_own hC8
          refine WL_nil ?_
          refine WA_one 12 (by kernel_rfl) rfl ?_
          refine WL_buildSlice (vs := [(.agg #[(.int .i64 x6.1), v6])]) hC9 Try.underlying100 ty165 rfl rfl rfl rfl (by intro v hv; simp only [List.mem_cons, List.not_mem_nil, or_false] at hv; rcases hv with rfl <;> rfl) rfl rfl (fun b4 w7 hC10 hB7 => ?_)
          have hC11 := hC10.row0 (α := (Int × (List Int)))
          have hC13 := hC11.front 2 rfl
          dsimp only [List.eraseIdx, List.cons_append, List.nil_append, List.append_nil] at hC13
          have hC12 := own_st165 x6.1 v6 x6.2 hC13
          have hC14 := hC12.row1
          have hC15 := hC14.front 1 rfl
          dsimp only [List.eraseIdx, List.cons_append, List.nil_append, List.append_nil] at hC15
          have hC16 : Ctx [] w0 w7 (Item.own (.slice (some ⟨b4, 0, none⟩) 1 1) ([(x6.1, x6.2)] : List (Int × (List Int))) :: [Item.own v1 (x1 : (List (Int × (List Int))))]) := hC15.rowOwn (by simp [maxLen])
          refine WL_nil ?_
          obtain ⟨x7, hx3, hL1⟩ := bind_some hL1
          refine WA_one 13 (by kernel_rfl) rfl ?_
          refine WL_append_head hC16 0 rfl Try.underlying100 ty165 rfl hx3 rfl rfl rfl (fun v7 w8 hC17 => ?_)
          try dsimp only [List.set] at hC17
          refine WL_nil ?_
          refine WA_take 14 rfl (by kernel_rfl) (by kernel_rfl) (by kernel_rfl) rfl (fl_assign rfl) ?_
          refine WL_assign rfl rfl ?_
          refine WL_nil ?_
          refine WA_done (by kernel_rfl) ?_
          refine blk_normal ?_
          refine nrm_normal ?_
          refine W_reg ?_
          refine WL_move rfl rfl ?_
          refine WL_add rfl rfl rfl ?_
          refine WL_assign rfl rfl ?_
          refine WL_nil ?_
          refine nrm_sub (l' := [(0, u1), (3, v7), (4, (.int .i64 (w64 (x2 + 1))))]) ⟨rfl, rfl, rfl, trivial⟩ ?_
          exact ⟨k1, Nat.lt_succ_self _, v7, x7, w64 (x2 + 1), rfl, hC17, hL1⟩
      · replace hL1 := ite_f hL1 hc1
        refine W_exit ?_
        refine nrm_exit ?_
        refine nrm_exit ?_
        refine blk_exit ?_
        have hq1 := Option.some.inj hL1
        subst hq1
        refine nrm_sub (l' := [(3, v1)]) ⟨rfl, trivial⟩ ?_
        exact ⟨v1, x1, rfl, rfl, hC5⟩
  · rintro l2 _ w9 hs2 ⟨v2, x3, rfl, rfl, hC19⟩
    try dsimp only at hF
    refine nrm_sub' hs2 ?_
    clear hs2
    refine W_seq_reg ?_
    refine WL_move rfl rfl ?_
    refine WL_assign rfl rfl ?_
    refine WL_nil ?_
    refine W_ret ?_
    have hq2 := Option.some.inj hF
    subst hq2
    refine fn_ret1 rfl rfl ?_
    exact ⟨_, rfl, own_res hC19 0 rfl⟩

theorem c_S_l29Told {w0 : World} (a1 : ((Int × (List Int)) × (List (Int × (List Int))))) (u1 : Value) (g1 : RO [] w0 u1 a1.1.2) (u2 : Value) (g2 : RO [] w0 u2 a1.2) (rr : ((Int × (List Int)) × (List (Int × (List Int))))) (hF : S.l29Told a1 = some rr) :
    Calls Try.prog 123 [(.agg #[(.int .i64 a1.1.1), u1, u2])].toArray w0 fun e w' => ∃ v, e = .returned v ∧ Res w0 rr v w' := by
  refine calls_of_W Try.func123 rfl rfl ?_
  have hC0 := Ctx.start w0
  unfold S.l29Told at hF
  refine W_seq_reg ?_
  refine WL_box (cs := [(.int .i64 a1.1.1), u1, u2]) hC0 rfl rfl rfl (fun b1 w1 hC1 hB1 => ?_)
  refine WL_alloc hC1 zero112 rfl rfl (fun b2 w2 hC2 hB2 => ?_)
  refine WL_nil ?_
  refine W_seq ?_
  refine W_drawn 12 rfl hmix (fun w3 hB3 => ?_)
  have hC3 := hC2.grow hB3
  refine WA_take 0 rfl (by kernel_rfl) (by kernel_rfl) (by kernel_rfl) rfl (fl_field Try.underlying112 rfl rfl (fun w => ⟨_, Try.sizeOf89 w⟩) rfl) ?_
  refine WL_field Try.underlying112 rfl rfl (fun w => ⟨_, Try.sizeOf89 w⟩) rfl rfl ?_
  refine WL_nil ?_
  refine WA_take 1 rfl (by kernel_rfl) (by kernel_rfl) (by kernel_rfl) rfl (fl_field Try.underlying89 rfl rfl (fun w => ⟨_, Try.sizeOf3 w⟩) rfl) ?_
  refine WL_field Try.underlying89 rfl rfl (fun w => ⟨_, Try.sizeOf3 w⟩) rfl rfl ?_
  refine WL_nil ?_
  refine WA_take 3 rfl (by kernel_rfl) (by kernel_rfl) (by kernel_rfl) rfl (fl_field Try.underlying112 rfl rfl (fun w => ⟨_, Try.sizeOf89 w⟩) rfl) ?_
  refine WL_field Try.underlying112 rfl rfl (fun w => ⟨_, Try.sizeOf89 w⟩) rfl rfl ?_
  refine WL_nil ?_
  refine WA_take 4 rfl (by kernel_rfl) (by kernel_rfl) (by kernel_rfl) rfl (fl_field Try.underlying89 rfl rfl (fun w => ⟨_, Try.sizeOf22 w⟩) rfl) ?_
  refine WL_field Try.underlying89 rfl rfl (fun w => ⟨_, Try.sizeOf22 w⟩) rfl rfl ?_
  refine WL_nil ?_
  refine WA_take 7 rfl (by kernel_rfl) (by kernel_rfl) (by kernel_rfl) rfl (fl_field Try.underlying112 rfl rfl (fun w => ⟨_, Try.sizeOf100 w⟩) rfl) ?_
  refine WL_field Try.underlying112 rfl rfl (fun w => ⟨_, Try.sizeOf100 w⟩) rfl rfl ?_
  refine WL_nil ?_
  obtain ⟨x1, hr1, hF⟩ := bind_some hF
  refine WA.sub (l' := [(0, (.agg #[(.int .i64 a1.1.1), u1, u2])), (1, (ptr b1 0)), (2, (ptr b2 0)), (3, (ptr b1 0)), (4, (ptr b1 0)), (6, (ptr b1 0)), (7, (ptr b1 1)), (10, (ptr b1 2))]) ?_ ⟨rfl, rfl, rfl, rfl, rfl, rfl, rfl, rfl, trivial⟩
  refine WA_postsE [⟨2, [], fun vs => PW.val (.int .i64 a1.1.1), []⟩, ⟨5, [], fun vs => PW.val u1, []⟩, ⟨6, [], fun vs => PW.own x1, []⟩, ⟨8, [], fun vs => PW.val u2, []⟩] [[], [], [2, 5], []] 3 rfl (by kernel_rfl) (by kernel_rfl) rfl ?_ ?_
  · refine StepsE_cons rfl ?_ ?_
    · intro w5 hB5
      refine DepsE_nil ?_
      refine ⟨_, rfl, ?_⟩
      refine WL_load_box (hC3.grow hB5) 1 rfl rfl Try.isAgg3 rfl rfl ?_
      refine WL_nil ?_
      exact FinE_val (Below.refl _ _) rfl rfl ⟨rfl, rfl⟩
    refine StepsE_cons rfl ?_ ?_
    · intro w5 hB5
      refine DepsE_nil ?_
      refine ⟨_, rfl, ?_⟩
      refine WL_load_box (hC3.grow hB5) 1 rfl rfl Try.isAgg22 rfl rfl ?_
      refine WL_nil ?_
      exact FinE_val (Below.refl _ _) rfl rfl ⟨rfl, rfl⟩
    refine StepsE_cons rfl ?_ ?_
    · intro w5 hB5
      refine DepsE_cons rfl rfl rfl ?_
      rintro _ _ ⟨rfl, rfl⟩ _
      refine DepsE_cons rfl rfl rfl ?_
      rintro _ _ ⟨rfl, rfl⟩ _
      refine DepsE_nil ?_
      refine ⟨_, rfl, ?_⟩
      refine WL_call Try.call153 rfl rfl (c_S_l8Access a1.1.1 a1.1.2 u1 (g1.now (hC3.keep.then hB5)) x1 hr1) ?_
      rintro v1 w4 ⟨hB4, F1, hv1, hn1, hb1⟩
      refine WL_nil ?_
      exact FinE_own hB4 rfl rfl hv1 hn1 hb1 (Val.inh hv1)
    refine StepsE_cons rfl ?_ ?_
    · intro w5 hB5
      refine DepsE_nil ?_
      refine ⟨_, rfl, ?_⟩
      refine WL_load_box (hC3.grow hB5) 1 rfl rfl Try.isAgg100 rfl rfl ?_
      refine WL_nil ?_
      exact FinE_val (Below.refl _ _) rfl rfl ⟨rfl, rfl⟩
    exact StepsE_nil
  · intro w6 hB6
    refine AllE_cons rfl rfl rfl ?_
    rintro _ _ ⟨rfl, rfl⟩
    refine AllE_cons rfl rfl rfl ?_
    rintro _ _ ⟨rfl, rfl⟩
    refine AllE_cons rfl rfl rfl ?_
    intro v1 F1 hv1
    refine AllE_cons rfl rfl rfl ?_
    rintro _ _ ⟨rfl, rfl⟩
    refine AllE_nil ?_
    intro hn2 hb2
    have hC4 := hC3.pushL hB6 (Bs := [Item.own v1 (x1 : (Int × (List Int)))]) (Fs := [F1]) ⟨F1, _, rfl, hv1, rfl⟩ (by simpa using hn2) (fun b h => (hb2 b (by simpa using h)).1)
    obtain ⟨v3, rfl, hC5⟩ := st89_own hC4
    obtain ⟨x2, hr2, hF⟩ := bind_some hF
    refine WA_one 9 (by kernel_rfl) rfl ?_
    refine WL_call Try.call154 rfl rfl (c_S_l2Copy a1.2 u2 (g2.now hC5.keep) x2 hr2) ?_
    rintro v4 w7 ⟨hB7, F2, hv2, hn3, hb3⟩
    have hC6 := hC5.push hB7 (A := Item.own v4 x2) hv2 hn3 hb3
    refine WL_nil ?_
    refine WA_take 10 rfl (by kernel_rfl) (by kernel_rfl) (by kernel_rfl) rfl (fl_build (vs := [(0, (.agg #[(.int .i64 x1.1), v3])), (1, v4)]) rfl rfl (built112_0_1 rfl (ro_cells (hC6.ro 0 rfl)))) ?_
    refine WL_build (vs := [(0, (.agg #[(.int .i64 x1.1), v3])), (1, v4)]) rfl rfl rfl (built112_0_1 rfl (ro_cells (hC6.ro 0 rfl))) ?_
    refine WL_nil ?_
    refine WA_one 11 (by kernel_rfl) rfl ?_
    refine WL_store_box_agg (cs' := [(.int .i64 x1.1), v3, v4]) (new := [(.int .i64 x1.1), v3, v4]) hC6 2 rfl rfl (by intro v hv; simp only [List.mem_cons, List.not_mem_nil, or_false] at hv; rcases hv with rfl | rfl | rfl; exact rfl; exact (ro_one (hC6.ro 1 rfl)); exact (ro_one (hC6.ro 0 rfl))) rfl Try.sizeOf112 rfl rfl (fun w8 hC7 => ?_)
    try dsimp only [List.set] at hC7
    refine WL_nil ?_
    refine WA_done (by kernel_rfl) ?_
    refine nrm_normal ?_
    refine W_ret ?_
    have hq1 := Option.some.inj hF
    subst hq1
    refine fn_retG1 rfl (rv_cell_agg (cs' := [(.int .i64 x1.1), v3, v4]) hC7 (i := 2) rfl rfl rfl Try.isAgg112 Try.sizeOf112 rfl) ?_
    have hC10 : Ctx [] w0 _ [Item.own v3 (x1.2 : (List Int)), Item.own v4 (x2 : (List (Int × (List Int)))), Item.box b2 [(.int .i64 x1.1), v3, v4], Item.box b1 [(.int .i64 a1.1.1), u1, u2]] := hC7.front 1 rfl
    have hC8 := own_st112 x1.1 v3 x1.2 v4 x2 hC10
    exact ⟨_, rfl, own_res hC8 0 rfl⟩

theorem c_S_Without {w0 : World} (a1 : (List ((Int × (List Int)) × (List (Int × (List Int)))))) (u1 : Value) (g1 : RO [] w0 u1 a1) (a2 : (List Int)) (u2 : Value) (g2 : RO [] w0 u2 a2) (rr : (List ((Int × (List Int)) × (List (Int × (List Int)))))) (hF : S.Without a1 a2 = some rr) :
    Calls Try.prog 75 [u1, u2].toArray w0 fun e w' => ∃ v, e = .returned v ∧ Res w0 rr v w' := by
  refine calls_of_W Try.func75 rfl rfl ?_
  have hC0 := Ctx.start w0
  unfold S.Without at hF
  refine W_seq_reg ?_
  refine WL_assign rfl rfl ?_
  refine WL_nil ?_
  refine W_seq_reg ?_
  refine WL_buildSlice (vs := []) hC0 Try.underlying118 ty112 rfl rfl rfl rfl (by simp) rfl rfl (fun b1 w1 hC1 hB1 => ?_)
  have hC2 := hC1.row0 (α := ((Int × (List Int)) × (List (Int × (List Int)))))
  have hC3 := hC2.front 1 rfl
  dsimp only [List.eraseIdx, List.cons_append, List.nil_append, List.append_nil] at hC3
  have hC4 : Ctx [] w0 w1 (Item.own (.slice (some ⟨b1, 0, none⟩) 0 0) (([] : List ((Int × (List Int)) × (List (Int × (List Int))))) : List ((Int × (List Int)) × (List (Int × (List Int))))) :: []) := hC3.rowOwn (by simp [maxLen])
  refine WL_assign rfl rfl ?_
  refine WL_nil ?_
  refine W_seq ?_
  refine W_seq_reg ?_
  refine WL_assign rfl rfl ?_
  refine WL_nil ?_
  obtain ⟨r1, hr1, hF⟩ := bind_some hF
  refine W_norm (fun l w => ∃ v2 : Value, ∃ x3 : (List ((Int × (List Int)) × (List (Int × (List Int))))), x3 = r1 ∧ l = [(5, v2)] ∧ Ctx [] w0 w [Item.own v2 (x3 : (List ((Int × (List Int)) × (List (Int × (List Int))))))]) ?_ ?_
  · refine W_block ?_
    refine W.sub (l' := [(0, u1), (1, u2), (5, (.slice (some ⟨b1, 0, none⟩) 0 0)), (6, (.int .i64 0))]) ?_ ⟨rfl, rfl, rfl, rfl, trivial⟩
    refine W_loop (fun k l w => ∃ v1 : Value, ∃ x1 : (List ((Int × (List Int)) × (List (Int × (List Int))))), ∃ x2 : Int, l = [(0, u1), (1, u2), (5, v1), (6, (.int .i64 x2))] ∧ Ctx [] w0 w [Item.own v1 (x1 : (List ((Int × (List Int)) × (List (Int × (List Int))))))] ∧ S.Without_l1 a1 a2 k x1 x2 = some r1) FUEL ⟨(.slice (some ⟨b1, 0, none⟩) 0 0), ([] : List ((Int × (List Int)) × (List (Int × (List Int))))), 0, rfl, hC4, hr1⟩ ?_
    clear hr1
    rintro k1 _ w2 ⟨v1, x1, x2, rfl, hC5, hL1⟩
    cases k1 with
    | zero => rw [S.Without_l1] at hL1; cases hL1
    | succ k1 =>
      rw [S.Without_l1] at hL1
      refine W_seq ?_
      refine W_seq_reg ?_
      refine WL_move rfl rfl ?_
      refine WL_move rfl rfl ?_
      refine WL_len Try.underlying118 g1 rfl rfl ?_
      refine WL_lss rfl rfl rfl ?_
      refine WL_nil ?_
      refine W_cond rfl (fun hc1 => ?_) (fun hc1 => ?_)
      · replace hL1 := ite_t hL1 hc1
        refine W_skip ?_
        refine nrm_normal ?_
        refine W_seq ?_
        refine W_block ?_
        refine W_seq_reg ?_
        refine WL_move rfl rfl ?_
        refine WL_move rfl rfl ?_
        obtain ⟨x4, hr2, hL1⟩ := bind_some hL1
        refine WL_call Try.call91 rfl rfl (c_S_l2Has a2 u2 (g2.now hC5.keep) x2 x4 hr2) ?_
        intro _ w3 hv1
        obtain ⟨rfl, hB3⟩ := res_bool hv1
        have hC6 := hC5.grow hB3
        refine WL_not rfl rfl ?_
        refine WL_nil ?_
        obtain ⟨r2, hr3, hL1⟩ := bind_some hL1
        refine W_norm (fun l w => ∃ v3 : Value, ∃ x5 : (List ((Int × (List Int)) × (List (Int × (List Int))))), x5 = r2 ∧ l = [(0, u1), (1, u2), (5, v3), (6, (.int .i64 x2))] ∧ Ctx [] w0 w [Item.own v3 (x5 : (List ((Int × (List Int)) × (List (Int × (List Int))))))]) ?_ ?_
        · refine W_cond rfl (fun hc2 => ?_) (fun hc2 => ?_)
          · replace hr3 := ite_t hr3 hc2
            refine W_seq_reg ?_
            refine WL_move rfl rfl ?_
            refine WL_move rfl rfl ?_
            obtain ⟨x6, hx1, hr3⟩ := bind_some hr3
            refine WL_index Try.underlying118 ty112 g1 hx1 rfl rfl rfl (fun b2 o1 h1 => ?_)
            refine WL_load ty112 h1 hC6.keep rfl rfl (fun v4 h2 => ?_)
            obtain ⟨v5, v6, rfl, h3, h4⟩ := ro_st112 h2
            obtain ⟨x7, hr4, hr3⟩ := bind_some hr3
            refine WL_call Try.call123 rfl rfl (c_S_l29Told x6 v5 (h3.now hC6.keep) v6 (h4.now hC6.keep) x7 hr4) ?_
            rintro v7 w5 ⟨hB5, F1, hv2, hn1, hb1⟩
            have hC8 := hC6.push hB5 (A := Item.own v7 x7) hv2 hn1 hb1
            obtain ⟨v8, v9, rfl, hC9⟩ := st112_own hC8
            refine WL_alloc hC9 zero112 rfl rfl (fun b3 w6 hC10 hB6 => ?_)
            refine WL_store_box_agg (cs' := [(.int .i64 x7.1.1), v8, v9]) (new := [(.int .i64 x7.1.1), v8, v9]) hC10 0 rfl rfl (by intro v hv; simp only [List.mem_cons, List.not_mem_nil, or_false] at hv; rcases hv with rfl | rfl | rfl; exact rfl; exact (ro_one (hC10.ro 1 rfl)); exact (ro_one (hC10.ro 2 rfl))) rfl Try.sizeOf112 rfl rfl (fun w7 hC11 => ?_)
            try dsimp only [List.set] at hC11
            refine WL_nil ?_
            refine W_reg ?_
            refine WL_move rfl rfl ?_
            refine WL_load_box_agg [(.int .i64 x7.1.1), v8, v9] hC11 0 rfl rfl rfl Try.isAgg112 Try.sizeOf112 rfl rfl ?_
            refine WL_buildSlice (vs := [(.agg #[(.int .i64 x7.1.1), v8, v9])]) hC11 Try.underlying118 ty112 rfl rfl rfl rfl (by intro v hv; simp only [List.mem_cons, List.not_mem_nil, or_false] at hv; rcases hv with rfl <;> rfl) rfl rfl (fun b4 w8 hC12 hB7 => ?_)
            have hC13 := hC12.row0 (α := ((Int × (List Int)) × (List (Int × (List Int)))))
            have hC15 := hC13.front 4 rfl
            dsimp only [List.eraseIdx, List.cons_append, List.nil_append, List.append_nil] at hC15
            have hC16 := hC15.front 4 rfl
            dsimp only [List.eraseIdx, List.cons_append, List.nil_append, List.append_nil] at hC16
            have hC14 := own_st112 x7.1.1 v8 x7.1.2 v9 x7.2 hC16
            have hC17 := hC14.row1
            have hC18 := hC17.front 1 rfl
            dsimp only [List.eraseIdx, List.cons_append, List.nil_append, List.append_nil] at hC18
            have hC19 : Ctx [] w0 w8 (Item.own (.slice (some ⟨b4, 0, none⟩) 1 1) ([((x7.1.1, x7.1.2), x7.2)] : List ((Int × (List Int)) × (List (Int × (List Int))))) :: [Item.box b3 [(.int .i64 x7.1.1), v8, v9], Item.own v1 (x1 : (List ((Int × (List Int)) × (List (Int × (List Int))))))]) := hC18.rowOwn (by simp [maxLen])
            obtain ⟨x8, hx2, hr3⟩ := bind_some hr3
            refine WL_append_head hC19 1 rfl Try.underlying118 ty112 rfl hx2 rfl rfl rfl (fun v10 w9 hC20 => ?_)
            try dsimp only [List.set] at hC20
            refine WL_assign rfl rfl ?_
            refine WL_nil ?_
            have hq1 := Option.some.inj hr3
            subst hq1
            have hC22 : Ctx [] w0 _ [Item.own v10 (x8 : (List ((Int × (List Int)) × (List (Int × (List Int)))))), Item.box b3 [(.int .i64 x7.1.1), v8, v9]] := hC20.front 1 rfl
            have hC23 : Ctx [] w0 _ [Item.own v10 (x8 : (List ((Int × (List Int)) × (List (Int × (List Int))))))] := hC22.headN 1
            refine nrm_sub (l' := [(0, u1), (1, u2), (5, v10), (6, (.int .i64 x2))]) ⟨rfl, rfl, rfl, rfl, trivial⟩ ?_
            exact ⟨v10, x8, rfl, rfl, hC23⟩
          · replace hr3 := ite_f hr3 hc2
            refine W_skip ?_
            have hq2 := Option.some.inj hr3
            subst hq2
            refine nrm_sub (l' := [(0, u1), (1, u2), (5, v1), (6, (.int .i64 x2))]) ⟨rfl, rfl, rfl, rfl, trivial⟩ ?_
            exact ⟨v1, x1, rfl, rfl, hC6⟩
        · rintro l2 _ w4 hs2 ⟨v3, x5, rfl, rfl, hC7⟩
          try dsimp only at hL1
          refine blk_normal ?_
          refine nrm_sub' hs2 ?_
          clear hs2
          refine W_reg ?_
          refine WL_move rfl rfl ?_
          refine WL_add rfl rfl rfl ?_
          refine WL_assign rfl rfl ?_
          refine WL_nil ?_
          refine nrm_sub (l' := [(0, u1), (1, u2), (5, v3), (6, (.int .i64 (w64 (x2 + 1))))]) ⟨rfl, rfl, rfl, rfl, trivial⟩ ?_
          exact ⟨k1, Nat.lt_succ_self _, v3, x5, w64 (x2 + 1), rfl, hC7, hL1⟩
      · replace hL1 := ite_f hL1 hc1
        refine W_exit ?_
        refine nrm_exit ?_
        refine nrm_exit ?_
        refine blk_exit ?_
        have hq3 := Option.some.inj hL1
        subst hq3
        refine nrm_sub (l' := [(5, v1)]) ⟨rfl, trivial⟩ ?_
        exact ⟨v1, x1, rfl, rfl, hC5⟩
  · rintro l3 _ w10 hs3 ⟨v2, x3, rfl, rfl, hC24⟩
    try dsimp only at hF
    refine nrm_sub' hs3 ?_
    clear hs3
    refine W_seq_reg ?_
    refine WL_move rfl rfl ?_
    refine WL_assign rfl rfl ?_
    refine WL_nil ?_
    refine W_ret ?_
    have hq4 := Option.some.inj hF
    subst hq4
    refine fn_ret1 rfl rfl ?_
    exact ⟨_, rfl, own_res hC24 0 rfl⟩

theorem c_Q_toFact {w0 : World} (a1 : (Int × (List Int))) (u1 : Value) (g1 : RO [] w0 u1 a1.2) (rr : (Int × (List Int))) (hF : Q.toFact a1 = some rr) :
    Calls Try.prog 129 [(.agg #[(.int .i64 a1.1), u1])].toArray w0 fun e w' => ∃ v, e = .returned v ∧ Res w0 rr v w' := by
  refine calls_of_W Try.func129 rfl rfl ?_
  have hC0 := Ctx.start w0
  unfold Q.toFact at hF
  refine W_seq_reg ?_
  refine WL_box (cs := [(.int .i64 a1.1), u1]) hC0 rfl rfl rfl (fun b1 w1 hC1 hB1 => ?_)
  refine WL_alloc hC1 zero165 rfl rfl (fun b2 w2 hC2 hB2 => ?_)
  refine WL_nil ?_
  refine W_seq_reg ?_
  refine WL_alloc hC2 zero165 rfl rfl (fun b3 w3 hC3 hB3 => ?_)
  refine WL_nil ?_
  refine W_seq_reg ?_
  refine WL_field Try.underlying164 rfl rfl (fun w => ⟨_, Try.sizeOf3 w⟩) rfl rfl ?_
  refine WL_load_box hC3 2 rfl rfl Try.isAgg3 rfl rfl ?_
  refine WL_field Try.underlying165 rfl rfl (fun w => ⟨_, Try.sizeOf3 w⟩) rfl rfl ?_
  refine WL_store_box (cs' := [(.int .i64 a1.1), (.slice none 0 0)]) hC3 0 rfl rfl rfl rfl Try.sizeOf3 rfl rfl (fun w4 hC4 => ?_)
  try dsimp only [List.set] at hC4
  refine WL_nil ?_
  refine W_seq_reg ?_
  refine WL_field Try.underlying164 rfl rfl (fun w => ⟨_, Try.sizeOf22 w⟩) rfl rfl ?_
  refine WL_load_box hC4 2 rfl rfl Try.isAgg22 rfl rfl ?_
  obtain ⟨x1, hr1, hF⟩ := bind_some hF
  refine WL_call Try.call37 rfl rfl (c_Q_toIntS a1.2 u1 (g1.now hC4.keep) x1 hr1) ?_
  rintro v1 w5 ⟨hB4, F1, hv1, hn1, hb1⟩
  have hC5 := hC4.push hB4 (A := Item.own v1 x1) hv1 hn1 hb1
  refine WL_field Try.underlying165 rfl rfl (fun w => ⟨_, Try.sizeOf22 w⟩) rfl rfl ?_
  refine WL_store_box (cs' := [(.int .i64 a1.1), v1]) hC5 1 rfl rfl (ro_one (hC5.ro 0 rfl)) rfl Try.sizeOf22 rfl rfl (fun w6 hC6 => ?_)
  try dsimp only [List.set] at hC6
  refine WL_nil ?_
  refine W_seq_reg ?_
  refine WL_load_box_agg [(.int .i64 a1.1), v1] hC6 1 rfl rfl rfl Try.isAgg165 Try.sizeOf165 rfl rfl ?_
  refine WL_store_box_agg (cs' := [(.int .i64 a1.1), v1]) (new := [(.int .i64 a1.1), v1]) hC6 2 rfl rfl (by intro v hv; simp only [List.mem_cons, List.not_mem_nil, or_false] at hv; rcases hv with rfl | rfl; exact rfl; exact (ro_one (hC6.ro 0 rfl))) rfl Try.sizeOf165 rfl rfl (fun w7 hC7 => ?_)
  try dsimp only [List.set] at hC7
  refine WL_nil ?_
  refine W_ret ?_
  have hq1 := Option.some.inj hF
  subst hq1
  refine fn_retG1 rfl (rv_cell_agg (cs' := [(.int .i64 a1.1), v1]) hC7 (i := 2) rfl rfl rfl Try.isAgg165 Try.sizeOf165 rfl) ?_
  have hC8 := own_st165 a1.1 v1 x1 hC7
  exact ⟨_, rfl, own_res hC8 0 rfl⟩

theorem c_Q_toFactS {w0 : World} (a1 : (List (Int × (List Int)))) (u1 : Value) (g1 : RO [] w0 u1 a1) (rr : (List (Int × (List Int)))) (hF : Q.toFactS a1 = some rr) :
    Calls Try.prog 83 [u1].toArray w0 fun e w' => ∃ v, e = .returned v ∧ Res w0 rr v w' := by
  refine calls_of_W Try.func83 rfl rfl ?_
  have hC0 := Ctx.start w0
  unfold Q.toFactS at hF
  refine W_seq_reg ?_
  refine WL_assign rfl rfl ?_
  refine WL_nil ?_
  refine W_seq_reg ?_
  refine WL_move rfl rfl ?_
  refine WL_len Try.underlying95 g1 rfl rfl ?_
  obtain ⟨x1, hx1, hF⟩ := bind_some hF
  refine WL_makeSlice hC0 Try.underlying100 ty165 rfl zc165 zr165 hx1 rfl rfl rfl (fun b1 w1 hC1 hB1 => ?_)
  refine WL_assign rfl rfl ?_
  refine WL_nil ?_
  refine W_seq ?_
  refine W_seq_reg ?_
  refine WL_assign rfl rfl ?_
  refine WL_nil ?_
  obtain ⟨r1, hr1, hF⟩ := bind_some hF
  refine W_norm (fun l w => ∃ x4 : (List (Int × (List Int))), x4 = r1 ∧ l = [(3, (.slice (some ⟨b1, 0, none⟩) (Int.toNat (List.length a1 : Int)) (Int.toNat (List.length a1 : Int))))] ∧ Ctx [] w0 w [Item.own (.slice (some ⟨b1, 0, none⟩) (Int.toNat (List.length a1 : Int)) (Int.toNat (List.length a1 : Int))) (x4 : (List (Int × (List Int))))]) ?_ ?_
  · refine W_block ?_
    refine W.sub (l' := [(0, u1), (3, (.slice (some ⟨b1, 0, none⟩) (Int.toNat (List.length a1 : Int)) (Int.toNat (List.length a1 : Int)))), (4, (.int .i64 0))]) ?_ ⟨rfl, rfl, rfl, trivial⟩
    refine W_loop (fun k l w => ∃ x2 : (List (Int × (List Int))), ∃ x3 : Int, l = [(0, u1), (3, (.slice (some ⟨b1, 0, none⟩) (Int.toNat (List.length a1 : Int)) (Int.toNat (List.length a1 : Int)))), (4, (.int .i64 x3))] ∧ Ctx [] w0 w [Item.own (.slice (some ⟨b1, 0, none⟩) (Int.toNat (List.length a1 : Int)) (Int.toNat (List.length a1 : Int))) (x2 : (List (Int × (List Int))))] ∧ Q.toFactS_l1 a1 k x2 x3 = some r1) FUEL ⟨x1, 0, rfl, hC1, hr1⟩ ?_
    clear hr1
    rintro k1 _ w2 ⟨x2, x3, rfl, hC2, hL1⟩
    cases k1 with
    | zero => rw [Q.toFactS_l1] at hL1; cases hL1
    | succ k1 =>
      rw [Q.toFactS_l1] at hL1
      refine W_seq ?_
      refine W_seq_reg ?_
      refine WL_move rfl rfl ?_
      refine WL_move rfl rfl ?_
      refine WL_len Try.underlying95 g1 rfl rfl ?_
      refine WL_lss rfl rfl rfl ?_
      refine WL_nil ?_
      refine W_cond rfl (fun hc1 => ?_) (fun hc1 => ?_)
      · replace hL1 := ite_t hL1 hc1
        refine W_skip ?_
        refine nrm_normal ?_
        refine W_seq ?_
        refine W_block ?_
        refine W_reg ?_
        refine WL_move rfl rfl ?_
        refine WL_move rfl rfl ?_
        refine WL_move rfl rfl ?_
        refine WL_move rfl rfl ?_
        obtain ⟨x5, hx2, hL1⟩ := bind_some hL1
        refine WL_index Try.underlying95 ty164 g1 hx2 rfl rfl rfl (fun b2 o1 h1 => ?_)
        refine WL_load ty164 h1 hC2.keep rfl rfl (fun v1 h2 => ?_)
        obtain ⟨v2, rfl, h3⟩ := ro_st164 h2
        obtain ⟨x6, hr2, hL1⟩ := bind_some hL1
        refine WL_call Try.call129 rfl rfl (c_Q_toFact x5 v2 (h3.now hC2.keep) x6 hr2) ?_
        rintro v3 w3 ⟨hB3, F1, hv1, hn1, hb1⟩
        have hC3 := hC2.push hB3 (A := Item.own v3 x6) hv1 hn1 hb1
        obtain ⟨v4, rfl, hC4⟩ := st165_own hC3
        obtain ⟨x7, hx3, hL1⟩ := bind_some hL1
        refine WL_index_own hC4 1 rfl Try.underlying100 ty165 hx3 rfl rfl rfl (fun b3 hE1 => ?_)
        have hC6 := own_st165 x6.1 v4 x6.2 hC4
        refine WL_store_elem hC6 0 rfl ty165 hE1 hx3 rfl rfl rfl (fun w4 hC5 => ?_)
        try dsimp only [List.set] at hC5
        refine WL_nil ?_
        refine blk_normal ?_
        refine nrm_normal ?_
        refine W_reg ?_
        refine WL_move rfl rfl ?_
        refine WL_add rfl rfl rfl ?_
        refine WL_assign rfl rfl ?_
        refine WL_nil ?_
        refine nrm_sub (l' := [(0, u1), (3, (.slice (some ⟨b1, 0, none⟩) (Int.toNat (List.length a1 : Int)) (Int.toNat (List.length a1 : Int)))), (4, (.int .i64 (w64 (x3 + 1))))]) ⟨rfl, rfl, rfl, trivial⟩ ?_
        exact ⟨k1, Nat.lt_succ_self _, (List.set x2 (Int.toNat x3) (x6.1, x6.2)), w64 (x3 + 1), rfl, hC5, hL1⟩
      · replace hL1 := ite_f hL1 hc1
        refine W_exit ?_
        refine nrm_exit ?_
        refine nrm_exit ?_
        refine blk_exit ?_
        have hq1 := Option.some.inj hL1
        subst hq1
        refine nrm_sub (l' := [(3, (.slice (some ⟨b1, 0, none⟩) (Int.toNat (List.length a1 : Int)) (Int.toNat (List.length a1 : Int))))]) ⟨rfl, trivial⟩ ?_
        exact ⟨x2, rfl, rfl, hC2⟩
  · rintro l2 _ w5 hs2 ⟨x4, rfl, rfl, hC8⟩
    try dsimp only at hF
    refine nrm_sub' hs2 ?_
    clear hs2
    refine W_seq_reg ?_
    refine WL_move rfl rfl ?_
    refine WL_assign rfl rfl ?_
    refine WL_nil ?_
    refine W_ret ?_
    have hq2 := Option.some.inj hF
    subst hq2
    refine fn_ret1 rfl rfl ?_
    exact ⟨_, rfl, own_res hC8 0 rfl⟩

theorem c_Q_toAccess {w0 : World} (a1 : (Int × (List Int))) (u1 : Value) (g1 : RO [] w0 u1 a1.2) (rr : (Int × (List Int))) (hF : Q.toAccess a1 = some rr) :
    Calls Try.prog 111 [(.agg #[(.int .i64 a1.1), u1])].toArray w0 fun e w' => ∃ v, e = .returned v ∧ Res w0 rr v w' := by
  refine calls_of_W Try.func111 rfl rfl ?_
  have hC0 := Ctx.start w0
  unfold Q.toAccess at hF
  refine W_seq_reg ?_
  refine WL_box (cs := [(.int .i64 a1.1), u1]) hC0 rfl rfl rfl (fun b1 w1 hC1 hB1 => ?_)
  refine WL_alloc hC1 zero89 rfl rfl (fun b2 w2 hC2 hB2 => ?_)
  refine WL_nil ?_
  refine W_seq_reg ?_
  refine WL_alloc hC2 zero89 rfl rfl (fun b3 w3 hC3 hB3 => ?_)
  refine WL_nil ?_
  refine W_seq_reg ?_
  refine WL_field Try.underlying106 rfl rfl (fun w => ⟨_, Try.sizeOf3 w⟩) rfl rfl ?_
  refine WL_load_box hC3 2 rfl rfl Try.isAgg3 rfl rfl ?_
  refine WL_field Try.underlying89 rfl rfl (fun w => ⟨_, Try.sizeOf3 w⟩) rfl rfl ?_
  refine WL_store_box (cs' := [(.int .i64 a1.1), (.slice none 0 0)]) hC3 0 rfl rfl rfl rfl Try.sizeOf3 rfl rfl (fun w4 hC4 => ?_)
  try dsimp only [List.set] at hC4
  refine WL_nil ?_
  refine W_seq_reg ?_
  refine WL_field Try.underlying106 rfl rfl (fun w => ⟨_, Try.sizeOf22 w⟩) rfl rfl ?_
  refine WL_load_box hC4 2 rfl rfl Try.isAgg22 rfl rfl ?_
  obtain ⟨x1, hr1, hF⟩ := bind_some hF
  refine WL_call Try.call37 rfl rfl (c_Q_toIntS a1.2 u1 (g1.now hC4.keep) x1 hr1) ?_
  rintro v1 w5 ⟨hB4, F1, hv1, hn1, hb1⟩
  have hC5 := hC4.push hB4 (A := Item.own v1 x1) hv1 hn1 hb1
  refine WL_field Try.underlying89 rfl rfl (fun w => ⟨_, Try.sizeOf22 w⟩) rfl rfl ?_
  refine WL_store_box (cs' := [(.int .i64 a1.1), v1]) hC5 1 rfl rfl (ro_one (hC5.ro 0 rfl)) rfl Try.sizeOf22 rfl rfl (fun w6 hC6 => ?_)
  try dsimp only [List.set] at hC6
  refine WL_nil ?_
  refine W_seq_reg ?_
  refine WL_load_box_agg [(.int .i64 a1.1), v1] hC6 1 rfl rfl rfl Try.isAgg89 Try.sizeOf89 rfl rfl ?_
  refine WL_store_box_agg (cs' := [(.int .i64 a1.1), v1]) (new := [(.int .i64 a1.1), v1]) hC6 2 rfl rfl (by intro v hv; simp only [List.mem_cons, List.not_mem_nil, or_false] at hv; rcases hv with rfl | rfl; exact rfl; exact (ro_one (hC6.ro 0 rfl))) rfl Try.sizeOf89 rfl rfl (fun w7 hC7 => ?_)
  try dsimp only [List.set] at hC7
  refine WL_nil ?_
  refine W_ret ?_
  have hq1 := Option.some.inj hF
  subst hq1
  refine fn_retG1 rfl (rv_cell_agg (cs' := [(.int .i64 a1.1), v1]) hC7 (i := 2) rfl rfl rfl Try.isAgg89 Try.sizeOf89 rfl) ?_
  have hC8 := own_st89 a1.1 v1 x1 hC7
  exact ⟨_, rfl, own_res hC8 0 rfl⟩

theorem c_Q_toTold {w0 : World} (a1 : ((Int × (List Int)) × (List (Int × (List Int))))) (u1 : Value) (g1 : RO [] w0 u1 a1.1.2) (u2 : Value) (g2 : RO [] w0 u2 a1.2) (rr : ((Int × (List Int)) × (List (Int × (List Int))))) (hF : Q.toTold a1 = some rr) :
    Calls Try.prog 71 [(.agg #[(.int .i64 a1.1.1), u1, u2])].toArray w0 fun e w' => ∃ v, e = .returned v ∧ Res w0 rr v w' := by
  refine calls_of_W Try.func71 rfl rfl ?_
  have hC0 := Ctx.start w0
  unfold Q.toTold at hF
  refine W_seq_reg ?_
  refine WL_box (cs := [(.int .i64 a1.1.1), u1, u2]) hC0 rfl rfl rfl (fun b1 w1 hC1 hB1 => ?_)
  refine WL_alloc hC1 zero112 rfl rfl (fun b2 w2 hC2 hB2 => ?_)
  refine WL_nil ?_
  refine W_seq_reg ?_
  refine WL_alloc hC2 zero112 rfl rfl (fun b3 w3 hC3 hB3 => ?_)
  refine WL_nil ?_
  refine W_seq_reg ?_
  refine WL_field Try.underlying108 rfl rfl (fun w => ⟨_, Try.sizeOf106 w⟩) rfl rfl ?_
  refine WL_load_box_agg [(.int .i64 a1.1.1), u1] hC3 2 rfl rfl rfl Try.isAgg106 Try.sizeOf106 rfl rfl ?_
  obtain ⟨x1, hr1, hF⟩ := bind_some hF
  refine WL_call Try.call111 rfl rfl (c_Q_toAccess (a1.1.1, a1.1.2) u1 (g1.now hC3.keep) x1 hr1) ?_
  rintro v1 w4 ⟨hB4, F1, hv1, hn1, hb1⟩
  have hC4 := hC3.push hB4 (A := Item.own v1 x1) hv1 hn1 hb1
  obtain ⟨v2, rfl, hC5⟩ := st89_own hC4
  refine WL_field Try.underlying112 rfl rfl (fun w => ⟨_, Try.sizeOf89 w⟩) rfl rfl ?_
  refine WL_store_box_agg (cs' := [(.int .i64 x1.1), v2, (.slice none 0 0)]) (new := [(.int .i64 x1.1), v2]) hC5 1 rfl rfl (by intro v hv; simp only [List.mem_cons, List.not_mem_nil, or_false] at hv; rcases hv with rfl | rfl; exact rfl; exact (ro_one (hC5.ro 0 rfl))) rfl Try.sizeOf89 rfl rfl (fun w5 hC6 => ?_)
  try dsimp only [List.set] at hC6
  refine WL_nil ?_
  refine W_seq_reg ?_
  refine WL_field Try.underlying108 rfl rfl (fun w => ⟨_, Try.sizeOf95 w⟩) rfl rfl ?_
  refine WL_load_box hC6 3 rfl rfl Try.isAgg95 rfl rfl ?_
  obtain ⟨x2, hr2, hF⟩ := bind_some hF
  refine WL_call Try.call83 rfl rfl (c_Q_toFactS a1.2 u2 (g2.now hC6.keep) x2 hr2) ?_
  rintro v3 w6 ⟨hB5, F2, hv2, hn2, hb2⟩
  have hC7 := hC6.push hB5 (A := Item.own v3 x2) hv2 hn2 hb2
  refine WL_field Try.underlying112 rfl rfl (fun w => ⟨_, Try.sizeOf100 w⟩) rfl rfl ?_
  refine WL_store_box (cs' := [(.int .i64 x1.1), v2, v3]) hC7 2 rfl rfl (ro_one (hC7.ro 0 rfl)) rfl Try.sizeOf100 rfl rfl (fun w7 hC8 => ?_)
  try dsimp only [List.set] at hC8
  refine WL_nil ?_
  refine W_seq_reg ?_
  refine WL_load_box_agg [(.int .i64 x1.1), v2, v3] hC8 2 rfl rfl rfl Try.isAgg112 Try.sizeOf112 rfl rfl ?_
  refine WL_store_box_agg (cs' := [(.int .i64 x1.1), v2, v3]) (new := [(.int .i64 x1.1), v2, v3]) hC8 3 rfl rfl (by intro v hv; simp only [List.mem_cons, List.not_mem_nil, or_false] at hv; rcases hv with rfl | rfl | rfl; exact rfl; exact (ro_one (hC8.ro 1 rfl)); exact (ro_one (hC8.ro 0 rfl))) rfl Try.sizeOf112 rfl rfl (fun w8 hC9 => ?_)
  try dsimp only [List.set] at hC9
  refine WL_nil ?_
  refine W_ret ?_
  have hq1 := Option.some.inj hF
  subst hq1
  refine fn_retG1 rfl (rv_cell_agg (cs' := [(.int .i64 x1.1), v2, v3]) hC9 (i := 3) rfl rfl rfl Try.isAgg112 Try.sizeOf112 rfl) ?_
  have hC12 : Ctx [] w0 _ [Item.own v2 (x1.2 : (List Int)), Item.own v3 (x2 : (List (Int × (List Int)))), Item.box b3 [(.int .i64 x1.1), v2, v3], Item.box b2 [(.int .i64 x1.1), v2, v3], Item.box b1 [(.int .i64 a1.1.1), u1, u2]] := hC9.front 1 rfl
  have hC10 := own_st112 x1.1 v2 x1.2 v3 x2 hC12
  exact ⟨_, rfl, own_res hC10 0 rfl⟩

theorem c_Q_toToldS {w0 : World} (a1 : (List ((Int × (List Int)) × (List (Int × (List Int)))))) (u1 : Value) (g1 : RO [] w0 u1 a1) (rr : (List ((Int × (List Int)) × (List (Int × (List Int)))))) (hF : Q.toToldS a1 = some rr) :
    Calls Try.prog 76 [u1].toArray w0 fun e w' => ∃ v, e = .returned v ∧ Res w0 rr v w' := by
  refine calls_of_W Try.func76 rfl rfl ?_
  have hC0 := Ctx.start w0
  unfold Q.toToldS at hF
  refine W_seq_reg ?_
  refine WL_assign rfl rfl ?_
  refine WL_nil ?_
  refine W_seq_reg ?_
  refine WL_move rfl rfl ?_
  refine WL_len Try.underlying116 g1 rfl rfl ?_
  obtain ⟨x1, hx1, hF⟩ := bind_some hF
  refine WL_makeSlice hC0 Try.underlying118 ty112 rfl zc112 zr112 hx1 rfl rfl rfl (fun b1 w1 hC1 hB1 => ?_)
  refine WL_assign rfl rfl ?_
  refine WL_nil ?_
  refine W_seq ?_
  refine W_seq_reg ?_
  refine WL_assign rfl rfl ?_
  refine WL_nil ?_
  obtain ⟨r1, hr1, hF⟩ := bind_some hF
  refine W_norm (fun l w => ∃ x4 : (List ((Int × (List Int)) × (List (Int × (List Int))))), x4 = r1 ∧ l = [(3, (.slice (some ⟨b1, 0, none⟩) (Int.toNat (List.length a1 : Int)) (Int.toNat (List.length a1 : Int))))] ∧ Ctx [] w0 w [Item.own (.slice (some ⟨b1, 0, none⟩) (Int.toNat (List.length a1 : Int)) (Int.toNat (List.length a1 : Int))) (x4 : (List ((Int × (List Int)) × (List (Int × (List Int))))))]) ?_ ?_
  · refine W_block ?_
    refine W.sub (l' := [(0, u1), (3, (.slice (some ⟨b1, 0, none⟩) (Int.toNat (List.length a1 : Int)) (Int.toNat (List.length a1 : Int)))), (4, (.int .i64 0))]) ?_ ⟨rfl, rfl, rfl, trivial⟩
    refine W_loop (fun k l w => ∃ x2 : (List ((Int × (List Int)) × (List (Int × (List Int))))), ∃ x3 : Int, l = [(0, u1), (3, (.slice (some ⟨b1, 0, none⟩) (Int.toNat (List.length a1 : Int)) (Int.toNat (List.length a1 : Int)))), (4, (.int .i64 x3))] ∧ Ctx [] w0 w [Item.own (.slice (some ⟨b1, 0, none⟩) (Int.toNat (List.length a1 : Int)) (Int.toNat (List.length a1 : Int))) (x2 : (List ((Int × (List Int)) × (List (Int × (List Int))))))] ∧ Q.toToldS_l1 a1 k x2 x3 = some r1) FUEL ⟨x1, 0, rfl, hC1, hr1⟩ ?_
    clear hr1
    rintro k1 _ w2 ⟨x2, x3, rfl, hC2, hL1⟩
    cases k1 with
    | zero => rw [Q.toToldS_l1] at hL1; cases hL1
    | succ k1 =>
      rw [Q.toToldS_l1] at hL1
      refine W_seq ?_
      refine W_seq_reg ?_
      refine WL_move rfl rfl ?_
      refine WL_move rfl rfl ?_
      refine WL_len Try.underlying116 g1 rfl rfl ?_
      refine WL_lss rfl rfl rfl ?_
      refine WL_nil ?_
      refine W_cond rfl (fun hc1 => ?_) (fun hc1 => ?_)
      · replace hL1 := ite_t hL1 hc1
        refine W_skip ?_
        refine nrm_normal ?_
        refine W_seq ?_
        refine W_block ?_
        refine W_reg ?_
        refine WL_move rfl rfl ?_
        refine WL_move rfl rfl ?_
        refine WL_move rfl rfl ?_
        refine WL_move rfl rfl ?_
        obtain ⟨x5, hx2, hL1⟩ := bind_some hL1
        refine WL_index Try.underlying116 ty108 g1 hx2 rfl rfl rfl (fun b2 o1 h1 => ?_)
        refine WL_load ty108 h1 hC2.keep rfl rfl (fun v1 h2 => ?_)
        obtain ⟨v2, v3, rfl, h3, h4⟩ := ro_st108 h2
        obtain ⟨x6, hr2, hL1⟩ := bind_some hL1
        refine WL_call Try.call71 rfl rfl (c_Q_toTold x5 v2 (h3.now hC2.keep) v3 (h4.now hC2.keep) x6 hr2) ?_
        rintro v4 w3 ⟨hB3, F1, hv1, hn1, hb1⟩
        have hC3 := hC2.push hB3 (A := Item.own v4 x6) hv1 hn1 hb1
        obtain ⟨v5, v6, rfl, hC4⟩ := st112_own hC3
        obtain ⟨x7, hx3, hL1⟩ := bind_some hL1
        refine WL_index_own hC4 2 rfl Try.underlying118 ty112 hx3 rfl rfl rfl (fun b3 hE1 => ?_)
        have hC7 : Ctx [] w0 _ [Item.own v6 (x6.2 : (List (Int × (List Int)))), Item.own v5 (x6.1.2 : (List Int)), Item.own (.slice (some ⟨b1, 0, none⟩) (Int.toNat (List.length a1 : Int)) (Int.toNat (List.length a1 : Int))) (x2 : (List ((Int × (List Int)) × (List (Int × (List Int))))))] := hC4.front 1 rfl
        have hC8 : Ctx [] w0 _ [Item.own v5 (x6.1.2 : (List Int)), Item.own v6 (x6.2 : (List (Int × (List Int)))), Item.own (.slice (some ⟨b1, 0, none⟩) (Int.toNat (List.length a1 : Int)) (Int.toNat (List.length a1 : Int))) (x2 : (List ((Int × (List Int)) × (List (Int × (List Int))))))] := hC7.front 1 rfl
        have hC6 := own_st112 x6.1.1 v5 x6.1.2 v6 x6.2 hC8
        refine WL_store_elem hC6 0 rfl ty112 hE1 hx3 rfl rfl rfl (fun w4 hC5 => ?_)
        try dsimp only [List.set] at hC5
        refine WL_nil ?_
        refine blk_normal ?_
        refine nrm_normal ?_
        refine W_reg ?_
        refine WL_move rfl rfl ?_
        refine WL_add rfl rfl rfl ?_
        refine WL_assign rfl rfl ?_
        refine WL_nil ?_
        refine nrm_sub (l' := [(0, u1), (3, (.slice (some ⟨b1, 0, none⟩) (Int.toNat (List.length a1 : Int)) (Int.toNat (List.length a1 : Int)))), (4, (.int .i64 (w64 (x3 + 1))))]) ⟨rfl, rfl, rfl, trivial⟩ ?_
        exact ⟨k1, Nat.lt_succ_self _, (List.set x2 (Int.toNat x3) ((x6.1.1, x6.1.2), x6.2)), w64 (x3 + 1), rfl, hC5, hL1⟩
      · replace hL1 := ite_f hL1 hc1
        refine W_exit ?_
        refine nrm_exit ?_
        refine nrm_exit ?_
        refine blk_exit ?_
        have hq1 := Option.some.inj hL1
        subst hq1
        refine nrm_sub (l' := [(3, (.slice (some ⟨b1, 0, none⟩) (Int.toNat (List.length a1 : Int)) (Int.toNat (List.length a1 : Int))))]) ⟨rfl, trivial⟩ ?_
        exact ⟨x2, rfl, rfl, hC2⟩
  · rintro l2 _ w5 hs2 ⟨x4, rfl, rfl, hC9⟩
    try dsimp only at hF
    refine nrm_sub' hs2 ?_
    clear hs2
    refine W_seq_reg ?_
    refine WL_move rfl rfl ?_
    refine WL_assign rfl rfl ?_
    refine WL_nil ?_
    refine W_ret ?_
    have hq2 := Option.some.inj hF
    subst hq2
    refine fn_ret1 rfl rfl ?_
    exact ⟨_, rfl, own_res hC9 0 rfl⟩

theorem c_Slices_Index_Lint_int {w0 : World} (a1 : (List Int)) (u1 : Value) (g1 : RO [] w0 u1 a1) (a2 : Int) (rr : Int) (hF : Slices.Index_Lint_int a1 a2 = some rr) :
    Calls Try.prog 155 [u1, (.int .i64 a2)].toArray w0 fun e w' => ∃ v, e = .returned v ∧ Res w0 rr v w' := by
  refine calls_of_W Try.func155 rfl rfl ?_
  have hC0 := Ctx.start w0
  unfold Slices.Index_Lint_int at hF
  refine W_seq_reg ?_
  refine WL_assign rfl rfl ?_
  refine WL_nil ?_
  refine W_seq ?_
  refine W_seq_reg ?_
  refine WL_move rfl rfl ?_
  refine WL_len Try.underlying22 g1 rfl rfl ?_
  refine WL_move rfl rfl ?_
  refine WL_nil ?_
  obtain ⟨r1, hr1, hF⟩ := bind_some hF
  refine W_norm (fun l w => .inl () = r1 ∧ l = [] ∧ Below w0.heap.size w0 w ∧ Ctx [] w0 w []) ?_ ?_
  · refine W_block ?_
    refine W.sub (l' := [(0, u1), (1, (.int .i64 a2)), (7, (.int .i64 (List.length a1 : Int))), (8, (.int .i64 0))]) ?_ ⟨rfl, rfl, rfl, rfl, trivial⟩
    refine W_loop (fun k l w => ∃ x1 : Int, l = [(0, u1), (1, (.int .i64 a2)), (7, (.int .i64 (List.length a1 : Int))), (8, (.int .i64 x1))] ∧ Below w0.heap.size w0 w ∧ Ctx [] w0 w [] ∧ Slices.Index_Lint_int_l1 a1 a2 k x1 = some r1) FUEL ⟨0, rfl, (Below.refl _ _), hC0, hr1⟩ ?_
    clear hr1
    rintro k1 _ w1 ⟨x1, rfl, hB1, hC1, hL1⟩
    cases k1 with
    | zero => rw [Slices.Index_Lint_int_l1] at hL1; cases hL1
    | succ k1 =>
      rw [Slices.Index_Lint_int_l1] at hL1
      refine W_seq_reg ?_
      refine WL_lss rfl rfl rfl ?_
      refine WL_nil ?_
      refine W_seq ?_
      refine W_cond rfl (fun hc1 => ?_) (fun hc1 => ?_)
      · replace hL1 := ite_t hL1 hc1
        refine W_skip ?_
        refine nrm_normal ?_
        refine W_seq ?_
        refine W_block ?_
        refine W_seq_reg ?_
        refine WL_move rfl rfl ?_
        refine WL_assign rfl rfl ?_
        refine WL_nil ?_
        refine W_seq_reg ?_
        refine WL_move rfl rfl ?_
        refine WL_move rfl rfl ?_
        refine WL_move rfl rfl ?_
        obtain ⟨x2, hx1, hL1⟩ := bind_some hL1
        refine WL_index Try.underlying22 ty3 g1 hx1 rfl rfl rfl (fun b1 o1 h1 => ?_)
        refine WL_load ty3 h1 hC1.keep rfl rfl (fun v1 h2 => ?_)
        obtain rfl := ro_int h2
        refine WL_eql rfl rfl rfl ?_
        refine WL_nil ?_
        refine W_cond rfl (fun hc2 => ?_) (fun hc2 => ?_)
        · replace hL1 := ite_t hL1 hc2
          refine W_seq_reg ?_
          refine WL_move rfl rfl ?_
          refine WL_assign rfl rfl ?_
          refine WL_nil ?_
          refine W_ret ?_
          refine blk_ret ?_
          refine nrm_ret ?_
          refine nrm_ret ?_
          refine blk_ret ?_
          refine nrm_ret ?_
          refine nrm_ret ?_
          have hq1 := Option.some.inj hL1
          subst hq1
          dsimp only at hF
          have hq2 := Option.some.inj hF
          subst hq2
          refine fn_ret1 rfl rfl ?_
          exact ⟨_, rfl, int_res hC1 _⟩
        · replace hL1 := ite_f hL1 hc2
          refine W_skip ?_
          refine blk_normal ?_
          refine nrm_normal ?_
          refine W_reg ?_
          refine WL_add rfl rfl rfl ?_
          refine WL_move rfl rfl ?_
          refine WL_nil ?_
          refine nrm_sub (l' := [(0, u1), (1, (.int .i64 a2)), (7, (.int .i64 (List.length a1 : Int))), (8, (.int .i64 (w64 (x1 + 1))))]) ⟨rfl, rfl, rfl, rfl, trivial⟩ ?_
          exact ⟨k1, Nat.lt_succ_self _, w64 (x1 + 1), rfl, (Keep.of hB1).below, hC1, hL1⟩
      · replace hL1 := ite_f hL1 hc1
        refine W_exit ?_
        refine nrm_exit ?_
        refine nrm_exit ?_
        refine blk_exit ?_
        have hq3 := Option.some.inj hL1
        subst hq3
        refine nrm_sub (l' := []) trivial ?_
        exact ⟨rfl, rfl, (Keep.of hB1).below, hC1⟩
  · rintro l2 _ w2 hs2 ⟨rfl, rfl, hB2, hC2⟩
    try dsimp only at hF
    refine nrm_sub' hs2 ?_
    clear hs2
    refine W_seq_reg ?_
    refine WL_assign rfl rfl ?_
    refine WL_nil ?_
    refine W_ret ?_
    have hq4 := Option.some.inj hF
    subst hq4
    refine fn_ret1 rfl rfl ?_
    exact ⟨_, rfl, int_res hC2 _⟩

theorem c_Slices_Contains_Lint_int {w0 : World} (a1 : (List Int)) (u1 : Value) (g1 : RO [] w0 u1 a1) (a2 : Int) (rr : Bool) (hF : Slices.Contains_Lint_int a1 a2 = some rr) :
    Calls Try.prog 124 [u1, (.int .i64 a2)].toArray w0 fun e w' => ∃ v, e = .returned v ∧ Res w0 rr v w' := by
  refine calls_of_W Try.func124 rfl rfl ?_
  have hC0 := Ctx.start w0
  unfold Slices.Contains_Lint_int at hF
  refine W_seq_reg ?_
  refine WL_assign rfl rfl ?_
  refine WL_nil ?_
  refine W_seq_reg ?_
  refine WL_move rfl rfl ?_
  refine WL_move rfl rfl ?_
  obtain ⟨x1, hr1, hF⟩ := bind_some hF
  refine WL_call Try.call155 rfl rfl (c_Slices_Index_Lint_int a1 u1 (g1.now hC0.keep) a2 x1 hr1) ?_
  intro _ w1 hv1
  obtain ⟨rfl, hB1⟩ := res_int hv1
  have hC1 := hC0.grow hB1
  refine WL_geq rfl rfl rfl ?_
  refine WL_assign rfl rfl ?_
  refine WL_nil ?_
  refine W_ret ?_
  have hq1 := Option.some.inj hF
  subst hq1
  refine fn_ret1 rfl rfl ?_
  exact ⟨_, rfl, bool_res hC1 _⟩

theorem c_Slices_Clone_Lint_int {w0 : World} (a1 : (List Int)) (u1 : Value) (g1 : RO [] w0 u1 a1) (rr : (List Int)) (hF : Slices.Clone_Lint_int a1 = some rr) :
    Calls Try.prog 133 [u1].toArray w0 fun e w' => ∃ v, e = .returned v ∧ Res w0 rr v w' := by
  refine calls_of_W Try.func133 rfl rfl ?_
  have hC0 := Ctx.start w0
  unfold Slices.Clone_Lint_int at hF
  refine W_seq_reg ?_
  refine WL_assign rfl rfl ?_
  refine WL_nil ?_
  refine W_seq ?_
  refine W_seq_reg ?_
  refine WL_move rfl rfl ?_
  refine WL_isnil Try.underlying22 g1 rfl rfl (fun bn1 hb1 => ?_)
  refine WL_nil ?_
  rcases btf bn1 with hc1 | hc1
  · have ha := hb1 hc1
    subst hc1
    subst ha
    replace hF : (some ([]) : Option (List Int)) = some rr := by simpa [app] using hF
    refine W_cond_t rfl ?_
    refine W_seq_reg ?_
    refine WL_assign rfl rfl ?_
    refine WL_nil ?_
    refine W_ret ?_
    refine nrm_ret ?_
    have hq1 := Option.some.inj hF
    subst hq1
    refine fn_ret1 rfl rfl ?_
    exact ⟨_, rfl, nil_res hC0⟩
  · subst hc1
    refine W_cond_f rfl ?_
    refine W_skip ?_
    refine nrm_normal ?_
    refine W_seq_reg ?_
    refine WL_buildSlice (vs := []) hC0 Try.underlying22 ty3 rfl rfl rfl rfl (by simp) rfl rfl (fun b1 w1 hC1 hB1 => ?_)
    have hC2 := hC1.row0 (α := Int)
    have hC3 := hC2.front 1 rfl
    dsimp only [List.eraseIdx, List.cons_append, List.nil_append, List.append_nil] at hC3
    have hC4 : Ctx [] w0 w1 (Item.own (.slice (some ⟨b1, 0, none⟩) 0 0) (([] : List Int) : List Int) :: []) := hC3.rowOwn (by simp [maxLen])
    refine WL_move rfl rfl ?_
    obtain ⟨x1, hx1, hF⟩ := bind_some hF
    refine WL_append_flat (α := Int) hC4 0 rfl g1 hC4.keep Try.underlying22 ty3 rfl hx1 rfl rfl rfl (fun v1 w2 hC5 => ?_)
    try dsimp only [List.set] at hC5
    refine WL_assign rfl rfl ?_
    refine WL_nil ?_
    refine W_ret ?_
    have hq2 := Option.some.inj hF
    subst hq2
    refine fn_ret1 rfl rfl ?_
    exact ⟨_, rfl, own_res hC5 0 rfl⟩

theorem c_M_copyAccess {w0 : World} (a1 : (Int × (List Int))) (u1 : Value) (g1 : RO [] w0 u1 a1.2) (rr : (Int × (List Int))) (hF : M.copyAccess a1 = some rr) :
    Calls Try.prog 156 [(.agg #[(.int .i64 a1.1), u1])].toArray w0 fun e w' => ∃ v, e = .returned v ∧ Res w0 rr v w' := by
  refine calls_of_W Try.func156 rfl rfl ?_
  have hC0 := Ctx.start w0
  unfold M.copyAccess at hF
  refine W_seq_reg ?_
  refine WL_box (cs := [(.int .i64 a1.1), u1]) hC0 rfl rfl rfl (fun b1 w1 hC1 hB1 => ?_)
  refine WL_alloc hC1 zero89 rfl rfl (fun b2 w2 hC2 hB2 => ?_)
  refine WL_nil ?_
  refine W_seq ?_
  refine W_drawn 7 rfl hmix (fun w3 hB3 => ?_)
  have hC3 := hC2.grow hB3
  refine WA_take 0 rfl (by kernel_rfl) (by kernel_rfl) (by kernel_rfl) rfl (fl_field Try.underlying89 rfl rfl (fun w => ⟨_, Try.sizeOf3 w⟩) rfl) ?_
  refine WL_field Try.underlying89 rfl rfl (fun w => ⟨_, Try.sizeOf3 w⟩) rfl rfl ?_
  refine WL_nil ?_
  refine WA_take 2 rfl (by kernel_rfl) (by kernel_rfl) (by kernel_rfl) rfl (fl_field Try.underlying89 rfl rfl (fun w => ⟨_, Try.sizeOf22 w⟩) rfl) ?_
  refine WL_field Try.underlying89 rfl rfl (fun w => ⟨_, Try.sizeOf22 w⟩) rfl rfl ?_
  refine WL_nil ?_
  obtain ⟨x1, hr1, hF⟩ := bind_some hF
  refine WA.sub (l' := [(0, (.agg #[(.int .i64 a1.1), u1])), (1, (ptr b1 0)), (2, (ptr b2 0)), (3, (ptr b1 0)), (5, (ptr b1 1))]) ?_ ⟨rfl, rfl, rfl, rfl, rfl, trivial⟩
  refine WA_postsE [⟨1, [], fun vs => PW.val (.int .i64 a1.1), []⟩, ⟨3, [], fun vs => PW.val u1, []⟩, ⟨4, [], fun vs => PW.own x1, []⟩] [[], [], [3]] 2 rfl (by kernel_rfl) (by kernel_rfl) rfl ?_ ?_
  · refine StepsE_cons rfl ?_ ?_
    · intro w5 hB5
      refine DepsE_nil ?_
      refine ⟨_, rfl, ?_⟩
      refine WL_load_box (hC3.grow hB5) 1 rfl rfl Try.isAgg3 rfl rfl ?_
      refine WL_nil ?_
      exact FinE_val (Below.refl _ _) rfl rfl ⟨rfl, rfl⟩
    refine StepsE_cons rfl ?_ ?_
    · intro w5 hB5
      refine DepsE_nil ?_
      refine ⟨_, rfl, ?_⟩
      refine WL_load_box (hC3.grow hB5) 1 rfl rfl Try.isAgg22 rfl rfl ?_
      refine WL_nil ?_
      exact FinE_val (Below.refl _ _) rfl rfl ⟨rfl, rfl⟩
    refine StepsE_cons rfl ?_ ?_
    · intro w5 hB5
      refine DepsE_cons rfl rfl rfl ?_
      rintro _ _ ⟨rfl, rfl⟩ _
      refine DepsE_nil ?_
      refine ⟨_, rfl, ?_⟩
      refine WL_call Try.call133 rfl rfl (c_Slices_Clone_Lint_int a1.2 u1 (g1.now (hC3.keep.then hB5)) x1 hr1) ?_
      rintro v1 w4 ⟨hB4, F1, hv1, hn1, hb1⟩
      refine WL_nil ?_
      exact FinE_own hB4 rfl rfl hv1 hn1 hb1 (Val.inh hv1)
    exact StepsE_nil
  · intro w6 hB6
    refine AllE_cons rfl rfl rfl ?_
    rintro _ _ ⟨rfl, rfl⟩
    refine AllE_cons rfl rfl rfl ?_
    rintro _ _ ⟨rfl, rfl⟩
    refine AllE_cons rfl rfl rfl ?_
    intro v1 F1 hv1
    refine AllE_nil ?_
    intro hn2 hb2
    have hC4 := hC3.pushL hB6 (Bs := [Item.own v1 (x1 : (List Int))]) (Fs := [F1]) ⟨F1, _, rfl, hv1, rfl⟩ (by simpa using hn2) (fun b h => (hb2 b (by simpa using h)).1)
    refine WA_take 5 rfl (by kernel_rfl) (by kernel_rfl) (by kernel_rfl) rfl (fl_build (vs := [(0, (.int .i64 a1.1)), (1, v1)]) rfl rfl (built89_0_1 rfl (ro_cells (hC4.ro 0 rfl)))) ?_
    refine WL_build (vs := [(0, (.int .i64 a1.1)), (1, v1)]) rfl rfl rfl (built89_0_1 rfl (ro_cells (hC4.ro 0 rfl))) ?_
    refine WL_nil ?_
    refine WA_one 6 (by kernel_rfl) rfl ?_
    refine WL_store_box_agg (cs' := [(.int .i64 a1.1), v1]) (new := [(.int .i64 a1.1), v1]) hC4 1 rfl rfl (by intro v hv; simp only [List.mem_cons, List.not_mem_nil, or_false] at hv; rcases hv with rfl | rfl; exact rfl; exact (ro_one (hC4.ro 0 rfl))) rfl Try.sizeOf89 rfl rfl (fun w7 hC5 => ?_)
    try dsimp only [List.set] at hC5
    refine WL_nil ?_
    refine WA_done (by kernel_rfl) ?_
    refine nrm_normal ?_
    refine W_ret ?_
    have hq1 := Option.some.inj hF
    subst hq1
    refine fn_retG1 rfl (rv_cell_agg (cs' := [(.int .i64 a1.1), v1]) hC5 (i := 1) rfl rfl rfl Try.isAgg89 Try.sizeOf89 rfl) ?_
    have hC6 := own_st89 a1.1 v1 x1 hC5
    exact ⟨_, rfl, own_res hC6 0 rfl⟩

theorem c_M_copyFact {w0 : World} (a1 : (Int × (List Int))) (u1 : Value) (g1 : RO [] w0 u1 a1.2) (rr : (Int × (List Int))) (hF : M.copyFact a1 = some rr) :
    Calls Try.prog 164 [(.agg #[(.int .i64 a1.1), u1])].toArray w0 fun e w' => ∃ v, e = .returned v ∧ Res w0 rr v w' := by
  refine calls_of_W Try.func164 rfl rfl ?_
  have hC0 := Ctx.start w0
  unfold M.copyFact at hF
  refine W_seq_reg ?_
  refine WL_box (cs := [(.int .i64 a1.1), u1]) hC0 rfl rfl rfl (fun b1 w1 hC1 hB1 => ?_)
  refine WL_alloc hC1 zero165 rfl rfl (fun b2 w2 hC2 hB2 => ?_)
  refine WL_nil ?_
  refine W_seq ?_
  refine W_drawn 7 rfl hmix (fun w3 hB3 => ?_)
  have hC3 := hC2.grow hB3
  refine WA_take 0 rfl (by kernel_rfl) (by kernel_rfl) (by kernel_rfl) rfl (fl_field Try.underlying165 rfl rfl (fun w => ⟨_, Try.sizeOf3 w⟩) rfl) ?_
  refine WL_field Try.underlying165 rfl rfl (fun w => ⟨_, Try.sizeOf3 w⟩) rfl rfl ?_
  refine WL_nil ?_
  refine WA_take 2 rfl (by kernel_rfl) (by kernel_rfl) (by kernel_rfl) rfl (fl_field Try.underlying165 rfl rfl (fun w => ⟨_, Try.sizeOf22 w⟩) rfl) ?_
  refine WL_field Try.underlying165 rfl rfl (fun w => ⟨_, Try.sizeOf22 w⟩) rfl rfl ?_
  refine WL_nil ?_
  obtain ⟨x1, hr1, hF⟩ := bind_some hF
  refine WA.sub (l' := [(0, (.agg #[(.int .i64 a1.1), u1])), (1, (ptr b1 0)), (2, (ptr b2 0)), (3, (ptr b1 0)), (5, (ptr b1 1))]) ?_ ⟨rfl, rfl, rfl, rfl, rfl, trivial⟩
  refine WA_postsE [⟨1, [], fun vs => PW.val (.int .i64 a1.1), []⟩, ⟨3, [], fun vs => PW.val u1, []⟩, ⟨4, [], fun vs => PW.own x1, []⟩] [[], [], [3]] 2 rfl (by kernel_rfl) (by kernel_rfl) rfl ?_ ?_
  · refine StepsE_cons rfl ?_ ?_
    · intro w5 hB5
      refine DepsE_nil ?_
      refine ⟨_, rfl, ?_⟩
      refine WL_load_box (hC3.grow hB5) 1 rfl rfl Try.isAgg3 rfl rfl ?_
      refine WL_nil ?_
      exact FinE_val (Below.refl _ _) rfl rfl ⟨rfl, rfl⟩
    refine StepsE_cons rfl ?_ ?_
    · intro w5 hB5
      refine DepsE_nil ?_
      refine ⟨_, rfl, ?_⟩
      refine WL_load_box (hC3.grow hB5) 1 rfl rfl Try.isAgg22 rfl rfl ?_
      refine WL_nil ?_
      exact FinE_val (Below.refl _ _) rfl rfl ⟨rfl, rfl⟩
    refine StepsE_cons rfl ?_ ?_
    · intro w5 hB5
      refine DepsE_cons rfl rfl rfl ?_
      rintro _ _ ⟨rfl, rfl⟩ _
      refine DepsE_nil ?_
      refine ⟨_, rfl, ?_⟩
      refine WL_call Try.call133 rfl rfl (c_Slices_Clone_Lint_int a1.2 u1 (g1.now (hC3.keep.then hB5)) x1 hr1) ?_
      rintro v1 w4 ⟨hB4, F1, hv1, hn1, hb1⟩
      refine WL_nil ?_
      exact FinE_own hB4 rfl rfl hv1 hn1 hb1 (Val.inh hv1)
    exact StepsE_nil
  · intro w6 hB6
    refine AllE_cons rfl rfl rfl ?_
    rintro _ _ ⟨rfl, rfl⟩
    refine AllE_cons rfl rfl rfl ?_
    rintro _ _ ⟨rfl, rfl⟩
    refine AllE_cons rfl rfl rfl ?_
    intro v1 F1 hv1
    refine AllE_nil ?_
    intro hn2 hb2
    have hC4 := hC3.pushL hB6 (Bs := [Item.own v1 (x1 : (List Int))]) (Fs := [F1]) ⟨F1, _, rfl, hv1, rfl⟩ (by simpa using hn2) (fun b h => (hb2 b (by simpa using h)).1)
    refine WA_take 5 rfl (by kernel_rfl) (by kernel_rfl) (by kernel_rfl) rfl (fl_build (vs := [(0, (.int .i64 a1.1)), (1, v1)]) rfl rfl (built165_0_1 rfl (ro_cells (hC4.ro 0 rfl)))) ?_
    refine WL_build (vs := [(0, (.int .i64 a1.1)), (1, v1)]) rfl rfl rfl (built165_0_1 rfl (ro_cells (hC4.ro 0 rfl))) ?_
    refine WL_nil ?_
    refine WA_one 6 (by kernel_rfl) rfl ?_
    refine WL_store_box_agg (cs' := [(.int .i64 a1.1), v1]) (new := [(.int .i64 a1.1), v1]) hC4 1 rfl rfl (by intro v hv; simp only [List.mem_cons, List.not_mem_nil, or_false] at hv; rcases hv with rfl | rfl; exact rfl; exact (ro_one (hC4.ro 0 rfl))) rfl Try.sizeOf165 rfl rfl (fun w7 hC5 => ?_)
    try dsimp only [List.set] at hC5
    refine WL_nil ?_
    refine WA_done (by kernel_rfl) ?_
    refine nrm_normal ?_
    refine W_ret ?_
    have hq1 := Option.some.inj hF
    subst hq1
    refine fn_retG1 rfl (rv_cell_agg (cs' := [(.int .i64 a1.1), v1]) hC5 (i := 1) rfl rfl rfl Try.isAgg165 Try.sizeOf165 rfl) ?_
    have hC6 := own_st165 a1.1 v1 x1 hC5
    exact ⟨_, rfl, own_res hC6 0 rfl⟩

theorem c_M_copyFacts {w0 : World} (a1 : (List (Int × (List Int)))) (u1 : Value) (g1 : RO [] w0 u1 a1) (rr : (List (Int × (List Int)))) (hF : M.copyFacts a1 = some rr) :
    Calls Try.prog 157 [u1].toArray w0 fun e w' => ∃ v, e = .returned v ∧ Res w0 rr v w' := by
  refine calls_of_W Try.func157 rfl rfl ?_
  have hC0 := Ctx.start w0
  unfold M.copyFacts at hF
  refine W_seq_reg ?_
  refine WL_assign rfl rfl ?_
  refine WL_nil ?_
  refine W_seq_reg ?_
  refine WL_buildSlice (vs := []) hC0 Try.underlying100 ty165 rfl rfl rfl rfl (by simp) rfl rfl (fun b1 w1 hC1 hB1 => ?_)
  have hC2 := hC1.row0 (α := (Int × (List Int)))
  have hC3 := hC2.front 1 rfl
  dsimp only [List.eraseIdx, List.cons_append, List.nil_append, List.append_nil] at hC3
  have hC4 : Ctx [] w0 w1 (Item.own (.slice (some ⟨b1, 0, none⟩) 0 0) (([] : List (Int × (List Int))) : List (Int × (List Int))) :: []) := hC3.rowOwn (by simp [maxLen])
  refine WL_assign rfl rfl ?_
  refine WL_nil ?_
  refine W_seq ?_
  refine W_seq_reg ?_
  refine WL_move rfl rfl ?_
  refine WL_len Try.underlying100 g1 rfl rfl ?_
  refine WL_move rfl rfl ?_
  refine WL_nil ?_
  obtain ⟨r1, hr1, hF⟩ := bind_some hF
  refine W_norm (fun l w => ∃ v2 : Value, ∃ x3 : (List (Int × (List Int))), x3 = r1 ∧ l = [(3, v2)] ∧ Ctx [] w0 w [Item.own v2 (x3 : (List (Int × (List Int))))]) ?_ ?_
  · refine W_block ?_
    refine W.sub (l' := [(3, (.slice (some ⟨b1, 0, none⟩) 0 0)), (7, u1), (8, (.int .i64 (List.length a1 : Int))), (9, (.int .i64 0))]) ?_ ⟨rfl, rfl, rfl, rfl, trivial⟩
    refine W_loop (fun k l w => ∃ v1 : Value, ∃ x1 : (List (Int × (List Int))), ∃ x2 : Int, l = [(3, v1), (7, u1), (8, (.int .i64 (List.length a1 : Int))), (9, (.int .i64 x2))] ∧ Ctx [] w0 w [Item.own v1 (x1 : (List (Int × (List Int))))] ∧ M.copyFacts_l1 a1 k x1 x2 = some r1) FUEL ⟨(.slice (some ⟨b1, 0, none⟩) 0 0), ([] : List (Int × (List Int))), 0, rfl, hC4, hr1⟩ ?_
    clear hr1
    rintro k1 _ w2 ⟨v1, x1, x2, rfl, hC5, hL1⟩
    cases k1 with
    | zero => rw [M.copyFacts_l1] at hL1; cases hL1
    | succ k1 =>
      rw [M.copyFacts_l1] at hL1
      refine W_seq_reg ?_
      refine WL_lss rfl rfl rfl ?_
      refine WL_nil ?_
      refine W_seq ?_
      refine W_cond rfl (fun hc1 => ?_) (fun hc1 => ?_)
      · replace hL1 := ite_t hL1 hc1
        refine W_skip ?_
        refine nrm_normal ?_
        refine W_seq ?_
        refine W_block ?_
        refine W_seq_reg ?_
        obtain ⟨x4, hx1, hL1⟩ := bind_some hL1
        refine WL_index Try.underlying100 ty165 g1 hx1 rfl rfl rfl (fun b2 o1 h1 => ?_)
        refine WL_load ty165 h1 hC5.keep rfl rfl (fun v3 h2 => ?_)
        obtain ⟨v4, rfl, h3⟩ := ro_st165 h2
        refine WL_alloc hC5 zero165 rfl rfl (fun b3 w3 hC6 hB3 => ?_)
        refine WL_store_box_agg (cs' := [(.int .i64 x4.1), v4]) (new := [(.int .i64 x4.1), v4]) hC6 0 rfl rfl (by intro v hv; simp only [List.mem_cons, List.not_mem_nil, or_false] at hv; rcases hv with rfl | rfl; exact rfl; exact (ro_one h3)) rfl Try.sizeOf165 rfl rfl (fun w4 hC7 => ?_)
        try dsimp only [List.set] at hC7
        refine WL_nil ?_
        refine W_reg ?_
        refine WL_move rfl rfl ?_
        refine WL_load_box_agg [(.int .i64 x4.1), v4] hC7 0 rfl rfl rfl Try.isAgg165 Try.sizeOf165 rfl rfl ?_
        obtain ⟨x5, hr2, hL1⟩ := bind_some hL1
        refine WL_call Try.call164 rfl rfl (c_M_copyFact (x4.1, x4.2) v4 (h3.now hC7.keep) x5 hr2) ?_
        rintro v5 w5 ⟨hB4, F1, hv1, hn1, hb1⟩
        have hC8 := hC7.push hB4 (A := Item.own v5 x5) hv1 hn1 hb1
        obtain ⟨v6, rfl, hC9⟩ := st165_own hC8
        refine WL_buildSlice (vs := [(.agg #[(.int .i64 x5.1), v6])]) hC9 Try.underlying100 ty165 rfl rfl rfl rfl (by intro v hv; simp only [List.mem_cons, List.not_mem_nil, or_false] at hv; rcases hv with rfl <;> rfl) rfl rfl (fun b4 w6 hC10 hB5 => ?_)
        have hC11 := hC10.row0 (α := (Int × (List Int)))
        have hC13 := hC11.front 2 rfl
        dsimp only [List.eraseIdx, List.cons_append, List.nil_append, List.append_nil] at hC13
        have hC12 := own_st165 x5.1 v6 x5.2 hC13
        have hC14 := hC12.row1
        have hC15 := hC14.front 1 rfl
        dsimp only [List.eraseIdx, List.cons_append, List.nil_append, List.append_nil] at hC15
        have hC16 : Ctx [] w0 w6 (Item.own (.slice (some ⟨b4, 0, none⟩) 1 1) ([(x5.1, x5.2)] : List (Int × (List Int))) :: [Item.box b3 [(.int .i64 x4.1), v4], Item.own v1 (x1 : (List (Int × (List Int))))]) := hC15.rowOwn (by simp [maxLen])
        obtain ⟨x6, hx2, hL1⟩ := bind_some hL1
        refine WL_append_head hC16 1 rfl Try.underlying100 ty165 rfl hx2 rfl rfl rfl (fun v7 w7 hC17 => ?_)
        try dsimp only [List.set] at hC17
        refine WL_assign rfl rfl ?_
        refine WL_nil ?_
        refine blk_normal ?_
        refine nrm_normal ?_
        refine W_reg ?_
        refine WL_add rfl rfl rfl ?_
        refine WL_move rfl rfl ?_
        refine WL_nil ?_
        have hC19 : Ctx [] w0 _ [Item.own v7 (x6 : (List (Int × (List Int)))), Item.box b3 [(.int .i64 x4.1), v4]] := hC17.front 1 rfl
        have hC20 : Ctx [] w0 _ [Item.own v7 (x6 : (List (Int × (List Int))))] := hC19.headN 1
        refine nrm_sub (l' := [(3, v7), (7, u1), (8, (.int .i64 (List.length a1 : Int))), (9, (.int .i64 (w64 (x2 + 1))))]) ⟨rfl, rfl, rfl, rfl, trivial⟩ ?_
        exact ⟨k1, Nat.lt_succ_self _, v7, x6, w64 (x2 + 1), rfl, hC20, hL1⟩
      · replace hL1 := ite_f hL1 hc1
        refine W_exit ?_
        refine nrm_exit ?_
        refine nrm_exit ?_
        refine blk_exit ?_
        have hq1 := Option.some.inj hL1
        subst hq1
        refine nrm_sub (l' := [(3, v1)]) ⟨rfl, trivial⟩ ?_
        exact ⟨v1, x1, rfl, rfl, hC5⟩
  · rintro l2 _ w8 hs2 ⟨v2, x3, rfl, rfl, hC21⟩
    try dsimp only at hF
    refine nrm_sub' hs2 ?_
    clear hs2
    refine W_seq_reg ?_
    refine WL_move rfl rfl ?_
    refine WL_assign rfl rfl ?_
    refine WL_nil ?_
    refine W_ret ?_
    have hq2 := Option.some.inj hF
    subst hq2
    refine fn_ret1 rfl rfl ?_
    exact ⟨_, rfl, own_res hC21 0 rfl⟩

theorem c_M_copyTold {w0 : World} (a1 : ((Int × (List Int)) × (List (Int × (List Int))))) (u1 : Value) (g1 : RO [] w0 u1 a1.1.2) (u2 : Value) (g2 : RO [] w0 u2 a1.2) (rr : ((Int × (List Int)) × (List (Int × (List Int))))) (hF : M.copyTold a1 = some rr) :
    Calls Try.prog 125 [(.agg #[(.int .i64 a1.1.1), u1, u2])].toArray w0 fun e w' => ∃ v, e = .returned v ∧ Res w0 rr v w' := by
  refine calls_of_W Try.func125 rfl rfl ?_
  have hC0 := Ctx.start w0
  unfold M.copyTold at hF
  refine W_seq_reg ?_
  refine WL_box (cs := [(.int .i64 a1.1.1), u1, u2]) hC0 rfl rfl rfl (fun b1 w1 hC1 hB1 => ?_)
  refine WL_alloc hC1 zero112 rfl rfl (fun b2 w2 hC2 hB2 => ?_)
  refine WL_nil ?_
  refine W_seq ?_
  refine W_drawn 8 rfl hmix (fun w3 hB3 => ?_)
  have hC3 := hC2.grow hB3
  refine WA_take 0 rfl (by kernel_rfl) (by kernel_rfl) (by kernel_rfl) rfl (fl_field Try.underlying112 rfl rfl (fun w => ⟨_, Try.sizeOf89 w⟩) rfl) ?_
  refine WL_field Try.underlying112 rfl rfl (fun w => ⟨_, Try.sizeOf89 w⟩) rfl rfl ?_
  refine WL_nil ?_
  refine WA_take 3 rfl (by kernel_rfl) (by kernel_rfl) (by kernel_rfl) rfl (fl_field Try.underlying112 rfl rfl (fun w => ⟨_, Try.sizeOf100 w⟩) rfl) ?_
  refine WL_field Try.underlying112 rfl rfl (fun w => ⟨_, Try.sizeOf100 w⟩) rfl rfl ?_
  refine WL_nil ?_
  obtain ⟨x1, hr1, hF⟩ := bind_some hF
  refine WA.sub (l' := [(0, (.agg #[(.int .i64 a1.1.1), u1, u2])), (1, (ptr b1 0)), (2, (ptr b2 0)), (3, (ptr b1 0)), (6, (ptr b1 2))]) ?_ ⟨rfl, rfl, rfl, rfl, rfl, trivial⟩
  refine WA_postsE [⟨1, [], fun vs => PW.val (.agg #[(.int .i64 a1.1.1), u1]), []⟩, ⟨2, [], fun vs => PW.own x1, []⟩, ⟨4, [], fun vs => PW.val u2, []⟩] [[], [1], []] 3 rfl (by kernel_rfl) (by kernel_rfl) rfl ?_ ?_
  · refine StepsE_cons rfl ?_ ?_
    · intro w5 hB5
      refine DepsE_nil ?_
      refine ⟨_, rfl, ?_⟩
      refine WL_load_box_agg [(.int .i64 a1.1.1), u1] (hC3.grow hB5) 1 rfl rfl rfl Try.isAgg89 Try.sizeOf89 rfl rfl ?_
      refine WL_nil ?_
      exact FinE_val (Below.refl _ _) rfl rfl ⟨rfl, rfl⟩
    refine StepsE_cons rfl ?_ ?_
    · intro w5 hB5
      refine DepsE_cons rfl rfl rfl ?_
      rintro _ _ ⟨rfl, rfl⟩ _
      refine DepsE_nil ?_
      refine ⟨_, rfl, ?_⟩
      refine WL_call Try.call156 rfl rfl (c_M_copyAccess (a1.1.1, a1.1.2) u1 (g1.now (hC3.keep.then hB5)) x1 hr1) ?_
      rintro v1 w4 ⟨hB4, F1, hv1, hn1, hb1⟩
      refine WL_nil ?_
      exact FinE_own hB4 rfl rfl hv1 hn1 hb1 (Val.inh hv1)
    refine StepsE_cons rfl ?_ ?_
    · intro w5 hB5
      refine DepsE_nil ?_
      refine ⟨_, rfl, ?_⟩
      refine WL_load_box (hC3.grow hB5) 1 rfl rfl Try.isAgg100 rfl rfl ?_
      refine WL_nil ?_
      exact FinE_val (Below.refl _ _) rfl rfl ⟨rfl, rfl⟩
    exact StepsE_nil
  · intro w6 hB6
    refine AllE_cons rfl rfl rfl ?_
    rintro _ _ ⟨rfl, rfl⟩
    refine AllE_cons rfl rfl rfl ?_
    intro v1 F1 hv1
    refine AllE_cons rfl rfl rfl ?_
    rintro _ _ ⟨rfl, rfl⟩
    refine AllE_nil ?_
    intro hn2 hb2
    have hC4 := hC3.pushL hB6 (Bs := [Item.own v1 (x1 : (Int × (List Int)))]) (Fs := [F1]) ⟨F1, _, rfl, hv1, rfl⟩ (by simpa using hn2) (fun b h => (hb2 b (by simpa using h)).1)
    obtain ⟨v3, rfl, hC5⟩ := st89_own hC4
    obtain ⟨x2, hr2, hF⟩ := bind_some hF
    refine WA_one 5 (by kernel_rfl) rfl ?_
    refine WL_call Try.call157 rfl rfl (c_M_copyFacts a1.2 u2 (g2.now hC5.keep) x2 hr2) ?_
    rintro v4 w7 ⟨hB7, F2, hv2, hn3, hb3⟩
    have hC6 := hC5.push hB7 (A := Item.own v4 x2) hv2 hn3 hb3
    refine WL_nil ?_
    refine WA_take 6 rfl (by kernel_rfl) (by kernel_rfl) (by kernel_rfl) rfl (fl_build (vs := [(0, (.agg #[(.int .i64 x1.1), v3])), (1, v4)]) rfl rfl (built112_0_1 rfl (ro_cells (hC6.ro 0 rfl)))) ?_
    refine WL_build (vs := [(0, (.agg #[(.int .i64 x1.1), v3])), (1, v4)]) rfl rfl rfl (built112_0_1 rfl (ro_cells (hC6.ro 0 rfl))) ?_
    refine WL_nil ?_
    refine WA_one 7 (by kernel_rfl) rfl ?_
    refine WL_store_box_agg (cs' := [(.int .i64 x1.1), v3, v4]) (new := [(.int .i64 x1.1), v3, v4]) hC6 2 rfl rfl (by intro v hv; simp only [List.mem_cons, List.not_mem_nil, or_false] at hv; rcases hv with rfl | rfl | rfl; exact rfl; exact (ro_one (hC6.ro 1 rfl)); exact (ro_one (hC6.ro 0 rfl))) rfl Try.sizeOf112 rfl rfl (fun w8 hC7 => ?_)
    try dsimp only [List.set] at hC7
    refine WL_nil ?_
    refine WA_done (by kernel_rfl) ?_
    refine nrm_normal ?_
    refine W_ret ?_
    have hq1 := Option.some.inj hF
    subst hq1
    refine fn_retG1 rfl (rv_cell_agg (cs' := [(.int .i64 x1.1), v3, v4]) hC7 (i := 2) rfl rfl rfl Try.isAgg112 Try.sizeOf112 rfl) ?_
    have hC10 : Ctx [] w0 _ [Item.own v3 (x1.2 : (List Int)), Item.own v4 (x2 : (List (Int × (List Int)))), Item.box b2 [(.int .i64 x1.1), v3, v4], Item.box b1 [(.int .i64 a1.1.1), u1, u2]] := hC7.front 1 rfl
    have hC8 := own_st112 x1.1 v3 x1.2 v4 x2 hC10
    exact ⟨_, rfl, own_res hC8 0 rfl⟩

theorem c_M_Without {w0 : World} (a1 : (List ((Int × (List Int)) × (List (Int × (List Int)))))) (u1 : Value) (g1 : RO [] w0 u1 a1) (a2 : (List Int)) (u2 : Value) (g2 : RO [] w0 u2 a2) (rr : (List ((Int × (List Int)) × (List (Int × (List Int)))))) (hF : M.Without a1 a2 = some rr) :
    Calls Try.prog 77 [u1, u2].toArray w0 fun e w' => ∃ v, e = .returned v ∧ Res w0 rr v w' := by
  refine calls_of_W Try.func77 rfl rfl ?_
  have hC0 := Ctx.start w0
  unfold M.Without at hF
  refine W_seq_reg ?_
  refine WL_assign rfl rfl ?_
  refine WL_nil ?_
  refine W_seq_reg ?_
  refine WL_buildSlice (vs := []) hC0 Try.underlying118 ty112 rfl rfl rfl rfl (by simp) rfl rfl (fun b1 w1 hC1 hB1 => ?_)
  have hC2 := hC1.row0 (α := ((Int × (List Int)) × (List (Int × (List Int)))))
  have hC3 := hC2.front 1 rfl
  dsimp only [List.eraseIdx, List.cons_append, List.nil_append, List.append_nil] at hC3
  have hC4 : Ctx [] w0 w1 (Item.own (.slice (some ⟨b1, 0, none⟩) 0 0) (([] : List ((Int × (List Int)) × (List (Int × (List Int))))) : List ((Int × (List Int)) × (List (Int × (List Int))))) :: []) := hC3.rowOwn (by simp [maxLen])
  refine WL_assign rfl rfl ?_
  refine WL_nil ?_
  refine W_seq ?_
  refine W_seq_reg ?_
  refine WL_move rfl rfl ?_
  refine WL_len Try.underlying118 g1 rfl rfl ?_
  refine WL_move rfl rfl ?_
  refine WL_nil ?_
  obtain ⟨r1, hr1, hF⟩ := bind_some hF
  refine W_norm (fun l w => ∃ v2 : Value, ∃ x3 : (List ((Int × (List Int)) × (List (Int × (List Int))))), x3 = r1 ∧ l = [(5, v2)] ∧ Ctx [] w0 w [Item.own v2 (x3 : (List ((Int × (List Int)) × (List (Int × (List Int))))))]) ?_ ?_
  · refine W_block ?_
    refine W.sub (l' := [(1, u2), (5, (.slice (some ⟨b1, 0, none⟩) 0 0)), (9, u1), (10, (.int .i64 (List.length a1 : Int))), (11, (.int .i64 0))]) ?_ ⟨rfl, rfl, rfl, rfl, rfl, trivial⟩
    refine W_loop (fun k l w => ∃ v1 : Value, ∃ x1 : (List ((Int × (List Int)) × (List (Int × (List Int))))), ∃ x2 : Int, l = [(1, u2), (5, v1), (9, u1), (10, (.int .i64 (List.length a1 : Int))), (11, (.int .i64 x2))] ∧ Ctx [] w0 w [Item.own v1 (x1 : (List ((Int × (List Int)) × (List (Int × (List Int))))))] ∧ M.Without_l1 a1 a2 k x1 x2 = some r1) FUEL ⟨(.slice (some ⟨b1, 0, none⟩) 0 0), ([] : List ((Int × (List Int)) × (List (Int × (List Int))))), 0, rfl, hC4, hr1⟩ ?_
    clear hr1
    rintro k1 _ w2 ⟨v1, x1, x2, rfl, hC5, hL1⟩
    cases k1 with
    | zero => rw [M.Without_l1] at hL1; cases hL1
    | succ k1 =>
      rw [M.Without_l1] at hL1
      refine W_seq_reg ?_
      refine WL_lss rfl rfl rfl ?_
      refine WL_nil ?_
      refine W_seq ?_
      refine W_cond rfl (fun hc1 => ?_) (fun hc1 => ?_)
      · replace hL1 := ite_t hL1 hc1
        refine W_skip ?_
        refine nrm_normal ?_
        refine W_seq ?_
        refine W_block ?_
        refine W_seq_reg ?_
        refine WL_move rfl rfl ?_
        obtain ⟨x4, hx1, hL1⟩ := bind_some hL1
        refine WL_index Try.underlying118 ty112 g1 hx1 rfl rfl rfl (fun b2 o1 h1 => ?_)
        refine WL_load ty112 h1 hC5.keep rfl rfl (fun v3 h2 => ?_)
        obtain ⟨v4, v5, rfl, h3, h4⟩ := ro_st112 h2
        refine WL_alloc hC5 zero112 rfl rfl (fun b3 w3 hC6 hB3 => ?_)
        refine WL_assign rfl rfl ?_
        refine WL_store_box_agg (cs' := [(.int .i64 x4.1.1), v4, v5]) (new := [(.int .i64 x4.1.1), v4, v5]) hC6 0 rfl rfl (by intro v hv; simp only [List.mem_cons, List.not_mem_nil, or_false] at hv; rcases hv with rfl | rfl | rfl; exact rfl; exact (ro_one h3); exact (ro_one h4)) rfl Try.sizeOf112 rfl rfl (fun w4 hC7 => ?_)
        try dsimp only [List.set] at hC7
        refine WL_nil ?_
        refine W_seq_reg ?_
        refine WL_move rfl rfl ?_
        refine WL_move rfl rfl ?_
        obtain ⟨x5, hr2, hL1⟩ := bind_some hL1
        refine WL_call Try.call124 rfl rfl (c_Slices_Contains_Lint_int a2 u2 (g2.now hC7.keep) x2 x5 hr2) ?_
        intro _ w5 hv1
        obtain ⟨rfl, hB4⟩ := res_bool hv1
        have hC8 := hC7.grow hB4
        refine WL_not rfl rfl ?_
        refine WL_nil ?_
        obtain ⟨r2, hr3, hL1⟩ := bind_some hL1
        refine W_norm (fun l w => ∃ v6 : Value, ∃ x6 : (List ((Int × (List Int)) × (List (Int × (List Int))))), x6 = r2 ∧ l = [(1, u2), (5, v6), (9, u1), (10, (.int .i64 (List.length a1 : Int))), (11, (.int .i64 x2))] ∧ Ctx [] w0 w [Item.own v6 (x6 : (List ((Int × (List Int)) × (List (Int × (List Int))))))]) ?_ ?_
        · refine W_cond rfl (fun hc2 => ?_) (fun hc2 => ?_)
          · replace hr3 := ite_t hr3 hc2
            refine W_reg ?_
            refine WL_move rfl rfl ?_
            refine WL_load_box_agg [(.int .i64 x4.1.1), v4, v5] hC8 0 rfl rfl rfl Try.isAgg112 Try.sizeOf112 rfl rfl ?_
            obtain ⟨x7, hr4, hr3⟩ := bind_some hr3
            refine WL_call Try.call125 rfl rfl (c_M_copyTold ((x4.1.1, x4.1.2), x4.2) v4 (h3.now hC8.keep) v5 (h4.now hC8.keep) x7 hr4) ?_
            rintro v7 w7 ⟨hB6, F1, hv2, hn1, hb1⟩
            have hC10 := hC8.push hB6 (A := Item.own v7 x7) hv2 hn1 hb1
            obtain ⟨v8, v9, rfl, hC11⟩ := st112_own hC10
            refine WL_buildSlice (vs := [(.agg #[(.int .i64 x7.1.1), v8, v9])]) hC11 Try.underlying118 ty112 rfl rfl rfl rfl (by intro v hv; simp only [List.mem_cons, List.not_mem_nil, or_false] at hv; rcases hv with rfl <;> rfl) rfl rfl (fun b4 w8 hC12 hB7 => ?_)
            have hC13 := hC12.row0 (α := ((Int × (List Int)) × (List (Int × (List Int)))))
            have hC15 := hC13.front 3 rfl
            dsimp only [List.eraseIdx, List.cons_append, List.nil_append, List.append_nil] at hC15
            have hC16 := hC15.front 3 rfl
            dsimp only [List.eraseIdx, List.cons_append, List.nil_append, List.append_nil] at hC16
            have hC14 := own_st112 x7.1.1 v8 x7.1.2 v9 x7.2 hC16
            have hC17 := hC14.row1
            have hC18 := hC17.front 1 rfl
            dsimp only [List.eraseIdx, List.cons_append, List.nil_append, List.append_nil] at hC18
            have hC19 : Ctx [] w0 w8 (Item.own (.slice (some ⟨b4, 0, none⟩) 1 1) ([((x7.1.1, x7.1.2), x7.2)] : List ((Int × (List Int)) × (List (Int × (List Int))))) :: [Item.box b3 [(.int .i64 x4.1.1), v4, v5], Item.own v1 (x1 : (List ((Int × (List Int)) × (List (Int × (List Int))))))]) := hC18.rowOwn (by simp [maxLen])
            obtain ⟨x8, hx2, hr3⟩ := bind_some hr3
            refine WL_append_head hC19 1 rfl Try.underlying118 ty112 rfl hx2 rfl rfl rfl (fun v10 w9 hC20 => ?_)
            try dsimp only [List.set] at hC20
            refine WL_assign rfl rfl ?_
            refine WL_nil ?_
            have hq1 := Option.some.inj hr3
            subst hq1
            have hC22 : Ctx [] w0 _ [Item.own v10 (x8 : (List ((Int × (List Int)) × (List (Int × (List Int)))))), Item.box b3 [(.int .i64 x4.1.1), v4, v5]] := hC20.front 1 rfl
            have hC23 : Ctx [] w0 _ [Item.own v10 (x8 : (List ((Int × (List Int)) × (List (Int × (List Int))))))] := hC22.headN 1
            refine nrm_sub (l' := [(1, u2), (5, v10), (9, u1), (10, (.int .i64 (List.length a1 : Int))), (11, (.int .i64 x2))]) ⟨rfl, rfl, rfl, rfl, rfl, trivial⟩ ?_
            exact ⟨v10, x8, rfl, rfl, hC23⟩
          · replace hr3 := ite_f hr3 hc2
            refine W_skip ?_
            have hq2 := Option.some.inj hr3
            subst hq2
            have hC24 : Ctx [] w0 _ [Item.own v1 (x1 : (List ((Int × (List Int)) × (List (Int × (List Int)))))), Item.box b3 [(.int .i64 x4.1.1), v4, v5]] := hC8.front 1 rfl
            have hC25 : Ctx [] w0 _ [Item.own v1 (x1 : (List ((Int × (List Int)) × (List (Int × (List Int))))))] := hC24.headN 1
            refine nrm_sub (l' := [(1, u2), (5, v1), (9, u1), (10, (.int .i64 (List.length a1 : Int))), (11, (.int .i64 x2))]) ⟨rfl, rfl, rfl, rfl, rfl, trivial⟩ ?_
            exact ⟨v1, x1, rfl, rfl, hC25⟩
        · rintro l2 _ w6 hs2 ⟨v6, x6, rfl, rfl, hC9⟩
          try dsimp only at hL1
          refine blk_normal ?_
          refine nrm_sub' hs2 ?_
          clear hs2
          refine W_reg ?_
          refine WL_add rfl rfl rfl ?_
          refine WL_move rfl rfl ?_
          refine WL_nil ?_
          refine nrm_sub (l' := [(1, u2), (5, v6), (9, u1), (10, (.int .i64 (List.length a1 : Int))), (11, (.int .i64 (w64 (x2 + 1))))]) ⟨rfl, rfl, rfl, rfl, rfl, trivial⟩ ?_
          exact ⟨k1, Nat.lt_succ_self _, v6, x6, w64 (x2 + 1), rfl, hC9, hL1⟩
      · replace hL1 := ite_f hL1 hc1
        refine W_exit ?_
        refine nrm_exit ?_
        refine nrm_exit ?_
        refine blk_exit ?_
        have hq3 := Option.some.inj hL1
        subst hq3
        refine nrm_sub (l' := [(5, v1)]) ⟨rfl, trivial⟩ ?_
        exact ⟨v1, x1, rfl, rfl, hC5⟩
  · rintro l3 _ w10 hs3 ⟨v2, x3, rfl, rfl, hC26⟩
    try dsimp only at hF
    refine nrm_sub' hs3 ?_
    clear hs3
    refine W_seq_reg ?_
    refine WL_move rfl rfl ?_
    refine WL_assign rfl rfl ?_
    refine WL_nil ?_
    refine W_ret ?_
    have hq4 := Option.some.inj hF
    subst hq4
    refine fn_ret1 rfl rfl ?_
    exact ⟨_, rfl, own_res hC26 0 rfl⟩

theorem c_Q_eqFact {w0 : World} (a1 : (Int × (List Int))) (u1 : Value) (g1 : RO [] w0 u1 a1.2) (a2 : (Int × (List Int))) (u2 : Value) (g2 : RO [] w0 u2 a2.2) (rr : Bool) (hF : Q.eqFact a1 a2 = some rr) :
    Calls Try.prog 132 [(.agg #[(.int .i64 a1.1), u1]), (.agg #[(.int .i64 a2.1), u2])].toArray w0 fun e w' => ∃ v, e = .returned v ∧ Res w0 rr v w' := by
  refine calls_of_W Try.func132 rfl rfl ?_
  have hC0 := Ctx.start w0
  unfold Q.eqFact at hF
  refine W_seq_reg ?_
  refine WL_box (cs := [(.int .i64 a1.1), u1]) hC0 rfl rfl rfl (fun b1 w1 hC1 hB1 => ?_)
  refine WL_box (cs := [(.int .i64 a2.1), u2]) hC1 rfl rfl rfl (fun b2 w2 hC2 hB2 => ?_)
  refine WL_assign rfl rfl ?_
  refine WL_nil ?_
  refine W_seq ?_
  refine W_seq_reg ?_
  refine WL_field Try.underlying165 rfl rfl (fun w => ⟨_, Try.sizeOf3 w⟩) rfl rfl ?_
  refine WL_load_box hC2 1 rfl rfl Try.isAgg3 rfl rfl ?_
  refine WL_field Try.underlying165 rfl rfl (fun w => ⟨_, Try.sizeOf3 w⟩) rfl rfl ?_
  refine WL_load_box hC2 0 rfl rfl Try.isAgg3 rfl rfl ?_
  refine WL_neq rfl rfl rfl ?_
  refine WL_nil ?_
  refine W_cond rfl (fun hc1 => ?_) (fun hc1 => ?_)
  · replace hF := ite_t hF hc1
    refine W_seq_reg ?_
    refine WL_assign rfl rfl ?_
    refine WL_nil ?_
    refine W_ret ?_
    refine nrm_ret ?_
    have hq1 := Option.some.inj hF
    subst hq1
    refine fn_ret1 rfl rfl ?_
    exact ⟨_, rfl, bool_res hC2 _⟩
  · replace hF := ite_f hF hc1
    refine W_skip ?_
    refine nrm_normal ?_
    refine W_seq ?_
    refine W_seq_reg ?_
    refine WL_field Try.underlying165 rfl rfl (fun w => ⟨_, Try.sizeOf22 w⟩) rfl rfl ?_
    refine WL_load_box hC2 1 rfl rfl Try.isAgg22 rfl rfl ?_
    refine WL_field Try.underlying165 rfl rfl (fun w => ⟨_, Try.sizeOf22 w⟩) rfl rfl ?_
    refine WL_load_box hC2 0 rfl rfl Try.isAgg22 rfl rfl ?_
    obtain ⟨x1, hr1, hF⟩ := bind_some hF
    refine WL_call Try.call39 rfl rfl (c_Q_eqIntS a1.2 u1 (g1.now hC2.keep) a2.2 u2 (g2.now hC2.keep) x1 hr1) ?_
    intro _ w3 hv1
    obtain ⟨rfl, hB3⟩ := res_bool hv1
    have hC3 := hC2.grow hB3
    refine WL_not rfl rfl ?_
    refine WL_nil ?_
    refine W_cond rfl (fun hc2 => ?_) (fun hc2 => ?_)
    · replace hF := ite_t hF hc2
      refine W_seq_reg ?_
      refine WL_assign rfl rfl ?_
      refine WL_nil ?_
      refine W_ret ?_
      refine nrm_ret ?_
      have hq2 := Option.some.inj hF
      subst hq2
      refine fn_ret1 rfl rfl ?_
      exact ⟨_, rfl, bool_res hC3 _⟩
    · replace hF := ite_f hF hc2
      refine W_skip ?_
      refine nrm_normal ?_
      refine W_seq_reg ?_
      refine WL_assign rfl rfl ?_
      refine WL_nil ?_
      refine W_ret ?_
      have hq3 := Option.some.inj hF
      subst hq3
      refine fn_ret1 rfl rfl ?_
      exact ⟨_, rfl, bool_res hC3 _⟩

theorem c_Q_eqFactS {w0 : World} (a1 : (List (Int × (List Int)))) (u1 : Value) (g1 : RO [] w0 u1 a1) (a2 : (List (Int × (List Int)))) (u2 : Value) (g2 : RO [] w0 u2 a2) (rr : Bool) (hF : Q.eqFactS a1 a2 = some rr) :
    Calls Try.prog 85 [u1, u2].toArray w0 fun e w' => ∃ v, e = .returned v ∧ Res w0 rr v w' := by
  refine calls_of_W Try.func85 rfl rfl ?_
  have hC0 := Ctx.start w0
  unfold Q.eqFactS at hF
  refine W_seq_reg ?_
  refine WL_assign rfl rfl ?_
  refine WL_nil ?_
  refine W_seq ?_
  refine W_seq_reg ?_
  refine WL_move rfl rfl ?_
  refine WL_len Try.underlying100 g1 rfl rfl ?_
  refine WL_move rfl rfl ?_
  refine WL_len Try.underlying100 g2 rfl rfl ?_
  refine WL_neq rfl rfl rfl ?_
  refine WL_nil ?_
  refine W_cond rfl (fun hc1 => ?_) (fun hc1 => ?_)
  · replace hF := ite_t hF hc1
    refine W_seq_reg ?_
    refine WL_assign rfl rfl ?_
    refine WL_nil ?_
    refine W_ret ?_
    refine nrm_ret ?_
    have hq1 := Option.some.inj hF
    subst hq1
    refine fn_ret1 rfl rfl ?_
    exact ⟨_, rfl, bool_res hC0 _⟩
  · replace hF := ite_f hF hc1
    refine W_skip ?_
    refine nrm_normal ?_
    refine W_seq ?_
    refine W_seq_reg ?_
    refine WL_assign rfl rfl ?_
    refine WL_nil ?_
    obtain ⟨r1, hr1, hF⟩ := bind_some hF
    refine W_norm (fun l w => .inl () = r1 ∧ l = [] ∧ Below w0.heap.size w0 w ∧ Ctx [] w0 w []) ?_ ?_
    · refine W_block ?_
      refine W.sub (l' := [(0, u1), (1, u2), (5, (.int .i64 0))]) ?_ ⟨rfl, rfl, rfl, trivial⟩
      refine W_loop (fun k l w => ∃ x1 : Int, l = [(0, u1), (1, u2), (5, (.int .i64 x1))] ∧ Below w0.heap.size w0 w ∧ Ctx [] w0 w [] ∧ Q.eqFactS_l1 a1 a2 k x1 = some r1) FUEL ⟨0, rfl, (Below.refl _ _), hC0, hr1⟩ ?_
      clear hr1
      rintro k1 _ w1 ⟨x1, rfl, hB1, hC1, hL1⟩
      cases k1 with
      | zero => rw [Q.eqFactS_l1] at hL1; cases hL1
      | succ k1 =>
        rw [Q.eqFactS_l1] at hL1
        refine W_seq ?_
        refine W_seq_reg ?_
        refine WL_move rfl rfl ?_
        refine WL_move rfl rfl ?_
        refine WL_len Try.underlying100 g1 rfl rfl ?_
        refine WL_lss rfl rfl rfl ?_
        refine WL_nil ?_
        refine W_cond rfl (fun hc2 => ?_) (fun hc2 => ?_)
        · replace hL1 := ite_t hL1 hc2
          refine W_skip ?_
          refine nrm_normal ?_
          refine W_seq ?_
          refine W_block ?_
          refine W_seq ?_
          refine W_drawn 10 rfl hmix (fun w2 hB2 => ?_)
          have hC2 := hC1.grow hB2
          refine WA_take 0 rfl (by kernel_rfl) (by kernel_rfl) (by kernel_rfl) rfl (fl_move rfl) ?_
          refine WL_move rfl rfl ?_
          refine WL_nil ?_
          refine WA_take 1 rfl (by kernel_rfl) (by kernel_rfl) (by kernel_rfl) rfl (fl_move rfl) ?_
          refine WL_move rfl rfl ?_
          refine WL_nil ?_
          obtain ⟨x2, hx1, hL1⟩ := bind_some hL1
          refine WA_take 2 rfl (by kernel_rfl) (by kernel_rfl) (by kernel_rfl) rfl (fl_index Try.underlying100 ty165 g1 hx1 rfl rfl) ?_
          refine WL_index Try.underlying100 ty165 g1 hx1 rfl rfl rfl (fun b1 o1 h1 => ?_)
          refine WL_nil ?_
          refine WA_take 4 rfl (by kernel_rfl) (by kernel_rfl) (by kernel_rfl) rfl (fl_move rfl) ?_
          refine WL_move rfl rfl ?_
          refine WL_nil ?_
          refine WA_take 5 rfl (by kernel_rfl) (by kernel_rfl) (by kernel_rfl) rfl (fl_move rfl) ?_
          refine WL_move rfl rfl ?_
          refine WL_nil ?_
          obtain ⟨x3, hx2, hL1⟩ := bind_some hL1
          refine WA_take 6 rfl (by kernel_rfl) (by kernel_rfl) (by kernel_rfl) rfl (fl_index Try.underlying100 ty165 g2 hx2 rfl rfl) ?_
          refine WL_index Try.underlying100 ty165 g2 hx2 rfl rfl rfl (fun b2 o2 h2 => ?_)
          refine WL_nil ?_
          refine WA.sub (l' := [(0, u1), (1, u2), (5, (.int .i64 x1)), (11, (.int .i64 x1)), (12, u1), (13, (.int .i64 (List.length a1 : Int))), (14, (.bool (decide (x1 < (List.length a1 : Int))))), (17, u1), (18, (.int .i64 x1)), (19, (ptr b1 o1)), (21, u2), (22, (.int .i64 x1)), (23, (ptr b2 o2))]) ?_ ⟨rfl, rfl, rfl, rfl, rfl, rfl, rfl, rfl, rfl, rfl, rfl, rfl, rfl, trivial⟩
          refine WA_postsE [⟨3, [], fun vs => PW.ro [] w0 x2, []⟩, ⟨7, [], fun vs => PW.ro [] w0 x3, []⟩] [[], []] 2 rfl (by kernel_rfl) (by kernel_rfl) rfl ?_ ?_
          · refine StepsE_cons rfl ?_ ?_
            · intro w3 hB3
              refine DepsE_nil ?_
              refine ⟨_, rfl, ?_⟩
              refine WL_load ty165 h1 (hC2.keep.then hB3) rfl rfl (fun v3 h5 => ?_)
              refine WL_nil ?_
              exact FinE_val (Below.refl _ _) rfl rfl ⟨rfl, h5⟩
            refine StepsE_cons rfl ?_ ?_
            · intro w3 hB3
              refine DepsE_nil ?_
              refine ⟨_, rfl, ?_⟩
              refine WL_load ty165 h2 (hC2.keep.then hB3) rfl rfl (fun v6 h8 => ?_)
              refine WL_nil ?_
              exact FinE_val (Below.refl _ _) rfl rfl ⟨rfl, h8⟩
            exact StepsE_nil
          · intro w4 hB4
            refine AllE_cons rfl rfl rfl ?_
            rintro v3 _ ⟨rfl, h5⟩
            obtain ⟨v2, rfl, h4⟩ := ro_st165 h5
            refine AllE_cons rfl rfl rfl ?_
            rintro v6 _ ⟨rfl, h8⟩
            obtain ⟨v5, rfl, h7⟩ := ro_st165 h8
            refine AllE_nil ?_
            intro hn1 hb1
            have hC3 := hC2.grow hB4
            obtain ⟨x4, hr2, hL1⟩ := bind_some hL1
            refine WA_one 8 (by kernel_rfl) rfl ?_
            refine WL_call Try.call132 rfl rfl (c_Q_eqFact x2 v2 (h4.now hC3.keep) x3 v5 (h7.now hC3.keep) x4 hr2) ?_
            intro _ w5 hv1
            obtain ⟨rfl, hB5⟩ := res_bool hv1
            have hC4 := hC3.grow hB5
            refine WL_nil ?_
            refine WA_take 9 rfl (by kernel_rfl) (by kernel_rfl) (by kernel_rfl) rfl (fl_not rfl) ?_
            refine WL_not rfl rfl ?_
            refine WL_nil ?_
            refine WA_done (by kernel_rfl) ?_
            refine nrm_normal ?_
            refine W_cond rfl (fun hc3 => ?_) (fun hc3 => ?_)
            · replace hL1 := ite_t hL1 hc3
              refine W_seq_reg ?_
              refine WL_assign rfl rfl ?_
              refine WL_nil ?_
              refine W_ret ?_
              refine blk_ret ?_
              refine nrm_ret ?_
              refine nrm_ret ?_
              refine blk_ret ?_
              refine nrm_ret ?_
              refine nrm_ret ?_
              have hq2 := Option.some.inj hL1
              subst hq2
              dsimp only at hF
              have hq3 := Option.some.inj hF
              subst hq3
              refine fn_ret1 rfl rfl ?_
              exact ⟨_, rfl, bool_res hC4 _⟩
            · replace hL1 := ite_f hL1 hc3
              refine W_skip ?_
              refine blk_normal ?_
              refine nrm_normal ?_
              refine W_reg ?_
              refine WL_move rfl rfl ?_
              refine WL_add rfl rfl rfl ?_
              refine WL_assign rfl rfl ?_
              refine WL_nil ?_
              refine nrm_sub (l' := [(0, u1), (1, u2), (5, (.int .i64 (w64 (x1 + 1))))]) ⟨rfl, rfl, rfl, trivial⟩ ?_
              exact ⟨k1, Nat.lt_succ_self _, w64 (x1 + 1), rfl, ((((Keep.of hB1).then hB2).then hB4).then hB5).below, hC4, hL1⟩
        · replace hL1 := ite_f hL1 hc2
          refine W_exit ?_
          refine nrm_exit ?_
          refine nrm_exit ?_
          refine blk_exit ?_
          have hq4 := Option.some.inj hL1
          subst hq4
          refine nrm_sub (l' := []) trivial ?_
          exact ⟨rfl, rfl, (Keep.of hB1).below, hC1⟩
    · rintro l2 _ w6 hs2 ⟨rfl, rfl, hB6, hC5⟩
      try dsimp only at hF
      refine nrm_sub' hs2 ?_
      clear hs2
      refine W_seq_reg ?_
      refine WL_assign rfl rfl ?_
      refine WL_nil ?_
      refine W_ret ?_
      have hq5 := Option.some.inj hF
      subst hq5
      refine fn_ret1 rfl rfl ?_
      exact ⟨_, rfl, bool_res hC5 _⟩

theorem c_Q_eqAccess {w0 : World} (a1 : (Int × (List Int))) (u1 : Value) (g1 : RO [] w0 u1 a1.2) (a2 : (Int × (List Int))) (u2 : Value) (g2 : RO [] w0 u2 a2.2) (rr : Bool) (hF : Q.eqAccess a1 a2 = some rr) :
    Calls Try.prog 115 [(.agg #[(.int .i64 a1.1), u1]), (.agg #[(.int .i64 a2.1), u2])].toArray w0 fun e w' => ∃ v, e = .returned v ∧ Res w0 rr v w' := by
  refine calls_of_W Try.func115 rfl rfl ?_
  have hC0 := Ctx.start w0
  unfold Q.eqAccess at hF
  refine W_seq_reg ?_
  refine WL_box (cs := [(.int .i64 a1.1), u1]) hC0 rfl rfl rfl (fun b1 w1 hC1 hB1 => ?_)
  refine WL_box (cs := [(.int .i64 a2.1), u2]) hC1 rfl rfl rfl (fun b2 w2 hC2 hB2 => ?_)
  refine WL_assign rfl rfl ?_
  refine WL_nil ?_
  refine W_seq ?_
  refine W_seq_reg ?_
  refine WL_field Try.underlying89 rfl rfl (fun w => ⟨_, Try.sizeOf3 w⟩) rfl rfl ?_
  refine WL_load_box hC2 1 rfl rfl Try.isAgg3 rfl rfl ?_
  refine WL_field Try.underlying89 rfl rfl (fun w => ⟨_, Try.sizeOf3 w⟩) rfl rfl ?_
  refine WL_load_box hC2 0 rfl rfl Try.isAgg3 rfl rfl ?_
  refine WL_neq rfl rfl rfl ?_
  refine WL_nil ?_
  refine W_cond rfl (fun hc1 => ?_) (fun hc1 => ?_)
  · replace hF := ite_t hF hc1
    refine W_seq_reg ?_
    refine WL_assign rfl rfl ?_
    refine WL_nil ?_
    refine W_ret ?_
    refine nrm_ret ?_
    have hq1 := Option.some.inj hF
    subst hq1
    refine fn_ret1 rfl rfl ?_
    exact ⟨_, rfl, bool_res hC2 _⟩
  · replace hF := ite_f hF hc1
    refine W_skip ?_
    refine nrm_normal ?_
    refine W_seq ?_
    refine W_seq_reg ?_
    refine WL_field Try.underlying89 rfl rfl (fun w => ⟨_, Try.sizeOf22 w⟩) rfl rfl ?_
    refine WL_load_box hC2 1 rfl rfl Try.isAgg22 rfl rfl ?_
    refine WL_field Try.underlying89 rfl rfl (fun w => ⟨_, Try.sizeOf22 w⟩) rfl rfl ?_
    refine WL_load_box hC2 0 rfl rfl Try.isAgg22 rfl rfl ?_
    obtain ⟨x1, hr1, hF⟩ := bind_some hF
    refine WL_call Try.call39 rfl rfl (c_Q_eqIntS a1.2 u1 (g1.now hC2.keep) a2.2 u2 (g2.now hC2.keep) x1 hr1) ?_
    intro _ w3 hv1
    obtain ⟨rfl, hB3⟩ := res_bool hv1
    have hC3 := hC2.grow hB3
    refine WL_not rfl rfl ?_
    refine WL_nil ?_
    refine W_cond rfl (fun hc2 => ?_) (fun hc2 => ?_)
    · replace hF := ite_t hF hc2
      refine W_seq_reg ?_
      refine WL_assign rfl rfl ?_
      refine WL_nil ?_
      refine W_ret ?_
      refine nrm_ret ?_
      have hq2 := Option.some.inj hF
      subst hq2
      refine fn_ret1 rfl rfl ?_
      exact ⟨_, rfl, bool_res hC3 _⟩
    · replace hF := ite_f hF hc2
      refine W_skip ?_
      refine nrm_normal ?_
      refine W_seq_reg ?_
      refine WL_assign rfl rfl ?_
      refine WL_nil ?_
      refine W_ret ?_
      have hq3 := Option.some.inj hF
      subst hq3
      refine fn_ret1 rfl rfl ?_
      exact ⟨_, rfl, bool_res hC3 _⟩

theorem c_Q_eqTold {w0 : World} (a1 : ((Int × (List Int)) × (List (Int × (List Int))))) (u1 : Value) (g1 : RO [] w0 u1 a1.1.2) (u2 : Value) (g2 : RO [] w0 u2 a1.2) (a2 : ((Int × (List Int)) × (List (Int × (List Int))))) (u3 : Value) (g3 : RO [] w0 u3 a2.1.2) (u4 : Value) (g4 : RO [] w0 u4 a2.2) (rr : Bool) (hF : Q.eqTold a1 a2 = some rr) :
    Calls Try.prog 73 [(.agg #[(.int .i64 a1.1.1), u1, u2]), (.agg #[(.int .i64 a2.1.1), u3, u4])].toArray w0 fun e w' => ∃ v, e = .returned v ∧ Res w0 rr v w' := by
  refine calls_of_W Try.func73 rfl rfl ?_
  have hC0 := Ctx.start w0
  unfold Q.eqTold at hF
  refine W_seq_reg ?_
  refine WL_box (cs := [(.int .i64 a1.1.1), u1, u2]) hC0 rfl rfl rfl (fun b1 w1 hC1 hB1 => ?_)
  refine WL_box (cs := [(.int .i64 a2.1.1), u3, u4]) hC1 rfl rfl rfl (fun b2 w2 hC2 hB2 => ?_)
  refine WL_assign rfl rfl ?_
  refine WL_nil ?_
  refine W_seq ?_
  refine W_seq_reg ?_
  refine WL_field Try.underlying112 rfl rfl (fun w => ⟨_, Try.sizeOf89 w⟩) rfl rfl ?_
  refine WL_load_box_agg [(.int .i64 a1.1.1), u1] hC2 1 rfl rfl rfl Try.isAgg89 Try.sizeOf89 rfl rfl ?_
  refine WL_field Try.underlying112 rfl rfl (fun w => ⟨_, Try.sizeOf89 w⟩) rfl rfl ?_
  refine WL_load_box_agg [(.int .i64 a2.1.1), u3] hC2 0 rfl rfl rfl Try.isAgg89 Try.sizeOf89 rfl rfl ?_
  obtain ⟨x1, hr1, hF⟩ := bind_some hF
  refine WL_call Try.call115 rfl rfl (c_Q_eqAccess (a1.1.1, a1.1.2) u1 (g1.now hC2.keep) (a2.1.1, a2.1.2) u3 (g3.now hC2.keep) x1 hr1) ?_
  intro _ w3 hv1
  obtain ⟨rfl, hB3⟩ := res_bool hv1
  have hC3 := hC2.grow hB3
  refine WL_not rfl rfl ?_
  refine WL_nil ?_
  refine W_cond rfl (fun hc1 => ?_) (fun hc1 => ?_)
  · replace hF := ite_t hF hc1
    refine W_seq_reg ?_
    refine WL_assign rfl rfl ?_
    refine WL_nil ?_
    refine W_ret ?_
    refine nrm_ret ?_
    have hq1 := Option.some.inj hF
    subst hq1
    refine fn_ret1 rfl rfl ?_
    exact ⟨_, rfl, bool_res hC3 _⟩
  · replace hF := ite_f hF hc1
    refine W_skip ?_
    refine nrm_normal ?_
    refine W_seq ?_
    refine W_seq_reg ?_
    refine WL_field Try.underlying112 rfl rfl (fun w => ⟨_, Try.sizeOf100 w⟩) rfl rfl ?_
    refine WL_load_box hC3 1 rfl rfl Try.isAgg100 rfl rfl ?_
    refine WL_field Try.underlying112 rfl rfl (fun w => ⟨_, Try.sizeOf100 w⟩) rfl rfl ?_
    refine WL_load_box hC3 0 rfl rfl Try.isAgg100 rfl rfl ?_
    obtain ⟨x2, hr2, hF⟩ := bind_some hF
    refine WL_call Try.call85 rfl rfl (c_Q_eqFactS a1.2 u2 (g2.now hC3.keep) a2.2 u4 (g4.now hC3.keep) x2 hr2) ?_
    intro _ w4 hv2
    obtain ⟨rfl, hB4⟩ := res_bool hv2
    have hC4 := hC3.grow hB4
    refine WL_not rfl rfl ?_
    refine WL_nil ?_
    refine W_cond rfl (fun hc2 => ?_) (fun hc2 => ?_)
    · replace hF := ite_t hF hc2
      refine W_seq_reg ?_
      refine WL_assign rfl rfl ?_
      refine WL_nil ?_
      refine W_ret ?_
      refine nrm_ret ?_
      have hq2 := Option.some.inj hF
      subst hq2
      refine fn_ret1 rfl rfl ?_
      exact ⟨_, rfl, bool_res hC4 _⟩
    · replace hF := ite_f hF hc2
      refine W_skip ?_
      refine nrm_normal ?_
      refine W_seq_reg ?_
      refine WL_assign rfl rfl ?_
      refine WL_nil ?_
      refine W_ret ?_
      have hq3 := Option.some.inj hF
      subst hq3
      refine fn_ret1 rfl rfl ?_
      exact ⟨_, rfl, bool_res hC4 _⟩

theorem c_Q_eqToldS {w0 : World} (a1 : (List ((Int × (List Int)) × (List (Int × (List Int)))))) (u1 : Value) (g1 : RO [] w0 u1 a1) (a2 : (List ((Int × (List Int)) × (List (Int × (List Int)))))) (u2 : Value) (g2 : RO [] w0 u2 a2) (rr : Bool) (hF : Q.eqToldS a1 a2 = some rr) :
    Calls Try.prog 78 [u1, u2].toArray w0 fun e w' => ∃ v, e = .returned v ∧ Res w0 rr v w' := by
  refine calls_of_W Try.func78 rfl rfl ?_
  have hC0 := Ctx.start w0
  unfold Q.eqToldS at hF
  refine W_seq_reg ?_
  refine WL_assign rfl rfl ?_
  refine WL_nil ?_
  refine W_seq ?_
  refine W_seq_reg ?_
  refine WL_move rfl rfl ?_
  refine WL_len Try.underlying118 g1 rfl rfl ?_
  refine WL_move rfl rfl ?_
  refine WL_len Try.underlying118 g2 rfl rfl ?_
  refine WL_neq rfl rfl rfl ?_
  refine WL_nil ?_
  refine W_cond rfl (fun hc1 => ?_) (fun hc1 => ?_)
  · replace hF := ite_t hF hc1
    refine W_seq_reg ?_
    refine WL_assign rfl rfl ?_
    refine WL_nil ?_
    refine W_ret ?_
    refine nrm_ret ?_
    have hq1 := Option.some.inj hF
    subst hq1
    refine fn_ret1 rfl rfl ?_
    exact ⟨_, rfl, bool_res hC0 _⟩
  · replace hF := ite_f hF hc1
    refine W_skip ?_
    refine nrm_normal ?_
    refine W_seq ?_
    refine W_seq_reg ?_
    refine WL_assign rfl rfl ?_
    refine WL_nil ?_
    obtain ⟨r1, hr1, hF⟩ := bind_some hF
    refine W_norm (fun l w => .inl () = r1 ∧ l = [] ∧ Below w0.heap.size w0 w ∧ Ctx [] w0 w []) ?_ ?_
    · refine W_block ?_
      refine W.sub (l' := [(0, u1), (1, u2), (5, (.int .i64 0))]) ?_ ⟨rfl, rfl, rfl, trivial⟩
      refine W_loop (fun k l w => ∃ x1 : Int, l = [(0, u1), (1, u2), (5, (.int .i64 x1))] ∧ Below w0.heap.size w0 w ∧ Ctx [] w0 w [] ∧ Q.eqToldS_l1 a1 a2 k x1 = some r1) FUEL ⟨0, rfl, (Below.refl _ _), hC0, hr1⟩ ?_
      clear hr1
      rintro k1 _ w1 ⟨x1, rfl, hB1, hC1, hL1⟩
      cases k1 with
      | zero => rw [Q.eqToldS_l1] at hL1; cases hL1
      | succ k1 =>
        rw [Q.eqToldS_l1] at hL1
        refine W_seq ?_
        refine W_seq_reg ?_
        refine WL_move rfl rfl ?_
        refine WL_move rfl rfl ?_
        refine WL_len Try.underlying118 g1 rfl rfl ?_
        refine WL_lss rfl rfl rfl ?_
        refine WL_nil ?_
        refine W_cond rfl (fun hc2 => ?_) (fun hc2 => ?_)
        · replace hL1 := ite_t hL1 hc2
          refine W_skip ?_
          refine nrm_normal ?_
          refine W_seq ?_
          refine W_block ?_
          refine W_seq ?_
          refine W_drawn 10 rfl hmix (fun w2 hB2 => ?_)
          have hC2 := hC1.grow hB2
          refine WA_take 0 rfl (by kernel_rfl) (by kernel_rfl) (by kernel_rfl) rfl (fl_move rfl) ?_
          refine WL_move rfl rfl ?_
          refine WL_nil ?_
          refine WA_take 1 rfl (by kernel_rfl) (by kernel_rfl) (by kernel_rfl) rfl (fl_move rfl) ?_
          refine WL_move rfl rfl ?_
          refine WL_nil ?_
          obtain ⟨x2, hx1, hL1⟩ := bind_some hL1
          refine WA_take 2 rfl (by kernel_rfl) (by kernel_rfl) (by kernel_rfl) rfl (fl_index Try.underlying118 ty112 g1 hx1 rfl rfl) ?_
          refine WL_index Try.underlying118 ty112 g1 hx1 rfl rfl rfl (fun b1 o1 h1 => ?_)
          refine WL_nil ?_
          refine WA_take 4 rfl (by kernel_rfl) (by kernel_rfl) (by kernel_rfl) rfl (fl_move rfl) ?_
          refine WL_move rfl rfl ?_
          refine WL_nil ?_
          refine WA_take 5 rfl (by kernel_rfl) (by kernel_rfl) (by kernel_rfl) rfl (fl_move rfl) ?_
          refine WL_move rfl rfl ?_
          refine WL_nil ?_
          obtain ⟨x3, hx2, hL1⟩ := bind_some hL1
          refine WA_take 6 rfl (by kernel_rfl) (by kernel_rfl) (by kernel_rfl) rfl (fl_index Try.underlying118 ty112 g2 hx2 rfl rfl) ?_
          refine WL_index Try.underlying118 ty112 g2 hx2 rfl rfl rfl (fun b2 o2 h2 => ?_)
          refine WL_nil ?_
          refine WA.sub (l' := [(0, u1), (1, u2), (5, (.int .i64 x1)), (11, (.int .i64 x1)), (12, u1), (13, (.int .i64 (List.length a1 : Int))), (14, (.bool (decide (x1 < (List.length a1 : Int))))), (17, u1), (18, (.int .i64 x1)), (19, (ptr b1 o1)), (21, u2), (22, (.int .i64 x1)), (23, (ptr b2 o2))]) ?_ ⟨rfl, rfl, rfl, rfl, rfl, rfl, rfl, rfl, rfl, rfl, rfl, rfl, rfl, trivial⟩
          refine WA_postsE [⟨3, [], fun vs => PW.ro [] w0 x2, []⟩, ⟨7, [], fun vs => PW.ro [] w0 x3, []⟩] [[], []] 2 rfl (by kernel_rfl) (by kernel_rfl) rfl ?_ ?_
          · refine StepsE_cons rfl ?_ ?_
            · intro w3 hB3
              refine DepsE_nil ?_
              refine ⟨_, rfl, ?_⟩
              refine WL_load ty112 h1 (hC2.keep.then hB3) rfl rfl (fun v4 h6 => ?_)
              refine WL_nil ?_
              exact FinE_val (Below.refl _ _) rfl rfl ⟨rfl, h6⟩
            refine StepsE_cons rfl ?_ ?_
            · intro w3 hB3
              refine DepsE_nil ?_
              refine ⟨_, rfl, ?_⟩
              refine WL_load ty112 h2 (hC2.keep.then hB3) rfl rfl (fun v8 h10 => ?_)
              refine WL_nil ?_
              exact FinE_val (Below.refl _ _) rfl rfl ⟨rfl, h10⟩
            exact StepsE_nil
          · intro w4 hB4
            refine AllE_cons rfl rfl rfl ?_
            rintro v4 _ ⟨rfl, h6⟩
            obtain ⟨v2, v3, rfl, h4, h5⟩ := ro_st112 h6
            refine AllE_cons rfl rfl rfl ?_
            rintro v8 _ ⟨rfl, h10⟩
            obtain ⟨v6, v7, rfl, h8, h9⟩ := ro_st112 h10
            refine AllE_nil ?_
            intro hn1 hb1
            have hC3 := hC2.grow hB4
            obtain ⟨x4, hr2, hL1⟩ := bind_some hL1
            refine WA_one 8 (by kernel_rfl) rfl ?_
            refine WL_call Try.call73 rfl rfl (c_Q_eqTold x2 v2 (h4.now hC3.keep) v3 (h5.now hC3.keep) x3 v6 (h8.now hC3.keep) v7 (h9.now hC3.keep) x4 hr2) ?_
            intro _ w5 hv1
            obtain ⟨rfl, hB5⟩ := res_bool hv1
            have hC4 := hC3.grow hB5
            refine WL_nil ?_
            refine WA_take 9 rfl (by kernel_rfl) (by kernel_rfl) (by kernel_rfl) rfl (fl_not rfl) ?_
            refine WL_not rfl rfl ?_
            refine WL_nil ?_
            refine WA_done (by kernel_rfl) ?_
            refine nrm_normal ?_
            refine W_cond rfl (fun hc3 => ?_) (fun hc3 => ?_)
            · replace hL1 := ite_t hL1 hc3
              refine W_seq_reg ?_
              refine WL_assign rfl rfl ?_
              refine WL_nil ?_
              refine W_ret ?_
              refine blk_ret ?_
              refine nrm_ret ?_
              refine nrm_ret ?_
              refine blk_ret ?_
              refine nrm_ret ?_
              refine nrm_ret ?_
              have hq2 := Option.some.inj hL1
              subst hq2
              dsimp only at hF
              have hq3 := Option.some.inj hF
              subst hq3
              refine fn_ret1 rfl rfl ?_
              exact ⟨_, rfl, bool_res hC4 _⟩
            · replace hL1 := ite_f hL1 hc3
              refine W_skip ?_
              refine blk_normal ?_
              refine nrm_normal ?_
              refine W_reg ?_
              refine WL_move rfl rfl ?_
              refine WL_add rfl rfl rfl ?_
              refine WL_assign rfl rfl ?_
              refine WL_nil ?_
              refine nrm_sub (l' := [(0, u1), (1, u2), (5, (.int .i64 (w64 (x1 + 1))))]) ⟨rfl, rfl, rfl, trivial⟩ ?_
              exact ⟨k1, Nat.lt_succ_self _, w64 (x1 + 1), rfl, ((((Keep.of hB1).then hB2).then hB4).then hB5).below, hC4, hL1⟩
        · replace hL1 := ite_f hL1 hc2
          refine W_exit ?_
          refine nrm_exit ?_
          refine nrm_exit ?_
          refine blk_exit ?_
          have hq4 := Option.some.inj hL1
          subst hq4
          refine nrm_sub (l' := []) trivial ?_
          exact ⟨rfl, rfl, (Keep.of hB1).below, hC1⟩
    · rintro l2 _ w6 hs2 ⟨rfl, rfl, hB6, hC5⟩
      try dsimp only at hF
      refine nrm_sub' hs2 ?_
      clear hs2
      refine W_seq_reg ?_
      refine WL_assign rfl rfl ?_
      refine WL_nil ?_
      refine W_ret ?_
      have hq5 := Option.some.inj hF
      subst hq5
      refine fn_ret1 rfl rfl ?_
      exact ⟨_, rfl, bool_res hC5 _⟩

theorem c_Q_markFactS {w0 : World} {Fs : List (List Nat)} (a1 : (List (Int × (List Int)))) (u1 : Value) (a2 : Int) (hH : Hold [Item.own u1 (a1 : (List (Int × (List Int))))] w0 Fs) (hn : Fs.flatten.Nodup) (rr : (Int × (List (Int × (List Int))))) (hF : Q.markFactS a1 a2 = some rr) :
    Calls Try.prog 86 [u1, (.int .i64 a2)].toArray w0 fun e w' => ∃ v, e = .returned v ∧ v = (.int .i64 rr.1) ∧ Ctx Fs.flatten w0 w' [Item.own u1 (rr.2 : (List (Int × (List Int))))] := by
  refine calls_of_W Try.func86 rfl rfl ?_
  have hC0 := Ctx.startIn hH hn
  unfold Q.markFactS at hF
  refine W_seq_reg ?_
  refine WL_assign rfl rfl ?_
  refine WL_nil ?_
  refine W_seq ?_
  refine W_seq_reg ?_
  refine WL_assign rfl rfl ?_
  refine WL_nil ?_
  obtain ⟨r1, hr1, hF⟩ := bind_some hF
  refine W_norm (fun l w => ∃ x4 : (List (Int × (List Int))), ∃ x5 : Int, (x4, x5) = r1 ∧ l = [(1, (.int .i64 x5))] ∧ Ctx Fs.flatten w0 w [Item.own u1 (x4 : (List (Int × (List Int))))]) ?_ ?_
  · refine W_block ?_
    refine W.sub (l' := [(0, u1), (1, (.int .i64 a2)), (5, (.int .i64 0))]) ?_ ⟨rfl, rfl, rfl, trivial⟩
    refine W_loop (fun k l w => ∃ x1 : (List (Int × (List Int))), ∃ x2 : Int, ∃ x3 : Int, l = [(0, u1), (1, (.int .i64 x2)), (5, (.int .i64 x3))] ∧ Ctx Fs.flatten w0 w [Item.own u1 (x1 : (List (Int × (List Int))))] ∧ Q.markFactS_l1 k x1 x2 x3 = some r1) FUEL ⟨a1, a2, 0, rfl, hC0, hr1⟩ ?_
    clear hr1
    rintro k1 _ w1 ⟨x1, x2, x3, rfl, hC1, hL1⟩
    cases k1 with
    | zero => rw [Q.markFactS_l1] at hL1; cases hL1
    | succ k1 =>
      rw [Q.markFactS_l1] at hL1
      refine W_seq ?_
      refine W_seq_reg ?_
      refine WL_move rfl rfl ?_
      refine WL_move rfl rfl ?_
      refine WL_len Try.underlying100 (hC1.ro 0 rfl) rfl rfl ?_
      refine WL_lss rfl rfl rfl ?_
      refine WL_nil ?_
      refine W_cond rfl (fun hc1 => ?_) (fun hc1 => ?_)
      · replace hL1 := ite_t hL1 hc1
        refine W_skip ?_
        refine nrm_normal ?_
        refine W_seq ?_
        refine W_block ?_
        refine W_seq_reg ?_
        refine WL_move rfl rfl ?_
        refine WL_move rfl rfl ?_
        refine WL_move rfl rfl ?_
        obtain ⟨x6, hx1, hL1⟩ := bind_some hL1
        refine WL_index_own hC1 0 rfl Try.underlying100 ty165 hx1 rfl rfl rfl (fun b1 hE1 => ?_)
        refine WL_field Try.underlying165 rfl rfl (fun w => ⟨_, Try.sizeOf3 w⟩) rfl rfl ?_
        obtain ⟨cs1, hC3⟩ := hC1.openElem hx1
        obtain ⟨v1, he1, hC4⟩ := st165_own (hC3.cellsOwn rfl)
        obtain rfl := cells_of_agg he1
        refine WL_store_hole (fo := 0) (cs' := [(.int .i64 x2), v1]) hC4 1 rfl hE1 rfl rfl rfl rfl Try.sizeOf3 rfl rfl (fun w2 hC2 => ?_)
        try dsimp only [List.set] at hC2
        have hC5 : Ctx Fs.flatten w0 _ [Item.hole u1 (x1 : (List (Int × (List Int)))) (Int.toNat x3) [(.int .i64 x2), v1], Item.own v1 (x6.2 : (List Int))] := hC2.front 1 rfl
        have hC7 : Ctx Fs.flatten w0 _ [Item.own v1 (x6.2 : (List Int)), Item.hole u1 (x1 : (List (Int × (List Int)))) (Int.toNat x3) [(.int .i64 x2), v1]] := hC5.front 1 rfl
        have hC6 := own_st165 x2 v1 x6.2 hC7
        have hC8 := hC6.ownCells.closeElem
        refine WL_nil ?_
        refine W_seq_reg ?_
        refine WL_move rfl rfl ?_
        refine WL_add rfl rfl rfl ?_
        refine WL_assign rfl rfl ?_
        refine WL_nil ?_
        refine W_reg ?_
        refine WL_move rfl rfl ?_
        refine WL_move rfl rfl ?_
        obtain ⟨x7, hx2, hL1⟩ := bind_some hL1
        refine WL_index_own hC8 0 rfl Try.underlying100 ty165 hx2 rfl rfl rfl (fun b2 hE2 => ?_)
        refine WL_field Try.underlying165 rfl rfl (fun w => ⟨_, Try.sizeOf22 w⟩) rfl rfl ?_
        obtain ⟨cs2, hC9⟩ := hC8.openElem hx2
        obtain ⟨v2, he2, hC10⟩ := st165_own (hC9.cellsOwn rfl)
        obtain rfl := cells_of_agg he2
        refine WL_load_hole (fo := 1) hC10 1 rfl hE2 rfl rfl Try.isAgg22 rfl rfl ?_
        refine WL_move rfl rfl ?_
        obtain ⟨x8, hr2, hL1⟩ := bind_some hL1
        obtain ⟨Fs1, hH1, hn1, hF1, hO1, hb1⟩ := Ctx.lend2 (As := [Item.hole u1 ((List.set x1 (Int.toNat x3) (x2, x6.2)) : (List (Int × (List Int)))) (Int.toNat x3) [(.int .i64 x7.1), v2]]) [Item.own v2 (x7.2 : (List Int))] hC10
        refine WL_call Try.call40 rfl rfl (c_Q_markIntS x7.2 v2 (w64 (x2 + 1)) hH1 hn1 x8 hr2) ?_
        rintro _ w3 ⟨rfl, hq1⟩
        have hC12 : Ctx Fs.flatten w0 w3 [Item.own v2 (x8.2 : (List Int)), Item.hole u1 ((List.set x1 (Int.toNat x3) (x2, x6.2)) : (List (Int × (List Int)))) (Int.toNat x3) [(.int .i64 x7.1), v2]] := hb1 _ _ hq1
        have hC13 : Ctx Fs.flatten w0 _ [Item.hole u1 ((List.set x1 (Int.toNat x3) (x2, x6.2)) : (List (Int × (List Int)))) (Int.toNat x3) [(.int .i64 x7.1), v2], Item.own v2 (x8.2 : (List Int))] := hC12.front 1 rfl
        have hC15 : Ctx Fs.flatten w0 _ [Item.own v2 (x8.2 : (List Int)), Item.hole u1 ((List.set x1 (Int.toNat x3) (x2, x6.2)) : (List (Int × (List Int)))) (Int.toNat x3) [(.int .i64 x7.1), v2]] := hC13.front 1 rfl
        have hC14 := own_st165 x7.1 v2 x8.2 hC15
        have hC16 := hC14.ownCells.closeElem
        refine WL_assign rfl rfl ?_
        refine WL_nil ?_
        refine blk_normal ?_
        refine nrm_normal ?_
        refine W_reg ?_
        refine WL_move rfl rfl ?_
        refine WL_add rfl rfl rfl ?_
        refine WL_assign rfl rfl ?_
        refine WL_nil ?_
        refine nrm_sub (l' := [(0, u1), (1, (.int .i64 x8.1)), (5, (.int .i64 (w64 (x3 + 1))))]) ⟨rfl, rfl, rfl, trivial⟩ ?_
        exact ⟨k1, Nat.lt_succ_self _, (List.set (List.set x1 (Int.toNat x3) (x2, x6.2)) (Int.toNat x3) (x7.1, x8.2)), x8.1, w64 (x3 + 1), rfl, hC16, hL1⟩
      · replace hL1 := ite_f hL1 hc1
        refine W_exit ?_
        refine nrm_exit ?_
        refine nrm_exit ?_
        refine blk_exit ?_
        have hq2 := Option.some.inj hL1
        subst hq2
        refine nrm_sub (l' := [(1, (.int .i64 x2))]) ⟨rfl, trivial⟩ ?_
        exact ⟨x1, x2, rfl, rfl, hC1⟩
  · rintro l2 _ w4 hs2 ⟨x4, x5, rfl, rfl, hC17⟩
    try dsimp only at hF
    refine nrm_sub' hs2 ?_
    clear hs2
    refine W_seq_reg ?_
    refine WL_move rfl rfl ?_
    refine WL_assign rfl rfl ?_
    refine WL_nil ?_
    refine W_ret ?_
    have hq3 := Option.some.inj hF
    subst hq3
    refine fn_ret1 rfl rfl ?_
    exact ⟨_, rfl, rfl, hC17⟩

theorem c_Q_markToldS {w0 : World} {Fs : List (List Nat)} (a1 : (List ((Int × (List Int)) × (List (Int × (List Int)))))) (u1 : Value) (a2 : Int) (hH : Hold [Item.own u1 (a1 : (List ((Int × (List Int)) × (List (Int × (List Int))))))] w0 Fs) (hn : Fs.flatten.Nodup) (rr : (Int × (List ((Int × (List Int)) × (List (Int × (List Int))))))) (hF : Q.markToldS a1 a2 = some rr) :
    Calls Try.prog 79 [u1, (.int .i64 a2)].toArray w0 fun e w' => ∃ v, e = .returned v ∧ v = (.int .i64 rr.1) ∧ Ctx Fs.flatten w0 w' [Item.own u1 (rr.2 : (List ((Int × (List Int)) × (List (Int × (List Int))))))] := by
  refine calls_of_W Try.func79 rfl rfl ?_
  have hC0 := Ctx.startIn hH hn
  unfold Q.markToldS at hF
  refine W_seq_reg ?_
  refine WL_assign rfl rfl ?_
  refine WL_nil ?_
  refine W_seq ?_
  refine W_seq_reg ?_
  refine WL_assign rfl rfl ?_
  refine WL_nil ?_
  obtain ⟨r1, hr1, hF⟩ := bind_some hF
  refine W_norm (fun l w => ∃ x4 : (List ((Int × (List Int)) × (List (Int × (List Int))))), ∃ x5 : Int, (x4, x5) = r1 ∧ l = [(1, (.int .i64 x5))] ∧ Ctx Fs.flatten w0 w [Item.own u1 (x4 : (List ((Int × (List Int)) × (List (Int × (List Int))))))]) ?_ ?_
  · refine W_block ?_
    refine W.sub (l' := [(0, u1), (1, (.int .i64 a2)), (5, (.int .i64 0))]) ?_ ⟨rfl, rfl, rfl, trivial⟩
    refine W_loop (fun k l w => ∃ x1 : (List ((Int × (List Int)) × (List (Int × (List Int))))), ∃ x2 : Int, ∃ x3 : Int, l = [(0, u1), (1, (.int .i64 x2)), (5, (.int .i64 x3))] ∧ Ctx Fs.flatten w0 w [Item.own u1 (x1 : (List ((Int × (List Int)) × (List (Int × (List Int))))))] ∧ Q.markToldS_l1 k x1 x2 x3 = some r1) FUEL ⟨a1, a2, 0, rfl, hC0, hr1⟩ ?_
    clear hr1
    rintro k1 _ w1 ⟨x1, x2, x3, rfl, hC1, hL1⟩
    cases k1 with
    | zero => rw [Q.markToldS_l1] at hL1; cases hL1
    | succ k1 =>
      rw [Q.markToldS_l1] at hL1
      refine W_seq ?_
      refine W_seq_reg ?_
      refine WL_move rfl rfl ?_
      refine WL_move rfl rfl ?_
      refine WL_len Try.underlying118 (hC1.ro 0 rfl) rfl rfl ?_
      refine WL_lss rfl rfl rfl ?_
      refine WL_nil ?_
      refine W_cond rfl (fun hc1 => ?_) (fun hc1 => ?_)
      · replace hL1 := ite_t hL1 hc1
        refine W_skip ?_
        refine nrm_normal ?_
        refine W_seq ?_
        refine W_block ?_
        refine W_seq_reg ?_
        refine WL_move rfl rfl ?_
        refine WL_move rfl rfl ?_
        refine WL_move rfl rfl ?_
        obtain ⟨x6, hx1, hL1⟩ := bind_some hL1
        refine WL_index_own hC1 0 rfl Try.underlying118 ty112 hx1 rfl rfl rfl (fun b1 hE1 => ?_)
        refine WL_field Try.underlying112 rfl rfl (fun w => ⟨_, Try.sizeOf89 w⟩) rfl rfl ?_
        refine WL_field Try.underlying89 rfl rfl (fun w => ⟨_, Try.sizeOf3 w⟩) rfl rfl ?_
        obtain ⟨cs1, hC3⟩ := hC1.openElem hx1
        obtain ⟨v1, v2, he1, hC4⟩ := st112_own (hC3.cellsOwn rfl)
        obtain rfl := cells_of_agg he1
        refine WL_store_hole (fo := 0) (cs' := [(.int .i64 x2), v1, v2]) hC4 2 rfl hE1 rfl rfl rfl rfl Try.sizeOf3 rfl rfl (fun w2 hC2 => ?_)
        try dsimp only [List.set] at hC2
        have hC5 : Ctx Fs.flatten w0 _ [Item.hole u1 (x1 : (List ((Int × (List Int)) × (List (Int × (List Int)))))) (Int.toNat x3) [(.int .i64 x2), v1, v2], Item.own v1 (x6.1.2 : (List Int)), Item.own v2 (x6.2 : (List (Int × (List Int))))] := hC2.front 2 rfl
        have hC7 : Ctx Fs.flatten w0 _ [Item.own v2 (x6.2 : (List (Int × (List Int)))), Item.hole u1 (x1 : (List ((Int × (List Int)) × (List (Int × (List Int)))))) (Int.toNat x3) [(.int .i64 x2), v1, v2], Item.own v1 (x6.1.2 : (List Int))] := hC5.front 2 rfl
        have hC8 : Ctx Fs.flatten w0 _ [Item.own v1 (x6.1.2 : (List Int)), Item.own v2 (x6.2 : (List (Int × (List Int)))), Item.hole u1 (x1 : (List ((Int × (List Int)) × (List (Int × (List Int)))))) (Int.toNat x3) [(.int .i64 x2), v1, v2]] := hC7.front 2 rfl
        have hC6 := own_st112 x2 v1 x6.1.2 v2 x6.2 hC8
        have hC9 := hC6.ownCells.closeElem
        refine WL_nil ?_
        refine W_seq_reg ?_
        refine WL_move rfl rfl ?_
        refine WL_add rfl rfl rfl ?_
        refine WL_assign rfl rfl ?_
        refine WL_nil ?_
        refine W_seq_reg ?_
        refine WL_move rfl rfl ?_
        refine WL_move rfl rfl ?_
        obtain ⟨x7, hx2, hL1⟩ := bind_some hL1
        refine WL_index_own hC9 0 rfl Try.underlying118 ty112 hx2 rfl rfl rfl (fun b2 hE2 => ?_)
        refine WL_field Try.underlying112 rfl rfl (fun w => ⟨_, Try.sizeOf89 w⟩) rfl rfl ?_
        refine WL_field Try.underlying89 rfl rfl (fun w => ⟨_, Try.sizeOf22 w⟩) rfl rfl ?_
        obtain ⟨cs2, hC10⟩ := hC9.openElem hx2
        obtain ⟨v3, v4, he2, hC11⟩ := st112_own (hC10.cellsOwn rfl)
        obtain rfl := cells_of_agg he2
        refine WL_load_hole (fo := 1) hC11 2 rfl hE2 rfl rfl Try.isAgg22 rfl rfl ?_
        refine WL_move rfl rfl ?_
        obtain ⟨x8, hr2, hL1⟩ := bind_some hL1
        obtain ⟨Fs1, hH1, hn1, hF1, hO1, hb1⟩ := Ctx.lend2 (As := [Item.own v4 (x7.2 : (List (Int × (List Int)))), Item.hole u1 ((List.set x1 (Int.toNat x3) ((x2, x6.1.2), x6.2)) : (List ((Int × (List Int)) × (List (Int × (List Int)))))) (Int.toNat x3) [(.int .i64 x7.1.1), v3, v4]]) [Item.own v3 (x7.1.2 : (List Int))] hC11
        refine WL_call Try.call40 rfl rfl (c_Q_markIntS x7.1.2 v3 (w64 (x2 + 1)) hH1 hn1 x8 hr2) ?_
        rintro _ w3 ⟨rfl, hq1⟩
        have hC13 : Ctx Fs.flatten w0 w3 [Item.own v3 (x8.2 : (List Int)), Item.own v4 (x7.2 : (List (Int × (List Int)))), Item.hole u1 ((List.set x1 (Int.toNat x3) ((x2, x6.1.2), x6.2)) : (List ((Int × (List Int)) × (List (Int × (List Int)))))) (Int.toNat x3) [(.int .i64 x7.1.1), v3, v4]] := hb1 _ _ hq1
        have hC14 : Ctx Fs.flatten w0 _ [Item.hole u1 ((List.set x1 (Int.toNat x3) ((x2, x6.1.2), x6.2)) : (List ((Int × (List Int)) × (List (Int × (List Int)))))) (Int.toNat x3) [(.int .i64 x7.1.1), v3, v4], Item.own v3 (x8.2 : (List Int)), Item.own v4 (x7.2 : (List (Int × (List Int))))] := hC13.front 2 rfl
        have hC16 : Ctx Fs.flatten w0 _ [Item.own v4 (x7.2 : (List (Int × (List Int)))), Item.hole u1 ((List.set x1 (Int.toNat x3) ((x2, x6.1.2), x6.2)) : (List ((Int × (List Int)) × (List (Int × (List Int)))))) (Int.toNat x3) [(.int .i64 x7.1.1), v3, v4], Item.own v3 (x8.2 : (List Int))] := hC14.front 2 rfl
        have hC17 : Ctx Fs.flatten w0 _ [Item.own v3 (x8.2 : (List Int)), Item.own v4 (x7.2 : (List (Int × (List Int)))), Item.hole u1 ((List.set x1 (Int.toNat x3) ((x2, x6.1.2), x6.2)) : (List ((Int × (List Int)) × (List (Int × (List Int)))))) (Int.toNat x3) [(.int .i64 x7.1.1), v3, v4]] := hC16.front 2 rfl
        have hC15 := own_st112 x7.1.1 v3 x8.2 v4 x7.2 hC17
        have hC18 := hC15.ownCells.closeElem
        refine WL_assign rfl rfl ?_
        refine WL_nil ?_
        refine W_reg ?_
        refine WL_move rfl rfl ?_
        refine WL_move rfl rfl ?_
        obtain ⟨x9, hx3, hL1⟩ := bind_some hL1
        refine WL_index_own hC18 0 rfl Try.underlying118 ty112 hx3 rfl rfl rfl (fun b3 hE3 => ?_)
        refine WL_field Try.underlying112 rfl rfl (fun w => ⟨_, Try.sizeOf100 w⟩) rfl rfl ?_
        obtain ⟨cs3, hC19⟩ := hC18.openElem hx3
        obtain ⟨v5, v6, he3, hC20⟩ := st112_own (hC19.cellsOwn rfl)
        obtain rfl := cells_of_agg he3
        refine WL_load_hole (fo := 2) hC20 2 rfl hE3 rfl rfl Try.isAgg100 rfl rfl ?_
        refine WL_move rfl rfl ?_
        obtain ⟨x10, hr3, hL1⟩ := bind_some hL1
        have hC21 : Ctx Fs.flatten w0 _ [Item.own v6 (x9.2 : (List (Int × (List Int)))), Item.own v5 (x9.1.2 : (List Int)), Item.hole u1 ((List.set (List.set x1 (Int.toNat x3) ((x2, x6.1.2), x6.2)) (Int.toNat x3) ((x7.1.1, x8.2), x7.2)) : (List ((Int × (List Int)) × (List (Int × (List Int)))))) (Int.toNat x3) [(.int .i64 x9.1.1), v5, v6]] := hC20.front 1 rfl
        obtain ⟨Fs2, hH2, hn2, hF2, hO2, hb2⟩ := Ctx.lend2 (As := [Item.own v5 (x9.1.2 : (List Int)), Item.hole u1 ((List.set (List.set x1 (Int.toNat x3) ((x2, x6.1.2), x6.2)) (Int.toNat x3) ((x7.1.1, x8.2), x7.2)) : (List ((Int × (List Int)) × (List (Int × (List Int)))))) (Int.toNat x3) [(.int .i64 x9.1.1), v5, v6]]) [Item.own v6 (x9.2 : (List (Int × (List Int))))] hC21
        refine WL_call Try.call86 rfl rfl (c_Q_markFactS x9.2 v6 x8.1 hH2 hn2 x10 hr3) ?_
        rintro _ w4 ⟨rfl, hq2⟩
        have hC22 : Ctx Fs.flatten w0 w4 [Item.own v6 (x10.2 : (List (Int × (List Int)))), Item.own v5 (x9.1.2 : (List Int)), Item.hole u1 ((List.set (List.set x1 (Int.toNat x3) ((x2, x6.1.2), x6.2)) (Int.toNat x3) ((x7.1.1, x8.2), x7.2)) : (List ((Int × (List Int)) × (List (Int × (List Int)))))) (Int.toNat x3) [(.int .i64 x9.1.1), v5, v6]] := hb2 _ _ hq2
        have hC23 : Ctx Fs.flatten w0 _ [Item.hole u1 ((List.set (List.set x1 (Int.toNat x3) ((x2, x6.1.2), x6.2)) (Int.toNat x3) ((x7.1.1, x8.2), x7.2)) : (List ((Int × (List Int)) × (List (Int × (List Int)))))) (Int.toNat x3) [(.int .i64 x9.1.1), v5, v6], Item.own v6 (x10.2 : (List (Int × (List Int)))), Item.own v5 (x9.1.2 : (List Int))] := hC22.front 2 rfl
        have hC25 : Ctx Fs.flatten w0 _ [Item.own v6 (x10.2 : (List (Int × (List Int)))), Item.hole u1 ((List.set (List.set x1 (Int.toNat x3) ((x2, x6.1.2), x6.2)) (Int.toNat x3) ((x7.1.1, x8.2), x7.2)) : (List ((Int × (List Int)) × (List (Int × (List Int)))))) (Int.toNat x3) [(.int .i64 x9.1.1), v5, v6], Item.own v5 (x9.1.2 : (List Int))] := hC23.front 1 rfl
        have hC26 : Ctx Fs.flatten w0 _ [Item.own v5 (x9.1.2 : (List Int)), Item.own v6 (x10.2 : (List (Int × (List Int)))), Item.hole u1 ((List.set (List.set x1 (Int.toNat x3) ((x2, x6.1.2), x6.2)) (Int.toNat x3) ((x7.1.1, x8.2), x7.2)) : (List ((Int × (List Int)) × (List (Int × (List Int)))))) (Int.toNat x3) [(.int .i64 x9.1.1), v5, v6]] := hC25.front 2 rfl
        have hC24 := own_st112 x9.1.1 v5 x9.1.2 v6 x10.2 hC26
        have hC27 := hC24.ownCells.closeElem
        refine WL_assign rfl rfl ?_
        refine WL_nil ?_
        refine blk_normal ?_
        refine nrm_normal ?_
        refine W_reg ?_
        refine WL_move rfl rfl ?_
        refine WL_add rfl rfl rfl ?_
        refine WL_assign rfl rfl ?_
        refine WL_nil ?_
        refine nrm_sub (l' := [(0, u1), (1, (.int .i64 x10.1)), (5, (.int .i64 (w64 (x3 + 1))))]) ⟨rfl, rfl, rfl, trivial⟩ ?_
        exact ⟨k1, Nat.lt_succ_self _, (List.set (List.set (List.set x1 (Int.toNat x3) ((x2, x6.1.2), x6.2)) (Int.toNat x3) ((x7.1.1, x8.2), x7.2)) (Int.toNat x3) ((x9.1.1, x9.1.2), x10.2)), x10.1, w64 (x3 + 1), rfl, hC27, hL1⟩
      · replace hL1 := ite_f hL1 hc1
        refine W_exit ?_
        refine nrm_exit ?_
        refine nrm_exit ?_
        refine blk_exit ?_
        have hq3 := Option.some.inj hL1
        subst hq3
        refine nrm_sub (l' := [(1, (.int .i64 x2))]) ⟨rfl, trivial⟩ ?_
        exact ⟨x1, x2, rfl, rfl, hC1⟩
  · rintro l2 _ w5 hs2 ⟨x4, x5, rfl, rfl, hC28⟩
    try dsimp only at hF
    refine nrm_sub' hs2 ?_
    clear hs2
    refine W_seq_reg ?_
    refine WL_move rfl rfl ?_
    refine WL_assign rfl rfl ?_
    refine WL_nil ?_
    refine W_ret ?_
    have hq4 := Option.some.inj hF
    subst hq4
    refine fn_ret1 rfl rfl ?_
    exact ⟨_, rfl, rfl, hC28⟩

theorem c_Q_heldIntS {w0 : World} (a1 : (List Int)) (u1 : Value) (g1 : RO [] w0 u1 a1) (a2 : Int) (rr : Int) (hF : Q.heldIntS a1 a2 = some rr) :
    Calls Try.prog 61 [u1, (.int .i64 a2)].toArray w0 fun e w' => ∃ v, e = .returned v ∧ Res w0 rr v w' := by
  refine calls_of_W Try.func61 rfl rfl ?_
  have hC0 := Ctx.start w0
  unfold Q.heldIntS at hF
  refine W_seq_reg ?_
  refine WL_assign rfl rfl ?_
  refine WL_nil ?_
  refine W_seq ?_
  refine W_seq_reg ?_
  refine WL_assign rfl rfl ?_
  refine WL_nil ?_
  obtain ⟨r1, hr1, hF⟩ := bind_some hF
  refine W_norm (fun l w => ∃ x3 : Int, .inl x3 = r1 ∧ l = [(1, (.int .i64 x3))] ∧ Below w0.heap.size w0 w ∧ Ctx [] w0 w []) ?_ ?_
  · refine W_block ?_
    refine W.sub (l' := [(0, u1), (1, (.int .i64 a2)), (5, (.int .i64 0))]) ?_ ⟨rfl, rfl, rfl, trivial⟩
    refine W_loop (fun k l w => ∃ x1 : Int, ∃ x2 : Int, l = [(0, u1), (1, (.int .i64 x1)), (5, (.int .i64 x2))] ∧ Below w0.heap.size w0 w ∧ Ctx [] w0 w [] ∧ Q.heldIntS_l1 a1 k x1 x2 = some r1) FUEL ⟨a2, 0, rfl, (Below.refl _ _), hC0, hr1⟩ ?_
    clear hr1
    rintro k1 _ w1 ⟨x1, x2, rfl, hB1, hC1, hL1⟩
    cases k1 with
    | zero => rw [Q.heldIntS_l1] at hL1; cases hL1
    | succ k1 =>
      rw [Q.heldIntS_l1] at hL1
      refine W_seq ?_
      refine W_seq_reg ?_
      refine WL_move rfl rfl ?_
      refine WL_move rfl rfl ?_
      refine WL_len Try.underlying22 g1 rfl rfl ?_
      refine WL_lss rfl rfl rfl ?_
      refine WL_nil ?_
      refine W_cond rfl (fun hc1 => ?_) (fun hc1 => ?_)
      · replace hL1 := ite_t hL1 hc1
        refine W_skip ?_
        refine nrm_normal ?_
        refine W_seq ?_
        refine W_block ?_
        refine W_seq ?_
        refine W_seq_reg ?_
        refine WL_move rfl rfl ?_
        refine WL_move rfl rfl ?_
        obtain ⟨x4, hx1, hL1⟩ := bind_some hL1
        refine WL_index Try.underlying22 ty3 g1 hx1 rfl rfl rfl (fun b1 o1 h1 => ?_)
        refine WL_load ty3 h1 hC1.keep rfl rfl (fun v1 h2 => ?_)
        obtain rfl := ro_int h2
        refine WL_move rfl rfl ?_
        refine WL_neq rfl rfl rfl ?_
        refine WL_nil ?_
        refine W_cond rfl (fun hc2 => ?_) (fun hc2 => ?_)
        · replace hL1 := ite_t hL1 hc2
          refine W_seq_reg ?_
          refine WL_assign rfl rfl ?_
          refine WL_nil ?_
          refine W_ret ?_
          refine nrm_ret ?_
          refine blk_ret ?_
          refine nrm_ret ?_
          refine nrm_ret ?_
          refine blk_ret ?_
          refine nrm_ret ?_
          refine nrm_ret ?_
          have hq1 := Option.some.inj hL1
          subst hq1
          dsimp only at hF
          have hq2 := Option.some.inj hF
          subst hq2
          refine fn_ret1 rfl rfl ?_
          exact ⟨_, rfl, int_res hC1 _⟩
        · replace hL1 := ite_f hL1 hc2
          refine W_skip ?_
          refine nrm_normal ?_
          refine W_reg ?_
          refine WL_move rfl rfl ?_
          refine WL_add rfl rfl rfl ?_
          refine WL_assign rfl rfl ?_
          refine WL_nil ?_
          refine blk_normal ?_
          refine nrm_normal ?_
          refine W_reg ?_
          refine WL_move rfl rfl ?_
          refine WL_add rfl rfl rfl ?_
          refine WL_assign rfl rfl ?_
          refine WL_nil ?_
          refine nrm_sub (l' := [(0, u1), (1, (.int .i64 (w64 (x1 + 1)))), (5, (.int .i64 (w64 (x2 + 1))))]) ⟨rfl, rfl, rfl, trivial⟩ ?_
          exact ⟨k1, Nat.lt_succ_self _, w64 (x1 + 1), w64 (x2 + 1), rfl, (Keep.of hB1).below, hC1, hL1⟩
      · replace hL1 := ite_f hL1 hc1
        refine W_exit ?_
        refine nrm_exit ?_
        refine nrm_exit ?_
        refine blk_exit ?_
        have hq3 := Option.some.inj hL1
        subst hq3
        refine nrm_sub (l' := [(1, (.int .i64 x1))]) ⟨rfl, trivial⟩ ?_
        exact ⟨x1, rfl, rfl, (Keep.of hB1).below, hC1⟩
  · rintro l2 _ w2 hs2 ⟨x3, rfl, rfl, hB2, hC2⟩
    try dsimp only at hF
    refine nrm_sub' hs2 ?_
    clear hs2
    refine W_seq_reg ?_
    refine WL_move rfl rfl ?_
    refine WL_assign rfl rfl ?_
    refine WL_nil ?_
    refine W_ret ?_
    have hq4 := Option.some.inj hF
    subst hq4
    refine fn_ret1 rfl rfl ?_
    exact ⟨_, rfl, int_res hC2 _⟩

theorem c_Q_heldFactS {w0 : World} (a1 : (List (Int × (List Int)))) (u1 : Value) (g1 : RO [] w0 u1 a1) (a2 : Int) (rr : Int) (hF : Q.heldFactS a1 a2 = some rr) :
    Calls Try.prog 87 [u1, (.int .i64 a2)].toArray w0 fun e w' => ∃ v, e = .returned v ∧ Res w0 rr v w' := by
  refine calls_of_W Try.func87 rfl rfl ?_
  have hC0 := Ctx.start w0
  unfold Q.heldFactS at hF
  refine W_seq_reg ?_
  refine WL_assign rfl rfl ?_
  refine WL_nil ?_
  refine W_seq ?_
  refine W_seq_reg ?_
  refine WL_assign rfl rfl ?_
  refine WL_nil ?_
  obtain ⟨r1, hr1, hF⟩ := bind_some hF
  refine W_norm (fun l w => ∃ x3 : Int, .inl x3 = r1 ∧ l = [(1, (.int .i64 x3))] ∧ Below w0.heap.size w0 w ∧ Ctx [] w0 w []) ?_ ?_
  · refine W_block ?_
    refine W.sub (l' := [(0, u1), (1, (.int .i64 a2)), (5, (.int .i64 0))]) ?_ ⟨rfl, rfl, rfl, trivial⟩
    refine W_loop (fun k l w => ∃ x1 : Int, ∃ x2 : Int, l = [(0, u1), (1, (.int .i64 x1)), (5, (.int .i64 x2))] ∧ Below w0.heap.size w0 w ∧ Ctx [] w0 w [] ∧ Q.heldFactS_l1 a1 k x1 x2 = some r1) FUEL ⟨a2, 0, rfl, (Below.refl _ _), hC0, hr1⟩ ?_
    clear hr1
    rintro k1 _ w1 ⟨x1, x2, rfl, hB1, hC1, hL1⟩
    cases k1 with
    | zero => rw [Q.heldFactS_l1] at hL1; cases hL1
    | succ k1 =>
      rw [Q.heldFactS_l1] at hL1
      refine W_seq ?_
      refine W_seq_reg ?_
      refine WL_move rfl rfl ?_
      refine WL_move rfl rfl ?_
      refine WL_len Try.underlying100 g1 rfl rfl ?_
      refine WL_lss rfl rfl rfl ?_
      refine WL_nil ?_
      refine W_cond rfl (fun hc1 => ?_) (fun hc1 => ?_)
      · replace hL1 := ite_t hL1 hc1
        refine W_skip ?_
        refine nrm_normal ?_
        refine W_seq ?_
        refine W_block ?_
        refine W_seq ?_
        refine W_seq_reg ?_
        refine WL_move rfl rfl ?_
        refine WL_move rfl rfl ?_
        obtain ⟨x4, hx1, hL1⟩ := bind_some hL1
        refine WL_index Try.underlying100 ty165 g1 hx1 rfl rfl rfl (fun b1 o1 h1 => ?_)
        refine WL_field Try.underlying165 rfl rfl (fun w => ⟨_, Try.sizeOf3 w⟩) rfl rfl ?_
        refine WL_load ty3 h1.fst hC1.keep rfl rfl (fun v1 h2 => ?_)
        obtain rfl := ro_int h2
        refine WL_move rfl rfl ?_
        refine WL_neq rfl rfl rfl ?_
        refine WL_nil ?_
        refine W_cond rfl (fun hc2 => ?_) (fun hc2 => ?_)
        · replace hL1 := ite_t hL1 hc2
          refine W_seq_reg ?_
          refine WL_assign rfl rfl ?_
          refine WL_nil ?_
          refine W_ret ?_
          refine nrm_ret ?_
          refine blk_ret ?_
          refine nrm_ret ?_
          refine nrm_ret ?_
          refine blk_ret ?_
          refine nrm_ret ?_
          refine nrm_ret ?_
          have hq1 := Option.some.inj hL1
          subst hq1
          dsimp only at hF
          have hq2 := Option.some.inj hF
          subst hq2
          refine fn_ret1 rfl rfl ?_
          exact ⟨_, rfl, int_res hC1 _⟩
        · replace hL1 := ite_f hL1 hc2
          refine W_skip ?_
          refine nrm_normal ?_
          refine W_seq_reg ?_
          refine WL_move rfl rfl ?_
          refine WL_add rfl rfl rfl ?_
          refine WL_assign rfl rfl ?_
          refine WL_nil ?_
          refine W_seq_reg ?_
          refine WL_move rfl rfl ?_
          refine WL_move rfl rfl ?_
          obtain ⟨x5, hx2, hL1⟩ := bind_some hL1
          refine WL_index Try.underlying100 ty165 g1 hx2 rfl rfl rfl (fun b2 o2 h3 => ?_)
          refine WL_field Try.underlying165 rfl rfl (fun w => ⟨_, Try.sizeOf22 w⟩) rfl rfl ?_
          refine WL_load ty22 h3.snd hC1.keep rfl rfl (fun v2 h4 => ?_)
          refine WL_move rfl rfl ?_
          obtain ⟨x6, hr2, hL1⟩ := bind_some hL1
          refine WL_call Try.call61 rfl rfl (c_Q_heldIntS x5.2 v2 (h4.now hC1.keep) (w64 (x1 + 1)) x6 hr2) ?_
          intro _ w2 hv1
          obtain ⟨rfl, hB2⟩ := res_int hv1
          have hC2 := hC1.grow hB2
          refine WL_assign rfl rfl ?_
          refine WL_nil ?_
          refine W_seq_reg ?_
          refine WL_move rfl rfl ?_
          refine WL_lss rfl rfl rfl ?_
          refine WL_nil ?_
          refine W_cond rfl (fun hc3 => ?_) (fun hc3 => ?_)
          · replace hL1 := ite_t hL1 hc3
            refine W_seq_reg ?_
            refine WL_assign rfl rfl ?_
            refine WL_nil ?_
            refine W_ret ?_
            refine blk_ret ?_
            refine nrm_ret ?_
            refine nrm_ret ?_
            refine blk_ret ?_
            refine nrm_ret ?_
            refine nrm_ret ?_
            have hq3 := Option.some.inj hL1
            subst hq3
            dsimp only at hF
            have hq4 := Option.some.inj hF
            subst hq4
            refine fn_ret1 rfl rfl ?_
            exact ⟨_, rfl, int_res hC2 _⟩
          · replace hL1 := ite_f hL1 hc3
            refine W_skip ?_
            refine blk_normal ?_
            refine nrm_normal ?_
            refine W_reg ?_
            refine WL_move rfl rfl ?_
            refine WL_add rfl rfl rfl ?_
            refine WL_assign rfl rfl ?_
            refine WL_nil ?_
            refine nrm_sub (l' := [(0, u1), (1, (.int .i64 x6)), (5, (.int .i64 (w64 (x2 + 1))))]) ⟨rfl, rfl, rfl, trivial⟩ ?_
            exact ⟨k1, Nat.lt_succ_self _, x6, w64 (x2 + 1), rfl, ((Keep.of hB1).then hB2).below, hC2, hL1⟩
      · replace hL1 := ite_f hL1 hc1
        refine W_exit ?_
        refine nrm_exit ?_
        refine nrm_exit ?_
        refine blk_exit ?_
        have hq5 := Option.some.inj hL1
        subst hq5
        refine nrm_sub (l' := [(1, (.int .i64 x1))]) ⟨rfl, trivial⟩ ?_
        exact ⟨x1, rfl, rfl, (Keep.of hB1).below, hC1⟩
  · rintro l2 _ w3 hs2 ⟨x3, rfl, rfl, hB3, hC3⟩
    try dsimp only at hF
    refine nrm_sub' hs2 ?_
    clear hs2
    refine W_seq_reg ?_
    refine WL_move rfl rfl ?_
    refine WL_assign rfl rfl ?_
    refine WL_nil ?_
    refine W_ret ?_
    have hq6 := Option.some.inj hF
    subst hq6
    refine fn_ret1 rfl rfl ?_
    exact ⟨_, rfl, int_res hC3 _⟩

theorem c_Q_heldToldS {w0 : World} (a1 : (List ((Int × (List Int)) × (List (Int × (List Int)))))) (u1 : Value) (g1 : RO [] w0 u1 a1) (a2 : Int) (rr : Int) (hF : Q.heldToldS a1 a2 = some rr) :
    Calls Try.prog 80 [u1, (.int .i64 a2)].toArray w0 fun e w' => ∃ v, e = .returned v ∧ Res w0 rr v w' := by
  refine calls_of_W Try.func80 rfl rfl ?_
  have hC0 := Ctx.start w0
  unfold Q.heldToldS at hF
  refine W_seq_reg ?_
  refine WL_assign rfl rfl ?_
  refine WL_nil ?_
  refine W_seq ?_
  refine W_seq_reg ?_
  refine WL_assign rfl rfl ?_
  refine WL_nil ?_
  obtain ⟨r1, hr1, hF⟩ := bind_some hF
  refine W_norm (fun l w => ∃ x3 : Int, .inl x3 = r1 ∧ l = [(1, (.int .i64 x3))] ∧ Below w0.heap.size w0 w ∧ Ctx [] w0 w []) ?_ ?_
  · refine W_block ?_
    refine W.sub (l' := [(0, u1), (1, (.int .i64 a2)), (5, (.int .i64 0))]) ?_ ⟨rfl, rfl, rfl, trivial⟩
    refine W_loop (fun k l w => ∃ x1 : Int, ∃ x2 : Int, l = [(0, u1), (1, (.int .i64 x1)), (5, (.int .i64 x2))] ∧ Below w0.heap.size w0 w ∧ Ctx [] w0 w [] ∧ Q.heldToldS_l1 a1 k x1 x2 = some r1) FUEL ⟨a2, 0, rfl, (Below.refl _ _), hC0, hr1⟩ ?_
    clear hr1
    rintro k1 _ w1 ⟨x1, x2, rfl, hB1, hC1, hL1⟩
    cases k1 with
    | zero => rw [Q.heldToldS_l1] at hL1; cases hL1
    | succ k1 =>
      rw [Q.heldToldS_l1] at hL1
      refine W_seq ?_
      refine W_seq_reg ?_
      refine WL_move rfl rfl ?_
      refine WL_move rfl rfl ?_
      refine WL_len Try.underlying118 g1 rfl rfl ?_
      refine WL_lss rfl rfl rfl ?_
      refine WL_nil ?_
      refine W_cond rfl (fun hc1 => ?_) (fun hc1 => ?_)
      · replace hL1 := ite_t hL1 hc1
        refine W_skip ?_
        refine nrm_normal ?_
        refine W_seq ?_
        refine W_block ?_
        refine W_seq ?_
        refine W_seq_reg ?_
        refine WL_move rfl rfl ?_
        refine WL_move rfl rfl ?_
        obtain ⟨x4, hx1, hL1⟩ := bind_some hL1
        refine WL_index Try.underlying118 ty112 g1 hx1 rfl rfl rfl (fun b1 o1 h1 => ?_)
        refine WL_field Try.underlying112 rfl rfl (fun w => ⟨_, Try.sizeOf89 w⟩) rfl rfl ?_
        refine WL_field Try.underlying89 rfl rfl (fun w => ⟨_, Try.sizeOf3 w⟩) rfl rfl ?_
        refine WL_load ty3 h1.fst.fst hC1.keep rfl rfl (fun v1 h2 => ?_)
        obtain rfl := ro_int h2
        refine WL_move rfl rfl ?_
        refine WL_neq rfl rfl rfl ?_
        refine WL_nil ?_
        refine W_cond rfl (fun hc2 => ?_) (fun hc2 => ?_)
        · replace hL1 := ite_t hL1 hc2
          refine W_seq_reg ?_
          refine WL_assign rfl rfl ?_
          refine WL_nil ?_
          refine W_ret ?_
          refine nrm_ret ?_
          refine blk_ret ?_
          refine nrm_ret ?_
          refine nrm_ret ?_
          refine blk_ret ?_
          refine nrm_ret ?_
          refine nrm_ret ?_
          have hq1 := Option.some.inj hL1
          subst hq1
          dsimp only at hF
          have hq2 := Option.some.inj hF
          subst hq2
          refine fn_ret1 rfl rfl ?_
          exact ⟨_, rfl, int_res hC1 _⟩
        · replace hL1 := ite_f hL1 hc2
          refine W_skip ?_
          refine nrm_normal ?_
          refine W_seq_reg ?_
          refine WL_move rfl rfl ?_
          refine WL_add rfl rfl rfl ?_
          refine WL_assign rfl rfl ?_
          refine WL_nil ?_
          refine W_seq_reg ?_
          refine WL_move rfl rfl ?_
          refine WL_move rfl rfl ?_
          obtain ⟨x5, hx2, hL1⟩ := bind_some hL1
          refine WL_index Try.underlying118 ty112 g1 hx2 rfl rfl rfl (fun b2 o2 h3 => ?_)
          refine WL_field Try.underlying112 rfl rfl (fun w => ⟨_, Try.sizeOf89 w⟩) rfl rfl ?_
          refine WL_field Try.underlying89 rfl rfl (fun w => ⟨_, Try.sizeOf22 w⟩) rfl rfl ?_
          refine WL_load ty22 h3.fst.snd hC1.keep rfl rfl (fun v2 h4 => ?_)
          refine WL_move rfl rfl ?_
          obtain ⟨x6, hr2, hL1⟩ := bind_some hL1
          refine WL_call Try.call61 rfl rfl (c_Q_heldIntS x5.1.2 v2 (h4.now hC1.keep) (w64 (x1 + 1)) x6 hr2) ?_
          intro _ w2 hv1
          obtain ⟨rfl, hB2⟩ := res_int hv1
          have hC2 := hC1.grow hB2
          refine WL_assign rfl rfl ?_
          refine WL_nil ?_
          refine W_seq ?_
          refine W_seq_reg ?_
          refine WL_move rfl rfl ?_
          refine WL_lss rfl rfl rfl ?_
          refine WL_nil ?_
          refine W_cond rfl (fun hc3 => ?_) (fun hc3 => ?_)
          · replace hL1 := ite_t hL1 hc3
            refine W_seq_reg ?_
            refine WL_assign rfl rfl ?_
            refine WL_nil ?_
            refine W_ret ?_
            refine nrm_ret ?_
            refine blk_ret ?_
            refine nrm_ret ?_
            refine nrm_ret ?_
            refine blk_ret ?_
            refine nrm_ret ?_
            refine nrm_ret ?_
            have hq3 := Option.some.inj hL1
            subst hq3
            dsimp only at hF
            have hq4 := Option.some.inj hF
            subst hq4
            refine fn_ret1 rfl rfl ?_
            exact ⟨_, rfl, int_res hC2 _⟩
          · replace hL1 := ite_f hL1 hc3
            refine W_skip ?_
            refine nrm_normal ?_
            refine W_seq_reg ?_
            refine WL_move rfl rfl ?_
            refine WL_move rfl rfl ?_
            obtain ⟨x7, hx3, hL1⟩ := bind_some hL1
            refine WL_index Try.underlying118 ty112 g1 hx3 rfl rfl rfl (fun b3 o3 h5 => ?_)
            refine WL_field Try.underlying112 rfl rfl (fun w => ⟨_, Try.sizeOf100 w⟩) rfl rfl ?_
            refine WL_load ty100 h5.snd hC2.keep rfl rfl (fun v3 h6 => ?_)
            refine WL_move rfl rfl ?_
            obtain ⟨x8, hr3, hL1⟩ := bind_some hL1
            refine WL_call Try.call87 rfl rfl (c_Q_heldFactS x7.2 v3 (h6.now hC2.keep) x6 x8 hr3) ?_
            intro _ w3 hv2
            obtain ⟨rfl, hB3⟩ := res_int hv2
            have hC3 := hC2.grow hB3
            refine WL_assign rfl rfl ?_
            refine WL_nil ?_
            refine W_seq_reg ?_
            refine WL_move rfl rfl ?_
            refine WL_lss rfl rfl rfl ?_
            refine WL_nil ?_
            refine W_cond rfl (fun hc4 => ?_) (fun hc4 => ?_)
            · replace hL1 := ite_t hL1 hc4
              refine W_seq_reg ?_
              refine WL_assign rfl rfl ?_
              refine WL_nil ?_
              refine W_ret ?_
              refine blk_ret ?_
              refine nrm_ret ?_
              refine nrm_ret ?_
              refine blk_ret ?_
              refine nrm_ret ?_
              refine nrm_ret ?_
              have hq5 := Option.some.inj hL1
              subst hq5
              dsimp only at hF
              have hq6 := Option.some.inj hF
              subst hq6
              refine fn_ret1 rfl rfl ?_
              exact ⟨_, rfl, int_res hC3 _⟩
            · replace hL1 := ite_f hL1 hc4
              refine W_skip ?_
              refine blk_normal ?_
              refine nrm_normal ?_
              refine W_reg ?_
              refine WL_move rfl rfl ?_
              refine WL_add rfl rfl rfl ?_
              refine WL_assign rfl rfl ?_
              refine WL_nil ?_
              refine nrm_sub (l' := [(0, u1), (1, (.int .i64 x8)), (5, (.int .i64 (w64 (x2 + 1))))]) ⟨rfl, rfl, rfl, trivial⟩ ?_
              exact ⟨k1, Nat.lt_succ_self _, x8, w64 (x2 + 1), rfl, (((Keep.of hB1).then hB2).then hB3).below, hC3, hL1⟩
      · replace hL1 := ite_f hL1 hc1
        refine W_exit ?_
        refine nrm_exit ?_
        refine nrm_exit ?_
        refine blk_exit ?_
        have hq7 := Option.some.inj hL1
        subst hq7
        refine nrm_sub (l' := [(1, (.int .i64 x1))]) ⟨rfl, trivial⟩ ?_
        exact ⟨x1, rfl, rfl, (Keep.of hB1).below, hC1⟩
  · rintro l2 _ w4 hs2 ⟨x3, rfl, rfl, hB4, hC4⟩
    try dsimp only at hF
    refine nrm_sub' hs2 ?_
    clear hs2
    refine W_seq_reg ?_
    refine WL_move rfl rfl ?_
    refine WL_assign rfl rfl ?_
    refine WL_nil ?_
    refine W_ret ?_
    have hq8 := Option.some.inj hF
    subst hq8
    refine fn_ret1 rfl rfl ?_
    exact ⟨_, rfl, int_res hC4 _⟩

theorem c_Q_FnExactWithout {w0 : World} (a1 : (List ((Int × (List Int)) × (List (Int × (List Int)))))) (u1 : Value) (g1 : RO [] w0 u1 a1) (a2 : (List Int)) (u2 : Value) (g2 : RO [] w0 u2 a2) (rr : Bool) (hF : Q.FnExactWithout a1 a2 = some rr) :
    Calls Try.prog 13 [u1, u2].toArray w0 fun e w' => ∃ v, e = .returned v ∧ Res w0 rr v w' := by
  refine calls_of_W Try.func13 rfl rfl ?_
  have hC0 := Ctx.start w0
  unfold Q.FnExactWithout at hF
  refine W_seq_reg ?_
  refine WL_assign rfl rfl ?_
  refine WL_nil ?_
  refine W_seq ?_
  refine W_seq_reg ?_
  refine WL_move rfl rfl ?_
  refine WL_len Try.underlying22 g2 rfl rfl ?_
  refine WL_gtr rfl rfl rfl ?_
  refine WL_nil ?_
  refine W_cond rfl (fun hc1 => ?_) (fun hc1 => ?_)
  · replace hF := ite_t hF hc1
    refine W_seq_reg ?_
    refine WL_assign rfl rfl ?_
    refine WL_nil ?_
    refine W_ret ?_
    refine nrm_ret ?_
    have hq1 := Option.some.inj hF
    subst hq1
    refine fn_ret1 rfl rfl ?_
    exact ⟨_, rfl, bool_res hC0 _⟩
  · replace hF := ite_f hF hc1
    refine W_skip ?_
    refine nrm_normal ?_
    refine W_seq_reg ?_
    refine WL_assign rfl rfl ?_
    refine WL_nil ?_
    refine W_seq_reg ?_
    refine WL_move rfl rfl ?_
    refine WL_move rfl rfl ?_
    obtain ⟨x1, hr1, hF⟩ := bind_some hF
    refine WL_call Try.call74 rfl rfl (c_Q_szToldS a1 u1 (g1.now hC0.keep) 1048576 x1 hr1) ?_
    intro _ w1 hv1
    obtain ⟨rfl, hB1⟩ := res_int hv1
    have hC1 := hC0.grow hB1
    refine WL_assign rfl rfl ?_
    refine WL_nil ?_
    refine W_seq ?_
    refine W_seq_reg ?_
    refine WL_move rfl rfl ?_
    refine WL_lss rfl rfl rfl ?_
    refine WL_nil ?_
    refine W_cond rfl (fun hc2 => ?_) (fun hc2 => ?_)
    · replace hF := ite_t hF hc2
      refine W_seq_reg ?_
      refine WL_assign rfl rfl ?_
      refine WL_nil ?_
      refine W_ret ?_
      refine nrm_ret ?_
      have hq2 := Option.some.inj hF
      subst hq2
      refine fn_ret1 rfl rfl ?_
      exact ⟨_, rfl, bool_res hC1 _⟩
    · replace hF := ite_f hF hc2
      refine W_skip ?_
      refine nrm_normal ?_
      refine W_seq_reg ?_
      refine WL_move rfl rfl ?_
      obtain ⟨x2, hr2, hF⟩ := bind_some hF
      refine WL_call Try.call76 rfl rfl (c_Q_toToldS a1 u1 (g1.now hC1.keep) x2 hr2) ?_
      rintro v1 w2 ⟨hB2, F1, hv2, hn1, hb1⟩
      have hC2 := hC1.push hB2 (A := Item.own v1 x2) hv2 hn1 hb1
      refine WL_move rfl rfl ?_
      obtain ⟨x3, hr3, hF⟩ := bind_some hF
      refine WL_call Try.call37 rfl rfl (c_Q_toIntS a2 u2 (g2.now hC2.keep) x3 hr3) ?_
      rintro v2 w3 ⟨hB3, F2, hv3, hn2, hb2⟩
      have hC3 := hC2.push hB3 (A := Item.own v2 x3) hv3 hn2 hb2
      obtain ⟨x4, hr4, hF⟩ := bind_some hF
      refine WL_call Try.call75 rfl rfl (c_S_Without x2 v1 ((hC3.ro 1 rfl).now (Keep.refl _ _)) x3 v2 ((hC3.ro 0 rfl).now (Keep.refl _ _)) x4 hr4) ?_
      rintro v3 w4 ⟨hB4, F3, hv4, hn3, hb3⟩
      have hC4 := hC3.push hB4 (A := Item.own v3 x4) hv4 hn3 hb3
      refine WL_assign rfl rfl ?_
      refine WL_nil ?_
      refine W_seq_reg ?_
      refine WL_move rfl rfl ?_
      obtain ⟨x5, hr5, hF⟩ := bind_some hF
      refine WL_call Try.call76 rfl rfl (c_Q_toToldS a1 u1 (g1.now hC4.keep) x5 hr5) ?_
      rintro v4 w5 ⟨hB5, F4, hv5, hn4, hb4⟩
      have hC5 := hC4.push hB5 (A := Item.own v4 x5) hv5 hn4 hb4
      refine WL_assign rfl rfl ?_
      refine WL_nil ?_
      refine W_seq_reg ?_
      refine WL_move rfl rfl ?_
      obtain ⟨x6, hr6, hF⟩ := bind_some hF
      refine WL_call Try.call37 rfl rfl (c_Q_toIntS a2 u2 (g2.now hC5.keep) x6 hr6) ?_
      rintro v5 w6 ⟨hB6, F5, hv6, hn5, hb5⟩
      have hC6 := hC5.push hB6 (A := Item.own v5 x6) hv6 hn5 hb5
      refine WL_assign rfl rfl ?_
      refine WL_nil ?_
      refine W_seq_reg ?_
      refine WL_move rfl rfl ?_
      refine WL_move rfl rfl ?_
      obtain ⟨x7, hr7, hF⟩ := bind_some hF
      refine WL_call Try.call77 rfl rfl (c_M_Without x5 v4 ((hC6.ro 1 rfl).now (Keep.refl _ _)) x6 v5 ((hC6.ro 0 rfl).now (Keep.refl _ _)) x7 hr7) ?_
      rintro v6 w7 ⟨hB7, F6, hv7, hn6, hb6⟩
      have hC7 := hC6.push hB7 (A := Item.own v6 x7) hv7 hn6 hb6
      refine WL_assign rfl rfl ?_
      refine WL_nil ?_
      refine W_seq ?_
      refine W_seq_reg ?_
      refine WL_move rfl rfl ?_
      refine WL_move rfl rfl ?_
      obtain ⟨x8, hr8, hF⟩ := bind_some hF
      refine WL_call Try.call78 rfl rfl (c_Q_eqToldS x7 v6 ((hC7.ro 0 rfl).now (Keep.refl _ _)) x4 v3 ((hC7.ro 3 rfl).now (Keep.refl _ _)) x8 hr8) ?_
      intro _ w8 hv8
      obtain ⟨rfl, hB8⟩ := res_bool hv8
      have hC8 := hC7.grow hB8
      refine WL_not rfl rfl ?_
      refine WL_nil ?_
      refine W_cond rfl (fun hc3 => ?_) (fun hc3 => ?_)
      · replace hF := ite_t hF hc3
        refine W_seq_reg ?_
        refine WL_assign rfl rfl ?_
        refine WL_nil ?_
        refine W_ret ?_
        refine nrm_ret ?_
        have hq3 := Option.some.inj hF
        subst hq3
        refine fn_ret1 rfl rfl ?_
        exact ⟨_, rfl, bool_res hC8 _⟩
      · replace hF := ite_f hF hc3
        refine W_skip ?_
        refine nrm_normal ?_
        refine W_seq ?_
        refine W_seq_reg ?_
        refine WL_move rfl rfl ?_
        refine WL_move rfl rfl ?_
        obtain ⟨x9, hr9, hF⟩ := bind_some hF
        refine WL_call Try.call76 rfl rfl (c_Q_toToldS a1 u1 (g1.now hC8.keep) x9 hr9) ?_
        rintro v7 w9 ⟨hB9, F7, hv9, hn7, hb7⟩
        have hC9 := hC8.push hB9 (A := Item.own v7 x9) hv9 hn7 hb7
        obtain ⟨x10, hr10, hF⟩ := bind_some hF
        refine WL_call Try.call78 rfl rfl (c_Q_eqToldS x5 v4 ((hC9.ro 3 rfl).now (Keep.refl _ _)) x9 v7 ((hC9.ro 0 rfl).now (Keep.refl _ _)) x10 hr10) ?_
        intro _ w10 hv10
        obtain ⟨rfl, hB10⟩ := res_bool hv10
        have hC10 := hC9.grow hB10
        refine WL_not rfl rfl ?_
        refine WL_nil ?_
        refine W_cond rfl (fun hc4 => ?_) (fun hc4 => ?_)
        · replace hF := ite_t hF hc4
          refine W_seq_reg ?_
          refine WL_assign rfl rfl ?_
          refine WL_nil ?_
          refine W_ret ?_
          refine nrm_ret ?_
          have hq4 := Option.some.inj hF
          subst hq4
          refine fn_ret1 rfl rfl ?_
          exact ⟨_, rfl, bool_res hC10 _⟩
        · replace hF := ite_f hF hc4
          refine W_skip ?_
          refine nrm_normal ?_
          refine W_seq ?_
          refine W_seq_reg ?_
          refine WL_move rfl rfl ?_
          refine WL_move rfl rfl ?_
          obtain ⟨x11, hr11, hF⟩ := bind_some hF
          refine WL_call Try.call37 rfl rfl (c_Q_toIntS a2 u2 (g2.now hC10.keep) x11 hr11) ?_
          rintro v8 w11 ⟨hB11, F8, hv11, hn8, hb8⟩
          have hC11 := hC10.push hB11 (A := Item.own v8 x11) hv11 hn8 hb8
          obtain ⟨x12, hr12, hF⟩ := bind_some hF
          refine WL_call Try.call39 rfl rfl (c_Q_eqIntS x6 v5 ((hC11.ro 3 rfl).now (Keep.refl _ _)) x11 v8 ((hC11.ro 0 rfl).now (Keep.refl _ _)) x12 hr12) ?_
          intro _ w12 hv12
          obtain ⟨rfl, hB12⟩ := res_bool hv12
          have hC12 := hC11.grow hB12
          refine WL_not rfl rfl ?_
          refine WL_nil ?_
          refine W_cond rfl (fun hc5 => ?_) (fun hc5 => ?_)
          · replace hF := ite_t hF hc5
            refine W_seq_reg ?_
            refine WL_assign rfl rfl ?_
            refine WL_nil ?_
            refine W_ret ?_
            refine nrm_ret ?_
            have hq5 := Option.some.inj hF
            subst hq5
            refine fn_ret1 rfl rfl ?_
            exact ⟨_, rfl, bool_res hC12 _⟩
          · replace hF := ite_f hF hc5
            refine W_skip ?_
            refine nrm_normal ?_
            refine W_seq_reg ?_
            refine WL_assign rfl rfl ?_
            refine WL_nil ?_
            refine W_seq_reg ?_
            refine WL_move rfl rfl ?_
            refine WL_move rfl rfl ?_
            obtain ⟨x13, hr13, hF⟩ := bind_some hF
            have hC13 : Ctx [] w0 _ [Item.own v4 (x5 : (List ((Int × (List Int)) × (List (Int × (List Int)))))), Item.own v8 (x11 : (List Int)), Item.own v7 (x9 : (List ((Int × (List Int)) × (List (Int × (List Int)))))), Item.own v6 (x7 : (List ((Int × (List Int)) × (List (Int × (List Int)))))), Item.own v5 (x6 : (List Int)), Item.own v3 (x4 : (List ((Int × (List Int)) × (List (Int × (List Int)))))), Item.own v2 (x3 : (List Int)), Item.own v1 (x2 : (List ((Int × (List Int)) × (List (Int × (List Int))))))] := hC12.front 4 rfl
            obtain ⟨Fs1, hH1, hn9, hF1, hO1, hb9⟩ := Ctx.lend2 (As := [Item.own v8 (x11 : (List Int)), Item.own v7 (x9 : (List ((Int × (List Int)) × (List (Int × (List Int)))))), Item.own v6 (x7 : (List ((Int × (List Int)) × (List (Int × (List Int)))))), Item.own v5 (x6 : (List Int)), Item.own v3 (x4 : (List ((Int × (List Int)) × (List (Int × (List Int)))))), Item.own v2 (x3 : (List Int)), Item.own v1 (x2 : (List ((Int × (List Int)) × (List (Int × (List Int))))))]) [Item.own v4 (x5 : (List ((Int × (List Int)) × (List (Int × (List Int))))))] hC13
            refine WL_call Try.call79 rfl rfl (c_Q_markToldS x5 v4 1 hH1 hn9 x13 hr13) ?_
            rintro _ w13 ⟨rfl, hq6⟩
            have hC14 : Ctx [] w0 w13 [Item.own v4 (x13.2 : (List ((Int × (List Int)) × (List (Int × (List Int)))))), Item.own v8 (x11 : (List Int)), Item.own v7 (x9 : (List ((Int × (List Int)) × (List (Int × (List Int)))))), Item.own v6 (x7 : (List ((Int × (List Int)) × (List (Int × (List Int)))))), Item.own v5 (x6 : (List Int)), Item.own v3 (x4 : (List ((Int × (List Int)) × (List (Int × (List Int)))))), Item.own v2 (x3 : (List Int)), Item.own v1 (x2 : (List ((Int × (List Int)) × (List (Int × (List Int))))))] := hb9 _ _ hq6
            refine WL_assign rfl rfl ?_
            refine WL_nil ?_
            refine W_seq_reg ?_
            refine WL_move rfl rfl ?_
            refine WL_move rfl rfl ?_
            obtain ⟨x14, hr14, hF⟩ := bind_some hF
            have hC15 : Ctx [] w0 _ [Item.own v5 (x6 : (List Int)), Item.own v4 (x13.2 : (List ((Int × (List Int)) × (List (Int × (List Int)))))), Item.own v8 (x11 : (List Int)), Item.own v7 (x9 : (List ((Int × (List Int)) × (List (Int × (List Int)))))), Item.own v6 (x7 : (List ((Int × (List Int)) × (List (Int × (List Int)))))), Item.own v3 (x4 : (List ((Int × (List Int)) × (List (Int × (List Int)))))), Item.own v2 (x3 : (List Int)), Item.own v1 (x2 : (List ((Int × (List Int)) × (List (Int × (List Int))))))] := hC14.front 4 rfl
            obtain ⟨Fs2, hH2, hn10, hF2, hO2, hb10⟩ := Ctx.lend2 (As := [Item.own v4 (x13.2 : (List ((Int × (List Int)) × (List (Int × (List Int)))))), Item.own v8 (x11 : (List Int)), Item.own v7 (x9 : (List ((Int × (List Int)) × (List (Int × (List Int)))))), Item.own v6 (x7 : (List ((Int × (List Int)) × (List (Int × (List Int)))))), Item.own v3 (x4 : (List ((Int × (List Int)) × (List (Int × (List Int)))))), Item.own v2 (x3 : (List Int)), Item.own v1 (x2 : (List ((Int × (List Int)) × (List (Int × (List Int))))))]) [Item.own v5 (x6 : (List Int))] hC15
            refine WL_call Try.call40 rfl rfl (c_Q_markIntS x6 v5 x13.1 hH2 hn10 x14 hr14) ?_
            rintro _ w14 ⟨rfl, hq7⟩
            have hC16 : Ctx [] w0 w14 [Item.own v5 (x14.2 : (List Int)), Item.own v4 (x13.2 : (List ((Int × (List Int)) × (List (Int × (List Int)))))), Item.own v8 (x11 : (List Int)), Item.own v7 (x9 : (List ((Int × (List Int)) × (List (Int × (List Int)))))), Item.own v6 (x7 : (List ((Int × (List Int)) × (List (Int × (List Int)))))), Item.own v3 (x4 : (List ((Int × (List Int)) × (List (Int × (List Int)))))), Item.own v2 (x3 : (List Int)), Item.own v1 (x2 : (List ((Int × (List Int)) × (List (Int × (List Int))))))] := hb10 _ _ hq7
            refine WL_assign rfl rfl ?_
            refine WL_nil ?_
            refine W_seq ?_
            obtain ⟨r1, hr15, hF⟩ := bind_some hF
            refine W_cut (fun l w => ∃ x15 : Bool, x15 = r1 ∧ l = [(0, u1), (1, u2), (6, v3), (9, v6), (61, (.bool x15))] ∧ Below w14.heap.size w14 w ∧ Ctx [] w0 w [Item.own v6 (x7 : (List ((Int × (List Int)) × (List (Int × (List Int)))))), Item.own v3 (x4 : (List ((Int × (List Int)) × (List (Int × (List Int))))))]) ?_ ?_
            · refine W_reg ?_
              refine WL_move rfl rfl ?_
              refine WL_lss rfl rfl rfl ?_
              refine WL_move rfl rfl ?_
              refine WL_fork (fun hc6 => ?_) (fun hc6 => ?_)
              · replace hr15 := ite_t hr15 hc6
                refine WL_guard_skip rfl rfl (by simp) rfl ?_
                refine WL_guard_skip rfl rfl (by simp) rfl ?_
                refine WL_guard_skip rfl rfl (by simp) rfl ?_
                refine WL_guard_skip rfl rfl (by simp) rfl ?_
                refine WL_pick_t rfl rfl rfl ?_
                refine WL_nil ?_
                have hq8 := Option.some.inj hr15
                subst hq8
                have hC18 : Ctx [] w0 _ [Item.own v3 (x4 : (List ((Int × (List Int)) × (List (Int × (List Int)))))), Item.own v5 (x14.2 : (List Int)), Item.own v4 (x13.2 : (List ((Int × (List Int)) × (List (Int × (List Int)))))), Item.own v8 (x11 : (List Int)), Item.own v7 (x9 : (List ((Int × (List Int)) × (List (Int × (List Int)))))), Item.own v6 (x7 : (List ((Int × (List Int)) × (List (Int × (List Int)))))), Item.own v2 (x3 : (List Int)), Item.own v1 (x2 : (List ((Int × (List Int)) × (List (Int × (List Int))))))] := hC16.front 5 rfl
                have hC19 : Ctx [] w0 _ [Item.own v6 (x7 : (List ((Int × (List Int)) × (List (Int × (List Int)))))), Item.own v3 (x4 : (List ((Int × (List Int)) × (List (Int × (List Int)))))), Item.own v5 (x14.2 : (List Int)), Item.own v4 (x13.2 : (List ((Int × (List Int)) × (List (Int × (List Int)))))), Item.own v8 (x11 : (List Int)), Item.own v7 (x9 : (List ((Int × (List Int)) × (List (Int × (List Int)))))), Item.own v2 (x3 : (List Int)), Item.own v1 (x2 : (List ((Int × (List Int)) × (List (Int × (List Int))))))] := hC18.front 5 rfl
                have hC20 : Ctx [] w0 _ [Item.own v6 (x7 : (List ((Int × (List Int)) × (List (Int × (List Int)))))), Item.own v3 (x4 : (List ((Int × (List Int)) × (List (Int × (List Int))))))] := hC19.headN 2
                refine nrm_sub (l' := [(0, u1), (1, u2), (6, v3), (9, v6), (61, (.bool true))]) ⟨rfl, rfl, rfl, rfl, rfl, trivial⟩ ?_
                exact ⟨true, rfl, rfl, (Below.refl _ _), hC20⟩
              · replace hr15 := ite_f hr15 hc6
                refine WL_guard rfl rfl ?_
                refine WL_move rfl rfl ?_
                refine WL_guard rfl rfl ?_
                refine WL_move rfl rfl ?_
                obtain ⟨x16, hr16, hr15⟩ := bind_some hr15
                refine WL_guard rfl rfl ?_
                refine WL_call Try.call78 rfl rfl (c_Q_eqToldS x7 v6 ((hC16.ro 4 rfl).now (Keep.refl _ _)) x4 v3 ((hC16.ro 5 rfl).now (Keep.refl _ _)) x16 hr16) ?_
                intro _ w16 hv13
                obtain ⟨rfl, hB14⟩ := res_bool hv13
                have hC21 := hC16.grow hB14
                refine WL_guard rfl rfl ?_
                refine WL_not rfl rfl ?_
                refine WL_pick_f rfl rfl rfl ?_
                refine WL_nil ?_
                have hq9 := Option.some.inj hr15
                subst hq9
                have hC22 : Ctx [] w0 _ [Item.own v3 (x4 : (List ((Int × (List Int)) × (List (Int × (List Int)))))), Item.own v5 (x14.2 : (List Int)), Item.own v4 (x13.2 : (List ((Int × (List Int)) × (List (Int × (List Int)))))), Item.own v8 (x11 : (List Int)), Item.own v7 (x9 : (List ((Int × (List Int)) × (List (Int × (List Int)))))), Item.own v6 (x7 : (List ((Int × (List Int)) × (List (Int × (List Int)))))), Item.own v2 (x3 : (List Int)), Item.own v1 (x2 : (List ((Int × (List Int)) × (List (Int × (List Int))))))] := hC21.front 5 rfl
                have hC23 : Ctx [] w0 _ [Item.own v6 (x7 : (List ((Int × (List Int)) × (List (Int × (List Int)))))), Item.own v3 (x4 : (List ((Int × (List Int)) × (List (Int × (List Int)))))), Item.own v5 (x14.2 : (List Int)), Item.own v4 (x13.2 : (List ((Int × (List Int)) × (List (Int × (List Int)))))), Item.own v8 (x11 : (List Int)), Item.own v7 (x9 : (List ((Int × (List Int)) × (List (Int × (List Int)))))), Item.own v2 (x3 : (List Int)), Item.own v1 (x2 : (List ((Int × (List Int)) × (List (Int × (List Int))))))] := hC22.front 5 rfl
                have hC24 : Ctx [] w0 _ [Item.own v6 (x7 : (List ((Int × (List Int)) × (List (Int × (List Int)))))), Item.own v3 (x4 : (List ((Int × (List Int)) × (List (Int × (List Int))))))] := hC23.headN 2
                refine nrm_sub (l' := [(0, u1), (1, u2), (6, v3), (9, v6), (61, (.bool (!x16)))]) ⟨rfl, rfl, rfl, rfl, rfl, trivial⟩ ?_
                exact ⟨(!x16), rfl, rfl, (Keep.of hB14).below, hC24⟩
            · rintro _ w15 ⟨x15, rfl, rfl, hB13, hC17⟩
              try dsimp only at hF
              refine W_cond rfl (fun hc7 => ?_) (fun hc7 => ?_)
              · replace hF := ite_t hF hc7
                refine W_seq_reg ?_
                refine WL_assign rfl rfl ?_
                refine WL_nil ?_
                refine W_ret ?_
                refine nrm_ret ?_
                have hq10 := Option.some.inj hF
                subst hq10
                refine fn_ret1 rfl rfl ?_
                exact ⟨_, rfl, bool_res hC17 _⟩
              · replace hF := ite_f hF hc7
                refine W_skip ?_
                refine nrm_normal ?_
                refine W_seq_reg ?_
                refine WL_assign rfl rfl ?_
                refine WL_nil ?_
                refine W_seq_reg ?_
                refine WL_move rfl rfl ?_
                refine WL_move rfl rfl ?_
                obtain ⟨x17, hr17, hF⟩ := bind_some hF
                obtain ⟨Fs3, hH3, hn11, hF3, hO3, hb11⟩ := Ctx.lend2 (As := [Item.own v3 (x4 : (List ((Int × (List Int)) × (List (Int × (List Int))))))]) [Item.own v6 (x7 : (List ((Int × (List Int)) × (List (Int × (List Int))))))] hC17
                refine WL_call Try.call79 rfl rfl (c_Q_markToldS x7 v6 1 hH3 hn11 x17 hr17) ?_
                rintro _ w17 ⟨rfl, hq11⟩
                have hC26 : Ctx [] w0 w17 [Item.own v6 (x17.2 : (List ((Int × (List Int)) × (List (Int × (List Int)))))), Item.own v3 (x4 : (List ((Int × (List Int)) × (List (Int × (List Int))))))] := hb11 _ _ hq11
                refine WL_assign rfl rfl ?_
                refine WL_nil ?_
                refine W_seq_reg ?_
                refine WL_assign rfl rfl ?_
                refine WL_nil ?_
                refine W_seq_reg ?_
                refine WL_move rfl rfl ?_
                refine WL_move rfl rfl ?_
                obtain ⟨x18, hr18, hF⟩ := bind_some hF
                refine WL_call Try.call80 rfl rfl (c_Q_heldToldS x17.2 v6 ((hC26.ro 0 rfl).now (Keep.refl _ _)) 1 x18 hr18) ?_
                intro _ w18 hv14
                obtain ⟨rfl, hB15⟩ := res_int hv14
                have hC27 := hC26.grow hB15
                refine WL_assign rfl rfl ?_
                refine WL_nil ?_
                refine W_seq ?_
                refine W_seq_reg ?_
                refine WL_move rfl rfl ?_
                refine WL_lss rfl rfl rfl ?_
                refine WL_nil ?_
                refine W_cond rfl (fun hc8 => ?_) (fun hc8 => ?_)
                · replace hF := ite_t hF hc8
                  refine W_seq_reg ?_
                  refine WL_assign rfl rfl ?_
                  refine WL_nil ?_
                  refine W_ret ?_
                  refine nrm_ret ?_
                  have hq12 := Option.some.inj hF
                  subst hq12
                  refine fn_ret1 rfl rfl ?_
                  exact ⟨_, rfl, bool_res hC27 _⟩
                · replace hF := ite_f hF hc8
                  refine W_skip ?_
                  refine nrm_normal ?_
                  refine W_seq ?_
                  refine W_seq_reg ?_
                  refine WL_move rfl rfl ?_
                  refine WL_move rfl rfl ?_
                  refine WL_neq rfl rfl rfl ?_
                  refine WL_nil ?_
                  refine W_cond rfl (fun hc9 => ?_) (fun hc9 => ?_)
                  · replace hF := ite_t hF hc9
                    refine W_seq_reg ?_
                    refine WL_assign rfl rfl ?_
                    refine WL_nil ?_
                    refine W_ret ?_
                    refine nrm_ret ?_
                    have hq13 := Option.some.inj hF
                    subst hq13
                    refine fn_ret1 rfl rfl ?_
                    exact ⟨_, rfl, bool_res hC27 _⟩
                  · replace hF := ite_f hF hc9
                    refine W_skip ?_
                    refine nrm_normal ?_
                    refine W_seq_reg ?_
                    refine WL_move rfl rfl ?_
                    obtain ⟨x19, hr19, hF⟩ := bind_some hF
                    refine WL_call Try.call76 rfl rfl (c_Q_toToldS a1 u1 (g1.now hC27.keep) x19 hr19) ?_
                    rintro v9 w19 ⟨hB16, F9, hv15, hn12, hb12⟩
                    have hC28 := hC27.push hB16 (A := Item.own v9 x19) hv15 hn12 hb12
                    refine WL_move rfl rfl ?_
                    obtain ⟨x20, hr20, hF⟩ := bind_some hF
                    refine WL_call Try.call37 rfl rfl (c_Q_toIntS a2 u2 (g2.now hC28.keep) x20 hr20) ?_
                    rintro v10 w20 ⟨hB17, F10, hv16, hn13, hb13⟩
                    have hC29 := hC28.push hB17 (A := Item.own v10 x20) hv16 hn13 hb13
                    obtain ⟨x21, hr21, hF⟩ := bind_some hF
                    refine WL_call Try.call77 rfl rfl (c_M_Without x19 v9 ((hC29.ro 1 rfl).now (Keep.refl _ _)) x20 v10 ((hC29.ro 0 rfl).now (Keep.refl _ _)) x21 hr21) ?_
                    rintro v11 w21 ⟨hB18, F11, hv17, hn14, hb14⟩
                    have hC30 := hC29.push hB18 (A := Item.own v11 x21) hv17 hn14 hb14
                    refine WL_assign rfl rfl ?_
                    refine WL_nil ?_
                    refine W_seq ?_
                    refine W_seq_reg ?_
                    refine WL_move rfl rfl ?_
                    refine WL_move rfl rfl ?_
                    obtain ⟨x22, hr22, hF⟩ := bind_some hF
                    refine WL_call Try.call78 rfl rfl (c_Q_eqToldS x21 v11 ((hC30.ro 0 rfl).now (Keep.refl _ _)) x4 v3 ((hC30.ro 4 rfl).now (Keep.refl _ _)) x22 hr22) ?_
                    intro _ w22 hv18
                    obtain ⟨rfl, hB19⟩ := res_bool hv18
                    have hC31 := hC30.grow hB19
                    refine WL_not rfl rfl ?_
                    refine WL_nil ?_
                    refine W_cond rfl (fun hc10 => ?_) (fun hc10 => ?_)
                    · replace hF := ite_t hF hc10
                      refine W_seq_reg ?_
                      refine WL_assign rfl rfl ?_
                      refine WL_nil ?_
                      refine W_ret ?_
                      refine nrm_ret ?_
                      have hq14 := Option.some.inj hF
                      subst hq14
                      refine fn_ret1 rfl rfl ?_
                      exact ⟨_, rfl, bool_res hC31 _⟩
                    · replace hF := ite_f hF hc10
                      refine W_skip ?_
                      refine nrm_normal ?_
                      refine W_seq_reg ?_
                      refine WL_assign rfl rfl ?_
                      refine WL_nil ?_
                      refine W_seq_reg ?_
                      refine WL_move rfl rfl ?_
                      refine WL_move rfl rfl ?_
                      obtain ⟨x23, hr23, hF⟩ := bind_some hF
                      refine WL_call Try.call80 rfl rfl (c_Q_heldToldS x17.2 v6 ((hC31.ro 3 rfl).now (Keep.refl _ _)) 1 x23 hr23) ?_
                      intro _ w23 hv19
                      obtain ⟨rfl, hB20⟩ := res_int hv19
                      have hC32 := hC31.grow hB20
                      refine WL_assign rfl rfl ?_
                      refine WL_nil ?_
                      refine W_seq ?_
                      refine W_seq_reg ?_
                      refine WL_move rfl rfl ?_
                      refine WL_lss rfl rfl rfl ?_
                      refine WL_nil ?_
                      refine W_cond rfl (fun hc11 => ?_) (fun hc11 => ?_)
                      · replace hF := ite_t hF hc11
                        refine W_seq_reg ?_
                        refine WL_assign rfl rfl ?_
                        refine WL_nil ?_
                        refine W_ret ?_
                        refine nrm_ret ?_
                        have hq15 := Option.some.inj hF
                        subst hq15
                        refine fn_ret1 rfl rfl ?_
                        exact ⟨_, rfl, bool_res hC32 _⟩
                      · replace hF := ite_f hF hc11
                        refine W_skip ?_
                        refine nrm_normal ?_
                        refine W_seq ?_
                        refine W_seq_reg ?_
                        refine WL_move rfl rfl ?_
                        refine WL_move rfl rfl ?_
                        refine WL_neq rfl rfl rfl ?_
                        refine WL_nil ?_
                        refine W_cond rfl (fun hc12 => ?_) (fun hc12 => ?_)
                        · replace hF := ite_t hF hc12
                          refine W_seq_reg ?_
                          refine WL_assign rfl rfl ?_
                          refine WL_nil ?_
                          refine W_ret ?_
                          refine nrm_ret ?_
                          have hq16 := Option.some.inj hF
                          subst hq16
                          refine fn_ret1 rfl rfl ?_
                          exact ⟨_, rfl, bool_res hC32 _⟩
                        · replace hF := ite_f hF hc12
                          refine W_skip ?_
                          refine nrm_normal ?_
                          refine W_seq_reg ?_
                          refine WL_assign rfl rfl ?_
                          refine WL_nil ?_
                          refine W_ret ?_
                          have hq17 := Option.some.inj hF
                          subst hq17
                          refine fn_ret1 rfl rfl ?_
                          exact ⟨_, rfl, bool_res hC32 _⟩

theorem c_Q_szSource {w0 : World} (a1 : ((List (Int × (List Int))) × Int)) (u1 : Value) (g1 : RO [] w0 u1 a1.1) (a2 : Int) (rr : Int) (hF : Q.szSource a1 a2 = some rr) :
    Calls Try.prog 64 [(.agg #[u1, (.int .i64 a1.2)]), (.int .i64 a2)].toArray w0 fun e w' => ∃ v, e = .returned v ∧ Res w0 rr v w' := by
  refine calls_of_W Try.func64 rfl rfl ?_
  have hC0 := Ctx.start w0
  unfold Q.szSource at hF
  refine W_seq_reg ?_
  refine WL_box (cs := [u1, (.int .i64 a1.2)]) hC0 rfl rfl rfl (fun b1 w1 hC1 hB1 => ?_)
  refine WL_assign rfl rfl ?_
  refine WL_nil ?_
  refine W_seq_reg ?_
  refine WL_field Try.underlying97 rfl rfl (fun w => ⟨_, Try.sizeOf95 w⟩) rfl rfl ?_
  refine WL_load_box hC1 0 rfl rfl Try.isAgg95 rfl rfl ?_
  refine WL_move rfl rfl ?_
  obtain ⟨x1, hr1, hF⟩ := bind_some hF
  refine WL_call Try.call81 rfl rfl (c_Q_szFactS a1.1 u1 (g1.now hC1.keep) a2 x1 hr1) ?_
  intro _ w2 hv1
  obtain ⟨rfl, hB2⟩ := res_int hv1
  have hC2 := hC1.grow hB2
  refine WL_assign rfl rfl ?_
  refine WL_nil ?_
  refine W_seq ?_
  refine W_seq_reg ?_
  refine WL_move rfl rfl ?_
  refine WL_lss rfl rfl rfl ?_
  refine WL_nil ?_
  refine W_cond rfl (fun hc1 => ?_) (fun hc1 => ?_)
  · replace hF := ite_t hF hc1
    refine W_seq_reg ?_
    refine WL_assign rfl rfl ?_
    refine WL_nil ?_
    refine W_ret ?_
    refine nrm_ret ?_
    have hq1 := Option.some.inj hF
    subst hq1
    refine fn_ret1 rfl rfl ?_
    exact ⟨_, rfl, int_res hC2 _⟩
  · replace hF := ite_f hF hc1
    refine W_skip ?_
    refine nrm_normal ?_
    refine W_seq_reg ?_
    refine WL_move rfl rfl ?_
    refine WL_assign rfl rfl ?_
    refine WL_nil ?_
    refine W_ret ?_
    have hq2 := Option.some.inj hF
    subst hq2
    refine fn_ret1 rfl rfl ?_
    exact ⟨_, rfl, int_res hC2 _⟩

theorem c_S_l1In {w0 : World} (a1 : Int) (a2 : Int) (a3 : Int) (rr : Bool) (hF : S.l1In a1 a2 a3 = some rr) :
    Calls Try.prog 90 [(.int .i64 a1), (.int .i64 a2), (.int .i64 a3)].toArray w0 fun e w' => ∃ v, e = .returned v ∧ Res w0 rr v w' := by
  refine calls_of_W Try.func90 rfl rfl ?_
  have hC0 := Ctx.start w0
  unfold S.l1In at hF
  refine W_seq_reg ?_
  refine WL_assign rfl rfl ?_
  refine WL_nil ?_
  obtain ⟨r1, hr1, hF⟩ := bind_some hF
  refine W_cut (fun l w => ∃ x1 : Bool, x1 = r1 ∧ l = [(6, (.bool x1))] ∧ Below w0.heap.size w0 w ∧ Ctx [] w0 w []) ?_ ?_
  · refine W_reg ?_
    refine WL_move rfl rfl ?_
    refine WL_move rfl rfl ?_
    refine WL_geq rfl rfl rfl ?_
    refine WL_move rfl rfl ?_
    refine WL_fork (fun hc1 => ?_) (fun hc1 => ?_)
    · replace hr1 := ite_t hr1 hc1
      refine WL_guard rfl rfl ?_
      refine WL_move rfl rfl ?_
      refine WL_guard rfl rfl ?_
      refine WL_move rfl rfl ?_
      refine WL_guard rfl rfl ?_
      refine WL_leq rfl rfl rfl ?_
      refine WL_pick_t rfl rfl rfl ?_
      refine WL_assign rfl rfl ?_
      refine WL_nil ?_
      have hq1 := Option.some.inj hr1
      subst hq1
      refine nrm_sub (l' := [(6, (.bool (decide (a1 ≤ a3))))]) ⟨rfl, trivial⟩ ?_
      exact ⟨(decide (a1 ≤ a3)), rfl, rfl, (Below.refl _ _), hC0⟩
    · replace hr1 := ite_f hr1 hc1
      refine WL_guard_skip rfl rfl (by simp) rfl ?_
      refine WL_guard_skip rfl rfl (by simp) rfl ?_
      refine WL_guard_skip rfl rfl (by simp) rfl ?_
      refine WL_pick_f rfl rfl rfl ?_
      refine WL_assign rfl rfl ?_
      refine WL_nil ?_
      have hq2 := Option.some.inj hr1
      subst hq2
      refine nrm_sub (l' := [(6, (.bool false))]) ⟨rfl, trivial⟩ ?_
      exact ⟨false, rfl, rfl, (Below.refl _ _), hC0⟩
  · rintro _ w1 ⟨x1, rfl, rfl, hB1, hC1⟩
    try dsimp only at hF
    refine W_ret ?_
    have hq3 := Option.some.inj hF
    subst hq3
    refine fn_ret1 rfl rfl ?_
    exact ⟨_, rfl, bool_res hC1 _⟩

theorem c_S_IsSchema {w0 : World} (a1 : (List Int)) (u1 : Value) (g1 : RO [] w0 u1 a1) (rr : Bool) (hF : S.IsSchema a1 = some rr) :
    Calls Try.prog 146 [u1].toArray w0 fun e w' => ∃ v, e = .returned v ∧ Res w0 rr v w' := by
  refine calls_of_W Try.func146 rfl rfl ?_
  have hC0 := Ctx.start w0
  unfold S.IsSchema at hF
  refine W_seq_reg ?_
  refine WL_assign rfl rfl ?_
  refine WL_nil ?_
  refine W_seq ?_
  refine W_seq_reg ?_
  refine WL_assign rfl rfl ?_
  refine WL_nil ?_
  obtain ⟨r1, hr1, hF⟩ := bind_some hF
  refine W_norm (fun l w => .inl () = r1 ∧ l = [(0, u1)] ∧ Below w0.heap.size w0 w ∧ Ctx [] w0 w []) ?_ ?_
  · refine W_block ?_
    refine W.sub (l' := [(0, u1), (3, (.int .i64 0))]) ?_ ⟨rfl, rfl, trivial⟩
    refine W_loop (fun k l w => ∃ x1 : Int, l = [(0, u1), (3, (.int .i64 x1))] ∧ Below w0.heap.size w0 w ∧ Ctx [] w0 w [] ∧ S.IsSchema_l1 a1 k x1 = some r1) FUEL ⟨0, rfl, (Below.refl _ _), hC0, hr1⟩ ?_
    clear hr1
    rintro k1 _ w1 ⟨x1, rfl, hB1, hC1, hL1⟩
    cases k1 with
    | zero => rw [S.IsSchema_l1] at hL1; cases hL1
    | succ k1 =>
      rw [S.IsSchema_l1] at hL1
      refine W_seq ?_
      refine W_seq_reg ?_
      refine WL_move rfl rfl ?_
      refine WL_move rfl rfl ?_
      refine WL_len Try.underlying22 g1 rfl rfl ?_
      refine WL_lss rfl rfl rfl ?_
      refine WL_nil ?_
      refine W_cond rfl (fun hc1 => ?_) (fun hc1 => ?_)
      · replace hL1 := ite_t hL1 hc1
        refine W_skip ?_
        refine nrm_normal ?_
        refine W_seq ?_
        refine W_block ?_
        refine W_seq_reg ?_
        refine WL_move rfl rfl ?_
        refine WL_move rfl rfl ?_
        obtain ⟨x2, hx1, hL1⟩ := bind_some hL1
        refine WL_index Try.underlying22 ty3 g1 hx1 rfl rfl rfl (fun b1 o1 h1 => ?_)
        refine WL_load ty3 h1 hC1.keep rfl rfl (fun v1 h2 => ?_)
        obtain rfl := ro_int h2
        obtain ⟨x3, hr2, hL1⟩ := bind_some hL1
        refine WL_call Try.call90 rfl rfl (c_S_l1In x2 1 3 x3 hr2) ?_
        intro _ w2 hv1
        obtain ⟨rfl, hB2⟩ := res_bool hv1
        have hC2 := hC1.grow hB2
        refine WL_not rfl rfl ?_
        refine WL_nil ?_
        refine W_cond rfl (fun hc2 => ?_) (fun hc2 => ?_)
        · replace hL1 := ite_t hL1 hc2
          refine W_seq_reg ?_
          refine WL_assign rfl rfl ?_
          refine WL_nil ?_
          refine W_ret ?_
          refine blk_ret ?_
          refine nrm_ret ?_
          refine nrm_ret ?_
          refine blk_ret ?_
          refine nrm_ret ?_
          refine nrm_ret ?_
          have hq1 := Option.some.inj hL1
          subst hq1
          dsimp only at hF
          have hq2 := Option.some.inj hF
          subst hq2
          refine fn_ret1 rfl rfl ?_
          exact ⟨_, rfl, bool_res hC2 _⟩
        · replace hL1 := ite_f hL1 hc2
          refine W_skip ?_
          refine blk_normal ?_
          refine nrm_normal ?_
          refine W_reg ?_
          refine WL_move rfl rfl ?_
          refine WL_add rfl rfl rfl ?_
          refine WL_assign rfl rfl ?_
          refine WL_nil ?_
          refine nrm_sub (l' := [(0, u1), (3, (.int .i64 (w64 (x1 + 1))))]) ⟨rfl, rfl, trivial⟩ ?_
          exact ⟨k1, Nat.lt_succ_self _, w64 (x1 + 1), rfl, ((Keep.of hB1).then hB2).below, hC2, hL1⟩
      · replace hL1 := ite_f hL1 hc1
        refine W_exit ?_
        refine nrm_exit ?_
        refine nrm_exit ?_
        refine blk_exit ?_
        have hq3 := Option.some.inj hL1
        subst hq3
        refine nrm_sub (l' := [(0, u1)]) ⟨rfl, trivial⟩ ?_
        exact ⟨rfl, rfl, (Keep.of hB1).below, hC1⟩
  · rintro l2 _ w3 hs2 ⟨rfl, rfl, hB3, hC3⟩
    try dsimp only at hF
    refine nrm_sub' hs2 ?_
    clear hs2
    refine W_seq_reg ?_
    refine WL_move rfl rfl ?_
    refine WL_len Try.underlying22 g1 rfl rfl ?_
    obtain ⟨x4, hr3, hF⟩ := bind_some hF
    refine WL_call Try.call90 rfl rfl (c_S_l1In (List.length a1 : Int) 1 3 x4 hr3) ?_
    intro _ w4 hv2
    obtain ⟨rfl, hB4⟩ := res_bool hv2
    have hC4 := hC3.grow hB4
    refine WL_assign rfl rfl ?_
    refine WL_nil ?_
    refine W_ret ?_
    have hq4 := Option.some.inj hF
    subst hq4
    refine fn_ret1 rfl rfl ?_
    exact ⟨_, rfl, bool_res hC4 _⟩

end Go.Gx.Px
