/- The contracts of the Go functions against the pure functions, printed by program. Conditions: each says them. -/
import Derived.Test.YtnccdhglieidhaaTy
import Derived.Test.YtnccdhglieidhaaPure
set_option linter.unusedVariables false
set_option linter.unusedSimpArgs false
set_option maxRecDepth 100000
namespace Go.Gx.Px
open Go.Proofs Go.RowKit

theorem c_Q_szIntS {w0 : World} (a1 : (List Int)) (u1 : Value) (g1 : RO [] w0 u1 a1) (a2 : Int) (rr : Int) (hF : Q.szIntS a1 a2 = some rr) :
    Calls Try.prog 78 [u1, (.int .i64 a2)].toArray w0 fun e w' => ∃ v, e = .returned v ∧ Res w0 rr v w' := by
  refine calls_of_W Try.func78 rfl rfl ?_
  have hC0 := Ctx.start w0
  unfold Q.szIntS at hF
  refine W_seq_reg ?_
  refine WL_assign rfl rfl ?_
  refine WL_nil ?_
  refine W_seq_reg ?_
  refine WL_move rfl rfl ?_
  refine WL_move rfl rfl ?_
  refine WL_len Try.underlying27 g1 rfl rfl ?_
  refine WL_sub rfl rfl rfl ?_
  refine WL_assign rfl rfl ?_
  refine WL_nil ?_
  refine W_seq ?_
  refine W_seq_reg ?_
  refine WL_move rfl rfl ?_
  refine WL_lss rfl rfl rfl ?_
  refine WL_nil ?_
  refine W_cond rfl (fun hc1 => ?_) (fun hc1 => ?_)
  · replace hF := ite_t hF hc1
    refine W_seq_reg ?_
    refine WL_assign rfl rfl ?_
    refine WL_nil ?_
    refine W_ret ?_
    refine nrm_ret ?_
    have hq1 := Option.some.inj hF
    subst hq1
    refine fn_ret1 rfl rfl ?_
    exact ⟨_, rfl, int_res hC0 _⟩
  · replace hF := ite_f hF hc1
    refine W_skip ?_
    refine nrm_normal ?_
    refine W_seq_reg ?_
    refine WL_move rfl rfl ?_
    refine WL_assign rfl rfl ?_
    refine WL_nil ?_
    refine W_ret ?_
    have hq2 := Option.some.inj hF
    subst hq2
    refine fn_ret1 rfl rfl ?_
    exact ⟨_, rfl, int_res hC0 _⟩

theorem c_Q_szLedger {w0 : World} (a1 : ((List Int) × Int × Int)) (u1 : Value) (g1 : RO [] w0 u1 a1.1) (a2 : Int) (rr : Int) (hF : Q.szLedger a1 a2 = some rr) :
    Calls Try.prog 21 [(.agg #[u1, (.int .i64 a1.2.1), (.int .i64 a1.2.2)]), (.int .i64 a2)].toArray w0 fun e w' => ∃ v, e = .returned v ∧ Res w0 rr v w' := by
  refine calls_of_W Try.func21 rfl rfl ?_
  have hC0 := Ctx.start w0
  unfold Q.szLedger at hF
  refine W_seq_reg ?_
  refine WL_box (cs := [u1, (.int .i64 a1.2.1), (.int .i64 a1.2.2)]) hC0 rfl rfl rfl (fun b1 w1 hC1 hB1 => ?_)
  refine WL_assign rfl rfl ?_
  refine WL_nil ?_
  refine W_seq_reg ?_
  refine WL_field Try.underlying29 rfl rfl (fun w => ⟨_, Try.sizeOf27 w⟩) rfl rfl ?_
  refine WL_load_box hC1 0 rfl rfl Try.isAgg27 rfl rfl ?_
  refine WL_move rfl rfl ?_
  obtain ⟨x1, hr1, hF⟩ := bind_some hF
  refine WL_call Try.call78 rfl rfl (c_Q_szIntS a1.1 u1 (g1.now hC1.keep) a2 x1 hr1) ?_
  intro _ w2 hv1
  obtain ⟨rfl, hB2⟩ := res_int hv1
  have hC2 := hC1.grow hB2
  refine WL_assign rfl rfl ?_
  refine WL_nil ?_
  refine W_seq ?_
  refine W_seq_reg ?_
  refine WL_move rfl rfl ?_
  refine WL_lss rfl rfl rfl ?_
  refine WL_nil ?_
  refine W_cond rfl (fun hc1 => ?_) (fun hc1 => ?_)
  · replace hF := ite_t hF hc1
    refine W_seq_reg ?_
    refine WL_assign rfl rfl ?_
    refine WL_nil ?_
    refine W_ret ?_
    refine nrm_ret ?_
    have hq1 := Option.some.inj hF
    subst hq1
    refine fn_ret1 rfl rfl ?_
    exact ⟨_, rfl, int_res hC2 _⟩
  · replace hF := ite_f hF hc1
    refine W_skip ?_
    refine nrm_normal ?_
    refine W_seq_reg ?_
    refine WL_move rfl rfl ?_
    refine WL_assign rfl rfl ?_
    refine WL_nil ?_
    refine W_ret ?_
    have hq2 := Option.some.inj hF
    subst hq2
    refine fn_ret1 rfl rfl ?_
    exact ⟨_, rfl, int_res hC2 _⟩

theorem c_S_l1In {w0 : World} (a1 : Int) (a2 : Int) (a3 : Int) (rr : Bool) (hF : S.l1In a1 a2 a3 = some rr) :
    Calls Try.prog 79 [(.int .i64 a1), (.int .i64 a2), (.int .i64 a3)].toArray w0 fun e w' => ∃ v, e = .returned v ∧ Res w0 rr v w' := by
  refine calls_of_W Try.func79 rfl rfl ?_
  have hC0 := Ctx.start w0
  unfold S.l1In at hF
  refine W_seq_reg ?_
  refine WL_assign rfl rfl ?_
  refine WL_nil ?_
  obtain ⟨r1, hr1, hF⟩ := bind_some hF
  refine W_cut (fun l w => ∃ x1 : Bool, x1 = r1 ∧ l = [(6, (.bool x1))] ∧ Below w0.heap.size w0 w ∧ Ctx [] w0 w []) ?_ ?_
  · refine W_reg ?_
    refine WL_move rfl rfl ?_
    refine WL_move rfl rfl ?_
    refine WL_geq rfl rfl rfl ?_
    refine WL_move rfl rfl ?_
    refine WL_fork (fun hc1 => ?_) (fun hc1 => ?_)
    · replace hr1 := ite_t hr1 hc1
      refine WL_guard rfl rfl ?_
      refine WL_move rfl rfl ?_
      refine WL_guard rfl rfl ?_
      refine WL_move rfl rfl ?_
      refine WL_guard rfl rfl ?_
      refine WL_leq rfl rfl rfl ?_
      refine WL_pick_t rfl rfl rfl ?_
      refine WL_assign rfl rfl ?_
      refine WL_nil ?_
      have hq1 := Option.some.inj hr1
      subst hq1
      refine nrm_sub (l' := [(6, (.bool (decide (a1 ≤ a3))))]) ⟨rfl, trivial⟩ ?_
      exact ⟨(decide (a1 ≤ a3)), rfl, rfl, (Below.refl _ _), hC0⟩
    · replace hr1 := ite_f hr1 hc1
      refine WL_guard_skip rfl rfl (by simp) rfl ?_
      refine WL_guard_skip rfl rfl (by simp) rfl ?_
      refine WL_guard_skip rfl rfl (by simp) rfl ?_
      refine WL_pick_f rfl rfl rfl ?_
      refine WL_assign rfl rfl ?_
      refine WL_nil ?_
      have hq2 := Option.some.inj hr1
      subst hq2
      refine nrm_sub (l' := [(6, (.bool false))]) ⟨rfl, trivial⟩ ?_
      exact ⟨false, rfl, rfl, (Below.refl _ _), hC0⟩
  · rintro _ w1 ⟨x1, rfl, rfl, hB1, hC1⟩
    try dsimp only at hF
    refine W_ret ?_
    have hq3 := Option.some.inj hF
    subst hq3
    refine fn_ret1 rfl rfl ?_
    exact ⟨_, rfl, bool_res hC1 _⟩

theorem c_S_IsLedger {w0 : World} (a1 : ((List Int) × Int × Int)) (u1 : Value) (g1 : RO [] w0 u1 a1.1) (rr : Bool) (hF : S.IsLedger a1 = some rr) :
    Calls Try.prog 22 [(.agg #[u1, (.int .i64 a1.2.1), (.int .i64 a1.2.2)])].toArray w0 fun e w' => ∃ v, e = .returned v ∧ Res w0 rr v w' := by
  refine calls_of_W Try.func22 rfl rfl ?_
  have hC0 := Ctx.start w0
  unfold S.IsLedger at hF
  refine W_seq_reg ?_
  refine WL_box (cs := [u1, (.int .i64 a1.2.1), (.int .i64 a1.2.2)]) hC0 rfl rfl rfl (fun b1 w1 hC1 hB1 => ?_)
  refine WL_assign rfl rfl ?_
  refine WL_nil ?_
  refine W_seq ?_
  refine W_seq_reg ?_
  refine WL_assign rfl rfl ?_
  refine WL_nil ?_
  obtain ⟨r1, hr1, hF⟩ := bind_some hF
  refine W_norm (fun l w => .inl () = r1 ∧ l = [(1, (ptr b1 0))] ∧ Below w1.heap.size w1 w ∧ Ctx [] w0 w [Item.box b1 [u1, (.int .i64 a1.2.1), (.int .i64 a1.2.2)]]) ?_ ?_
  · refine W_block ?_
    refine W.sub (l' := [(1, (ptr b1 0)), (3, (.int .i64 0))]) ?_ ⟨rfl, rfl, trivial⟩
    refine W_loop (fun k l w => ∃ x1 : Int, l = [(1, (ptr b1 0)), (3, (.int .i64 x1))] ∧ Below w1.heap.size w1 w ∧ Ctx [] w0 w [Item.box b1 [u1, (.int .i64 a1.2.1), (.int .i64 a1.2.2)]] ∧ S.IsLedger_l1 a1 k x1 = some r1) FUEL ⟨0, rfl, (Below.refl _ _), hC1, hr1⟩ ?_
    clear hr1
    rintro k1 _ w2 ⟨x1, rfl, hB2, hC2, hL1⟩
    cases k1 with
    | zero => rw [S.IsLedger_l1] at hL1; cases hL1
    | succ k1 =>
      rw [S.IsLedger_l1] at hL1
      refine W_seq ?_
      refine W_seq_reg ?_
      refine WL_move rfl rfl ?_
      refine WL_field Try.underlying32 rfl rfl (fun w => ⟨_, Try.sizeOf27 w⟩) rfl rfl ?_
      refine WL_load_box hC2 0 rfl rfl Try.isAgg27 rfl rfl ?_
      refine WL_len Try.underlying27 g1 rfl rfl ?_
      refine WL_lss rfl rfl rfl ?_
      refine WL_nil ?_
      refine W_cond rfl (fun hc1 => ?_) (fun hc1 => ?_)
      · replace hL1 := ite_t hL1 hc1
        refine W_skip ?_
        refine nrm_normal ?_
        refine W_seq ?_
        refine W_block ?_
        obtain ⟨r2, hr2, hL1⟩ := bind_some hL1
        refine W_cut (fun l w => ∃ x2 : Bool, x2 = r2 ∧ l = [(1, (ptr b1 0)), (3, (.int .i64 x1)), (35, (.bool x2))] ∧ Below w2.heap.size w2 w ∧ Ctx [] w0 w [Item.box b1 [u1, (.int .i64 a1.2.1), (.int .i64 a1.2.2)]]) ?_ ?_
        · obtain ⟨x3, hx1, hr2⟩ := bind_some hr2
          obtain ⟨x4, hr3, hr2⟩ := bind_some hr2
          rcases btf (!x4) with hc2 | hc2
          · replace hr2 := ite_t hr2 hc2
            refine W.sub (l' := [(1, (ptr b1 0)), (3, (.int .i64 x1)), (4, (.int .i64 x1)), (5, (ptr b1 0)), (6, u1), (7, (.int .i64 (List.length a1.1 : Int))), (8, (.bool (decide (x1 < (List.length a1.1 : Int)))))]) ?_ ⟨rfl, rfl, rfl, rfl, rfl, rfl, rfl, trivial⟩
            refine W_any 22 [PV.val (ptr b1 0), PV.ro [] w0 a1.1, PV.val (.int .i64 x1), PV.at [] w0 x3, PV.val (.int .i64 x3), PV.val (.bool x4), PV.val (.bool (!x4)), PV.val (.bool true), PV.val undef, PV.val undef, PV.val undef, PV.val undef, PV.val undef, PV.val undef, PV.val undef, PV.val undef, PV.val undef, PV.val undef, PV.val undef, PV.val undef, PV.val undef, PV.val undef] [[], [0], [], [1, 2], [3], [4], [5], [6], [7], [7, 8], [7, 9], [10], [10, 11], [10], [10, 12, 13], [10, 14], [10], [10, 16], [10], [10, 18], [10, 17, 19], [10, 20]] hmix (by kernel_rfl) rfl ?_ ?_
            · refine Steps_cons ?_ ?_
              · intro w5 hB5
                refine DepsK_nil ?_
                refine WL_field Try.underlying32 rfl rfl (fun w => ⟨_, Try.sizeOf27 w⟩) rfl rfl ?_
                refine WL_nil ?_
                exact Fin1_val (Below.refl _ _) rfl rfl ⟨rfl, rfl⟩
              refine Steps_cons ?_ ?_
              · intro w5 hB5
                refine DepsK_cons rfl rfl ?_
                rintro _ _ ⟨rfl, rfl⟩
                refine DepsK_nil ?_
                refine WL_load_box (hC2.grow hB5) 0 rfl rfl Try.isAgg27 rfl rfl ?_
                refine WL_nil ?_
                exact Fin1_val (Below.refl _ _) rfl rfl ⟨rfl, g1⟩
              refine Steps_cons ?_ ?_
              · intro w5 hB5
                refine DepsK_nil ?_
                refine WL_move rfl rfl ?_
                refine WL_nil ?_
                exact Fin1_val (Below.refl _ _) rfl rfl ⟨rfl, rfl⟩
              refine Steps_cons ?_ ?_
              · intro w5 hB5
                refine DepsK_cons rfl rfl ?_
                rintro u1 _ ⟨rfl, g1⟩
                refine DepsK_cons rfl rfl ?_
                rintro _ _ ⟨rfl, rfl⟩
                refine DepsK_nil ?_
                refine WL_index Try.underlying27 ty3 g1 hx1 rfl rfl rfl (fun b2 o1 h1 => ?_)
                refine WL_nil ?_
                exact Fin1_val (Below.refl _ _) rfl rfl ⟨rfl, _, _, rfl, h1⟩
              refine Steps_cons ?_ ?_
              · intro w5 hB5
                refine DepsK_cons rfl rfl ?_
                rintro _ _ ⟨rfl, b2, o1, rfl, h1⟩
                refine DepsK_nil ?_
                refine WL_load ty3 h1 (hC2.keep.then hB5) rfl rfl (fun v1 h2 => ?_)
                obtain rfl := ro_int h2
                refine WL_nil ?_
                exact Fin1_val (Below.refl _ _) rfl rfl ⟨rfl, rfl⟩
              refine Steps_cons ?_ ?_
              · intro w5 hB5
                refine DepsK_cons rfl rfl ?_
                rintro _ _ ⟨rfl, rfl⟩
                refine DepsK_nil ?_
                refine WL_call Try.call79 rfl rfl (c_S_l1In x3 0 1000000 x4 hr3) ?_
                intro _ w4 hv1
                obtain ⟨rfl, hB4⟩ := res_bool hv1
                refine WL_nil ?_
                exact Fin1_val hB4 rfl rfl ⟨rfl, rfl⟩
              refine Steps_cons ?_ ?_
              · intro w5 hB5
                refine DepsK_cons rfl rfl ?_
                rintro _ _ ⟨rfl, rfl⟩
                refine DepsK_nil ?_
                refine WL_not rfl rfl ?_
                refine WL_nil ?_
                exact Fin1_val (Below.refl _ _) rfl rfl ⟨rfl, rfl⟩
              refine Steps_cons ?_ ?_
              · intro w5 hB5
                refine DepsK_cons rfl rfl ?_
                rintro _ _ ⟨rfl, rfl⟩
                refine DepsK_nil ?_
                refine WL_move rfl rfl ?_
                refine WL_known hc2 ?_
                refine WL_nil ?_
                exact Fin1_val (Below.refl _ _) rfl rfl ⟨rfl, rfl⟩
              refine Steps_cons ?_ ?_
              · intro w5 hB5
                refine DepsK_cons rfl rfl ?_
                rintro _ _ ⟨rfl, rfl⟩
                refine DepsK_nil ?_
                refine WL_guard_skip rfl rfl (by simp) rfl ?_
                refine WL_nil ?_
                exact Fin1_val (Below.refl _ _) rfl rfl ⟨rfl, rfl⟩
              refine Steps_cons ?_ ?_
              · intro w5 hB5
                refine DepsK_cons rfl rfl ?_
                rintro _ _ ⟨rfl, rfl⟩
                refine DepsK_cons rfl rfl ?_
                rintro _ _ ⟨rfl, rfl⟩
                refine DepsK_nil ?_
                refine WL_guard_skip rfl rfl (by simp) rfl ?_
                refine WL_nil ?_
                exact Fin1_val (Below.refl _ _) rfl rfl ⟨rfl, rfl⟩
              refine Steps_cons ?_ ?_
              · intro w5 hB5
                refine DepsK_cons rfl rfl ?_
                rintro _ _ ⟨rfl, rfl⟩
                refine DepsK_cons rfl rfl ?_
                rintro _ _ ⟨rfl, rfl⟩
                refine DepsK_nil ?_
                refine WL_guard_skip rfl rfl (by simp) rfl ?_
                refine WL_nil ?_
                exact Fin1_val (Below.refl _ _) rfl rfl ⟨rfl, rfl⟩
              refine Steps_cons ?_ ?_
              · intro w5 hB5
                refine DepsK_cons rfl rfl ?_
                rintro _ _ ⟨rfl, rfl⟩
                refine DepsK_nil ?_
                refine WL_guard_skip rfl rfl (by simp [undef]) rfl ?_
                refine WL_nil ?_
                exact Fin1_val (Below.refl _ _) rfl rfl ⟨rfl, rfl⟩
              refine Steps_cons ?_ ?_
              · intro w5 hB5
                refine DepsK_cons rfl rfl ?_
                rintro _ _ ⟨rfl, rfl⟩
                refine DepsK_cons rfl rfl ?_
                rintro _ _ ⟨rfl, rfl⟩
                refine DepsK_nil ?_
                refine WL_guard_skip rfl rfl (by simp [undef]) rfl ?_
                refine WL_nil ?_
                exact Fin1_val (Below.refl _ _) rfl rfl ⟨rfl, rfl⟩
              refine Steps_cons ?_ ?_
              · intro w5 hB5
                refine DepsK_cons rfl rfl ?_
                rintro _ _ ⟨rfl, rfl⟩
                refine DepsK_nil ?_
                refine WL_guard_skip rfl rfl (by simp [undef]) rfl ?_
                refine WL_nil ?_
                exact Fin1_val (Below.refl _ _) rfl rfl ⟨rfl, rfl⟩
              refine Steps_cons ?_ ?_
              · intro w5 hB5
                refine DepsK_cons rfl rfl ?_
                rintro _ _ ⟨rfl, rfl⟩
                refine DepsK_cons rfl rfl ?_
                rintro _ _ ⟨rfl, rfl⟩
                refine DepsK_cons rfl rfl ?_
                rintro _ _ ⟨rfl, rfl⟩
                refine DepsK_nil ?_
                refine WL_guard_skip rfl rfl (by simp [undef]) rfl ?_
                refine WL_nil ?_
                exact Fin1_val (Below.refl _ _) rfl rfl ⟨rfl, rfl⟩
              refine Steps_cons ?_ ?_
              · intro w5 hB5
                refine DepsK_cons rfl rfl ?_
                rintro _ _ ⟨rfl, rfl⟩
                refine DepsK_cons rfl rfl ?_
                rintro _ _ ⟨rfl, rfl⟩
                refine DepsK_nil ?_
                refine WL_guard_skip rfl rfl (by simp [undef]) rfl ?_
                refine WL_nil ?_
                exact Fin1_val (Below.refl _ _) rfl rfl ⟨rfl, rfl⟩
              refine Steps_cons ?_ ?_
              · intro w5 hB5
                refine DepsK_cons rfl rfl ?_
                rintro _ _ ⟨rfl, rfl⟩
                refine DepsK_nil ?_
                refine WL_guard_skip rfl rfl (by simp [undef]) rfl ?_
                refine WL_nil ?_
                exact Fin1_val (Below.refl _ _) rfl rfl ⟨rfl, rfl⟩
              refine Steps_cons ?_ ?_
              · intro w5 hB5
                refine DepsK_cons rfl rfl ?_
                rintro _ _ ⟨rfl, rfl⟩
                refine DepsK_cons rfl rfl ?_
                rintro _ _ ⟨rfl, rfl⟩
                refine DepsK_nil ?_
                refine WL_guard_skip rfl rfl (by simp [undef]) rfl ?_
                refine WL_nil ?_
                exact Fin1_val (Below.refl _ _) rfl rfl ⟨rfl, rfl⟩
              refine Steps_cons ?_ ?_
              · intro w5 hB5
                refine DepsK_cons rfl rfl ?_
                rintro _ _ ⟨rfl, rfl⟩
                refine DepsK_nil ?_
                refine WL_guard_skip rfl rfl (by simp [undef]) rfl ?_
                refine WL_nil ?_
                exact Fin1_val (Below.refl _ _) rfl rfl ⟨rfl, rfl⟩
              refine Steps_cons ?_ ?_
              · intro w5 hB5
                refine DepsK_cons rfl rfl ?_
                rintro _ _ ⟨rfl, rfl⟩
                refine DepsK_cons rfl rfl ?_
                rintro _ _ ⟨rfl, rfl⟩
                refine DepsK_nil ?_
                refine WL_guard_skip rfl rfl (by simp [undef]) rfl ?_
                refine WL_nil ?_
                exact Fin1_val (Below.refl _ _) rfl rfl ⟨rfl, rfl⟩
              refine Steps_cons ?_ ?_
              · intro w5 hB5
                refine DepsK_cons rfl rfl ?_
                rintro _ _ ⟨rfl, rfl⟩
                refine DepsK_cons rfl rfl ?_
                rintro _ _ ⟨rfl, rfl⟩
                refine DepsK_cons rfl rfl ?_
                rintro _ _ ⟨rfl, rfl⟩
                refine DepsK_nil ?_
                refine WL_guard_skip rfl rfl (by simp [undef]) rfl ?_
                refine WL_nil ?_
                exact Fin1_val (Below.refl _ _) rfl rfl ⟨rfl, rfl⟩
              refine Steps_cons ?_ ?_
              · intro w5 hB5
                refine DepsK_cons rfl rfl ?_
                rintro _ _ ⟨rfl, rfl⟩
                refine DepsK_cons rfl rfl ?_
                rintro _ _ ⟨rfl, rfl⟩
                refine DepsK_nil ?_
                refine WL_guard_skip rfl rfl (by simp [undef]) rfl ?_
                refine WL_nil ?_
                exact Fin1_val (Below.refl _ _) rfl rfl ⟨rfl, rfl⟩
              exact Steps_nil
            · intro w6 hB6
              refine AllK_cons rfl ?_
              rintro _ _ ⟨rfl, rfl⟩
              refine AllK_cons rfl ?_
              rintro u1 _ ⟨rfl, g1⟩
              refine AllK_cons rfl ?_
              rintro _ _ ⟨rfl, rfl⟩
              refine AllK_cons rfl ?_
              rintro _ _ ⟨rfl, b2, o1, rfl, h1⟩
              refine AllK_cons rfl ?_
              rintro _ _ ⟨rfl, rfl⟩
              refine AllK_cons rfl ?_
              rintro _ _ ⟨rfl, rfl⟩
              refine AllK_cons rfl ?_
              rintro _ _ ⟨rfl, rfl⟩
              refine AllK_cons rfl ?_
              rintro _ _ ⟨rfl, rfl⟩
              refine AllK_cons rfl ?_
              rintro _ _ ⟨rfl, rfl⟩
              refine AllK_cons rfl ?_
              rintro _ _ ⟨rfl, rfl⟩
              refine AllK_cons rfl ?_
              rintro _ _ ⟨rfl, rfl⟩
              refine AllK_cons rfl ?_
              rintro _ _ ⟨rfl, rfl⟩
              refine AllK_cons rfl ?_
              rintro _ _ ⟨rfl, rfl⟩
              refine AllK_cons rfl ?_
              rintro _ _ ⟨rfl, rfl⟩
              refine AllK_cons rfl ?_
              rintro _ _ ⟨rfl, rfl⟩
              refine AllK_cons rfl ?_
              rintro _ _ ⟨rfl, rfl⟩
              refine AllK_cons rfl ?_
              rintro _ _ ⟨rfl, rfl⟩
              refine AllK_cons rfl ?_
              rintro _ _ ⟨rfl, rfl⟩
              refine AllK_cons rfl ?_
              rintro _ _ ⟨rfl, rfl⟩
              refine AllK_cons rfl ?_
              rintro _ _ ⟨rfl, rfl⟩
              refine AllK_cons rfl ?_
              rintro _ _ ⟨rfl, rfl⟩
              refine AllK_cons rfl ?_
              rintro _ _ ⟨rfl, rfl⟩
              refine AllK_nil ?_
              intro hn1 hb1
              have hC4 := hC2.grow hB6
              refine WL_guard_skip rfl rfl (by simp [undef]) rfl ?_
              refine WL_guard_skip rfl rfl (by simp) rfl ?_
              refine WL_pick_t rfl rfl rfl ?_
              refine WL_nil ?_
              have hq1 := Option.some.inj hr2
              subst hq1
              refine nrm_sub (l' := [(1, (ptr b1 0)), (3, (.int .i64 x1)), (35, (.bool true))]) ⟨rfl, rfl, rfl, trivial⟩ ?_
              exact ⟨true, rfl, rfl, (Keep.of hB6).below, hC4⟩
          · replace hr2 := ite_f hr2 hc2
            rcases btf (decide (0 < x1)) with hc3 | hc3
            · replace hr2 := ite_t hr2 hc3
              obtain ⟨x5, hx2, hr2⟩ := bind_some hr2
              obtain ⟨x6, hx3, hr2⟩ := bind_some hr2
              refine W.sub (l' := [(1, (ptr b1 0)), (3, (.int .i64 x1)), (4, (.int .i64 x1)), (5, (ptr b1 0)), (6, u1), (7, (.int .i64 (List.length a1.1 : Int))), (8, (.bool (decide (x1 < (List.length a1.1 : Int)))))]) ?_ ⟨rfl, rfl, rfl, rfl, rfl, rfl, rfl, trivial⟩
              refine W_any 22 [PV.val (ptr b1 0), PV.ro [] w0 a1.1, PV.val (.int .i64 x1), PV.at [] w0 x3, PV.val (.int .i64 x3), PV.val (.bool x4), PV.val (.bool (!x4)), PV.val (.bool false), PV.val (.int .i64 x1), PV.val (.bool (decide (0 < x1))), PV.val (.bool true), PV.val (ptr b1 0), PV.ro [] w0 a1.1, PV.val (.int .i64 x1), PV.at [] w0 x5, PV.val (.int .i64 x5), PV.val (ptr b1 0), PV.ro [] w0 a1.1, PV.val (.int .i64 x1), PV.val (.int .i64 (w64 (x1 - 1))), PV.at [] w0 x6, PV.val (.int .i64 x6)] [[], [0], [], [1, 2], [3], [4], [5], [6], [7], [7, 8], [7, 9], [10], [10, 11], [10], [10, 12, 13], [10, 14], [10], [10, 16], [10], [10, 18], [10, 17, 19], [10, 20]] hmix (by kernel_rfl) rfl ?_ ?_
              · refine Steps_cons ?_ ?_
                · intro w7 hB7
                  refine DepsK_nil ?_
                  refine WL_field Try.underlying32 rfl rfl (fun w => ⟨_, Try.sizeOf27 w⟩) rfl rfl ?_
                  refine WL_nil ?_
                  exact Fin1_val (Below.refl _ _) rfl rfl ⟨rfl, rfl⟩
                refine Steps_cons ?_ ?_
                · intro w7 hB7
                  refine DepsK_cons rfl rfl ?_
                  rintro _ _ ⟨rfl, rfl⟩
                  refine DepsK_nil ?_
                  refine WL_load_box (hC2.grow hB7) 0 rfl rfl Try.isAgg27 rfl rfl ?_
                  refine WL_nil ?_
                  exact Fin1_val (Below.refl _ _) rfl rfl ⟨rfl, g1⟩
                refine Steps_cons ?_ ?_
                · intro w7 hB7
                  refine DepsK_nil ?_
                  refine WL_move rfl rfl ?_
                  refine WL_nil ?_
                  exact Fin1_val (Below.refl _ _) rfl rfl ⟨rfl, rfl⟩
                refine Steps_cons ?_ ?_
                · intro w7 hB7
                  refine DepsK_cons rfl rfl ?_
                  rintro u1 _ ⟨rfl, g1⟩
                  refine DepsK_cons rfl rfl ?_
                  rintro _ _ ⟨rfl, rfl⟩
                  refine DepsK_nil ?_
                  refine WL_index Try.underlying27 ty3 g1 hx1 rfl rfl rfl (fun b2 o1 h1 => ?_)
                  refine WL_nil ?_
                  exact Fin1_val (Below.refl _ _) rfl rfl ⟨rfl, _, _, rfl, h1⟩
                refine Steps_cons ?_ ?_
                · intro w7 hB7
                  refine DepsK_cons rfl rfl ?_
                  rintro _ _ ⟨rfl, b2, o1, rfl, h1⟩
                  refine DepsK_nil ?_
                  refine WL_load ty3 h1 (hC2.keep.then hB7) rfl rfl (fun v1 h2 => ?_)
                  obtain rfl := ro_int h2
                  refine WL_nil ?_
                  exact Fin1_val (Below.refl _ _) rfl rfl ⟨rfl, rfl⟩
                refine Steps_cons ?_ ?_
                · intro w7 hB7
                  refine DepsK_cons rfl rfl ?_
                  rintro _ _ ⟨rfl, rfl⟩
                  refine DepsK_nil ?_
                  refine WL_call Try.call79 rfl rfl (c_S_l1In x3 0 1000000 x4 hr3) ?_
                  intro _ w4 hv1
                  obtain ⟨rfl, hB4⟩ := res_bool hv1
                  refine WL_nil ?_
                  exact Fin1_val hB4 rfl rfl ⟨rfl, rfl⟩
                refine Steps_cons ?_ ?_
                · intro w7 hB7
                  refine DepsK_cons rfl rfl ?_
                  rintro _ _ ⟨rfl, rfl⟩
                  refine DepsK_nil ?_
                  refine WL_not rfl rfl ?_
                  refine WL_nil ?_
                  exact Fin1_val (Below.refl _ _) rfl rfl ⟨rfl, rfl⟩
                refine Steps_cons ?_ ?_
                · intro w7 hB7
                  refine DepsK_cons rfl rfl ?_
                  rintro _ _ ⟨rfl, rfl⟩
                  refine DepsK_nil ?_
                  refine WL_move rfl rfl ?_
                  refine WL_known hc2 ?_
                  refine WL_nil ?_
                  exact Fin1_val (Below.refl _ _) rfl rfl ⟨rfl, rfl⟩
                refine Steps_cons ?_ ?_
                · intro w7 hB7
                  refine DepsK_cons rfl rfl ?_
                  rintro _ _ ⟨rfl, rfl⟩
                  refine DepsK_nil ?_
                  refine WL_guard rfl rfl ?_
                  refine WL_move rfl rfl ?_
                  refine WL_nil ?_
                  exact Fin1_val (Below.refl _ _) rfl rfl ⟨rfl, rfl⟩
                refine Steps_cons ?_ ?_
                · intro w7 hB7
                  refine DepsK_cons rfl rfl ?_
                  rintro _ _ ⟨rfl, rfl⟩
                  refine DepsK_cons rfl rfl ?_
                  rintro _ _ ⟨rfl, rfl⟩
                  refine DepsK_nil ?_
                  refine WL_guard rfl rfl ?_
                  refine WL_gtr rfl rfl rfl ?_
                  refine WL_nil ?_
                  exact Fin1_val (Below.refl _ _) rfl rfl ⟨rfl, rfl⟩
                refine Steps_cons ?_ ?_
                · intro w7 hB7
                  refine DepsK_cons rfl rfl ?_
                  rintro _ _ ⟨rfl, rfl⟩
                  refine DepsK_cons rfl rfl ?_
                  rintro _ _ ⟨rfl, rfl⟩
                  refine DepsK_nil ?_
                  refine WL_guard rfl rfl ?_
                  refine WL_move rfl rfl ?_
                  refine WL_known hc3 ?_
                  refine WL_nil ?_
                  exact Fin1_val (Below.refl _ _) rfl rfl ⟨rfl, rfl⟩
                refine Steps_cons ?_ ?_
                · intro w7 hB7
                  refine DepsK_cons rfl rfl ?_
                  rintro _ _ ⟨rfl, rfl⟩
                  refine DepsK_nil ?_
                  refine WL_guard rfl rfl ?_
                  refine WL_field Try.underlying32 rfl rfl (fun w => ⟨_, Try.sizeOf27 w⟩) rfl rfl ?_
                  refine WL_nil ?_
                  exact Fin1_val (Below.refl _ _) rfl rfl ⟨rfl, rfl⟩
                refine Steps_cons ?_ ?_
                · intro w7 hB7
                  refine DepsK_cons rfl rfl ?_
                  rintro _ _ ⟨rfl, rfl⟩
                  refine DepsK_cons rfl rfl ?_
                  rintro _ _ ⟨rfl, rfl⟩
                  refine DepsK_nil ?_
                  refine WL_guard rfl rfl ?_
                  refine WL_load_box (hC2.grow hB7) 0 rfl rfl Try.isAgg27 rfl rfl ?_
                  refine WL_nil ?_
                  exact Fin1_val (Below.refl _ _) rfl rfl ⟨rfl, g1⟩
                refine Steps_cons ?_ ?_
                · intro w7 hB7
                  refine DepsK_cons rfl rfl ?_
                  rintro _ _ ⟨rfl, rfl⟩
                  refine DepsK_nil ?_
                  refine WL_guard rfl rfl ?_
                  refine WL_move rfl rfl ?_
                  refine WL_nil ?_
                  exact Fin1_val (Below.refl _ _) rfl rfl ⟨rfl, rfl⟩
                refine Steps_cons ?_ ?_
                · intro w7 hB7
                  refine DepsK_cons rfl rfl ?_
                  rintro _ _ ⟨rfl, rfl⟩
                  refine DepsK_cons rfl rfl ?_
                  rintro u1 _ ⟨rfl, g1⟩
                  refine DepsK_cons rfl rfl ?_
                  rintro _ _ ⟨rfl, rfl⟩
                  refine DepsK_nil ?_
                  refine WL_guard rfl rfl ?_
                  refine WL_index Try.underlying27 ty3 g1 hx2 rfl rfl rfl (fun b3 o2 h3 => ?_)
                  refine WL_nil ?_
                  exact Fin1_val (Below.refl _ _) rfl rfl ⟨rfl, _, _, rfl, h3⟩
                refine Steps_cons ?_ ?_
                · intro w7 hB7
                  refine DepsK_cons rfl rfl ?_
                  rintro _ _ ⟨rfl, rfl⟩
                  refine DepsK_cons rfl rfl ?_
                  rintro _ _ ⟨rfl, b3, o2, rfl, h3⟩
                  refine DepsK_nil ?_
                  refine WL_guard rfl rfl ?_
                  refine WL_load ty3 h3 (hC2.keep.then hB7) rfl rfl (fun v16 h4 => ?_)
                  obtain rfl := ro_int h4
                  refine WL_nil ?_
                  exact Fin1_val (Below.refl _ _) rfl rfl ⟨rfl, rfl⟩
                refine Steps_cons ?_ ?_
                · intro w7 hB7
                  refine DepsK_cons rfl rfl ?_
                  rintro _ _ ⟨rfl, rfl⟩
                  refine DepsK_nil ?_
                  refine WL_guard rfl rfl ?_
                  refine WL_field Try.underlying32 rfl rfl (fun w => ⟨_, Try.sizeOf27 w⟩) rfl rfl ?_
                  refine WL_nil ?_
                  exact Fin1_val (Below.refl _ _) rfl rfl ⟨rfl, rfl⟩
                refine Steps_cons ?_ ?_
                · intro w7 hB7
                  refine DepsK_cons rfl rfl ?_
                  rintro _ _ ⟨rfl, rfl⟩
                  refine DepsK_cons rfl rfl ?_
                  rintro _ _ ⟨rfl, rfl⟩
                  refine DepsK_nil ?_
                  refine WL_guard rfl rfl ?_
                  refine WL_load_box (hC2.grow hB7) 0 rfl rfl Try.isAgg27 rfl rfl ?_
                  refine WL_nil ?_
                  exact Fin1_val (Below.refl _ _) rfl rfl ⟨rfl, g1⟩
                refine Steps_cons ?_ ?_
                · intro w7 hB7
                  refine DepsK_cons rfl rfl ?_
                  rintro _ _ ⟨rfl, rfl⟩
                  refine DepsK_nil ?_
                  refine WL_guard rfl rfl ?_
                  refine WL_move rfl rfl ?_
                  refine WL_nil ?_
                  exact Fin1_val (Below.refl _ _) rfl rfl ⟨rfl, rfl⟩
                refine Steps_cons ?_ ?_
                · intro w7 hB7
                  refine DepsK_cons rfl rfl ?_
                  rintro _ _ ⟨rfl, rfl⟩
                  refine DepsK_cons rfl rfl ?_
                  rintro _ _ ⟨rfl, rfl⟩
                  refine DepsK_nil ?_
                  refine WL_guard rfl rfl ?_
                  refine WL_sub rfl rfl rfl ?_
                  refine WL_nil ?_
                  exact Fin1_val (Below.refl _ _) rfl rfl ⟨rfl, rfl⟩
                refine Steps_cons ?_ ?_
                · intro w7 hB7
                  refine DepsK_cons rfl rfl ?_
                  rintro _ _ ⟨rfl, rfl⟩
                  refine DepsK_cons rfl rfl ?_
                  rintro u1 _ ⟨rfl, g1⟩
                  refine DepsK_cons rfl rfl ?_
                  rintro _ _ ⟨rfl, rfl⟩
                  refine DepsK_nil ?_
                  refine WL_guard rfl rfl ?_
                  refine WL_index Try.underlying27 ty3 g1 hx3 rfl rfl rfl (fun b4 o3 h5 => ?_)
                  refine WL_nil ?_
                  exact Fin1_val (Below.refl _ _) rfl rfl ⟨rfl, _, _, rfl, h5⟩
                refine Steps_cons ?_ ?_
                · intro w7 hB7
                  refine DepsK_cons rfl rfl ?_
                  rintro _ _ ⟨rfl, rfl⟩
                  refine DepsK_cons rfl rfl ?_
                  rintro _ _ ⟨rfl, b4, o3, rfl, h5⟩
                  refine DepsK_nil ?_
                  refine WL_guard rfl rfl ?_
                  refine WL_load ty3 h5 (hC2.keep.then hB7) rfl rfl (fun v17 h6 => ?_)
                  obtain rfl := ro_int h6
                  refine WL_nil ?_
                  exact Fin1_val (Below.refl _ _) rfl rfl ⟨rfl, rfl⟩
                exact Steps_nil
              · intro w8 hB8
                refine AllK_cons rfl ?_
                rintro _ _ ⟨rfl, rfl⟩
                refine AllK_cons rfl ?_
                rintro u1 _ ⟨rfl, g1⟩
                refine AllK_cons rfl ?_
                rintro _ _ ⟨rfl, rfl⟩
                refine AllK_cons rfl ?_
                rintro _ _ ⟨rfl, b2, o1, rfl, h1⟩
                refine AllK_cons rfl ?_
                rintro _ _ ⟨rfl, rfl⟩
                refine AllK_cons rfl ?_
                rintro _ _ ⟨rfl, rfl⟩
                refine AllK_cons rfl ?_
                rintro _ _ ⟨rfl, rfl⟩
                refine AllK_cons rfl ?_
                rintro _ _ ⟨rfl, rfl⟩
                refine AllK_cons rfl ?_
                rintro _ _ ⟨rfl, rfl⟩
                refine AllK_cons rfl ?_
                rintro _ _ ⟨rfl, rfl⟩
                refine AllK_cons rfl ?_
                rintro _ _ ⟨rfl, rfl⟩
                refine AllK_cons rfl ?_
                rintro _ _ ⟨rfl, rfl⟩
                refine AllK_cons rfl ?_
                rintro u1 _ ⟨rfl, g1⟩
                refine AllK_cons rfl ?_
                rintro _ _ ⟨rfl, rfl⟩
                refine AllK_cons rfl ?_
                rintro _ _ ⟨rfl, b3, o2, rfl, h3⟩
                refine AllK_cons rfl ?_
                rintro _ _ ⟨rfl, rfl⟩
                refine AllK_cons rfl ?_
                rintro _ _ ⟨rfl, rfl⟩
                refine AllK_cons rfl ?_
                rintro u1 _ ⟨rfl, g1⟩
                refine AllK_cons rfl ?_
                rintro _ _ ⟨rfl, rfl⟩
                refine AllK_cons rfl ?_
                rintro _ _ ⟨rfl, rfl⟩
                refine AllK_cons rfl ?_
                rintro _ _ ⟨rfl, b4, o3, rfl, h5⟩
                refine AllK_cons rfl ?_
                rintro _ _ ⟨rfl, rfl⟩
                refine AllK_nil ?_
                intro hn2 hb2
                have hC5 := hC2.grow hB8
                refine WL_guard rfl rfl ?_
                refine WL_leq rfl rfl rfl ?_
                refine WL_guard rfl rfl ?_
                refine WL_pick_t rfl rfl rfl ?_
                refine WL_pick_f rfl rfl rfl ?_
                refine WL_nil ?_
                have hq2 := Option.some.inj hr2
                subst hq2
                refine nrm_sub (l' := [(1, (ptr b1 0)), (3, (.int .i64 x1)), (35, (.bool (decide (x5 ≤ x6))))]) ⟨rfl, rfl, rfl, trivial⟩ ?_
                exact ⟨(decide (x5 ≤ x6)), rfl, rfl, (Keep.of hB8).below, hC5⟩
            · replace hr2 := ite_f hr2 hc3
              refine W.sub (l' := [(1, (ptr b1 0)), (3, (.int .i64 x1)), (4, (.int .i64 x1)), (5, (ptr b1 0)), (6, u1), (7, (.int .i64 (List.length a1.1 : Int))), (8, (.bool (decide (x1 < (List.length a1.1 : Int)))))]) ?_ ⟨rfl, rfl, rfl, rfl, rfl, rfl, rfl, trivial⟩
              refine W_any 22 [PV.val (ptr b1 0), PV.ro [] w0 a1.1, PV.val (.int .i64 x1), PV.at [] w0 x3, PV.val (.int .i64 x3), PV.val (.bool x4), PV.val (.bool (!x4)), PV.val (.bool false), PV.val (.int .i64 x1), PV.val (.bool (decide (0 < x1))), PV.val (.bool false), PV.val undef, PV.val undef, PV.val undef, PV.val undef, PV.val undef, PV.val undef, PV.val undef, PV.val undef, PV.val undef, PV.val undef, PV.val undef] [[], [0], [], [1, 2], [3], [4], [5], [6], [7], [7, 8], [7, 9], [10], [10, 11], [10], [10, 12, 13], [10, 14], [10], [10, 16], [10], [10, 18], [10, 17, 19], [10, 20]] hmix (by kernel_rfl) rfl ?_ ?_
              · refine Steps_cons ?_ ?_
                · intro w9 hB9
                  refine DepsK_nil ?_
                  refine WL_field Try.underlying32 rfl rfl (fun w => ⟨_, Try.sizeOf27 w⟩) rfl rfl ?_
                  refine WL_nil ?_
                  exact Fin1_val (Below.refl _ _) rfl rfl ⟨rfl, rfl⟩
                refine Steps_cons ?_ ?_
                · intro w9 hB9
                  refine DepsK_cons rfl rfl ?_
                  rintro _ _ ⟨rfl, rfl⟩
                  refine DepsK_nil ?_
                  refine WL_load_box (hC2.grow hB9) 0 rfl rfl Try.isAgg27 rfl rfl ?_
                  refine WL_nil ?_
                  exact Fin1_val (Below.refl _ _) rfl rfl ⟨rfl, g1⟩
                refine Steps_cons ?_ ?_
                · intro w9 hB9
                  refine DepsK_nil ?_
                  refine WL_move rfl rfl ?_
                  refine WL_nil ?_
                  exact Fin1_val (Below.refl _ _) rfl rfl ⟨rfl, rfl⟩
                refine Steps_cons ?_ ?_
                · intro w9 hB9
                  refine DepsK_cons rfl rfl ?_
                  rintro u1 _ ⟨rfl, g1⟩
                  refine DepsK_cons rfl rfl ?_
                  rintro _ _ ⟨rfl, rfl⟩
                  refine DepsK_nil ?_
                  refine WL_index Try.underlying27 ty3 g1 hx1 rfl rfl rfl (fun b2 o1 h1 => ?_)
                  refine WL_nil ?_
                  exact Fin1_val (Below.refl _ _) rfl rfl ⟨rfl, _, _, rfl, h1⟩
                refine Steps_cons ?_ ?_
                · intro w9 hB9
                  refine DepsK_cons rfl rfl ?_
                  rintro _ _ ⟨rfl, b2, o1, rfl, h1⟩
                  refine DepsK_nil ?_
                  refine WL_load ty3 h1 (hC2.keep.then hB9) rfl rfl (fun v1 h2 => ?_)
                  obtain rfl := ro_int h2
                  refine WL_nil ?_
                  exact Fin1_val (Below.refl _ _) rfl rfl ⟨rfl, rfl⟩
                refine Steps_cons ?_ ?_
                · intro w9 hB9
                  refine DepsK_cons rfl rfl ?_
                  rintro _ _ ⟨rfl, rfl⟩
                  refine DepsK_nil ?_
                  refine WL_call Try.call79 rfl rfl (c_S_l1In x3 0 1000000 x4 hr3) ?_
                  intro _ w4 hv1
                  obtain ⟨rfl, hB4⟩ := res_bool hv1
                  refine WL_nil ?_
                  exact Fin1_val hB4 rfl rfl ⟨rfl, rfl⟩
                refine Steps_cons ?_ ?_
                · intro w9 hB9
                  refine DepsK_cons rfl rfl ?_
                  rintro _ _ ⟨rfl, rfl⟩
                  refine DepsK_nil ?_
                  refine WL_not rfl rfl ?_
                  refine WL_nil ?_
                  exact Fin1_val (Below.refl _ _) rfl rfl ⟨rfl, rfl⟩
                refine Steps_cons ?_ ?_
                · intro w9 hB9
                  refine DepsK_cons rfl rfl ?_
                  rintro _ _ ⟨rfl, rfl⟩
                  refine DepsK_nil ?_
                  refine WL_move rfl rfl ?_
                  refine WL_known hc2 ?_
                  refine WL_nil ?_
                  exact Fin1_val (Below.refl _ _) rfl rfl ⟨rfl, rfl⟩
                refine Steps_cons ?_ ?_
                · intro w9 hB9
                  refine DepsK_cons rfl rfl ?_
                  rintro _ _ ⟨rfl, rfl⟩
                  refine DepsK_nil ?_
                  refine WL_guard rfl rfl ?_
                  refine WL_move rfl rfl ?_
                  refine WL_nil ?_
                  exact Fin1_val (Below.refl _ _) rfl rfl ⟨rfl, rfl⟩
                refine Steps_cons ?_ ?_
                · intro w9 hB9
                  refine DepsK_cons rfl rfl ?_
                  rintro _ _ ⟨rfl, rfl⟩
                  refine DepsK_cons rfl rfl ?_
                  rintro _ _ ⟨rfl, rfl⟩
                  refine DepsK_nil ?_
                  refine WL_guard rfl rfl ?_
                  refine WL_gtr rfl rfl rfl ?_
                  refine WL_nil ?_
                  exact Fin1_val (Below.refl _ _) rfl rfl ⟨rfl, rfl⟩
                refine Steps_cons ?_ ?_
                · intro w9 hB9
                  refine DepsK_cons rfl rfl ?_
                  rintro _ _ ⟨rfl, rfl⟩
                  refine DepsK_cons rfl rfl ?_
                  rintro _ _ ⟨rfl, rfl⟩
                  refine DepsK_nil ?_
                  refine WL_guard rfl rfl ?_
                  refine WL_move rfl rfl ?_
                  refine WL_known hc3 ?_
                  refine WL_nil ?_
                  exact Fin1_val (Below.refl _ _) rfl rfl ⟨rfl, rfl⟩
                refine Steps_cons ?_ ?_
                · intro w9 hB9
                  refine DepsK_cons rfl rfl ?_
                  rintro _ _ ⟨rfl, rfl⟩
                  refine DepsK_nil ?_
                  refine WL_guard_skip rfl rfl (by simp) rfl ?_
                  refine WL_nil ?_
                  exact Fin1_val (Below.refl _ _) rfl rfl ⟨rfl, rfl⟩
                refine Steps_cons ?_ ?_
                · intro w9 hB9
                  refine DepsK_cons rfl rfl ?_
                  rintro _ _ ⟨rfl, rfl⟩
                  refine DepsK_cons rfl rfl ?_
                  rintro _ _ ⟨rfl, rfl⟩
                  refine DepsK_nil ?_
                  refine WL_guard_skip rfl rfl (by simp) rfl ?_
                  refine WL_nil ?_
                  exact Fin1_val (Below.refl _ _) rfl rfl ⟨rfl, rfl⟩
                refine Steps_cons ?_ ?_
                · intro w9 hB9
                  refine DepsK_cons rfl rfl ?_
                  rintro _ _ ⟨rfl, rfl⟩
                  refine DepsK_nil ?_
                  refine WL_guard_skip rfl rfl (by simp) rfl ?_
                  refine WL_nil ?_
                  exact Fin1_val (Below.refl _ _) rfl rfl ⟨rfl, rfl⟩
                refine Steps_cons ?_ ?_
                · intro w9 hB9
                  refine DepsK_cons rfl rfl ?_
                  rintro _ _ ⟨rfl, rfl⟩
                  refine DepsK_cons rfl rfl ?_
                  rintro _ _ ⟨rfl, rfl⟩
                  refine DepsK_cons rfl rfl ?_
                  rintro _ _ ⟨rfl, rfl⟩
                  refine DepsK_nil ?_
                  refine WL_guard_skip rfl rfl (by simp) rfl ?_
                  refine WL_nil ?_
                  exact Fin1_val (Below.refl _ _) rfl rfl ⟨rfl, rfl⟩
                refine Steps_cons ?_ ?_
                · intro w9 hB9
                  refine DepsK_cons rfl rfl ?_
                  rintro _ _ ⟨rfl, rfl⟩
                  refine DepsK_cons rfl rfl ?_
                  rintro _ _ ⟨rfl, rfl⟩
                  refine DepsK_nil ?_
                  refine WL_guard_skip rfl rfl (by simp) rfl ?_
                  refine WL_nil ?_
                  exact Fin1_val (Below.refl _ _) rfl rfl ⟨rfl, rfl⟩
                refine Steps_cons ?_ ?_
                · intro w9 hB9
                  refine DepsK_cons rfl rfl ?_
                  rintro _ _ ⟨rfl, rfl⟩
                  refine DepsK_nil ?_
                  refine WL_guard_skip rfl rfl (by simp) rfl ?_
                  refine WL_nil ?_
                  exact Fin1_val (Below.refl _ _) rfl rfl ⟨rfl, rfl⟩
                refine Steps_cons ?_ ?_
                · intro w9 hB9
                  refine DepsK_cons rfl rfl ?_
                  rintro _ _ ⟨rfl, rfl⟩
                  refine DepsK_cons rfl rfl ?_
                  rintro _ _ ⟨rfl, rfl⟩
                  refine DepsK_nil ?_
                  refine WL_guard_skip rfl rfl (by simp) rfl ?_
                  refine WL_nil ?_
                  exact Fin1_val (Below.refl _ _) rfl rfl ⟨rfl, rfl⟩
                refine Steps_cons ?_ ?_
                · intro w9 hB9
                  refine DepsK_cons rfl rfl ?_
                  rintro _ _ ⟨rfl, rfl⟩
                  refine DepsK_nil ?_
                  refine WL_guard_skip rfl rfl (by simp) rfl ?_
                  refine WL_nil ?_
                  exact Fin1_val (Below.refl _ _) rfl rfl ⟨rfl, rfl⟩
                refine Steps_cons ?_ ?_
                · intro w9 hB9
                  refine DepsK_cons rfl rfl ?_
                  rintro _ _ ⟨rfl, rfl⟩
                  refine DepsK_cons rfl rfl ?_
                  rintro _ _ ⟨rfl, rfl⟩
                  refine DepsK_nil ?_
                  refine WL_guard_skip rfl rfl (by simp) rfl ?_
                  refine WL_nil ?_
                  exact Fin1_val (Below.refl _ _) rfl rfl ⟨rfl, rfl⟩
                refine Steps_cons ?_ ?_
                · intro w9 hB9
                  refine DepsK_cons rfl rfl ?_
                  rintro _ _ ⟨rfl, rfl⟩
                  refine DepsK_cons rfl rfl ?_
                  rintro _ _ ⟨rfl, rfl⟩
                  refine DepsK_cons rfl rfl ?_
                  rintro _ _ ⟨rfl, rfl⟩
                  refine DepsK_nil ?_
                  refine WL_guard_skip rfl rfl (by simp) rfl ?_
                  refine WL_nil ?_
                  exact Fin1_val (Below.refl _ _) rfl rfl ⟨rfl, rfl⟩
                refine Steps_cons ?_ ?_
                · intro w9 hB9
                  refine DepsK_cons rfl rfl ?_
                  rintro _ _ ⟨rfl, rfl⟩
                  refine DepsK_cons rfl rfl ?_
                  rintro _ _ ⟨rfl, rfl⟩
                  refine DepsK_nil ?_
                  refine WL_guard_skip rfl rfl (by simp) rfl ?_
                  refine WL_nil ?_
                  exact Fin1_val (Below.refl _ _) rfl rfl ⟨rfl, rfl⟩
                exact Steps_nil
              · intro w10 hB10
                refine AllK_cons rfl ?_
                rintro _ _ ⟨rfl, rfl⟩
                refine AllK_cons rfl ?_
                rintro u1 _ ⟨rfl, g1⟩
                refine AllK_cons rfl ?_
                rintro _ _ ⟨rfl, rfl⟩
                refine AllK_cons rfl ?_
                rintro _ _ ⟨rfl, b2, o1, rfl, h1⟩
                refine AllK_cons rfl ?_
                rintro _ _ ⟨rfl, rfl⟩
                refine AllK_cons rfl ?_
                rintro _ _ ⟨rfl, rfl⟩
                refine AllK_cons rfl ?_
                rintro _ _ ⟨rfl, rfl⟩
                refine AllK_cons rfl ?_
                rintro _ _ ⟨rfl, rfl⟩
                refine AllK_cons rfl ?_
                rintro _ _ ⟨rfl, rfl⟩
                refine AllK_cons rfl ?_
                rintro _ _ ⟨rfl, rfl⟩
                refine AllK_cons rfl ?_
                rintro _ _ ⟨rfl, rfl⟩
                refine AllK_cons rfl ?_
                rintro _ _ ⟨rfl, rfl⟩
                refine AllK_cons rfl ?_
                rintro _ _ ⟨rfl, rfl⟩
                refine AllK_cons rfl ?_
                rintro _ _ ⟨rfl, rfl⟩
                refine AllK_cons rfl ?_
                rintro _ _ ⟨rfl, rfl⟩
                refine AllK_cons rfl ?_
                rintro _ _ ⟨rfl, rfl⟩
                refine AllK_cons rfl ?_
                rintro _ _ ⟨rfl, rfl⟩
                refine AllK_cons rfl ?_
                rintro _ _ ⟨rfl, rfl⟩
                refine AllK_cons rfl ?_
                rintro _ _ ⟨rfl, rfl⟩
                refine AllK_cons rfl ?_
                rintro _ _ ⟨rfl, rfl⟩
                refine AllK_cons rfl ?_
                rintro _ _ ⟨rfl, rfl⟩
                refine AllK_cons rfl ?_
                rintro _ _ ⟨rfl, rfl⟩
                refine AllK_nil ?_
                intro hn3 hb3
                have hC6 := hC2.grow hB10
                refine WL_guard_skip rfl rfl (by simp) rfl ?_
                refine WL_guard rfl rfl ?_
                refine WL_pick_f rfl rfl rfl ?_
                refine WL_pick_f rfl rfl rfl ?_
                refine WL_nil ?_
                have hq3 := Option.some.inj hr2
                subst hq3
                refine nrm_sub (l' := [(1, (ptr b1 0)), (3, (.int .i64 x1)), (35, (.bool false))]) ⟨rfl, rfl, rfl, trivial⟩ ?_
                exact ⟨false, rfl, rfl, (Keep.of hB10).below, hC6⟩
        · rintro _ w3 ⟨x2, rfl, rfl, hB3, hC3⟩
          try dsimp only at hL1
          refine W_cond rfl (fun hc4 => ?_) (fun hc4 => ?_)
          · replace hL1 := ite_t hL1 hc4
            refine W_seq_reg ?_
            refine WL_assign rfl rfl ?_
            refine WL_nil ?_
            refine W_ret ?_
            refine blk_ret ?_
            refine nrm_ret ?_
            refine nrm_ret ?_
            refine blk_ret ?_
            refine nrm_ret ?_
            refine nrm_ret ?_
            have hq4 := Option.some.inj hL1
            subst hq4
            dsimp only at hF
            have hq5 := Option.some.inj hF
            subst hq5
            refine fn_ret1 rfl rfl ?_
            exact ⟨_, rfl, bool_res hC3 _⟩
          · replace hL1 := ite_f hL1 hc4
            refine W_skip ?_
            refine blk_normal ?_
            refine nrm_normal ?_
            refine W_reg ?_
            refine WL_move rfl rfl ?_
            refine WL_add rfl rfl rfl ?_
            refine WL_assign rfl rfl ?_
            refine WL_nil ?_
            refine nrm_sub (l' := [(1, (ptr b1 0)), (3, (.int .i64 (w64 (x1 + 1))))]) ⟨rfl, rfl, trivial⟩ ?_
            exact ⟨k1, Nat.lt_succ_self _, w64 (x1 + 1), rfl, ((Keep.of hB2).then hB3).below, hC3, hL1⟩
      · replace hL1 := ite_f hL1 hc1
        refine W_exit ?_
        refine nrm_exit ?_
        refine nrm_exit ?_
        refine blk_exit ?_
        have hq6 := Option.some.inj hL1
        subst hq6
        refine nrm_sub (l' := [(1, (ptr b1 0))]) ⟨rfl, trivial⟩ ?_
        exact ⟨rfl, rfl, (Keep.of hB2).below, hC2⟩
  · rintro l3 _ w11 hs3 ⟨rfl, rfl, hB11, hC7⟩
    try dsimp only at hF
    refine nrm_sub' hs3 ?_
    clear hs3
    obtain ⟨r3, hr4, hF⟩ := bind_some hF
    refine W_cut (fun l w => ∃ x7 : Bool, x7 = r3 ∧ l = [(2, (.bool x7))] ∧ Below w11.heap.size w11 w ∧ Ctx [] w0 w []) ?_ ?_
    · refine W_reg ?_
      refine WL_field Try.underlying32 rfl rfl (fun w => ⟨_, Try.sizeOf3 w⟩) rfl rfl ?_
      refine WL_load_box hC7 0 rfl rfl Try.isAgg3 rfl rfl ?_
      obtain ⟨x8, hr5, hr4⟩ := bind_some hr4
      refine WL_call Try.call79 rfl rfl (c_S_l1In a1.2.1 0 1000000000 x8 hr5) ?_
      intro _ w13 hv2
      obtain ⟨rfl, hB13⟩ := res_bool hv2
      have hC9 := hC7.grow hB13
      refine WL_move rfl rfl ?_
      refine WL_fork (fun hc5 => ?_) (fun hc5 => ?_)
      · replace hr4 := ite_t hr4 hc5
        refine WL_guard rfl rfl ?_
        refine WL_field Try.underlying32 rfl rfl (fun w => ⟨_, Try.sizeOf3 w⟩) rfl rfl ?_
        refine WL_guard rfl rfl ?_
        refine WL_load_box hC9 0 rfl rfl Try.isAgg3 rfl rfl ?_
        obtain ⟨x9, hr6, hr4⟩ := bind_some hr4
        refine WL_guard rfl rfl ?_
        refine WL_call Try.call79 rfl rfl (c_S_l1In a1.2.2 0 1000000000 x9 hr6) ?_
        intro _ w14 hv3
        obtain ⟨rfl, hB14⟩ := res_bool hv3
        have hC10 := hC9.grow hB14
        refine WL_pick_t rfl rfl rfl ?_
        refine WL_assign rfl rfl ?_
        refine WL_nil ?_
        have hq7 := Option.some.inj hr4
        subst hq7
        have hC11 := hC10.headN 0
        dsimp only [List.take] at hC11
        refine nrm_sub (l' := [(2, (.bool x9))]) ⟨rfl, trivial⟩ ?_
        exact ⟨x9, rfl, rfl, ((Keep.of hB13).then hB14).below, hC11⟩
      · replace hr4 := ite_f hr4 hc5
        refine WL_guard_skip rfl rfl (by simp) rfl ?_
        refine WL_guard_skip rfl rfl (by simp) rfl ?_
        refine WL_guard_skip rfl rfl (by simp) rfl ?_
        refine WL_pick_f rfl rfl rfl ?_
        refine WL_assign rfl rfl ?_
        refine WL_nil ?_
        have hq8 := Option.some.inj hr4
        subst hq8
        have hC12 := hC9.headN 0
        dsimp only [List.take] at hC12
        refine nrm_sub (l' := [(2, (.bool false))]) ⟨rfl, trivial⟩ ?_
        exact ⟨false, rfl, rfl, (Keep.of hB13).below, hC12⟩
    · rintro _ w12 ⟨x7, rfl, rfl, hB12, hC8⟩
      try dsimp only at hF
      refine W_ret ?_
      have hq9 := Option.some.inj hF
      subst hq9
      refine fn_ret1 rfl rfl ?_
      exact ⟨_, rfl, bool_res hC8 _⟩

theorem c_Q_toIntS {w0 : World} (a1 : (List Int)) (u1 : Value) (g1 : RO [] w0 u1 a1) (rr : (List Int)) (hF : Q.toIntS a1 = some rr) :
    Calls Try.prog 27 [u1].toArray w0 fun e w' => ∃ v, e = .returned v ∧ Res w0 rr v w' := by
  refine calls_of_W Try.func27 rfl rfl ?_
  have hC0 := Ctx.start w0
  unfold Q.toIntS at hF
  refine W_seq_reg ?_
  refine WL_assign rfl rfl ?_
  refine WL_nil ?_
  refine W_seq_reg ?_
  refine WL_move rfl rfl ?_
  refine WL_len Try.underlying27 g1 rfl rfl ?_
  obtain ⟨x1, hx1, hF⟩ := bind_some hF
  refine WL_makeSlice hC0 Try.underlying27 ty3 rfl zc3 zr3 hx1 rfl rfl rfl (fun b1 w1 hC1 hB1 => ?_)
  refine WL_assign rfl rfl ?_
  refine WL_nil ?_
  refine W_seq ?_
  refine W_seq_reg ?_
  refine WL_assign rfl rfl ?_
  refine WL_nil ?_
  obtain ⟨r1, hr1, hF⟩ := bind_some hF
  refine W_norm (fun l w => ∃ x4 : (List Int), x4 = r1 ∧ l = [(3, (.slice (some ⟨b1, 0, none⟩) (Int.toNat (List.length a1 : Int)) (Int.toNat (List.length a1 : Int))))] ∧ Ctx [] w0 w [Item.own (.slice (some ⟨b1, 0, none⟩) (Int.toNat (List.length a1 : Int)) (Int.toNat (List.length a1 : Int))) (x4 : (List Int))]) ?_ ?_
  · refine W_block ?_
    refine W.sub (l' := [(0, u1), (3, (.slice (some ⟨b1, 0, none⟩) (Int.toNat (List.length a1 : Int)) (Int.toNat (List.length a1 : Int)))), (4, (.int .i64 0))]) ?_ ⟨rfl, rfl, rfl, trivial⟩
    refine W_loop (fun k l w => ∃ x2 : (List Int), ∃ x3 : Int, l = [(0, u1), (3, (.slice (some ⟨b1, 0, none⟩) (Int.toNat (List.length a1 : Int)) (Int.toNat (List.length a1 : Int)))), (4, (.int .i64 x3))] ∧ Ctx [] w0 w [Item.own (.slice (some ⟨b1, 0, none⟩) (Int.toNat (List.length a1 : Int)) (Int.toNat (List.length a1 : Int))) (x2 : (List Int))] ∧ Q.toIntS_l1 a1 k x2 x3 = some r1) FUEL ⟨x1, 0, rfl, hC1, hr1⟩ ?_
    clear hr1
    rintro k1 _ w2 ⟨x2, x3, rfl, hC2, hL1⟩
    cases k1 with
    | zero => rw [Q.toIntS_l1] at hL1; cases hL1
    | succ k1 =>
      rw [Q.toIntS_l1] at hL1
      refine W_seq ?_
      refine W_seq_reg ?_
      refine WL_move rfl rfl ?_
      refine WL_move rfl rfl ?_
      refine WL_len Try.underlying27 g1 rfl rfl ?_
      refine WL_lss rfl rfl rfl ?_
      refine WL_nil ?_
      refine W_cond rfl (fun hc1 => ?_) (fun hc1 => ?_)
      · replace hL1 := ite_t hL1 hc1
        refine W_skip ?_
        refine nrm_normal ?_
        refine W_seq ?_
        refine W_block ?_
        refine W_reg ?_
        refine WL_move rfl rfl ?_
        refine WL_move rfl rfl ?_
        refine WL_move rfl rfl ?_
        refine WL_move rfl rfl ?_
        obtain ⟨x5, hx2, hL1⟩ := bind_some hL1
        refine WL_index Try.underlying27 ty3 g1 hx2 rfl rfl rfl (fun b2 o1 h1 => ?_)
        refine WL_load ty3 h1 hC2.keep rfl rfl (fun v1 h2 => ?_)
        obtain rfl := ro_int h2
        obtain ⟨x6, hx3, hL1⟩ := bind_some hL1
        refine WL_index_own hC2 0 rfl Try.underlying27 ty3 hx3 rfl rfl rfl (fun b3 hE1 => ?_)
        have hC4 := hC2.triv (int_val (x5))
        refine WL_store_elem hC4 0 rfl ty3 hE1 hx3 rfl rfl rfl (fun w3 hC3 => ?_)
        try dsimp only [List.set] at hC3
        refine WL_nil ?_
        refine blk_normal ?_
        refine nrm_normal ?_
        refine W_reg ?_
        refine WL_move rfl rfl ?_
        refine WL_add rfl rfl rfl ?_
        refine WL_assign rfl rfl ?_
        refine WL_nil ?_
        refine nrm_sub (l' := [(0, u1), (3, (.slice (some ⟨b1, 0, none⟩) (Int.toNat (List.length a1 : Int)) (Int.toNat (List.length a1 : Int)))), (4, (.int .i64 (w64 (x3 + 1))))]) ⟨rfl, rfl, rfl, trivial⟩ ?_
        exact ⟨k1, Nat.lt_succ_self _, (List.set x2 (Int.toNat x3) x5), w64 (x3 + 1), rfl, hC3, hL1⟩
      · replace hL1 := ite_f hL1 hc1
        refine W_exit ?_
        refine nrm_exit ?_
        refine nrm_exit ?_
        refine blk_exit ?_
        have hq1 := Option.some.inj hL1
        subst hq1
        refine nrm_sub (l' := [(3, (.slice (some ⟨b1, 0, none⟩) (Int.toNat (List.length a1 : Int)) (Int.toNat (List.length a1 : Int))))]) ⟨rfl, trivial⟩ ?_
        exact ⟨x2, rfl, rfl, hC2⟩
  · rintro l2 _ w4 hs2 ⟨x4, rfl, rfl, hC5⟩
    try dsimp only at hF
    refine nrm_sub' hs2 ?_
    clear hs2
    refine W_seq_reg ?_
    refine WL_move rfl rfl ?_
    refine WL_assign rfl rfl ?_
    refine WL_nil ?_
    refine W_ret ?_
    have hq2 := Option.some.inj hF
    subst hq2
    refine fn_ret1 rfl rfl ?_
    exact ⟨_, rfl, own_res hC5 0 rfl⟩

theorem c_Q_toLedger {w0 : World} (a1 : ((List Int) × Int × Int)) (u1 : Value) (g1 : RO [] w0 u1 a1.1) (rr : ((List Int) × Int × Int)) (hF : Q.toLedger a1 = some rr) :
    Calls Try.prog 23 [(.agg #[u1, (.int .i64 a1.2.1), (.int .i64 a1.2.2)])].toArray w0 fun e w' => ∃ v, e = .returned v ∧ Res w0 rr v w' := by
  refine calls_of_W Try.func23 rfl rfl ?_
  have hC0 := Ctx.start w0
  unfold Q.toLedger at hF
  refine W_seq_reg ?_
  refine WL_box (cs := [u1, (.int .i64 a1.2.1), (.int .i64 a1.2.2)]) hC0 rfl rfl rfl (fun b1 w1 hC1 hB1 => ?_)
  refine WL_alloc hC1 zero32 rfl rfl (fun b2 w2 hC2 hB2 => ?_)
  refine WL_nil ?_
  refine W_seq_reg ?_
  refine WL_alloc hC2 zero32 rfl rfl (fun b3 w3 hC3 hB3 => ?_)
  refine WL_nil ?_
  refine W_seq_reg ?_
  refine WL_field Try.underlying29 rfl rfl (fun w => ⟨_, Try.sizeOf27 w⟩) rfl rfl ?_
  refine WL_load_box hC3 2 rfl rfl Try.isAgg27 rfl rfl ?_
  obtain ⟨x1, hr1, hF⟩ := bind_some hF
  refine WL_call Try.call27 rfl rfl (c_Q_toIntS a1.1 u1 (g1.now hC3.keep) x1 hr1) ?_
  rintro v1 w4 ⟨hB4, F1, hv1, hn1, hb1⟩
  have hC4 := hC3.push hB4 (A := Item.own v1 x1) hv1 hn1 hb1
  refine WL_field Try.underlying32 rfl rfl (fun w => ⟨_, Try.sizeOf27 w⟩) rfl rfl ?_
  refine WL_store_box (cs' := [v1, (.int .i64 0), (.int .i64 0)]) hC4 1 rfl rfl (ro_one (hC4.ro 0 rfl)) rfl Try.sizeOf27 rfl rfl (fun w5 hC5 => ?_)
  try dsimp only [List.set] at hC5
  refine WL_nil ?_
  refine W_seq_reg ?_
  refine WL_field Try.underlying29 rfl rfl (fun w => ⟨_, Try.sizeOf3 w⟩) rfl rfl ?_
  refine WL_load_box hC5 3 rfl rfl Try.isAgg3 rfl rfl ?_
  refine WL_field Try.underlying32 rfl rfl (fun w => ⟨_, Try.sizeOf3 w⟩) rfl rfl ?_
  refine WL_store_box (cs' := [v1, (.int .i64 a1.2.1), (.int .i64 0)]) hC5 1 rfl rfl rfl rfl Try.sizeOf3 rfl rfl (fun w6 hC6 => ?_)
  try dsimp only [List.set] at hC6
  refine WL_nil ?_
  refine W_seq_reg ?_
  refine WL_field Try.underlying29 rfl rfl (fun w => ⟨_, Try.sizeOf3 w⟩) rfl rfl ?_
  refine WL_load_box hC6 3 rfl rfl Try.isAgg3 rfl rfl ?_
  refine WL_field Try.underlying32 rfl rfl (fun w => ⟨_, Try.sizeOf3 w⟩) rfl rfl ?_
  refine WL_store_box (cs' := [v1, (.int .i64 a1.2.1), (.int .i64 a1.2.2)]) hC6 1 rfl rfl rfl rfl Try.sizeOf3 rfl rfl (fun w7 hC7 => ?_)
  try dsimp only [List.set] at hC7
  refine WL_nil ?_
  refine W_seq_reg ?_
  refine WL_load_box_agg [v1, (.int .i64 a1.2.1), (.int .i64 a1.2.2)] hC7 1 rfl rfl rfl Try.isAgg32 Try.sizeOf32 rfl rfl ?_
  refine WL_store_box_agg (cs' := [v1, (.int .i64 a1.2.1), (.int .i64 a1.2.2)]) (new := [v1, (.int .i64 a1.2.1), (.int .i64 a1.2.2)]) hC7 2 rfl rfl (by intro v hv; simp only [List.mem_cons, List.not_mem_nil, or_false] at hv; rcases hv with rfl | rfl | rfl; exact (ro_one (hC7.ro 0 rfl)); exact rfl; exact rfl) rfl Try.sizeOf32 rfl rfl (fun w8 hC8 => ?_)
  try dsimp only [List.set] at hC8
  refine WL_nil ?_
  refine W_ret ?_
  have hq1 := Option.some.inj hF
  subst hq1
  refine fn_retG1 rfl (rv_cell_agg (cs' := [v1, (.int .i64 a1.2.1), (.int .i64 a1.2.2)]) hC8 (i := 2) rfl rfl rfl Try.isAgg32 Try.sizeOf32 rfl) ?_
  have hC9 := own_st32 v1 x1 a1.2.1 a1.2.2 hC8
  exact ⟨_, rfl, own_res hC9 0 rfl⟩

theorem c_M_ascending {w0 : World} (a1 : (List Int)) (u1 : Value) (g1 : RO [] w0 u1 a1) (rr : Bool) (hF : M.ascending a1 = some rr) :
    Calls Try.prog 80 [u1].toArray w0 fun e w' => ∃ v, e = .returned v ∧ Res w0 rr v w' := by
  refine calls_of_W Try.func80 rfl rfl ?_
  have hC0 := Ctx.start w0
  unfold M.ascending at hF
  refine W_seq_reg ?_
  refine WL_assign rfl rfl ?_
  refine WL_nil ?_
  refine W_seq ?_
  refine W_seq_reg ?_
  refine WL_move rfl rfl ?_
  refine WL_len Try.underlying27 g1 rfl rfl ?_
  refine WL_move rfl rfl ?_
  refine WL_nil ?_
  obtain ⟨r1, hr1, hF⟩ := bind_some hF
  refine W_norm (fun l w => .inl () = r1 ∧ l = [] ∧ Below w0.heap.size w0 w ∧ Ctx [] w0 w []) ?_ ?_
  · refine W_block ?_
    refine W.sub (l' := [(0, u1), (5, (.int .i64 (List.length a1 : Int))), (6, (.int .i64 0))]) ?_ ⟨rfl, rfl, rfl, trivial⟩
    refine W_loop (fun k l w => ∃ x1 : Int, l = [(0, u1), (5, (.int .i64 (List.length a1 : Int))), (6, (.int .i64 x1))] ∧ Below w0.heap.size w0 w ∧ Ctx [] w0 w [] ∧ M.ascending_l1 a1 k x1 = some r1) FUEL ⟨0, rfl, (Below.refl _ _), hC0, hr1⟩ ?_
    clear hr1
    rintro k1 _ w1 ⟨x1, rfl, hB1, hC1, hL1⟩
    cases k1 with
    | zero => rw [M.ascending_l1] at hL1; cases hL1
    | succ k1 =>
      rw [M.ascending_l1] at hL1
      refine W_seq_reg ?_
      refine WL_lss rfl rfl rfl ?_
      refine WL_nil ?_
      refine W_seq ?_
      refine W_cond rfl (fun hc1 => ?_) (fun hc1 => ?_)
      · replace hL1 := ite_t hL1 hc1
        refine W_skip ?_
        refine nrm_normal ?_
        refine W_seq ?_
        refine W_block ?_
        refine W_seq_reg ?_
        refine WL_move rfl rfl ?_
        refine WL_assign rfl rfl ?_
        refine WL_nil ?_
        obtain ⟨r2, hr2, hL1⟩ := bind_some hL1
        refine W_cut (fun l w => ∃ x2 : Bool, x2 = r2 ∧ l = [(0, u1), (5, (.int .i64 (List.length a1 : Int))), (6, (.int .i64 x1)), (22, (.bool x2))] ∧ Below w1.heap.size w1 w ∧ Ctx [] w0 w []) ?_ ?_
        · rcases btf (decide (0 < x1)) with hc2 | hc2
          · replace hr2 := ite_t hr2 hc2
            obtain ⟨x3, hx1, hr2⟩ := bind_some hr2
            obtain ⟨x4, hx2, hr2⟩ := bind_some hr2
            refine W.sub (l' := [(0, u1), (3, (.int .i64 x1)), (5, (.int .i64 (List.length a1 : Int))), (6, (.int .i64 x1)), (7, (.bool (decide (x1 < (List.length a1 : Int))))), (8, (.int .i64 x1))]) ?_ ⟨rfl, rfl, rfl, rfl, rfl, rfl, trivial⟩
            refine W_any 12 [PV.val (.int .i64 x1), PV.val (.bool (decide (0 < x1))), PV.val (.bool true), PV.val u1, PV.val (.int .i64 x1), PV.at [] w0 x3, PV.val (.int .i64 x3), PV.val u1, PV.val (.int .i64 x1), PV.val (.int .i64 (w64 (x1 - 1))), PV.at [] w0 x4, PV.val (.int .i64 x4)] [[], [0], [1], [2], [2], [2, 3, 4], [2, 5], [2], [2], [2, 8], [2, 7, 9], [2, 10]] hmix (by kernel_rfl) rfl ?_ ?_
            · refine Steps_cons ?_ ?_
              · intro w3 hB3
                refine DepsK_nil ?_
                refine WL_move rfl rfl ?_
                refine WL_nil ?_
                exact Fin1_val (Below.refl _ _) rfl rfl ⟨rfl, rfl⟩
              refine Steps_cons ?_ ?_
              · intro w3 hB3
                refine DepsK_cons rfl rfl ?_
                rintro _ _ ⟨rfl, rfl⟩
                refine DepsK_nil ?_
                refine WL_gtr rfl rfl rfl ?_
                refine WL_nil ?_
                exact Fin1_val (Below.refl _ _) rfl rfl ⟨rfl, rfl⟩
              refine Steps_cons ?_ ?_
              · intro w3 hB3
                refine DepsK_cons rfl rfl ?_
                rintro _ _ ⟨rfl, rfl⟩
                refine DepsK_nil ?_
                refine WL_move rfl rfl ?_
                refine WL_known hc2 ?_
                refine WL_nil ?_
                exact Fin1_val (Below.refl _ _) rfl rfl ⟨rfl, rfl⟩
              refine Steps_cons ?_ ?_
              · intro w3 hB3
                refine DepsK_cons rfl rfl ?_
                rintro _ _ ⟨rfl, rfl⟩
                refine DepsK_nil ?_
                refine WL_guard rfl rfl ?_
                refine WL_move rfl rfl ?_
                refine WL_nil ?_
                exact Fin1_val (Below.refl _ _) rfl rfl ⟨rfl, rfl⟩
              refine Steps_cons ?_ ?_
              · intro w3 hB3
                refine DepsK_cons rfl rfl ?_
                rintro _ _ ⟨rfl, rfl⟩
                refine DepsK_nil ?_
                refine WL_guard rfl rfl ?_
                refine WL_move rfl rfl ?_
                refine WL_nil ?_
                exact Fin1_val (Below.refl _ _) rfl rfl ⟨rfl, rfl⟩
              refine Steps_cons ?_ ?_
              · intro w3 hB3
                refine DepsK_cons rfl rfl ?_
                rintro _ _ ⟨rfl, rfl⟩
                refine DepsK_cons rfl rfl ?_
                rintro _ _ ⟨rfl, rfl⟩
                refine DepsK_cons rfl rfl ?_
                rintro _ _ ⟨rfl, rfl⟩
                refine DepsK_nil ?_
                refine WL_guard rfl rfl ?_
                refine WL_index Try.underlying27 ty3 g1 hx1 rfl rfl rfl (fun b1 o1 h1 => ?_)
                refine WL_nil ?_
                exact Fin1_val (Below.refl _ _) rfl rfl ⟨rfl, _, _, rfl, h1⟩
              refine Steps_cons ?_ ?_
              · intro w3 hB3
                refine DepsK_cons rfl rfl ?_
                rintro _ _ ⟨rfl, rfl⟩
                refine DepsK_cons rfl rfl ?_
                rintro _ _ ⟨rfl, b1, o1, rfl, h1⟩
                refine DepsK_nil ?_
                refine WL_guard rfl rfl ?_
                refine WL_load ty3 h1 (hC1.keep.then hB3) rfl rfl (fun v1 h2 => ?_)
                obtain rfl := ro_int h2
                refine WL_nil ?_
                exact Fin1_val (Below.refl _ _) rfl rfl ⟨rfl, rfl⟩
              refine Steps_cons ?_ ?_
              · intro w3 hB3
                refine DepsK_cons rfl rfl ?_
                rintro _ _ ⟨rfl, rfl⟩
                refine DepsK_nil ?_
                refine WL_guard rfl rfl ?_
                refine WL_move rfl rfl ?_
                refine WL_nil ?_
                exact Fin1_val (Below.refl _ _) rfl rfl ⟨rfl, rfl⟩
              refine Steps_cons ?_ ?_
              · intro w3 hB3
                refine DepsK_cons rfl rfl ?_
                rintro _ _ ⟨rfl, rfl⟩
                refine DepsK_nil ?_
                refine WL_guard rfl rfl ?_
                refine WL_move rfl rfl ?_
                refine WL_nil ?_
                exact Fin1_val (Below.refl _ _) rfl rfl ⟨rfl, rfl⟩
              refine Steps_cons ?_ ?_
              · intro w3 hB3
                refine DepsK_cons rfl rfl ?_
                rintro _ _ ⟨rfl, rfl⟩
                refine DepsK_cons rfl rfl ?_
                rintro _ _ ⟨rfl, rfl⟩
                refine DepsK_nil ?_
                refine WL_guard rfl rfl ?_
                refine WL_sub rfl rfl rfl ?_
                refine WL_nil ?_
                exact Fin1_val (Below.refl _ _) rfl rfl ⟨rfl, rfl⟩
              refine Steps_cons ?_ ?_
              · intro w3 hB3
                refine DepsK_cons rfl rfl ?_
                rintro _ _ ⟨rfl, rfl⟩
                refine DepsK_cons rfl rfl ?_
                rintro _ _ ⟨rfl, rfl⟩
                refine DepsK_cons rfl rfl ?_
                rintro _ _ ⟨rfl, rfl⟩
                refine DepsK_nil ?_
                refine WL_guard rfl rfl ?_
                refine WL_index Try.underlying27 ty3 g1 hx2 rfl rfl rfl (fun b2 o2 h3 => ?_)
                refine WL_nil ?_
                exact Fin1_val (Below.refl _ _) rfl rfl ⟨rfl, _, _, rfl, h3⟩
              refine Steps_cons ?_ ?_
              · intro w3 hB3
                refine DepsK_cons rfl rfl ?_
                rintro _ _ ⟨rfl, rfl⟩
                refine DepsK_cons rfl rfl ?_
                rintro _ _ ⟨rfl, b2, o2, rfl, h3⟩
                refine DepsK_nil ?_
                refine WL_guard rfl rfl ?_
                refine WL_load ty3 h3 (hC1.keep.then hB3) rfl rfl (fun v2 h4 => ?_)
                obtain rfl := ro_int h4
                refine WL_nil ?_
                exact Fin1_val (Below.refl _ _) rfl rfl ⟨rfl, rfl⟩
              exact Steps_nil
            · intro w4 hB4
              refine AllK_cons rfl ?_
              rintro _ _ ⟨rfl, rfl⟩
              refine AllK_cons rfl ?_
              rintro _ _ ⟨rfl, rfl⟩
              refine AllK_cons rfl ?_
              rintro _ _ ⟨rfl, rfl⟩
              refine AllK_cons rfl ?_
              rintro _ _ ⟨rfl, rfl⟩
              refine AllK_cons rfl ?_
              rintro _ _ ⟨rfl, rfl⟩
              refine AllK_cons rfl ?_
              rintro _ _ ⟨rfl, b1, o1, rfl, h1⟩
              refine AllK_cons rfl ?_
              rintro _ _ ⟨rfl, rfl⟩
              refine AllK_cons rfl ?_
              rintro _ _ ⟨rfl, rfl⟩
              refine AllK_cons rfl ?_
              rintro _ _ ⟨rfl, rfl⟩
              refine AllK_cons rfl ?_
              rintro _ _ ⟨rfl, rfl⟩
              refine AllK_cons rfl ?_
              rintro _ _ ⟨rfl, b2, o2, rfl, h3⟩
              refine AllK_cons rfl ?_
              rintro _ _ ⟨rfl, rfl⟩
              refine AllK_nil ?_
              intro hn1 hb1
              have hC3 := hC1.grow hB4
              refine WL_guard rfl rfl ?_
              refine WL_leq rfl rfl rfl ?_
              refine WL_pick_t rfl rfl rfl ?_
              refine WL_nil ?_
              have hq1 := Option.some.inj hr2
              subst hq1
              refine nrm_sub (l' := [(0, u1), (5, (.int .i64 (List.length a1 : Int))), (6, (.int .i64 x1)), (22, (.bool (decide (x3 ≤ x4))))]) ⟨rfl, rfl, rfl, rfl, trivial⟩ ?_
              exact ⟨(decide (x3 ≤ x4)), rfl, rfl, (Keep.of hB4).below, hC3⟩
          · replace hr2 := ite_f hr2 hc2
            refine W.sub (l' := [(0, u1), (3, (.int .i64 x1)), (5, (.int .i64 (List.length a1 : Int))), (6, (.int .i64 x1)), (7, (.bool (decide (x1 < (List.length a1 : Int))))), (8, (.int .i64 x1))]) ?_ ⟨rfl, rfl, rfl, rfl, rfl, rfl, trivial⟩
            refine W_any 12 [PV.val (.int .i64 x1), PV.val (.bool (decide (0 < x1))), PV.val (.bool false), PV.val undef, PV.val undef, PV.val undef, PV.val undef, PV.val undef, PV.val undef, PV.val undef, PV.val undef, PV.val undef] [[], [0], [1], [2], [2], [2, 3, 4], [2, 5], [2], [2], [2, 8], [2, 7, 9], [2, 10]] hmix (by kernel_rfl) rfl ?_ ?_
            · refine Steps_cons ?_ ?_
              · intro w5 hB5
                refine DepsK_nil ?_
                refine WL_move rfl rfl ?_
                refine WL_nil ?_
                exact Fin1_val (Below.refl _ _) rfl rfl ⟨rfl, rfl⟩
              refine Steps_cons ?_ ?_
              · intro w5 hB5
                refine DepsK_cons rfl rfl ?_
                rintro _ _ ⟨rfl, rfl⟩
                refine DepsK_nil ?_
                refine WL_gtr rfl rfl rfl ?_
                refine WL_nil ?_
                exact Fin1_val (Below.refl _ _) rfl rfl ⟨rfl, rfl⟩
              refine Steps_cons ?_ ?_
              · intro w5 hB5
                refine DepsK_cons rfl rfl ?_
                rintro _ _ ⟨rfl, rfl⟩
                refine DepsK_nil ?_
                refine WL_move rfl rfl ?_
                refine WL_known hc2 ?_
                refine WL_nil ?_
                exact Fin1_val (Below.refl _ _) rfl rfl ⟨rfl, rfl⟩
              refine Steps_cons ?_ ?_
              · intro w5 hB5
                refine DepsK_cons rfl rfl ?_
                rintro _ _ ⟨rfl, rfl⟩
                refine DepsK_nil ?_
                refine WL_guard_skip rfl rfl (by simp) rfl ?_
                refine WL_nil ?_
                exact Fin1_val (Below.refl _ _) rfl rfl ⟨rfl, rfl⟩
              refine Steps_cons ?_ ?_
              · intro w5 hB5
                refine DepsK_cons rfl rfl ?_
                rintro _ _ ⟨rfl, rfl⟩
                refine DepsK_nil ?_
                refine WL_guard_skip rfl rfl (by simp) rfl ?_
                refine WL_nil ?_
                exact Fin1_val (Below.refl _ _) rfl rfl ⟨rfl, rfl⟩
              refine Steps_cons ?_ ?_
              · intro w5 hB5
                refine DepsK_cons rfl rfl ?_
                rintro _ _ ⟨rfl, rfl⟩
                refine DepsK_cons rfl rfl ?_
                rintro _ _ ⟨rfl, rfl⟩
                refine DepsK_cons rfl rfl ?_
                rintro _ _ ⟨rfl, rfl⟩
                refine DepsK_nil ?_
                refine WL_guard_skip rfl rfl (by simp) rfl ?_
                refine WL_nil ?_
                exact Fin1_val (Below.refl _ _) rfl rfl ⟨rfl, rfl⟩
              refine Steps_cons ?_ ?_
              · intro w5 hB5
                refine DepsK_cons rfl rfl ?_
                rintro _ _ ⟨rfl, rfl⟩
                refine DepsK_cons rfl rfl ?_
                rintro _ _ ⟨rfl, rfl⟩
                refine DepsK_nil ?_
                refine WL_guard_skip rfl rfl (by simp) rfl ?_
                refine WL_nil ?_
                exact Fin1_val (Below.refl _ _) rfl rfl ⟨rfl, rfl⟩
              refine Steps_cons ?_ ?_
              · intro w5 hB5
                refine DepsK_cons rfl rfl ?_
                rintro _ _ ⟨rfl, rfl⟩
                refine DepsK_nil ?_
                refine WL_guard_skip rfl rfl (by simp) rfl ?_
                refine WL_nil ?_
                exact Fin1_val (Below.refl _ _) rfl rfl ⟨rfl, rfl⟩
              refine Steps_cons ?_ ?_
              · intro w5 hB5
                refine DepsK_cons rfl rfl ?_
                rintro _ _ ⟨rfl, rfl⟩
                refine DepsK_nil ?_
                refine WL_guard_skip rfl rfl (by simp) rfl ?_
                refine WL_nil ?_
                exact Fin1_val (Below.refl _ _) rfl rfl ⟨rfl, rfl⟩
              refine Steps_cons ?_ ?_
              · intro w5 hB5
                refine DepsK_cons rfl rfl ?_
                rintro _ _ ⟨rfl, rfl⟩
                refine DepsK_cons rfl rfl ?_
                rintro _ _ ⟨rfl, rfl⟩
                refine DepsK_nil ?_
                refine WL_guard_skip rfl rfl (by simp) rfl ?_
                refine WL_nil ?_
                exact Fin1_val (Below.refl _ _) rfl rfl ⟨rfl, rfl⟩
              refine Steps_cons ?_ ?_
              · intro w5 hB5
                refine DepsK_cons rfl rfl ?_
                rintro _ _ ⟨rfl, rfl⟩
                refine DepsK_cons rfl rfl ?_
                rintro _ _ ⟨rfl, rfl⟩
                refine DepsK_cons rfl rfl ?_
                rintro _ _ ⟨rfl, rfl⟩
                refine DepsK_nil ?_
                refine WL_guard_skip rfl rfl (by simp) rfl ?_
                refine WL_nil ?_
                exact Fin1_val (Below.refl _ _) rfl rfl ⟨rfl, rfl⟩
              refine Steps_cons ?_ ?_
              · intro w5 hB5
                refine DepsK_cons rfl rfl ?_
                rintro _ _ ⟨rfl, rfl⟩
                refine DepsK_cons rfl rfl ?_
                rintro _ _ ⟨rfl, rfl⟩
                refine DepsK_nil ?_
                refine WL_guard_skip rfl rfl (by simp) rfl ?_
                refine WL_nil ?_
                exact Fin1_val (Below.refl _ _) rfl rfl ⟨rfl, rfl⟩
              exact Steps_nil
            · intro w6 hB6
              refine AllK_cons rfl ?_
              rintro _ _ ⟨rfl, rfl⟩
              refine AllK_cons rfl ?_
              rintro _ _ ⟨rfl, rfl⟩
              refine AllK_cons rfl ?_
              rintro _ _ ⟨rfl, rfl⟩
              refine AllK_cons rfl ?_
              rintro _ _ ⟨rfl, rfl⟩
              refine AllK_cons rfl ?_
              rintro _ _ ⟨rfl, rfl⟩
              refine AllK_cons rfl ?_
              rintro _ _ ⟨rfl, rfl⟩
              refine AllK_cons rfl ?_
              rintro _ _ ⟨rfl, rfl⟩
              refine AllK_cons rfl ?_
              rintro _ _ ⟨rfl, rfl⟩
              refine AllK_cons rfl ?_
              rintro _ _ ⟨rfl, rfl⟩
              refine AllK_cons rfl ?_
              rintro _ _ ⟨rfl, rfl⟩
              refine AllK_cons rfl ?_
              rintro _ _ ⟨rfl, rfl⟩
              refine AllK_cons rfl ?_
              rintro _ _ ⟨rfl, rfl⟩
              refine AllK_nil ?_
              intro hn2 hb2
              have hC4 := hC1.grow hB6
              refine WL_guard_skip rfl rfl (by simp) rfl ?_
              refine WL_pick_f rfl rfl rfl ?_
              refine WL_nil ?_
              have hq2 := Option.some.inj hr2
              subst hq2
              refine nrm_sub (l' := [(0, u1), (5, (.int .i64 (List.length a1 : Int))), (6, (.int .i64 x1)), (22, (.bool false))]) ⟨rfl, rfl, rfl, rfl, trivial⟩ ?_
              exact ⟨false, rfl, rfl, (Keep.of hB6).below, hC4⟩
        · rintro _ w2 ⟨x2, rfl, rfl, hB2, hC2⟩
          try dsimp only at hL1
          refine W_cond rfl (fun hc3 => ?_) (fun hc3 => ?_)
          · replace hL1 := ite_t hL1 hc3
            refine W_seq_reg ?_
            refine WL_assign rfl rfl ?_
            refine WL_nil ?_
            refine W_ret ?_
            refine blk_ret ?_
            refine nrm_ret ?_
            refine nrm_ret ?_
            refine blk_ret ?_
            refine nrm_ret ?_
            refine nrm_ret ?_
            have hq3 := Option.some.inj hL1
            subst hq3
            dsimp only at hF
            have hq4 := Option.some.inj hF
            subst hq4
            refine fn_ret1 rfl rfl ?_
            exact ⟨_, rfl, bool_res hC2 _⟩
          · replace hL1 := ite_f hL1 hc3
            refine W_skip ?_
            refine blk_normal ?_
            refine nrm_normal ?_
            refine W_reg ?_
            refine WL_add rfl rfl rfl ?_
            refine WL_move rfl rfl ?_
            refine WL_nil ?_
            refine nrm_sub (l' := [(0, u1), (5, (.int .i64 (List.length a1 : Int))), (6, (.int .i64 (w64 (x1 + 1))))]) ⟨rfl, rfl, rfl, trivial⟩ ?_
            exact ⟨k1, Nat.lt_succ_self _, w64 (x1 + 1), rfl, ((Keep.of hB1).then hB2).below, hC2, hL1⟩
      · replace hL1 := ite_f hL1 hc1
        refine W_exit ?_
        refine nrm_exit ?_
        refine nrm_exit ?_
        refine blk_exit ?_
        have hq5 := Option.some.inj hL1
        subst hq5
        refine nrm_sub (l' := []) trivial ?_
        exact ⟨rfl, rfl, (Keep.of hB1).below, hC1⟩
  · rintro l3 _ w7 hs3 ⟨rfl, rfl, hB7, hC5⟩
    try dsimp only at hF
    refine nrm_sub' hs3 ?_
    clear hs3
    refine W_seq_reg ?_
    refine WL_assign rfl rfl ?_
    refine WL_nil ?_
    refine W_ret ?_
    have hq6 := Option.some.inj hF
    subst hq6
    refine fn_ret1 rfl rfl ?_
    exact ⟨_, rfl, bool_res hC5 _⟩

theorem c_M_within {w0 : World} (a1 : Int) (a2 : Int) (a3 : Int) (rr : Bool) (hF : M.within a1 a2 a3 = some rr) :
    Calls Try.prog 84 [(.int .i64 a1), (.int .i64 a2), (.int .i64 a3)].toArray w0 fun e w' => ∃ v, e = .returned v ∧ Res w0 rr v w' := by
  refine calls_of_W Try.func84 rfl rfl ?_
  have hC0 := Ctx.start w0
  unfold M.within at hF
  refine W_seq_reg ?_
  refine WL_assign rfl rfl ?_
  refine WL_nil ?_
  obtain ⟨r1, hr1, hF⟩ := bind_some hF
  refine W_cut (fun l w => ∃ x1 : Bool, x1 = r1 ∧ l = [(6, (.bool x1))] ∧ Below w0.heap.size w0 w ∧ Ctx [] w0 w []) ?_ ?_
  · refine W_reg ?_
    refine WL_move rfl rfl ?_
    refine WL_move rfl rfl ?_
    refine WL_geq rfl rfl rfl ?_
    refine WL_move rfl rfl ?_
    refine WL_fork (fun hc1 => ?_) (fun hc1 => ?_)
    · replace hr1 := ite_t hr1 hc1
      refine WL_guard rfl rfl ?_
      refine WL_move rfl rfl ?_
      refine WL_guard rfl rfl ?_
      refine WL_move rfl rfl ?_
      refine WL_guard rfl rfl ?_
      refine WL_leq rfl rfl rfl ?_
      refine WL_pick_t rfl rfl rfl ?_
      refine WL_assign rfl rfl ?_
      refine WL_nil ?_
      have hq1 := Option.some.inj hr1
      subst hq1
      refine nrm_sub (l' := [(6, (.bool (decide (a1 ≤ a3))))]) ⟨rfl, trivial⟩ ?_
      exact ⟨(decide (a1 ≤ a3)), rfl, rfl, (Below.refl _ _), hC0⟩
    · replace hr1 := ite_f hr1 hc1
      refine WL_guard_skip rfl rfl (by simp) rfl ?_
      refine WL_guard_skip rfl rfl (by simp) rfl ?_
      refine WL_guard_skip rfl rfl (by simp) rfl ?_
      refine WL_pick_f rfl rfl rfl ?_
      refine WL_assign rfl rfl ?_
      refine WL_nil ?_
      have hq2 := Option.some.inj hr1
      subst hq2
      refine nrm_sub (l' := [(6, (.bool false))]) ⟨rfl, trivial⟩ ?_
      exact ⟨false, rfl, rfl, (Below.refl _ _), hC0⟩
  · rintro _ w1 ⟨x1, rfl, rfl, hB1, hC1⟩
    try dsimp only at hF
    refine W_ret ?_
    have hq3 := Option.some.inj hF
    subst hq3
    refine fn_ret1 rfl rfl ?_
    exact ⟨_, rfl, bool_res hC1 _⟩

theorem c_M_isKey {w0 : World} (a1 : Int) (rr : Bool) (hF : M.isKey a1 = some rr) :
    Calls Try.prog 83 [(.int .i64 a1)].toArray w0 fun e w' => ∃ v, e = .returned v ∧ Res w0 rr v w' := by
  refine calls_of_W Try.func83 rfl rfl ?_
  have hC0 := Ctx.start w0
  unfold M.isKey at hF
  refine W_seq_reg ?_
  refine WL_assign rfl rfl ?_
  refine WL_nil ?_
  refine W_seq_reg ?_
  refine WL_move rfl rfl ?_
  obtain ⟨x1, hr1, hF⟩ := bind_some hF
  refine WL_call Try.call84 rfl rfl (c_M_within a1 0 1000000 x1 hr1) ?_
  intro _ w1 hv1
  obtain ⟨rfl, hB1⟩ := res_bool hv1
  have hC1 := hC0.grow hB1
  refine WL_assign rfl rfl ?_
  refine WL_nil ?_
  refine W_ret ?_
  have hq1 := Option.some.inj hF
  subst hq1
  refine fn_ret1 rfl rfl ?_
  exact ⟨_, rfl, bool_res hC1 _⟩

theorem c_M_IsLedger_c1 {w0 : World} (a1 : Int) (rr : Bool) (hF : M.IsLedger_c1 a1 = some rr) :
    Calls Try.prog 82 [(.int .i64 a1)].toArray w0 fun e w' => ∃ v, e = .returned v ∧ Res w0 rr v w' := by
  refine calls_of_W Try.func82 rfl rfl ?_
  have hC0 := Ctx.start w0
  unfold M.IsLedger_c1 at hF
  refine W_seq_reg ?_
  refine WL_assign rfl rfl ?_
  refine WL_nil ?_
  refine W_seq_reg ?_
  refine WL_move rfl rfl ?_
  obtain ⟨x1, hr1, hF⟩ := bind_some hF
  refine WL_call Try.call83 rfl rfl (c_M_isKey a1 x1 hr1) ?_
  intro _ w1 hv1
  obtain ⟨rfl, hB1⟩ := res_bool hv1
  have hC1 := hC0.grow hB1
  refine WL_not rfl rfl ?_
  refine WL_assign rfl rfl ?_
  refine WL_nil ?_
  refine W_ret ?_
  have hq1 := Option.some.inj hF
  subst hq1
  refine fn_ret1 rfl rfl ?_
  exact ⟨_, rfl, bool_res hC1 _⟩

theorem c_Slices_IndexFunc_Lint_int_F82 {w0 : World} (a1 : (List Int)) (u1 : Value) (g1 : RO [] w0 u1 a1) (rr : Int) (hF : Slices.IndexFunc_Lint_int_F82 a1 = some rr) :
    Calls Try.prog 115 [u1, (.func (.func 82) #[] #[])].toArray w0 fun e w' => ∃ v, e = .returned v ∧ Res w0 rr v w' := by
  refine calls_of_W Try.func115 rfl rfl ?_
  have hC0 := Ctx.start w0
  unfold Slices.IndexFunc_Lint_int_F82 at hF
  refine W_seq_reg ?_
  refine WL_assign rfl rfl ?_
  refine WL_nil ?_
  refine W_seq ?_
  refine W_seq_reg ?_
  refine WL_move rfl rfl ?_
  refine WL_len Try.underlying27 g1 rfl rfl ?_
  refine WL_move rfl rfl ?_
  refine WL_nil ?_
  obtain ⟨r1, hr1, hF⟩ := bind_some hF
  refine W_norm (fun l w => .inl () = r1 ∧ l = [] ∧ Below w0.heap.size w0 w ∧ Ctx [] w0 w []) ?_ ?_
  · refine W_block ?_
    refine W.sub (l' := [(0, u1), (1, (.func (.func 82) #[] #[])), (7, (.int .i64 (List.length a1 : Int))), (8, (.int .i64 0))]) ?_ ⟨rfl, rfl, rfl, rfl, trivial⟩
    refine W_loop (fun k l w => ∃ x1 : Int, l = [(0, u1), (1, (.func (.func 82) #[] #[])), (7, (.int .i64 (List.length a1 : Int))), (8, (.int .i64 x1))] ∧ Below w0.heap.size w0 w ∧ Ctx [] w0 w [] ∧ Slices.IndexFunc_Lint_int_F82_l1 a1 k x1 = some r1) FUEL ⟨0, rfl, (Below.refl _ _), hC0, hr1⟩ ?_
    clear hr1
    rintro k1 _ w1 ⟨x1, rfl, hB1, hC1, hL1⟩
    cases k1 with
    | zero => rw [Slices.IndexFunc_Lint_int_F82_l1] at hL1; cases hL1
    | succ k1 =>
      rw [Slices.IndexFunc_Lint_int_F82_l1] at hL1
      refine W_seq_reg ?_
      refine WL_lss rfl rfl rfl ?_
      refine WL_nil ?_
      refine W_seq ?_
      refine W_cond rfl (fun hc1 => ?_) (fun hc1 => ?_)
      · replace hL1 := ite_t hL1 hc1
        refine W_skip ?_
        refine nrm_normal ?_
        refine W_seq ?_
        refine W_block ?_
        refine W_seq_reg ?_
        refine WL_move rfl rfl ?_
        refine WL_assign rfl rfl ?_
        refine WL_nil ?_
        refine W_seq_reg ?_
        refine WL_move rfl rfl ?_
        refine WL_move rfl rfl ?_
        refine WL_move rfl rfl ?_
        obtain ⟨x2, hx1, hL1⟩ := bind_some hL1
        refine WL_index Try.underlying27 ty3 g1 hx1 rfl rfl rfl (fun b1 o1 h1 => ?_)
        refine WL_load ty3 h1 hC1.keep rfl rfl (fun v1 h2 => ?_)
        obtain rfl := ro_int h2
        obtain ⟨x3, hr2, hL1⟩ := bind_some hL1
        refine WL_callv (cap := []) Try.call82 rfl rfl rfl (c_M_IsLedger_c1 x2 x3 hr2) ?_
        intro _ w2 hv1
        obtain ⟨rfl, hB2⟩ := res_bool hv1
        have hC2 := hC1.grow hB2
        refine WL_nil ?_
        refine W_cond rfl (fun hc2 => ?_) (fun hc2 => ?_)
        · replace hL1 := ite_t hL1 hc2
          refine W_seq_reg ?_
          refine WL_move rfl rfl ?_
          refine WL_assign rfl rfl ?_
          refine WL_nil ?_
          refine W_ret ?_
          refine blk_ret ?_
          refine nrm_ret ?_
          refine nrm_ret ?_
          refine blk_ret ?_
          refine nrm_ret ?_
          refine nrm_ret ?_
          have hq1 := Option.some.inj hL1
          subst hq1
          dsimp only at hF
          have hq2 := Option.some.inj hF
          subst hq2
          refine fn_ret1 rfl rfl ?_
          exact ⟨_, rfl, int_res hC2 _⟩
        · replace hL1 := ite_f hL1 hc2
          refine W_skip ?_
          refine blk_normal ?_
          refine nrm_normal ?_
          refine W_reg ?_
          refine WL_add rfl rfl rfl ?_
          refine WL_move rfl rfl ?_
          refine WL_nil ?_
          refine nrm_sub (l' := [(0, u1), (1, (.func (.func 82) #[] #[])), (7, (.int .i64 (List.length a1 : Int))), (8, (.int .i64 (w64 (x1 + 1))))]) ⟨rfl, rfl, rfl, rfl, trivial⟩ ?_
          exact ⟨k1, Nat.lt_succ_self _, w64 (x1 + 1), rfl, ((Keep.of hB1).then hB2).below, hC2, hL1⟩
      · replace hL1 := ite_f hL1 hc1
        refine W_exit ?_
        refine nrm_exit ?_
        refine nrm_exit ?_
        refine blk_exit ?_
        have hq3 := Option.some.inj hL1
        subst hq3
        refine nrm_sub (l' := []) trivial ?_
        exact ⟨rfl, rfl, (Keep.of hB1).below, hC1⟩
  · rintro l2 _ w3 hs2 ⟨rfl, rfl, hB3, hC3⟩
    try dsimp only at hF
    refine nrm_sub' hs2 ?_
    clear hs2
    refine W_seq_reg ?_
    refine WL_assign rfl rfl ?_
    refine WL_nil ?_
    refine W_ret ?_
    have hq4 := Option.some.inj hF
    subst hq4
    refine fn_ret1 rfl rfl ?_
    exact ⟨_, rfl, int_res hC3 _⟩

theorem c_Slices_ContainsFunc_Lint_int_F82 {w0 : World} (a1 : (List Int)) (u1 : Value) (g1 : RO [] w0 u1 a1) (rr : Bool) (hF : Slices.ContainsFunc_Lint_int_F82 a1 = some rr) :
    Calls Try.prog 81 [u1, (.func (.func 82) #[] #[])].toArray w0 fun e w' => ∃ v, e = .returned v ∧ Res w0 rr v w' := by
  refine calls_of_W Try.func81 rfl rfl ?_
  have hC0 := Ctx.start w0
  unfold Slices.ContainsFunc_Lint_int_F82 at hF
  refine W_seq_reg ?_
  refine WL_assign rfl rfl ?_
  refine WL_nil ?_
  refine W_seq_reg ?_
  refine WL_move rfl rfl ?_
  refine WL_move rfl rfl ?_
  obtain ⟨x1, hr1, hF⟩ := bind_some hF
  refine WL_call Try.call115 rfl rfl (c_Slices_IndexFunc_Lint_int_F82 a1 u1 (g1.now hC0.keep) x1 hr1) ?_
  intro _ w1 hv1
  obtain ⟨rfl, hB1⟩ := res_int hv1
  have hC1 := hC0.grow hB1
  refine WL_geq rfl rfl rfl ?_
  refine WL_assign rfl rfl ?_
  refine WL_nil ?_
  refine W_ret ?_
  have hq1 := Option.some.inj hF
  subst hq1
  refine fn_ret1 rfl rfl ?_
  exact ⟨_, rfl, bool_res hC1 _⟩

theorem c_M_IsLedger {w0 : World} (a1 : ((List Int) × Int × Int)) (u1 : Value) (g1 : RO [] w0 u1 a1.1) (rr : Bool) (hF : M.IsLedger a1 = some rr) :
    Calls Try.prog 24 [(.agg #[u1, (.int .i64 a1.2.1), (.int .i64 a1.2.2)])].toArray w0 fun e w' => ∃ v, e = .returned v ∧ Res w0 rr v w' := by
  refine calls_of_W Try.func24 rfl rfl ?_
  have hC0 := Ctx.start w0
  unfold M.IsLedger at hF
  refine W_seq_reg ?_
  refine WL_box (cs := [u1, (.int .i64 a1.2.1), (.int .i64 a1.2.2)]) hC0 rfl rfl rfl (fun b1 w1 hC1 hB1 => ?_)
  refine WL_assign rfl rfl ?_
  refine WL_nil ?_
  obtain ⟨r1, hr1, hF⟩ := bind_some hF
  refine W_cut (fun l w => ∃ x1 : Bool, x1 = r1 ∧ l = [(2, (.bool x1))] ∧ Below w1.heap.size w1 w ∧ Ctx [] w0 w []) ?_ ?_
  · refine W_reg ?_
    refine WL_field Try.underlying32 rfl rfl (fun w => ⟨_, Try.sizeOf27 w⟩) rfl rfl ?_
    refine WL_load_box hC1 0 rfl rfl Try.isAgg27 rfl rfl ?_
    obtain ⟨x2, hr2, hr1⟩ := bind_some hr1
    refine WL_call Try.call80 rfl rfl (c_M_ascending a1.1 u1 (g1.now hC1.keep) x2 hr2) ?_
    intro _ w3 hv1
    obtain ⟨rfl, hB3⟩ := res_bool hv1
    have hC3 := hC1.grow hB3
    refine WL_move rfl rfl ?_
    refine WL_fork (fun hc1 => ?_) (fun hc1 => ?_)
    · replace hr1 := ite_t hr1 hc1
      refine WL_guard rfl rfl ?_
      refine WL_field Try.underlying32 rfl rfl (fun w => ⟨_, Try.sizeOf27 w⟩) rfl rfl ?_
      refine WL_guard rfl rfl ?_
      refine WL_load_box hC3 0 rfl rfl Try.isAgg27 rfl rfl ?_
      obtain ⟨x3, hr3, hr1⟩ := bind_some hr1
      refine WL_guard rfl rfl ?_
      refine WL_call Try.call81 rfl rfl (c_Slices_ContainsFunc_Lint_int_F82 a1.1 u1 (g1.now hC3.keep) x3 hr3) ?_
      intro _ w4 hv2
      obtain ⟨rfl, hB4⟩ := res_bool hv2
      have hC4 := hC3.grow hB4
      refine WL_guard rfl rfl ?_
      refine WL_not rfl rfl ?_
      refine WL_pick_t rfl rfl rfl ?_
      refine WL_move rfl rfl ?_
      refine WL_fork (fun hc2 => ?_) (fun hc2 => ?_)
      · replace hr1 := ite_t hr1 hc2
        refine WL_guard rfl rfl ?_
        refine WL_field Try.underlying32 rfl rfl (fun w => ⟨_, Try.sizeOf3 w⟩) rfl rfl ?_
        refine WL_guard rfl rfl ?_
        refine WL_load_box hC4 0 rfl rfl Try.isAgg3 rfl rfl ?_
        obtain ⟨x4, hr4, hr1⟩ := bind_some hr1
        refine WL_guard rfl rfl ?_
        refine WL_call Try.call84 rfl rfl (c_M_within a1.2.1 0 1000000000 x4 hr4) ?_
        intro _ w5 hv3
        obtain ⟨rfl, hB5⟩ := res_bool hv3
        have hC5 := hC4.grow hB5
        refine WL_pick_t rfl rfl rfl ?_
        refine WL_move rfl rfl ?_
        refine WL_fork (fun hc3 => ?_) (fun hc3 => ?_)
        · replace hr1 := ite_t hr1 hc3
          refine WL_guard rfl rfl ?_
          refine WL_field Try.underlying32 rfl rfl (fun w => ⟨_, Try.sizeOf3 w⟩) rfl rfl ?_
          refine WL_guard rfl rfl ?_
          refine WL_load_box hC5 0 rfl rfl Try.isAgg3 rfl rfl ?_
          obtain ⟨x5, hr5, hr1⟩ := bind_some hr1
          refine WL_guard rfl rfl ?_
          refine WL_call Try.call84 rfl rfl (c_M_within a1.2.2 0 1000000000 x5 hr5) ?_
          intro _ w6 hv4
          obtain ⟨rfl, hB6⟩ := res_bool hv4
          have hC6 := hC5.grow hB6
          refine WL_pick_t rfl rfl rfl ?_
          refine WL_assign rfl rfl ?_
          refine WL_nil ?_
          have hq1 := Option.some.inj hr1
          subst hq1
          have hC7 := hC6.headN 0
          dsimp only [List.take] at hC7
          refine nrm_sub (l' := [(2, (.bool x5))]) ⟨rfl, trivial⟩ ?_
          exact ⟨x5, rfl, rfl, ((((Keep.of hB3).then hB4).then hB5).then hB6).below, hC7⟩
        · replace hr1 := ite_f hr1 hc3
          refine WL_guard_skip rfl rfl (by simp) rfl ?_
          refine WL_guard_skip rfl rfl (by simp) rfl ?_
          refine WL_guard_skip rfl rfl (by simp) rfl ?_
          refine WL_pick_f rfl rfl rfl ?_
          refine WL_assign rfl rfl ?_
          refine WL_nil ?_
          have hq2 := Option.some.inj hr1
          subst hq2
          have hC8 := hC5.headN 0
          dsimp only [List.take] at hC8
          refine nrm_sub (l' := [(2, (.bool false))]) ⟨rfl, trivial⟩ ?_
          exact ⟨false, rfl, rfl, (((Keep.of hB3).then hB4).then hB5).below, hC8⟩
      · replace hr1 := ite_f hr1 hc2
        refine WL_guard_skip rfl rfl (by simp) rfl ?_
        refine WL_guard_skip rfl rfl (by simp) rfl ?_
        refine WL_guard_skip rfl rfl (by simp) rfl ?_
        refine WL_pick_f rfl rfl rfl ?_
        refine WL_move rfl rfl ?_
        refine WL_guard_skip rfl rfl (by simp) rfl ?_
        refine WL_guard_skip rfl rfl (by simp) rfl ?_
        refine WL_guard_skip rfl rfl (by simp) rfl ?_
        refine WL_pick_f rfl rfl rfl ?_
        refine WL_assign rfl rfl ?_
        refine WL_nil ?_
        have hq3 := Option.some.inj hr1
        subst hq3
        have hC9 := hC4.headN 0
        dsimp only [List.take] at hC9
        refine nrm_sub (l' := [(2, (.bool false))]) ⟨rfl, trivial⟩ ?_
        exact ⟨false, rfl, rfl, ((Keep.of hB3).then hB4).below, hC9⟩
    · replace hr1 := ite_f hr1 hc1
      refine WL_guard_skip rfl rfl (by simp) rfl ?_
      refine WL_guard_skip rfl rfl (by simp) rfl ?_
      refine WL_guard_skip rfl rfl (by simp) rfl ?_
      refine WL_guard_skip rfl rfl (by simp) rfl ?_
      refine WL_pick_f rfl rfl rfl ?_
      refine WL_move rfl rfl ?_
      refine WL_guard_skip rfl rfl (by simp) rfl ?_
      refine WL_guard_skip rfl rfl (by simp) rfl ?_
      refine WL_guard_skip rfl rfl (by simp) rfl ?_
      refine WL_pick_f rfl rfl rfl ?_
      refine WL_move rfl rfl ?_
      refine WL_guard_skip rfl rfl (by simp) rfl ?_
      refine WL_guard_skip rfl rfl (by simp) rfl ?_
      refine WL_guard_skip rfl rfl (by simp) rfl ?_
      refine WL_pick_f rfl rfl rfl ?_
      refine WL_assign rfl rfl ?_
      refine WL_nil ?_
      have hq4 := Option.some.inj hr1
      subst hq4
      have hC10 := hC3.headN 0
      dsimp only [List.take] at hC10
      refine nrm_sub (l' := [(2, (.bool false))]) ⟨rfl, trivial⟩ ?_
      exact ⟨false, rfl, rfl, (Keep.of hB3).below, hC10⟩
  · rintro _ w2 ⟨x1, rfl, rfl, hB2, hC2⟩
    try dsimp only at hF
    refine W_ret ?_
    have hq5 := Option.some.inj hF
    subst hq5
    refine fn_ret1 rfl rfl ?_
    exact ⟨_, rfl, bool_res hC2 _⟩

theorem c_Q_eqIntS {w0 : World} (a1 : (List Int)) (u1 : Value) (g1 : RO [] w0 u1 a1) (a2 : (List Int)) (u2 : Value) (g2 : RO [] w0 u2 a2) (rr : Bool) (hF : Q.eqIntS a1 a2 = some rr) :
    Calls Try.prog 30 [u1, u2].toArray w0 fun e w' => ∃ v, e = .returned v ∧ Res w0 rr v w' := by
  refine calls_of_W Try.func30 rfl rfl ?_
  have hC0 := Ctx.start w0
  unfold Q.eqIntS at hF
  refine W_seq_reg ?_
  refine WL_assign rfl rfl ?_
  refine WL_nil ?_
  refine W_seq ?_
  refine W_seq_reg ?_
  refine WL_move rfl rfl ?_
  refine WL_len Try.underlying27 g1 rfl rfl ?_
  refine WL_move rfl rfl ?_
  refine WL_len Try.underlying27 g2 rfl rfl ?_
  refine WL_neq rfl rfl rfl ?_
  refine WL_nil ?_
  refine W_cond rfl (fun hc1 => ?_) (fun hc1 => ?_)
  · replace hF := ite_t hF hc1
    refine W_seq_reg ?_
    refine WL_assign rfl rfl ?_
    refine WL_nil ?_
    refine W_ret ?_
    refine nrm_ret ?_
    have hq1 := Option.some.inj hF
    subst hq1
    refine fn_ret1 rfl rfl ?_
    exact ⟨_, rfl, bool_res hC0 _⟩
  · replace hF := ite_f hF hc1
    refine W_skip ?_
    refine nrm_normal ?_
    refine W_seq ?_
    refine W_seq_reg ?_
    refine WL_assign rfl rfl ?_
    refine WL_nil ?_
    obtain ⟨r1, hr1, hF⟩ := bind_some hF
    refine W_norm (fun l w => .inl () = r1 ∧ l = [] ∧ Below w0.heap.size w0 w ∧ Ctx [] w0 w []) ?_ ?_
    · refine W_block ?_
      refine W.sub (l' := [(0, u1), (1, u2), (5, (.int .i64 0))]) ?_ ⟨rfl, rfl, rfl, trivial⟩
      refine W_loop (fun k l w => ∃ x1 : Int, l = [(0, u1), (1, u2), (5, (.int .i64 x1))] ∧ Below w0.heap.size w0 w ∧ Ctx [] w0 w [] ∧ Q.eqIntS_l1 a1 a2 k x1 = some r1) FUEL ⟨0, rfl, (Below.refl _ _), hC0, hr1⟩ ?_
      clear hr1
      rintro k1 _ w1 ⟨x1, rfl, hB1, hC1, hL1⟩
      cases k1 with
      | zero => rw [Q.eqIntS_l1] at hL1; cases hL1
      | succ k1 =>
        rw [Q.eqIntS_l1] at hL1
        refine W_seq ?_
        refine W_seq_reg ?_
        refine WL_move rfl rfl ?_
        refine WL_move rfl rfl ?_
        refine WL_len Try.underlying27 g1 rfl rfl ?_
        refine WL_lss rfl rfl rfl ?_
        refine WL_nil ?_
        refine W_cond rfl (fun hc2 => ?_) (fun hc2 => ?_)
        · replace hL1 := ite_t hL1 hc2
          refine W_skip ?_
          refine nrm_normal ?_
          refine W_seq ?_
          refine W_block ?_
          refine W_seq ?_
          obtain ⟨x2, hx1, hL1⟩ := bind_some hL1
          obtain ⟨x3, hx2, hL1⟩ := bind_some hL1
          refine W.sub (l' := [(0, u1), (1, u2), (5, (.int .i64 x1)), (11, (.int .i64 x1)), (12, u1), (13, (.int .i64 (List.length a1 : Int))), (14, (.bool (decide (x1 < (List.length a1 : Int)))))]) ?_ ⟨rfl, rfl, rfl, rfl, rfl, rfl, rfl, trivial⟩
          refine W_any 8 [PV.val u1, PV.val (.int .i64 x1), PV.at [] w0 x2, PV.val (.int .i64 x2), PV.val u2, PV.val (.int .i64 x1), PV.at [] w0 x3, PV.val (.int .i64 x3)] [[], [], [0, 1], [2], [], [], [4, 5], [6]] hmix (by kernel_rfl) rfl ?_ ?_
          · refine Steps_cons ?_ ?_
            · intro w2 hB2
              refine DepsK_nil ?_
              refine WL_move rfl rfl ?_
              refine WL_nil ?_
              exact Fin1_val (Below.refl _ _) rfl rfl ⟨rfl, rfl⟩
            refine Steps_cons ?_ ?_
            · intro w2 hB2
              refine DepsK_nil ?_
              refine WL_move rfl rfl ?_
              refine WL_nil ?_
              exact Fin1_val (Below.refl _ _) rfl rfl ⟨rfl, rfl⟩
            refine Steps_cons ?_ ?_
            · intro w2 hB2
              refine DepsK_cons rfl rfl ?_
              rintro _ _ ⟨rfl, rfl⟩
              refine DepsK_cons rfl rfl ?_
              rintro _ _ ⟨rfl, rfl⟩
              refine DepsK_nil ?_
              refine WL_index Try.underlying27 ty3 g1 hx1 rfl rfl rfl (fun b1 o1 h1 => ?_)
              refine WL_nil ?_
              exact Fin1_val (Below.refl _ _) rfl rfl ⟨rfl, _, _, rfl, h1⟩
            refine Steps_cons ?_ ?_
            · intro w2 hB2
              refine DepsK_cons rfl rfl ?_
              rintro _ _ ⟨rfl, b1, o1, rfl, h1⟩
              refine DepsK_nil ?_
              refine WL_load ty3 h1 (hC1.keep.then hB2) rfl rfl (fun v1 h2 => ?_)
              obtain rfl := ro_int h2
              refine WL_nil ?_
              exact Fin1_val (Below.refl _ _) rfl rfl ⟨rfl, rfl⟩
            refine Steps_cons ?_ ?_
            · intro w2 hB2
              refine DepsK_nil ?_
              refine WL_move rfl rfl ?_
              refine WL_nil ?_
              exact Fin1_val (Below.refl _ _) rfl rfl ⟨rfl, rfl⟩
            refine Steps_cons ?_ ?_
            · intro w2 hB2
              refine DepsK_nil ?_
              refine WL_move rfl rfl ?_
              refine WL_nil ?_
              exact Fin1_val (Below.refl _ _) rfl rfl ⟨rfl, rfl⟩
            refine Steps_cons ?_ ?_
            · intro w2 hB2
              refine DepsK_cons rfl rfl ?_
              rintro _ _ ⟨rfl, rfl⟩
              refine DepsK_cons rfl rfl ?_
              rintro _ _ ⟨rfl, rfl⟩
              refine DepsK_nil ?_
              refine WL_index Try.underlying27 ty3 g2 hx2 rfl rfl rfl (fun b2 o2 h3 => ?_)
              refine WL_nil ?_
              exact Fin1_val (Below.refl _ _) rfl rfl ⟨rfl, _, _, rfl, h3⟩
            refine Steps_cons ?_ ?_
            · intro w2 hB2
              refine DepsK_cons rfl rfl ?_
              rintro _ _ ⟨rfl, b2, o2, rfl, h3⟩
              refine DepsK_nil ?_
              refine WL_load ty3 h3 (hC1.keep.then hB2) rfl rfl (fun v2 h4 => ?_)
              obtain rfl := ro_int h4
              refine WL_nil ?_
              exact Fin1_val (Below.refl _ _) rfl rfl ⟨rfl, rfl⟩
            exact Steps_nil
          · intro w3 hB3
            refine AllK_cons rfl ?_
            rintro _ _ ⟨rfl, rfl⟩
            refine AllK_cons rfl ?_
            rintro _ _ ⟨rfl, rfl⟩
            refine AllK_cons rfl ?_
            rintro _ _ ⟨rfl, b1, o1, rfl, h1⟩
            refine AllK_cons rfl ?_
            rintro _ _ ⟨rfl, rfl⟩
            refine AllK_cons rfl ?_
            rintro _ _ ⟨rfl, rfl⟩
            refine AllK_cons rfl ?_
            rintro _ _ ⟨rfl, rfl⟩
            refine AllK_cons rfl ?_
            rintro _ _ ⟨rfl, b2, o2, rfl, h3⟩
            refine AllK_cons rfl ?_
            rintro _ _ ⟨rfl, rfl⟩
            refine AllK_nil ?_
            intro hn1 hb1
            have hC2 := hC1.grow hB3
            refine WL_neq rfl rfl rfl ?_
            refine WL_nil ?_
            refine nrm_normal ?_
            refine W_cond rfl (fun hc3 => ?_) (fun hc3 => ?_)
            · replace hL1 := ite_t hL1 hc3
              refine W_seq_reg ?_
              refine WL_assign rfl rfl ?_
              refine WL_nil ?_
              refine W_ret ?_
              refine blk_ret ?_
              refine nrm_ret ?_
              refine nrm_ret ?_
              refine blk_ret ?_
              refine nrm_ret ?_
              refine nrm_ret ?_
              have hq2 := Option.some.inj hL1
              subst hq2
              dsimp only at hF
              have hq3 := Option.some.inj hF
              subst hq3
              refine fn_ret1 rfl rfl ?_
              exact ⟨_, rfl, bool_res hC2 _⟩
            · replace hL1 := ite_f hL1 hc3
              refine W_skip ?_
              refine blk_normal ?_
              refine nrm_normal ?_
              refine W_reg ?_
              refine WL_move rfl rfl ?_
              refine WL_add rfl rfl rfl ?_
              refine WL_assign rfl rfl ?_
              refine WL_nil ?_
              refine nrm_sub (l' := [(0, u1), (1, u2), (5, (.int .i64 (w64 (x1 + 1))))]) ⟨rfl, rfl, rfl, trivial⟩ ?_
              exact ⟨k1, Nat.lt_succ_self _, w64 (x1 + 1), rfl, ((Keep.of hB1).then hB3).below, hC2, hL1⟩
        · replace hL1 := ite_f hL1 hc2
          refine W_exit ?_
          refine nrm_exit ?_
          refine nrm_exit ?_
          refine blk_exit ?_
          have hq4 := Option.some.inj hL1
          subst hq4
          refine nrm_sub (l' := []) trivial ?_
          exact ⟨rfl, rfl, (Keep.of hB1).below, hC1⟩
    · rintro l2 _ w4 hs2 ⟨rfl, rfl, hB4, hC3⟩
      try dsimp only at hF
      refine nrm_sub' hs2 ?_
      clear hs2
      refine W_seq_reg ?_
      refine WL_assign rfl rfl ?_
      refine WL_nil ?_
      refine W_ret ?_
      have hq5 := Option.some.inj hF
      subst hq5
      refine fn_ret1 rfl rfl ?_
      exact ⟨_, rfl, bool_res hC3 _⟩

theorem c_Q_eqLedger {w0 : World} (a1 : ((List Int) × Int × Int)) (u1 : Value) (g1 : RO [] w0 u1 a1.1) (a2 : ((List Int) × Int × Int)) (u2 : Value) (g2 : RO [] w0 u2 a2.1) (rr : Bool) (hF : Q.eqLedger a1 a2 = some rr) :
    Calls Try.prog 25 [(.agg #[u1, (.int .i64 a1.2.1), (.int .i64 a1.2.2)]), (.agg #[u2, (.int .i64 a2.2.1), (.int .i64 a2.2.2)])].toArray w0 fun e w' => ∃ v, e = .returned v ∧ Res w0 rr v w' := by
  refine calls_of_W Try.func25 rfl rfl ?_
  have hC0 := Ctx.start w0
  unfold Q.eqLedger at hF
  refine W_seq_reg ?_
  refine WL_box (cs := [u1, (.int .i64 a1.2.1), (.int .i64 a1.2.2)]) hC0 rfl rfl rfl (fun b1 w1 hC1 hB1 => ?_)
  refine WL_box (cs := [u2, (.int .i64 a2.2.1), (.int .i64 a2.2.2)]) hC1 rfl rfl rfl (fun b2 w2 hC2 hB2 => ?_)
  refine WL_assign rfl rfl ?_
  refine WL_nil ?_
  refine W_seq ?_
  refine W_seq_reg ?_
  refine WL_field Try.underlying32 rfl rfl (fun w => ⟨_, Try.sizeOf27 w⟩) rfl rfl ?_
  refine WL_load_box hC2 1 rfl rfl Try.isAgg27 rfl rfl ?_
  refine WL_field Try.underlying32 rfl rfl (fun w => ⟨_, Try.sizeOf27 w⟩) rfl rfl ?_
  refine WL_load_box hC2 0 rfl rfl Try.isAgg27 rfl rfl ?_
  obtain ⟨x1, hr1, hF⟩ := bind_some hF
  refine WL_call Try.call30 rfl rfl (c_Q_eqIntS a1.1 u1 (g1.now hC2.keep) a2.1 u2 (g2.now hC2.keep) x1 hr1) ?_
  intro _ w3 hv1
  obtain ⟨rfl, hB3⟩ := res_bool hv1
  have hC3 := hC2.grow hB3
  refine WL_not rfl rfl ?_
  refine WL_nil ?_
  refine W_cond rfl (fun hc1 => ?_) (fun hc1 => ?_)
  · replace hF := ite_t hF hc1
    refine W_seq_reg ?_
    refine WL_assign rfl rfl ?_
    refine WL_nil ?_
    refine W_ret ?_
    refine nrm_ret ?_
    have hq1 := Option.some.inj hF
    subst hq1
    refine fn_ret1 rfl rfl ?_
    exact ⟨_, rfl, bool_res hC3 _⟩
  · replace hF := ite_f hF hc1
    refine W_skip ?_
    refine nrm_normal ?_
    refine W_seq ?_
    refine W_seq_reg ?_
    refine WL_field Try.underlying32 rfl rfl (fun w => ⟨_, Try.sizeOf3 w⟩) rfl rfl ?_
    refine WL_load_box hC3 1 rfl rfl Try.isAgg3 rfl rfl ?_
    refine WL_field Try.underlying32 rfl rfl (fun w => ⟨_, Try.sizeOf3 w⟩) rfl rfl ?_
    refine WL_load_box hC3 0 rfl rfl Try.isAgg3 rfl rfl ?_
    refine WL_neq rfl rfl rfl ?_
    refine WL_nil ?_
    refine W_cond rfl (fun hc2 => ?_) (fun hc2 => ?_)
    · replace hF := ite_t hF hc2
      refine W_seq_reg ?_
      refine WL_assign rfl rfl ?_
      refine WL_nil ?_
      refine W_ret ?_
      refine nrm_ret ?_
      have hq2 := Option.some.inj hF
      subst hq2
      refine fn_ret1 rfl rfl ?_
      exact ⟨_, rfl, bool_res hC3 _⟩
    · replace hF := ite_f hF hc2
      refine W_skip ?_
      refine nrm_normal ?_
      refine W_seq ?_
      refine W_seq_reg ?_
      refine WL_field Try.underlying32 rfl rfl (fun w => ⟨_, Try.sizeOf3 w⟩) rfl rfl ?_
      refine WL_load_box hC3 1 rfl rfl Try.isAgg3 rfl rfl ?_
      refine WL_field Try.underlying32 rfl rfl (fun w => ⟨_, Try.sizeOf3 w⟩) rfl rfl ?_
      refine WL_load_box hC3 0 rfl rfl Try.isAgg3 rfl rfl ?_
      refine WL_neq rfl rfl rfl ?_
      refine WL_nil ?_
      refine W_cond rfl (fun hc3 => ?_) (fun hc3 => ?_)
      · replace hF := ite_t hF hc3
        refine W_seq_reg ?_
        refine WL_assign rfl rfl ?_
        refine WL_nil ?_
        refine W_ret ?_
        refine nrm_ret ?_
        have hq3 := Option.some.inj hF
        subst hq3
        refine fn_ret1 rfl rfl ?_
        exact ⟨_, rfl, bool_res hC3 _⟩
      · replace hF := ite_f hF hc3
        refine W_skip ?_
        refine nrm_normal ?_
        refine W_seq_reg ?_
        refine WL_assign rfl rfl ?_
        refine WL_nil ?_
        refine W_ret ?_
        have hq4 := Option.some.inj hF
        subst hq4
        refine fn_ret1 rfl rfl ?_
        exact ⟨_, rfl, bool_res hC3 _⟩

theorem c_Q_FnExactIsLedger {w0 : World} (a1 : ((List Int) × Int × Int)) (u1 : Value) (g1 : RO [] w0 u1 a1.1) (rr : Bool) (hF : Q.FnExactIsLedger a1 = some rr) :
    Calls Try.prog 6 [(.agg #[u1, (.int .i64 a1.2.1), (.int .i64 a1.2.2)])].toArray w0 fun e w' => ∃ v, e = .returned v ∧ Res w0 rr v w' := by
  refine calls_of_W Try.func6 rfl rfl ?_
  have hC0 := Ctx.start w0
  unfold Q.FnExactIsLedger at hF
  refine W_seq_reg ?_
  refine WL_box (cs := [u1, (.int .i64 a1.2.1), (.int .i64 a1.2.2)]) hC0 rfl rfl rfl (fun b1 w1 hC1 hB1 => ?_)
  refine WL_assign rfl rfl ?_
  refine WL_nil ?_
  refine W_seq_reg ?_
  refine WL_assign rfl rfl ?_
  refine WL_nil ?_
  refine W_seq_reg ?_
  refine WL_load_box_agg [u1, (.int .i64 a1.2.1), (.int .i64 a1.2.2)] hC1 0 rfl rfl rfl Try.isAgg29 Try.sizeOf29 rfl rfl ?_
  refine WL_move rfl rfl ?_
  obtain ⟨x1, hr1, hF⟩ := bind_some hF
  refine WL_call Try.call21 rfl rfl (c_Q_szLedger (a1.1, a1.2.1, a1.2.2) u1 (g1.now hC1.keep) 1048576 x1 hr1) ?_
  intro _ w2 hv1
  obtain ⟨rfl, hB2⟩ := res_int hv1
  have hC2 := hC1.grow hB2
  refine WL_assign rfl rfl ?_
  refine WL_nil ?_
  refine W_seq ?_
  refine W_seq_reg ?_
  refine WL_move rfl rfl ?_
  refine WL_lss rfl rfl rfl ?_
  refine WL_nil ?_
  refine W_cond rfl (fun hc1 => ?_) (fun hc1 => ?_)
  · replace hF := ite_t hF hc1
    refine W_seq_reg ?_
    refine WL_assign rfl rfl ?_
    refine WL_nil ?_
    refine W_ret ?_
    refine nrm_ret ?_
    have hq1 := Option.some.inj hF
    subst hq1
    refine fn_ret1 rfl rfl ?_
    exact ⟨_, rfl, bool_res hC2 _⟩
  · replace hF := ite_f hF hc1
    refine W_skip ?_
    refine nrm_normal ?_
    refine W_seq_reg ?_
    refine WL_load_box_agg [u1, (.int .i64 a1.2.1), (.int .i64 a1.2.2)] hC2 0 rfl rfl rfl Try.isAgg29 Try.sizeOf29 rfl rfl ?_
    obtain ⟨x2, hr2, hF⟩ := bind_some hF
    refine WL_call Try.call23 rfl rfl (c_Q_toLedger (a1.1, a1.2.1, a1.2.2) u1 (g1.now hC2.keep) x2 hr2) ?_
    rintro v1 w3 ⟨hB3, F1, hv2, hn1, hb1⟩
    have hC3 := hC2.push hB3 (A := Item.own v1 x2) hv2 hn1 hb1
    obtain ⟨v2, rfl, hC4⟩ := st32_own hC3
    obtain ⟨x3, hr3, hF⟩ := bind_some hF
    refine WL_call Try.call22 rfl rfl (c_S_IsLedger x2 v2 ((hC4.ro 0 rfl).now (Keep.refl _ _)) x3 hr3) ?_
    intro _ w4 hv3
    obtain ⟨rfl, hB4⟩ := res_bool hv3
    have hC5 := hC4.grow hB4
    refine WL_assign rfl rfl ?_
    refine WL_nil ?_
    refine W_seq_reg ?_
    refine WL_load_box_agg [u1, (.int .i64 a1.2.1), (.int .i64 a1.2.2)] hC5 1 rfl rfl rfl Try.isAgg29 Try.sizeOf29 rfl rfl ?_
    obtain ⟨x4, hr4, hF⟩ := bind_some hF
    refine WL_call Try.call23 rfl rfl (c_Q_toLedger (a1.1, a1.2.1, a1.2.2) u1 (g1.now hC5.keep) x4 hr4) ?_
    rintro v3 w5 ⟨hB5, F2, hv4, hn2, hb2⟩
    have hC6 := hC5.push hB5 (A := Item.own v3 x4) hv4 hn2 hb2
    obtain ⟨v4, rfl, hC7⟩ := st32_own hC6
    refine WL_alloc hC7 zero32 rfl rfl (fun b2 w6 hC8 hB6 => ?_)
    refine WL_store_box_agg (cs' := [v4, (.int .i64 x4.2.1), (.int .i64 x4.2.2)]) (new := [v4, (.int .i64 x4.2.1), (.int .i64 x4.2.2)]) hC8 0 rfl rfl (by intro v hv; simp only [List.mem_cons, List.not_mem_nil, or_false] at hv; rcases hv with rfl | rfl | rfl; exact (ro_one (hC8.ro 1 rfl)); exact rfl; exact rfl) rfl Try.sizeOf32 rfl rfl (fun w7 hC9 => ?_)
    try dsimp only [List.set] at hC9
    refine WL_nil ?_
    refine W_seq_reg ?_
    refine WL_load_box_agg [v4, (.int .i64 x4.2.1), (.int .i64 x4.2.2)] hC9 0 rfl rfl rfl Try.isAgg32 Try.sizeOf32 rfl rfl ?_
    obtain ⟨x5, hr5, hF⟩ := bind_some hF
    refine WL_call Try.call24 rfl rfl (c_M_IsLedger (x4.1, x4.2.1, x4.2.2) v4 ((hC9.ro 1 rfl).now (Keep.refl _ _)) x5 hr5) ?_
    intro _ w8 hv5
    obtain ⟨rfl, hB7⟩ := res_bool hv5
    have hC10 := hC9.grow hB7
    refine WL_assign rfl rfl ?_
    refine WL_nil ?_
    refine W_seq ?_
    refine W_seq_reg ?_
    refine WL_move rfl rfl ?_
    refine WL_move rfl rfl ?_
    refine WL_bool_neq Try.underlying4 rfl rfl rfl ?_
    refine WL_nil ?_
    refine W_cond rfl (fun hc2 => ?_) (fun hc2 => ?_)
    · replace hF := ite_t hF hc2
      refine W_seq_reg ?_
      refine WL_assign rfl rfl ?_
      refine WL_nil ?_
      refine W_ret ?_
      refine nrm_ret ?_
      have hq2 := Option.some.inj hF
      subst hq2
      refine fn_ret1 rfl rfl ?_
      exact ⟨_, rfl, bool_res hC10 _⟩
    · replace hF := ite_f hF hc2
      refine W_skip ?_
      refine nrm_normal ?_
      refine W_seq ?_
      refine W_seq ?_
      obtain ⟨x6, hr6, hF⟩ := bind_some hF
      refine W.sub (l' := [(0, (.agg #[u1, (.int .i64 a1.2.1), (.int .i64 a1.2.2)])), (1, (ptr b1 0)), (2, (.bool false)), (3, (.int .i64 x1)), (4, (.bool x3)), (5, (ptr b2 0)), (6, (.bool x5)), (7, (.agg #[u1, (.int .i64 a1.2.1), (.int .i64 a1.2.2)])), (8, (.int .i64 1048576)), (9, (.int .i64 x1)), (10, (.int .i64 x1)), (11, (.bool (decide (x1 < 0)))), (12, (.agg #[u1, (.int .i64 a1.2.1), (.int .i64 a1.2.2)])), (13, (.agg #[v2, (.int .i64 x2.2.1), (.int .i64 x2.2.2)])), (14, (.bool x3)), (15, (.agg #[u1, (.int .i64 a1.2.1), (.int .i64 a1.2.2)])), (16, (.agg #[v4, (.int .i64 x4.2.1), (.int .i64 x4.2.2)])), (17, (.agg #[v4, (.int .i64 x4.2.1), (.int .i64 x4.2.2)])), (18, (.bool x5)), (19, (.bool x5)), (20, (.bool x3)), (21, (.bool (!decide (x5 = x3))))]) ?_ ⟨rfl, rfl, rfl, rfl, rfl, rfl, rfl, rfl, rfl, rfl, rfl, rfl, rfl, rfl, rfl, rfl, rfl, rfl, rfl, rfl, rfl, rfl, trivial⟩
      refine W_any 3 [PV.val (.agg #[v4, (.int .i64 x4.2.1), (.int .i64 x4.2.2)]), PV.val (.agg #[u1, (.int .i64 a1.2.1), (.int .i64 a1.2.2)]), PV.own x6] [[], [], [1]] hmix (by kernel_rfl) rfl ?_ ?_
      · refine Steps_cons ?_ ?_
        · intro w10 hB9
          refine DepsK_nil ?_
          refine WL_load_box_agg [v4, (.int .i64 x4.2.1), (.int .i64 x4.2.2)] (hC10.grow hB9) 0 rfl rfl rfl Try.isAgg32 Try.sizeOf32 rfl rfl ?_
          refine WL_nil ?_
          exact Fin1_val (Below.refl _ _) rfl rfl ⟨rfl, rfl⟩
        refine Steps_cons ?_ ?_
        · intro w10 hB9
          refine DepsK_nil ?_
          refine WL_load_box_agg [u1, (.int .i64 a1.2.1), (.int .i64 a1.2.2)] (hC10.grow hB9) 3 rfl rfl rfl Try.isAgg29 Try.sizeOf29 rfl rfl ?_
          refine WL_nil ?_
          exact Fin1_val (Below.refl _ _) rfl rfl ⟨rfl, rfl⟩
        refine Steps_cons ?_ ?_
        · intro w10 hB9
          refine DepsK_cons rfl rfl ?_
          rintro _ _ ⟨rfl, rfl⟩
          refine DepsK_nil ?_
          refine WL_call Try.call23 rfl rfl (c_Q_toLedger (a1.1, a1.2.1, a1.2.2) u1 (g1.now (hC10.keep.then hB9)) x6 hr6) ?_
          rintro v5 w9 ⟨hB8, F3, hv6, hn3, hb3⟩
          refine WL_nil ?_
          exact Fin1_own hB8 rfl rfl hv6 hn3 hb3 (Val.inh hv6)
        exact Steps_nil
      · intro w11 hB10
        refine AllK_cons rfl ?_
        rintro _ _ ⟨rfl, rfl⟩
        refine AllK_cons rfl ?_
        rintro _ _ ⟨rfl, rfl⟩
        refine AllK_cons rfl ?_
        intro v5 F3 hv6
        refine AllK_nil ?_
        intro hn4 hb4
        have hC11 := hC10.pushL hB10 (Bs := [Item.own v5 x6]) (Fs := [F3]) ⟨F3, _, rfl, hv6, rfl⟩ (by simpa using hn4) (fun b h => (hb4 b (by simpa using h)).1)
        obtain ⟨v7, rfl, hC12⟩ := st32_own hC11
        obtain ⟨x7, hr7, hF⟩ := bind_some hF
        refine WL_call Try.call25 rfl rfl (c_Q_eqLedger (x4.1, x4.2.1, x4.2.2) v4 ((hC12.ro 2 rfl).now (Keep.refl _ _)) x6 v7 ((hC12.ro 0 rfl).now (Keep.refl _ _)) x7 hr7) ?_
        intro _ w12 hv7
        obtain ⟨rfl, hB11⟩ := res_bool hv7
        have hC13 := hC12.grow hB11
        refine WL_not rfl rfl ?_
        refine WL_nil ?_
        refine nrm_normal ?_
        refine W_cond rfl (fun hc3 => ?_) (fun hc3 => ?_)
        · replace hF := ite_t hF hc3
          refine W_seq_reg ?_
          refine WL_assign rfl rfl ?_
          refine WL_nil ?_
          refine W_ret ?_
          refine nrm_ret ?_
          have hq3 := Option.some.inj hF
          subst hq3
          refine fn_ret1 rfl rfl ?_
          exact ⟨_, rfl, bool_res hC13 _⟩
        · replace hF := ite_f hF hc3
          refine W_skip ?_
          refine nrm_normal ?_
          refine W_seq_reg ?_
          refine WL_assign rfl rfl ?_
          refine WL_nil ?_
          refine W_ret ?_
          have hq4 := Option.some.inj hF
          subst hq4
          refine fn_ret1 rfl rfl ?_
          exact ⟨_, rfl, bool_res hC13 _⟩

end Go.Gx.Px
