/- The contracts of the Go functions against the pure functions, printed by program. Conditions: each says them. -/
import Derived.Test.YtdkfiadoiapnbaaGreatC1
set_option linter.unusedVariables false
set_option linter.unusedSimpArgs false
set_option maxRecDepth 100000
set_option maxHeartbeats 4000000
namespace Go.Gx.Px
open Go.Proofs Go.RowKit

theorem c_S_IsOrder {w0 : World} (a1 : (List Int)) (u1 : Value) (g1 : RO [] w0 u1 a1) (a2 : (List (Int × (List Int) × Int × Int × Int))) (u2 : Value) (g2 : RO [] w0 u2 a2) (a3 : ((List Int) × (List (Int × (List Int))))) (u3 : Value) (g3 : RO [] w0 u3 a3.1) (u4 : Value) (g4 : RO [] w0 u4 a3.2) (a4 : (List (Int × Int))) (u5 : Value) (g5 : RO [] w0 u5 a4) (rr : Bool) (hF : S.IsOrder a1 a2 a3 a4 = some rr) :
 Calls Tryz.prog 43 [u1, u2, (.agg #[u3, u4]), u5].toArray w0 fun e w' => ∃ v, e = .returned v ∧ Res w0 rr v w' := by
 refine calls_of_W Tryz.func43 rfl rfl ?_
 have hC0 := Ctx.start w0
 unfold S.IsOrder at hF
 refine W_seq_reg ?_
 refine WL_boxK (cs := [u3, u4]) hC0 rfl rfl rfl (fun b1 w1 hC1 hB1 hN1 => ?_)
 refine WL_assign rfl rfl ?_
 refine WL_nil (W_seq ?_)
 obtain ⟨r1, hr1, hF⟩ := bind_some hF
 refine W_cut (fun l w => ∃ x1 : Bool, x1 = r1 ∧ l = [(1, u2), (3, u5), (6, (ptr b1 0)), (24, (.bool x1))] ∧ Below w1.heap.size w1 w ∧ Ctx [] w0 w [Item.box b1 [u3, u4]]) ?_ ?_
 ·refine W_reg ?_
  refine WL_move rfl rfl ?_
  refine WL_move rfl rfl ?_
  refine WL_load_box_agg [u3, u4] hC1 0 rfl rfl rfl Tryz.isAgg37 Tryz.sizeOf37 rfl rfl ?_
  obtain ⟨x2, hr2, hr1⟩ := bind_some hr1
  refine WL_call Tryz.call53 rfl rfl (c_S_l6Fine a1 u1 (g1.now hC1.keep) a2 u2 (g2.now hC1.keep) (a3.1, a3.2) u3 (g3.now hC1.keep) u4 (g4.now hC1.keep) x2 hr2) ?_
  intro _ w3 hv1
  obtain ⟨rfl, hB3⟩ := res_bool hv1
  have hC3 := hC1.grow hB3
  refine WL_not rfl rfl ?_
  refine WL_move rfl rfl ?_
  refine WL_fork (fun hc1 => ?_) (fun hc1 => ?_)
  ·replace hr1 := ite_t hr1 hc1
   refine WL_guard_skip rfl rfl (by simp) rfl ?_
   refine WL_guard_skip rfl rfl (by simp) rfl ?_
   refine WL_guard_skip rfl rfl (by simp) rfl ?_
   refine WL_guard_skip rfl rfl (by simp) rfl ?_
   refine WL_guard_skip rfl rfl (by simp) rfl ?_
   refine WL_guard_skip rfl rfl (by simp) rfl ?_
   refine WL_pick_t rfl rfl rfl ?_
   refine WL_nil ?_
   have hq1 := Option.some.inj hr1
   subst hq1
   refine nrm_sub (l' := [(1, u2), (3, u5), (6, (ptr b1 0)), (24, (.bool true))]) ⟨rfl, rfl, rfl, rfl, trivial⟩ ?_
   exact ⟨true, rfl, rfl, (Keep.of hB3).below, hC3⟩
  replace hr1 := ite_f hr1 hc1
  refine WL_guard rfl rfl ?_
  refine WL_move rfl rfl ?_
  refine WL_guard rfl rfl ?_
  refine WL_len Tryz.underlying39 g5 rfl rfl ?_
  refine WL_guard rfl rfl ?_
  refine WL_field Tryz.underlying37 rfl rfl (fun w => ⟨_, Tryz.sizeOf35 w⟩) rfl rfl ?_
  refine WL_guard rfl rfl ?_
  refine WL_load_box hC3 0 rfl rfl Tryz.isAgg35 rfl rfl ?_
  refine WL_guard rfl rfl ?_
  refine WL_len Tryz.underlying35 g4 rfl rfl ?_
  refine WL_guard rfl rfl ?_
  refine WL_neq rfl rfl rfl ?_
  refine WL_pick_f rfl rfl rfl ?_
  refine WL_nil ?_
  have hq2 := Option.some.inj hr1
  subst hq2
  refine nrm_sub (l' := [(1, u2), (3, u5), (6, (ptr b1 0)), (24, (.bool (!decide ((List.length a4 : Int) = (List.length a3.2 : Int)))))]) ⟨rfl, rfl, rfl, rfl, trivial⟩ ?_
  exact ⟨(!decide ((List.length a4 : Int) = (List.length a3.2 : Int))), rfl, rfl, (Keep.of hB3).below, hC3⟩
 rintro _ w2 ⟨x1, rfl, rfl, hB2, hC2⟩
 try dsimp only at hF
 refine W_cond rfl (fun hc2 => ?_) (fun hc2 => ?_)
 ·replace hF := ite_t hF hc2
  refine W_seq_reg ?_
  refine WL_assign rfl rfl ?_
  refine WL_nil (W_ret (nrm_ret ?_))
  have hq3 := Option.some.inj hF
  subst hq3
  refine fn_ret1 rfl rfl ?_
  exact ⟨_, rfl, bool_res hC2 _⟩
 replace hF := ite_f hF hc2
 refine W_skip (nrm_normal (W_seq_reg ?_))
 refine WL_buildSlice (vs := []) hC2 Tryz.underlying22 ty3 rfl rfl rfl rfl (by simp) rfl rfl (fun b2 w4 hC4 hB4 => ?_)
 have hC5 := hC4.row0 (α := Int)
 have hC6 := hC5.front 1 rfl
 dsimp only [List.eraseIdx, List.cons_append, List.nil_append, List.append_nil] at hC6
 have hC7 : Ctx [] w0 w4 (Item.own (.slice (some ⟨b2, 0, none⟩) 0 0) (([] : List Int) : List Int) :: [Item.box b1 [u3, u4]]) := hC6.rowOwn (by simp [maxLen])
 refine WL_assign rfl rfl ?_
 refine WL_nil (W_seq_reg ?_)
 refine WL_buildSlice (vs := []) hC7 Tryz.underlying22 ty3 rfl rfl rfl rfl (by simp) rfl rfl (fun b3 w5 hC8 hB5 => ?_)
 have hC9 := hC8.row0 (α := Int)
 have hC10 := hC9.front 1 rfl
 dsimp only [List.eraseIdx, List.cons_append, List.nil_append, List.append_nil] at hC10
 have hC11 : Ctx [] w0 w5 (Item.own (.slice (some ⟨b3, 0, none⟩) 0 0) (([] : List Int) : List Int) :: [Item.own (.slice (some ⟨b2, 0, none⟩) 0 0) (([] : List Int) : (List Int)), Item.box b1 [u3, u4]]) := hC10.rowOwn (by simp [maxLen])
 refine WL_assign rfl rfl ?_
 refine WL_nil (W_seq (W_seq_reg ?_))
 refine WL_assign rfl rfl ?_
 refine WL_nil ?_
 obtain ⟨r2, hr3, hF⟩ := bind_some hF
 refine W_norm (fun l w => .inl () = r2 ∧ l = [] ∧ Ctx [] w0 w []) ?_ ?_
 ·refine W_block ?_
  refine W.sub (l' := [(1, u2), (3, u5), (6, (ptr b1 0)), (9, (.slice (some ⟨b2, 0, none⟩) 0 0)), (10, (.slice (some ⟨b3, 0, none⟩) 0 0)), (11, (.int .i64 0))]) ?_ ⟨rfl, rfl, rfl, rfl, rfl, rfl, trivial⟩
  refine W_loop (fun k l w => ∃ v1 : Value, ∃ x3 : (List Int), ∃ v2 : Value, ∃ x4 : (List Int), ∃ x5 : Int, l = [(1, u2), (3, u5), (6, (ptr b1 0)), (9, v1), (10, v2), (11, (.int .i64 x5))] ∧ Ctx [] w0 w [Item.own v2 (x4 : (List Int)), Item.own v1 (x3 : (List Int)), Item.box b1 [u3, u4]] ∧ S.IsOrder_l1 a4 a3 a2 k x3 x4 x5 = some r2) FUEL ⟨(.slice (some ⟨b2, 0, none⟩) 0 0), ([] : List Int), (.slice (some ⟨b3, 0, none⟩) 0 0), ([] : List Int), 0, rfl, hC11, hr3⟩ ?_
  clear hr3
  rintro k1 _ w6 ⟨v1, x3, v2, x4, x5, rfl, hC12, hL1⟩
  cases k1 with
  | zero => rw [S.IsOrder_l1] at hL1; cases hL1
  | succ k1 =>
   rw [S.IsOrder_l1] at hL1
   refine W_seq (W_seq_reg ?_)
   refine WL_move rfl rfl ?_
   refine WL_move rfl rfl ?_
   refine WL_len Tryz.underlying39 g5 rfl rfl ?_
   refine WL_lss rfl rfl rfl ?_
   refine WL_nil ?_
   refine W_cond rfl (fun hc3 => ?_) (fun hc3 => ?_)
   ·replace hL1 := ite_t hL1 hc3
    refine W_skip (nrm_normal (W_seq (W_block (W_seq ?_))))
    obtain ⟨r3, hr4, hL1⟩ := bind_some hL1
    refine W_cut (fun l w => ∃ x6 : Bool, x6 = r3 ∧ l = [(1, u2), (3, u5), (6, (ptr b1 0)), (9, v1), (10, v2), (11, (.int .i64 x5)), (86, (.bool x6))] ∧ Below w6.heap.size w6 w ∧ Ctx [] w0 w [Item.own v2 (x4 : (List Int)), Item.own v1 (x3 : (List Int)), Item.box b1 [u3, u4]]) ?_ ?_
    ·refine W_drawn 54 rfl hmix (fun w9 hB8 => ?_)
     have hC14 := hC12.grow hB8
     refine WA_tk 0 (by kernel_rfl) rfl rfl (fl_move rfl) ?_
     refine WL_move rfl rfl ?_
     refine WL_nil ?_
     refine WA_tk 1 (by kernel_rfl) rfl rfl (fl_move rfl) ?_
     refine WL_move rfl rfl ?_
     refine WL_nil ?_
     obtain ⟨x7, hx1, hr4⟩ := bind_some hr4
     refine WA_tk 2 (by kernel_rfl) rfl rfl (fl_index Tryz.underlying39 ty75 g5 hx1 rfl rfl) ?_
     refine WL_index Tryz.underlying39 ty75 g5 hx1 rfl rfl rfl (fun b4 o1 h1 => ?_)
     refine WL_nil ?_
     refine WA_tk 3 (by kernel_rfl) rfl rfl (fl_field Tryz.underlying75 rfl rfl (fun w => ⟨_, Tryz.sizeOf3 w⟩) rfl) ?_
     refine WL_field Tryz.underlying75 rfl rfl (fun w => ⟨_, Tryz.sizeOf3 w⟩) rfl rfl ?_
     refine WL_nil ?_
     refine WA_tk 5 (by kernel_rfl) rfl rfl (fl_field Tryz.underlying37 rfl rfl (fun w => ⟨_, Tryz.sizeOf35 w⟩) rfl) ?_
     refine WL_field Tryz.underlying37 rfl rfl (fun w => ⟨_, Tryz.sizeOf35 w⟩) rfl rfl ?_
     refine WL_nil ?_
     refine WA.sub (l' := [(1, u2), (3, u5), (6, (ptr b1 0)), (9, v1), (10, v2), (11, (.int .i64 x5)), (27, (.int .i64 x5)), (28, u5), (29, (.int .i64 (List.length a4 : Int))), (30, (.bool (decide (x5 < (List.length a4 : Int))))), (33, u5), (34, (.int .i64 x5)), (35, (ptr b4 o1)), (36, (ptr b4 (o1 + 0))), (38, (ptr b1 1))]) ?_ ⟨rfl, rfl, rfl, rfl, rfl, rfl, rfl, rfl, rfl, rfl, rfl, rfl, rfl, rfl, rfl, trivial⟩
     refine WA_postsE [⟨4, [], fun vs => PW.val (.int .i64 x7.1), []⟩, ⟨6, [], fun vs => PW.val u4, []⟩, ⟨7, [], fun vs => PW.val (.int .i64 (List.length a3.2 : Int)), []⟩, ⟨8, [], fun vs => PW.val (.int .i64 (w64 ((List.length a3.2 : Int) - 1))), []⟩] [[], [], [6], [7]] 45 rfl (by kernel_rfl) (by kernel_rfl) rfl ?_ ?_
     ·refine StepsE_cons rfl ?_ ?_
      ·intro w10 hB9
       refine DepsE_nil ?_
       refine ⟨_, rfl, ?_⟩
       refine WL_load ty3 h1.fst (hC14.keep.then hB9) rfl rfl (fun v3 h2 => ?_)
       obtain rfl := ro_int h2
       refine WL_nil ?_
       exact FinE_val (Below.refl _ _) rfl rfl ⟨rfl, rfl⟩
      refine StepsE_cons rfl ?_ ?_
      ·intro w10 hB9
       refine DepsE_nil ?_
       refine ⟨_, rfl, ?_⟩
       refine WL_load_box (hC14.grow hB9) 2 rfl rfl Tryz.isAgg35 rfl rfl ?_
       refine WL_nil ?_
       exact FinE_val (Below.refl _ _) rfl rfl ⟨rfl, rfl⟩
      refine StepsE_cons rfl ?_ ?_
      ·intro w10 hB9
       refine DepsE_cons rfl rfl rfl ?_
       rintro _ _ ⟨rfl, rfl⟩ _
       refine DepsE_nil ?_
       refine ⟨_, rfl, ?_⟩
       refine WL_len Tryz.underlying35 g4 rfl rfl ?_
       refine WL_nil ?_
       exact FinE_val (Below.refl _ _) rfl rfl ⟨rfl, rfl⟩
      refine StepsE_cons rfl ?_ ?_
      ·intro w10 hB9
       refine DepsE_cons rfl rfl rfl ?_
       rintro _ _ ⟨rfl, rfl⟩ _
       refine DepsE_nil ?_
       refine ⟨_, rfl, ?_⟩
       refine WL_sub rfl rfl rfl ?_
       refine WL_nil ?_
       exact FinE_val (Below.refl _ _) rfl rfl ⟨rfl, rfl⟩
      exact StepsE_nil
     intro w11 hB10
     refine AllE_cons rfl rfl rfl ?_
     rintro _ _ ⟨rfl, rfl⟩
     refine AllE_cons rfl rfl rfl ?_
     rintro _ _ ⟨rfl, rfl⟩
     refine AllE_cons rfl rfl rfl ?_
     rintro _ _ ⟨rfl, rfl⟩
     refine AllE_cons rfl rfl rfl ?_
     rintro _ _ ⟨rfl, rfl⟩
     refine AllE_nil ?_
     intro hn1 hb1
     have hC15 := hC14.grow hB10
     obtain ⟨x8, hr5, hr4⟩ := bind_some hr4
     refine WA_one 9 (by kernel_rfl) rfl ?_
     refine WL_call Tryz.call82 rfl rfl (c_S_l1In x7.1 0 (w64 ((List.length a3.2 : Int) - 1)) x8 hr5) ?_
     intro _ w12 hv2
     obtain ⟨rfl, hB11⟩ := res_bool hv2
     have hC16 := hC15.grow hB11
     refine WL_nil ?_
     refine WA_tk 10 (by kernel_rfl) rfl rfl (fl_not rfl) ?_
     refine WL_not rfl rfl ?_
     refine WL_nil ?_
     refine WA_tk 11 (by kernel_rfl) rfl rfl (fl_move rfl) ?_
     refine WL_move rfl rfl ?_
     refine WL_nil ?_
     refine WA_fork (fun hc4 => ?_) (fun hc4 => ?_)
     ·replace hr4 := ite_t hr4 hc4
      refine WA_sk 12 (by kernel_rfl) rfl rfl rfl rfl (by simp) rfl rfl ?_
      refine WA_sk 13 (by kernel_rfl) rfl rfl rfl rfl (by simp) rfl rfl ?_
      refine WA_sk 14 (by kernel_rfl) rfl rfl rfl rfl (by simp) rfl rfl ?_
      refine WA_sk 15 (by kernel_rfl) rfl rfl rfl rfl (by simp) rfl rfl ?_
      refine WA_sk 16 (by kernel_rfl) rfl rfl rfl rfl (by simp) rfl rfl ?_
      refine WA_sk 17 (by kernel_rfl) rfl rfl rfl rfl (by simp) rfl rfl ?_
      refine WA_sk 18 (by kernel_rfl) rfl rfl rfl rfl (by simp) rfl rfl ?_
      refine WA_tk 19 (by kernel_rfl) rfl rfl (fl_pick_t rfl rfl) ?_
      refine WL_pick_t rfl rfl rfl ?_
      refine WL_nil ?_
      refine WA_tk 20 (by kernel_rfl) rfl rfl (fl_move rfl) ?_
      refine WL_move rfl rfl ?_
      refine WL_nil ?_
      refine WA_sk 21 (by kernel_rfl) rfl rfl rfl rfl (by simp) rfl rfl ?_
      refine WA_sk 22 (by kernel_rfl) rfl rfl rfl rfl (by simp) rfl rfl ?_
      refine WA_sk 23 (by kernel_rfl) rfl rfl rfl rfl (by simp) rfl rfl ?_
      refine WA_sk 24 (by kernel_rfl) rfl rfl rfl rfl (by simp) rfl rfl ?_
      refine WA_sk 25 (by kernel_rfl) rfl rfl rfl rfl (by simp) rfl rfl ?_
      refine WA_sk 26 (by kernel_rfl) rfl rfl rfl rfl (by simp) rfl rfl ?_
      refine WA_sk 27 (by kernel_rfl) rfl rfl rfl rfl (by simp) rfl rfl ?_
      refine WA_sk 28 (by kernel_rfl) rfl rfl rfl rfl (by simp) rfl rfl ?_
      refine WA_sk 29 (by kernel_rfl) rfl rfl rfl rfl (by simp) rfl rfl ?_
      refine WA_sk 30 (by kernel_rfl) rfl rfl rfl rfl (by simp) rfl rfl ?_
      refine WA_tk 31 (by kernel_rfl) rfl rfl (fl_pick_t rfl rfl) ?_
      refine WL_pick_t rfl rfl rfl ?_
      refine WL_nil ?_
      refine WA_tk 32 (by kernel_rfl) rfl rfl (fl_move rfl) ?_
      refine WL_move rfl rfl ?_
      refine WL_nil ?_
      refine WA_sk 33 (by kernel_rfl) rfl rfl rfl rfl (by simp) rfl rfl ?_
      refine WA_sk 34 (by kernel_rfl) rfl rfl rfl rfl (by simp) rfl rfl ?_
      refine WA_sk 35 (by kernel_rfl) rfl rfl rfl rfl (by simp) rfl rfl ?_
      refine WA_sk 36 (by kernel_rfl) rfl rfl rfl rfl (by simp) rfl rfl ?_
      refine WA_sk 37 (by kernel_rfl) rfl rfl rfl rfl (by simp) rfl rfl ?_
      refine WA_sk 38 (by kernel_rfl) rfl rfl rfl rfl (by simp) rfl rfl ?_
      refine WA_sk 39 (by kernel_rfl) rfl rfl rfl rfl (by simp) rfl rfl ?_
      refine WA_sk 40 (by kernel_rfl) rfl rfl rfl rfl (by simp) rfl rfl ?_
      refine WA_sk 41 (by kernel_rfl) rfl rfl rfl rfl (by simp) rfl rfl ?_
      refine WA_sk 42 (by kernel_rfl) rfl rfl rfl rfl (by simp) rfl rfl ?_
      refine WA_sk 43 (by kernel_rfl) rfl rfl rfl rfl (by simp) rfl rfl ?_
      refine WA_sk 44 (by kernel_rfl) rfl rfl rfl rfl (by simp) rfl rfl ?_
      refine WA_sk 45 (by kernel_rfl) rfl rfl rfl rfl (by simp) rfl rfl ?_
      refine WA_sk 46 (by kernel_rfl) rfl rfl rfl rfl (by simp) rfl rfl ?_
      refine WA_sk 47 (by kernel_rfl) rfl rfl rfl rfl (by simp) rfl rfl ?_
      refine WA_sk 48 (by kernel_rfl) rfl rfl rfl rfl (by simp) rfl rfl ?_
      refine WA_sk 49 (by kernel_rfl) rfl rfl rfl rfl (by simp) rfl rfl ?_
      refine WA_sk 50 (by kernel_rfl) rfl rfl rfl rfl (by simp) rfl rfl ?_
      refine WA_sk 51 (by kernel_rfl) rfl rfl rfl rfl (by simp) rfl rfl ?_
      refine WA_sk 52 (by kernel_rfl) rfl rfl rfl rfl (by simp) rfl rfl ?_
      refine WA_tk 53 (by kernel_rfl) rfl rfl (fl_pick_t rfl rfl) ?_
      refine WL_pick_t rfl rfl rfl ?_
      refine WL_nil ?_
      refine WA_done (by kernel_rfl) ?_
      have hq4 := Option.some.inj hr4
      subst hq4
      refine nrm_sub (l' := [(1, u2), (3, u5), (6, (ptr b1 0)), (9, v1), (10, v2), (11, (.int .i64 x5)), (86, (.bool true))]) ⟨rfl, rfl, rfl, rfl, rfl, rfl, rfl, trivial⟩ ?_
      exact ⟨true, rfl, rfl, (((Keep.of hB8).then hB10).then hB11).below, hC16⟩
     replace hr4 := ite_f hr4 hc4
     refine WA_takeG 12 rfl (by kernel_rfl) (by kernel_rfl) (by kernel_rfl) rfl rfl rfl (fl_move rfl) ?_
     refine WL_guard rfl rfl ?_
     refine WL_move rfl rfl ?_
     refine WL_nil ?_
     refine WA_takeG 13 rfl (by kernel_rfl) (by kernel_rfl) (by kernel_rfl) rfl rfl rfl (fl_move rfl) ?_
     refine WL_guard rfl rfl ?_
     refine WL_move rfl rfl ?_
     refine WL_nil ?_
     refine WA_takeG 14 rfl (by kernel_rfl) (by kernel_rfl) (by kernel_rfl) rfl rfl rfl (fl_move rfl) ?_
     refine WL_guard rfl rfl ?_
     refine WL_move rfl rfl ?_
     refine WL_nil ?_
     obtain ⟨x9, hx2, hr4⟩ := bind_some hr4
     refine WA_takeG 15 rfl (by kernel_rfl) (by kernel_rfl) (by kernel_rfl) rfl rfl rfl (fl_index Tryz.underlying39 ty75 g5 hx2 rfl rfl) ?_
     refine WL_guard rfl rfl ?_
     refine WL_index Tryz.underlying39 ty75 g5 hx2 rfl rfl rfl (fun b5 o2 h3 => ?_)
     refine WL_nil ?_
     refine WA_takeG 16 rfl (by kernel_rfl) (by kernel_rfl) (by kernel_rfl) rfl rfl rfl (fl_field Tryz.underlying75 rfl rfl (fun w => ⟨_, Tryz.sizeOf3 w⟩) rfl) ?_
     refine WL_guard rfl rfl ?_
     refine WL_field Tryz.underlying75 rfl rfl (fun w => ⟨_, Tryz.sizeOf3 w⟩) rfl rfl ?_
     refine WL_nil ?_
     refine WA_one 17 (by kernel_rfl) rfl ?_
     refine WL_guard rfl rfl ?_
     refine WL_load ty3 h3.fst hC16.keep rfl rfl (fun v4 h4 => ?_)
     obtain rfl := ro_int h4
     refine WL_nil ?_
     obtain ⟨x10, hr6, hr4⟩ := bind_some hr4
     refine WA_one 18 (by kernel_rfl) rfl ?_
     refine WL_guard rfl rfl ?_
     refine WL_call Tryz.call54 rfl rfl (c_S_l2Has x4 v2 ((hC16.ro 0 rfl).now (Keep.refl _ _)) x9.1 x10 hr6) ?_
     intro _ w13 hv3
     obtain ⟨rfl, hB12⟩ := res_bool hv3
     have hC17 := hC16.grow hB12
     refine WL_nil ?_
     refine WA_tk 19 (by kernel_rfl) rfl rfl (fl_pick_f rfl rfl) ?_
     refine WL_pick_f rfl rfl rfl ?_
     refine WL_nil ?_
     refine WA_tk 20 (by kernel_rfl) rfl rfl (fl_move rfl) ?_
     refine WL_move rfl rfl ?_
     refine WL_nil ?_
     refine WA_fork (fun hc5 => ?_) (fun hc5 => ?_)
     ·replace hr4 := ite_t hr4 hc5
      refine WA_sk 21 (by kernel_rfl) rfl rfl rfl rfl (by simp) rfl rfl ?_
      refine WA_sk 22 (by kernel_rfl) rfl rfl rfl rfl (by simp) rfl rfl ?_
      refine WA_sk 23 (by kernel_rfl) rfl rfl rfl rfl (by simp) rfl rfl ?_
      refine WA_sk 24 (by kernel_rfl) rfl rfl rfl rfl (by simp) rfl rfl ?_
      refine WA_sk 25 (by kernel_rfl) rfl rfl rfl rfl (by simp) rfl rfl ?_
      refine WA_sk 26 (by kernel_rfl) rfl rfl rfl rfl (by simp) rfl rfl ?_
      refine WA_sk 27 (by kernel_rfl) rfl rfl rfl rfl (by simp) rfl rfl ?_
      refine WA_sk 28 (by kernel_rfl) rfl rfl rfl rfl (by simp) rfl rfl ?_
      refine WA_sk 29 (by kernel_rfl) rfl rfl rfl rfl (by simp) rfl rfl ?_
      refine WA_sk 30 (by kernel_rfl) rfl rfl rfl rfl (by simp) rfl rfl ?_
      refine WA_tk 31 (by kernel_rfl) rfl rfl (fl_pick_t rfl rfl) ?_
      refine WL_pick_t rfl rfl rfl ?_
      refine WL_nil ?_
      refine WA_tk 32 (by kernel_rfl) rfl rfl (fl_move rfl) ?_
      refine WL_move rfl rfl ?_
      refine WL_nil ?_
      refine WA_sk 33 (by kernel_rfl) rfl rfl rfl rfl (by simp) rfl rfl ?_
      refine WA_sk 34 (by kernel_rfl) rfl rfl rfl rfl (by simp) rfl rfl ?_
      refine WA_sk 35 (by kernel_rfl) rfl rfl rfl rfl (by simp) rfl rfl ?_
      refine WA_sk 36 (by kernel_rfl) rfl rfl rfl rfl (by simp) rfl rfl ?_
      refine WA_sk 37 (by kernel_rfl) rfl rfl rfl rfl (by simp) rfl rfl ?_
      refine WA_sk 38 (by kernel_rfl) rfl rfl rfl rfl (by simp) rfl rfl ?_
      refine WA_sk 39 (by kernel_rfl) rfl rfl rfl rfl (by simp) rfl rfl ?_
      refine WA_sk 40 (by kernel_rfl) rfl rfl rfl rfl (by simp) rfl rfl ?_
      refine WA_sk 41 (by kernel_rfl) rfl rfl rfl rfl (by simp) rfl rfl ?_
      refine WA_sk 42 (by kernel_rfl) rfl rfl rfl rfl (by simp) rfl rfl ?_
      refine WA_sk 43 (by kernel_rfl) rfl rfl rfl rfl (by simp) rfl rfl ?_
      refine WA_sk 44 (by kernel_rfl) rfl rfl rfl rfl (by simp) rfl rfl ?_
      refine WA_sk 45 (by kernel_rfl) rfl rfl rfl rfl (by simp) rfl rfl ?_
      refine WA_sk 46 (by kernel_rfl) rfl rfl rfl rfl (by simp) rfl rfl ?_
      refine WA_sk 47 (by kernel_rfl) rfl rfl rfl rfl (by simp) rfl rfl ?_
      refine WA_sk 48 (by kernel_rfl) rfl rfl rfl rfl (by simp) rfl rfl ?_
      refine WA_sk 49 (by kernel_rfl) rfl rfl rfl rfl (by simp) rfl rfl ?_
      refine WA_sk 50 (by kernel_rfl) rfl rfl rfl rfl (by simp) rfl rfl ?_
      refine WA_sk 51 (by kernel_rfl) rfl rfl rfl rfl (by simp) rfl rfl ?_
      refine WA_sk 52 (by kernel_rfl) rfl rfl rfl rfl (by simp) rfl rfl ?_
      refine WA_tk 53 (by kernel_rfl) rfl rfl (fl_pick_t rfl rfl) ?_
      refine WL_pick_t rfl rfl rfl ?_
      refine WL_nil ?_
      refine WA_done (by kernel_rfl) ?_
      have hq5 := Option.some.inj hr4
      subst hq5
      refine nrm_sub (l' := [(1, u2), (3, u5), (6, (ptr b1 0)), (9, v1), (10, v2), (11, (.int .i64 x5)), (86, (.bool true))]) ⟨rfl, rfl, rfl, rfl, rfl, rfl, rfl, trivial⟩ ?_
      exact ⟨true, rfl, rfl, ((((Keep.of hB8).then hB10).then hB11).then hB12).below, hC17⟩
     replace hr4 := ite_f hr4 hc5
     refine WA_takeG 21 rfl (by kernel_rfl) (by kernel_rfl) (by kernel_rfl) rfl rfl rfl (fl_move rfl) ?_
     refine WL_guard rfl rfl ?_
     refine WL_move rfl rfl ?_
     refine WL_nil ?_
     refine WA_takeG 22 rfl (by kernel_rfl) (by kernel_rfl) (by kernel_rfl) rfl rfl rfl (fl_move rfl) ?_
     refine WL_guard rfl rfl ?_
     refine WL_move rfl rfl ?_
     refine WL_nil ?_
     obtain ⟨x11, hx3, hr4⟩ := bind_some hr4
     refine WA_takeG 23 rfl (by kernel_rfl) (by kernel_rfl) (by kernel_rfl) rfl rfl rfl (fl_index Tryz.underlying39 ty75 g5 hx3 rfl rfl) ?_
     refine WL_guard rfl rfl ?_
     refine WL_index Tryz.underlying39 ty75 g5 hx3 rfl rfl rfl (fun b6 o3 h5 => ?_)
     refine WL_nil ?_
     refine WA_takeG 24 rfl (by kernel_rfl) (by kernel_rfl) (by kernel_rfl) rfl rfl rfl (fl_field Tryz.underlying75 rfl rfl (fun w => ⟨_, Tryz.sizeOf3 w⟩) rfl) ?_
     refine WL_guard rfl rfl ?_
     refine WL_field Tryz.underlying75 rfl rfl (fun w => ⟨_, Tryz.sizeOf3 w⟩) rfl rfl ?_
     refine WL_nil ?_
     refine WA_takeG 26 rfl (by kernel_rfl) (by kernel_rfl) (by kernel_rfl) rfl rfl rfl (fl_move rfl) ?_
     refine WL_guard rfl rfl ?_
     refine WL_move rfl rfl ?_
     refine WL_nil ?_
     refine WA_takeG 27 rfl (by kernel_rfl) (by kernel_rfl) (by kernel_rfl) rfl rfl rfl (fl_len Tryz.underlying33 g2 rfl) ?_
     refine WL_guard rfl rfl ?_
     refine WL_len Tryz.underlying33 g2 rfl rfl ?_
     refine WL_nil ?_
     refine WA_takeG 28 rfl (by kernel_rfl) (by kernel_rfl) (by kernel_rfl) rfl rfl rfl (fl_sub rfl rfl) ?_
     refine WL_guard rfl rfl ?_
     refine WL_sub rfl rfl rfl ?_
     refine WL_nil ?_
     refine WA_one 25 (by kernel_rfl) rfl ?_
     refine WL_guard rfl rfl ?_
     refine WL_load ty3 h5.snd hC17.keep rfl rfl (fun v5 h6 => ?_)
     obtain rfl := ro_int h6
     refine WL_nil ?_
     obtain ⟨x12, hr7, hr4⟩ := bind_some hr4
     refine WA_one 29 (by kernel_rfl) rfl ?_
     refine WL_guard rfl rfl ?_
     refine WL_call Tryz.call82 rfl rfl (c_S_l1In x11.2 0 (w64 ((List.length a2 : Int) - 1)) x12 hr7) ?_
     intro _ w14 hv4
     obtain ⟨rfl, hB13⟩ := res_bool hv4
     have hC18 := hC17.grow hB13
     refine WL_nil ?_
     refine WA_takeG 30 rfl (by kernel_rfl) (by kernel_rfl) (by kernel_rfl) rfl rfl rfl (fl_not rfl) ?_
     refine WL_guard rfl rfl ?_
     refine WL_not rfl rfl ?_
     refine WL_nil ?_
     refine WA_tk 31 (by kernel_rfl) rfl rfl (fl_pick_f rfl rfl) ?_
     refine WL_pick_f rfl rfl rfl ?_
     refine WL_nil ?_
     refine WA_tk 32 (by kernel_rfl) rfl rfl (fl_move rfl) ?_
     refine WL_move rfl rfl ?_
     refine WL_nil ?_
     refine WA_fork (fun hc6 => ?_) (fun hc6 => ?_)
     ·replace hr4 := ite_t hr4 hc6
      refine WA_sk 33 (by kernel_rfl) rfl rfl rfl rfl (by simp) rfl rfl ?_
      refine WA_sk 34 (by kernel_rfl) rfl rfl rfl rfl (by simp) rfl rfl ?_
      refine WA_sk 35 (by kernel_rfl) rfl rfl rfl rfl (by simp) rfl rfl ?_
      refine WA_sk 36 (by kernel_rfl) rfl rfl rfl rfl (by simp) rfl rfl ?_
      refine WA_sk 37 (by kernel_rfl) rfl rfl rfl rfl (by simp) rfl rfl ?_
      refine WA_sk 38 (by kernel_rfl) rfl rfl rfl rfl (by simp) rfl rfl ?_
      refine WA_sk 39 (by kernel_rfl) rfl rfl rfl rfl (by simp) rfl rfl ?_
      refine WA_sk 40 (by kernel_rfl) rfl rfl rfl rfl (by simp) rfl rfl ?_
      refine WA_sk 41 (by kernel_rfl) rfl rfl rfl rfl (by simp) rfl rfl ?_
      refine WA_sk 42 (by kernel_rfl) rfl rfl rfl rfl (by simp) rfl rfl ?_
      refine WA_sk 43 (by kernel_rfl) rfl rfl rfl rfl (by simp) rfl rfl ?_
      refine WA_sk 44 (by kernel_rfl) rfl rfl rfl rfl (by simp) rfl rfl ?_
      refine WA_sk 45 (by kernel_rfl) rfl rfl rfl rfl (by simp) rfl rfl ?_
      refine WA_sk 46 (by kernel_rfl) rfl rfl rfl rfl (by simp) rfl rfl ?_
      refine WA_sk 47 (by kernel_rfl) rfl rfl rfl rfl (by simp) rfl rfl ?_
      refine WA_sk 48 (by kernel_rfl) rfl rfl rfl rfl (by simp) rfl rfl ?_
      refine WA_sk 49 (by kernel_rfl) rfl rfl rfl rfl (by simp) rfl rfl ?_
      refine WA_sk 50 (by kernel_rfl) rfl rfl rfl rfl (by simp) rfl rfl ?_
      refine WA_sk 51 (by kernel_rfl) rfl rfl rfl rfl (by simp) rfl rfl ?_
      refine WA_sk 52 (by kernel_rfl) rfl rfl rfl rfl (by simp) rfl rfl ?_
      refine WA_tk 53 (by kernel_rfl) rfl rfl (fl_pick_t rfl rfl) ?_
      refine WL_pick_t rfl rfl rfl ?_
      refine WL_nil ?_
      refine WA_done (by kernel_rfl) ?_
      have hq6 := Option.some.inj hr4
      subst hq6
      refine nrm_sub (l' := [(1, u2), (3, u5), (6, (ptr b1 0)), (9, v1), (10, v2), (11, (.int .i64 x5)), (86, (.bool true))]) ⟨rfl, rfl, rfl, rfl, rfl, rfl, rfl, trivial⟩ ?_
      exact ⟨true, rfl, rfl, (((((Keep.of hB8).then hB10).then hB11).then hB12).then hB13).below, hC18⟩
     replace hr4 := ite_f hr4 hc6
     refine WA_takeG 33 rfl (by kernel_rfl) (by kernel_rfl) (by kernel_rfl) rfl rfl rfl (fl_move rfl) ?_
     refine WL_guard rfl rfl ?_
     refine WL_move rfl rfl ?_
     refine WL_nil ?_
     refine WA_takeG 34 rfl (by kernel_rfl) (by kernel_rfl) (by kernel_rfl) rfl rfl rfl (fl_move rfl) ?_
     refine WL_guard rfl rfl ?_
     refine WL_move rfl rfl ?_
     refine WL_nil ?_
     refine WA_takeG 35 rfl (by kernel_rfl) (by kernel_rfl) (by kernel_rfl) rfl rfl rfl (fl_move rfl) ?_
     refine WL_guard rfl rfl ?_
     refine WL_move rfl rfl ?_
     refine WL_nil ?_
     obtain ⟨x13, hx4, hr4⟩ := bind_some hr4
     refine WA_takeG 36 rfl (by kernel_rfl) (by kernel_rfl) (by kernel_rfl) rfl rfl rfl (fl_index Tryz.underlying39 ty75 g5 hx4 rfl rfl) ?_
     refine WL_guard rfl rfl ?_
     refine WL_index Tryz.underlying39 ty75 g5 hx4 rfl rfl rfl (fun b7 o4 h7 => ?_)
     refine WL_nil ?_
     refine WA_takeG 37 rfl (by kernel_rfl) (by kernel_rfl) (by kernel_rfl) rfl rfl rfl (fl_field Tryz.underlying75 rfl rfl (fun w => ⟨_, Tryz.sizeOf3 w⟩) rfl) ?_
     refine WL_guard rfl rfl ?_
     refine WL_field Tryz.underlying75 rfl rfl (fun w => ⟨_, Tryz.sizeOf3 w⟩) rfl rfl ?_
     refine WL_nil ?_
     refine WA_takeG 41 rfl (by kernel_rfl) (by kernel_rfl) (by kernel_rfl) rfl rfl rfl (fl_field Tryz.underlying37 rfl rfl (fun w => ⟨_, Tryz.sizeOf35 w⟩) rfl) ?_
     refine WL_guard rfl rfl ?_
     refine WL_field Tryz.underlying37 rfl rfl (fun w => ⟨_, Tryz.sizeOf35 w⟩) rfl rfl ?_
     refine WL_nil ?_
     refine WA_takeG 43 rfl (by kernel_rfl) (by kernel_rfl) (by kernel_rfl) rfl rfl rfl (fl_move rfl) ?_
     refine WL_guard rfl rfl ?_
     refine WL_move rfl rfl ?_
     refine WL_nil ?_
     refine WA_takeG 44 rfl (by kernel_rfl) (by kernel_rfl) (by kernel_rfl) rfl rfl rfl (fl_move rfl) ?_
     refine WL_guard rfl rfl ?_
     refine WL_move rfl rfl ?_
     refine WL_nil ?_
     obtain ⟨x14, hx5, hr4⟩ := bind_some hr4
     refine WA_takeG 45 rfl (by kernel_rfl) (by kernel_rfl) (by kernel_rfl) rfl rfl rfl (fl_index Tryz.underlying39 ty75 g5 hx5 rfl rfl) ?_
     refine WL_guard rfl rfl ?_
     refine WL_index Tryz.underlying39 ty75 g5 hx5 rfl rfl rfl (fun b8 o5 h8 => ?_)
     refine WL_nil ?_
     refine WA_takeG 46 rfl (by kernel_rfl) (by kernel_rfl) (by kernel_rfl) rfl rfl rfl (fl_field Tryz.underlying75 rfl rfl (fun w => ⟨_, Tryz.sizeOf3 w⟩) rfl) ?_
     refine WL_guard rfl rfl ?_
     refine WL_field Tryz.underlying75 rfl rfl (fun w => ⟨_, Tryz.sizeOf3 w⟩) rfl rfl ?_
     refine WL_nil ?_
     refine WA_takeG 50 rfl (by kernel_rfl) (by kernel_rfl) (by kernel_rfl) rfl rfl rfl (fl_move rfl) ?_
     refine WL_guard rfl rfl ?_
     refine WL_move rfl rfl ?_
     refine WL_nil ?_
     obtain ⟨x15, hx6, hr4⟩ := bind_some hr4
     obtain ⟨x16, hx7, hr4⟩ := bind_some hr4
     refine WA.sub (l' := [(1, u2), (3, u5), (6, (ptr b1 0)), (9, v1), (10, v2), (11, (.int .i64 x5)), (27, (.int .i64 x5)), (28, u5), (29, (.int .i64 (List.length a4 : Int))), (30, (.bool (decide (x5 < (List.length a4 : Int))))), (33, u5), (34, (.int .i64 x5)), (35, (ptr b4 o1)), (36, (ptr b4 (o1 + 0))), (37, (.int .i64 x7.1)), (38, (ptr b1 1)), (39, u4), (40, (.int .i64 (List.length a3.2 : Int))), (41, (.int .i64 (w64 ((List.length a3.2 : Int) - 1)))), (42, (.bool x8)), (43, (.bool (!x8))), (44, (.bool false)), (45, v2), (46, u5), (47, (.int .i64 x5)), (48, (ptr b5 o2)), (49, (ptr b5 (o2 + 0))), (50, (.int .i64 x9.1)), (51, (.bool x10)), (52, (.bool x10)), (53, (.bool false)), (54, u5), (55, (.int .i64 x5)), (56, (ptr b6 o3)), (57, (ptr b6 (o3 + 1))), (58, (.int .i64 x11.2)), (59, u2), (60, (.int .i64 (List.length a2 : Int))), (61, (.int .i64 (w64 ((List.length a2 : Int) - 1)))), (62, (.bool x12)), (63, (.bool (!x12))), (64, (.bool (!x12))), (65, (.bool false)), (66, u2), (67, u5), (68, (.int .i64 x5)), (69, (ptr b7 o4)), (70, (ptr b7 (o4 + 1))), (74, (ptr b1 1)), (76, u5), (77, (.int .i64 x5)), (78, (ptr b8 o5)), (79, (ptr b8 (o5 + 0))), (83, v1)]) ?_ ⟨rfl, rfl, rfl, rfl, rfl, rfl, rfl, rfl, rfl, rfl, rfl, rfl, rfl, rfl, rfl, rfl, rfl, rfl, rfl, rfl, rfl, rfl, rfl, rfl, rfl, rfl, rfl, rfl, rfl, rfl, rfl, rfl, rfl, rfl, rfl, rfl, rfl, rfl, rfl, rfl, rfl, rfl, rfl, rfl, rfl, rfl, rfl, rfl, rfl, rfl, rfl, rfl, rfl, rfl, trivial⟩
     refine WA_postsE [⟨38, [], fun vs => PW.val (.int .i64 x13.2), []⟩, ⟨39, [], fun vs => PW.at [] w0 x15, []⟩, ⟨40, [], fun vs => PW.ro [] w0 x15, []⟩, ⟨42, [], fun vs => PW.val u4, []⟩, ⟨47, [], fun vs => PW.val (.int .i64 x14.1), []⟩, ⟨48, [], fun vs => PW.at [] w0 x16, []⟩, ⟨49, [], fun vs => PW.ro [] w0 x16, []⟩] [[], [38], [39], [], [], [42, 47], [48]] 3 rfl (by kernel_rfl) (by kernel_rfl) rfl ?_ ?_
     ·refine StepsE_cons rfl ?_ ?_
      ·intro w15 hB14
       refine DepsE_nil ?_
       refine ⟨_, rfl, ?_⟩
       refine WL_guard rfl rfl ?_
       refine WL_load ty3 h7.snd (hC18.keep.then hB14) rfl rfl (fun v6 h9 => ?_)
       obtain rfl := ro_int h9
       refine WL_nil ?_
       exact FinE_val (Below.refl _ _) rfl rfl ⟨rfl, rfl⟩
      refine StepsE_cons rfl ?_ ?_
      ·intro w15 hB14
       refine DepsE_cons rfl rfl rfl ?_
       rintro _ _ ⟨rfl, rfl⟩ _
       refine DepsE_nil ?_
       refine ⟨_, rfl, ?_⟩
       refine WL_guard rfl rfl ?_
       refine WL_index Tryz.underlying33 ty71 g2 hx6 rfl rfl rfl (fun b9 o6 h10 => ?_)
       refine WL_nil ?_
       exact FinE_val (Below.refl _ _) rfl rfl ⟨rfl, _, _, rfl, h10⟩
      refine StepsE_cons rfl ?_ ?_
      ·intro w15 hB14
       refine DepsE_cons rfl rfl rfl ?_
       rintro _ _ ⟨rfl, b9, o6, rfl, h10⟩ _
       refine DepsE_nil ?_
       refine ⟨_, rfl, ?_⟩
       refine WL_guard rfl rfl ?_
       refine WL_load ty71 h10 (hC18.keep.then hB14) rfl rfl (fun v9 h13 => ?_)
       refine WL_nil ?_
       exact FinE_val (Below.refl _ _) rfl rfl ⟨rfl, h13⟩
      refine StepsE_cons rfl ?_ ?_
      ·intro w15 hB14
       refine DepsE_nil ?_
       refine ⟨_, rfl, ?_⟩
       refine WL_guard rfl rfl ?_
       refine WL_load_box (hC18.grow hB14) 2 rfl rfl Tryz.isAgg35 rfl rfl ?_
       refine WL_nil ?_
       exact FinE_val (Below.refl _ _) rfl rfl ⟨rfl, rfl⟩
      refine StepsE_cons rfl ?_ ?_
      ·intro w15 hB14
       refine DepsE_nil ?_
       refine ⟨_, rfl, ?_⟩
       refine WL_guard rfl rfl ?_
       refine WL_load ty3 h8.fst (hC18.keep.then hB14) rfl rfl (fun v10 h14 => ?_)
       obtain rfl := ro_int h14
       refine WL_nil ?_
       exact FinE_val (Below.refl _ _) rfl rfl ⟨rfl, rfl⟩
      refine StepsE_cons rfl ?_ ?_
      ·intro w15 hB14
       refine DepsE_cons rfl rfl rfl ?_
       rintro _ _ ⟨rfl, rfl⟩ _
       refine DepsE_cons rfl rfl rfl ?_
       rintro _ _ ⟨rfl, rfl⟩ _
       refine DepsE_nil ?_
       refine ⟨_, rfl, ?_⟩
       refine WL_guard rfl rfl ?_
       refine WL_index Tryz.underlying35 ty84 g4 hx7 rfl rfl rfl (fun b10 o7 h15 => ?_)
       refine WL_nil ?_
       exact FinE_val (Below.refl _ _) rfl rfl ⟨rfl, _, _, rfl, h15⟩
      refine StepsE_cons rfl ?_ ?_
      ·intro w15 hB14
       refine DepsE_cons rfl rfl rfl ?_
       rintro _ _ ⟨rfl, b10, o7, rfl, h15⟩ _
       refine DepsE_nil ?_
       refine ⟨_, rfl, ?_⟩
       refine WL_guard rfl rfl ?_
       refine WL_load ty84 h15 (hC18.keep.then hB14) rfl rfl (fun v13 h18 => ?_)
       refine WL_nil ?_
       exact FinE_val (Below.refl _ _) rfl rfl ⟨rfl, h18⟩
      exact StepsE_nil
     intro w16 hB15
     refine AllE_cons rfl rfl rfl ?_
     rintro _ _ ⟨rfl, rfl⟩
     refine AllE_cons rfl rfl rfl ?_
     rintro _ _ ⟨rfl, b9, o6, rfl, h10⟩
     refine AllE_cons rfl rfl rfl ?_
     rintro v9 _ ⟨rfl, h13⟩
     obtain ⟨v8, rfl, h12⟩ := ro_st71 h13
     refine AllE_cons rfl rfl rfl ?_
     rintro _ _ ⟨rfl, rfl⟩
     refine AllE_cons rfl rfl rfl ?_
     rintro _ _ ⟨rfl, rfl⟩
     refine AllE_cons rfl rfl rfl ?_
     rintro _ _ ⟨rfl, b10, o7, rfl, h15⟩
     refine AllE_cons rfl rfl rfl ?_
     rintro v13 _ ⟨rfl, h18⟩
     obtain ⟨v12, rfl, h17⟩ := ro_st84 h18
     refine AllE_nil ?_
     intro hn2 hb2
     have hC19 := hC18.grow hB15
     obtain ⟨x17, hr8, hr4⟩ := bind_some hr4
     refine WA_one 51 (by kernel_rfl) rfl ?_
     refine WL_guard rfl rfl ?_
     refine WL_call Tryz.call55 rfl rfl (c_S_CanCall x15 v8 (h12.now hC19.keep) x16 v12 (h17.now hC19.keep) x3 v1 ((hC19.ro 1 rfl).now (Keep.refl _ _)) x17 hr8) ?_
     intro _ w17 hv5
     obtain ⟨rfl, hB16⟩ := res_bool hv5
     have hC20 := hC19.grow hB16
     refine WL_nil ?_
     refine WA_takeG 52 rfl (by kernel_rfl) (by kernel_rfl) (by kernel_rfl) rfl rfl rfl (fl_not rfl) ?_
     refine WL_guard rfl rfl ?_
     refine WL_not rfl rfl ?_
     refine WL_nil ?_
     refine WA_tk 53 (by kernel_rfl) rfl rfl (fl_pick_f rfl rfl) ?_
     refine WL_pick_f rfl rfl rfl ?_
     refine WL_nil ?_
     refine WA_done (by kernel_rfl) ?_
     have hq7 := Option.some.inj hr4
     subst hq7
     refine nrm_sub (l' := [(1, u2), (3, u5), (6, (ptr b1 0)), (9, v1), (10, v2), (11, (.int .i64 x5)), (86, (.bool (!x17)))]) ⟨rfl, rfl, rfl, rfl, rfl, rfl, rfl, trivial⟩ ?_
     exact ⟨(!x17), rfl, rfl, (((((((Keep.of hB8).then hB10).then hB11).then hB12).then hB13).then hB15).then hB16).below, hC20⟩
    rintro _ w7 ⟨x6, rfl, rfl, hB7, hC13⟩
    try dsimp only at hL1
    refine W_cond rfl (fun hc7 => ?_) (fun hc7 => ?_)
    ·replace hL1 := ite_t hL1 hc7
     refine W_seq_reg ?_
     refine WL_assign rfl rfl ?_
     refine WL_nil (W_ret (nrm_ret (blk_ret (nrm_ret (nrm_ret (blk_ret (nrm_ret (nrm_ret ?_))))))))
     have hq8 := Option.some.inj hL1
     subst hq8
     dsimp only at hF
     have hq9 := Option.some.inj hF
     subst hq9
     refine fn_ret1 rfl rfl ?_
     exact ⟨_, rfl, bool_res hC13 _⟩
    replace hL1 := ite_f hL1 hc7
    refine W_skip (nrm_normal (W_seq_reg ?_))
    refine WL_move rfl rfl ?_
    refine WL_move rfl rfl ?_
    refine WL_move rfl rfl ?_
    obtain ⟨x18, hx8, hL1⟩ := bind_some hL1
    refine WL_index Tryz.underlying39 ty75 g5 hx8 rfl rfl rfl (fun b11 o8 h19 => ?_)
    refine WL_field Tryz.underlying75 rfl rfl (fun w => ⟨_, Tryz.sizeOf3 w⟩) rfl rfl ?_
    refine WL_load ty3 h19.fst hC13.keep rfl rfl (fun v14 h20 => ?_)
    obtain rfl := ro_int h20
    refine WL_buildSlice (vs := [(.int .i64 x18.1)]) hC13 Tryz.underlying22 ty3 rfl rfl rfl rfl (by intro v hv; simp only [List.mem_cons, List.not_mem_nil, or_false] at hv; rcases hv with rfl <;> rfl) rfl rfl (fun b12 w18 hC21 hB17 => ?_)
    have hC22 := hC21.row0 (α := Int)
    have hC23 := hC22.triv (int_val (x18.1))
    have hC24 := hC23.row1
    have hC25 := hC24.front 1 rfl
    dsimp only [List.eraseIdx, List.cons_append, List.nil_append, List.append_nil] at hC25
    have hC26 : Ctx [] w0 w18 (Item.own (.slice (some ⟨b12, 0, none⟩) 1 1) ([x18.1] : List Int) :: [Item.own v2 (x4 : (List Int)), Item.own v1 (x3 : (List Int)), Item.box b1 [u3, u4]]) := hC25.rowOwn (by simp [maxLen])
    obtain ⟨x19, hx9, hL1⟩ := bind_some hL1
    refine WL_append_flat (α := Int) hC26 1 rfl (hC26.ro 0 rfl) (Keep.refl _ _) Tryz.underlying22 ty3 rfl hx9 rfl rfl rfl (fun v15 w19 hC27 => ?_)
    try dsimp only [List.set] at hC27
    refine WL_assign rfl rfl ?_
    refine WL_nil ?_
    refine W_drawn 12 rfl hmix (fun w20 hB18 => ?_)
    have hC28 := hC27.grow hB18
    refine WA_tk 0 (by kernel_rfl) rfl rfl (fl_move rfl) ?_
    refine WL_move rfl rfl ?_
    refine WL_nil ?_
    refine WA_tk 1 (by kernel_rfl) rfl rfl (fl_field Tryz.underlying37 rfl rfl (fun w => ⟨_, Tryz.sizeOf35 w⟩) rfl) ?_
    refine WL_field Tryz.underlying37 rfl rfl (fun w => ⟨_, Tryz.sizeOf35 w⟩) rfl rfl ?_
    refine WL_nil ?_
    refine WA_tk 3 (by kernel_rfl) rfl rfl (fl_move rfl) ?_
    refine WL_move rfl rfl ?_
    refine WL_nil ?_
    refine WA_tk 4 (by kernel_rfl) rfl rfl (fl_move rfl) ?_
    refine WL_move rfl rfl ?_
    refine WL_nil ?_
    obtain ⟨x20, hx10, hL1⟩ := bind_some hL1
    refine WA_tk 5 (by kernel_rfl) rfl rfl (fl_index Tryz.underlying39 ty75 g5 hx10 rfl rfl) ?_
    refine WL_index Tryz.underlying39 ty75 g5 hx10 rfl rfl rfl (fun b13 o9 h21 => ?_)
    refine WL_nil ?_
    refine WA_tk 6 (by kernel_rfl) rfl rfl (fl_field Tryz.underlying75 rfl rfl (fun w => ⟨_, Tryz.sizeOf3 w⟩) rfl) ?_
    refine WL_field Tryz.underlying75 rfl rfl (fun w => ⟨_, Tryz.sizeOf3 w⟩) rfl rfl ?_
    refine WL_nil ?_
    refine WA.sub (l' := [(1, u2), (3, u5), (6, (ptr b1 0)), (9, v1), (10, v15), (11, (.int .i64 x5)), (86, (.bool x6)), (87, v2), (88, u5), (89, (.int .i64 x5)), (90, (ptr b11 o8)), (91, (ptr b11 (o8 + 0))), (92, (.int .i64 x18.1)), (93, (.slice (some ⟨b12, 0, none⟩) 1 1)), (94, v15), (95, v1), (96, (ptr b1 1)), (98, u5), (99, (.int .i64 x5)), (100, (ptr b13 o9)), (101, (ptr b13 (o9 + 0)))]) ?_ ⟨rfl, rfl, rfl, rfl, rfl, rfl, rfl, rfl, rfl, rfl, rfl, rfl, rfl, rfl, rfl, rfl, rfl, rfl, rfl, rfl, rfl, trivial⟩
    refine WA_postsE [⟨2, [], fun vs => PW.val u4, []⟩, ⟨7, [], fun vs => PW.val (.int .i64 x20.1), []⟩] [[], []] 4 rfl (by kernel_rfl) (by kernel_rfl) rfl ?_ ?_
    ·refine StepsE_cons rfl ?_ ?_
     ·intro w21 hB19
      refine DepsE_nil ?_
      refine ⟨_, rfl, ?_⟩
      refine WL_load_box (hC28.grow hB19) 3 rfl rfl Tryz.isAgg35 rfl rfl ?_
      refine WL_nil ?_
      exact FinE_val (Below.refl _ _) rfl rfl ⟨rfl, rfl⟩
     refine StepsE_cons rfl ?_ ?_
     ·intro w21 hB19
      refine DepsE_nil ?_
      refine ⟨_, rfl, ?_⟩
      refine WL_load ty3 h21.fst (hC28.keep.then hB19) rfl rfl (fun v16 h22 => ?_)
      obtain rfl := ro_int h22
      refine WL_nil ?_
      exact FinE_val (Below.refl _ _) rfl rfl ⟨rfl, rfl⟩
     exact StepsE_nil
    intro w22 hB20
    refine AllE_cons rfl rfl rfl ?_
    rintro _ _ ⟨rfl, rfl⟩
    refine AllE_cons rfl rfl rfl ?_
    rintro _ _ ⟨rfl, rfl⟩
    refine AllE_nil ?_
    intro hn3 hb3
    have hC29 := hC28.grow hB20
    obtain ⟨x21, hx11, hL1⟩ := bind_some hL1
    refine WA_tk 8 (by kernel_rfl) rfl rfl (fl_index Tryz.underlying35 ty84 g4 hx11 rfl rfl) ?_
    refine WL_index Tryz.underlying35 ty84 g4 hx11 rfl rfl rfl (fun b14 o10 h23 => ?_)
    refine WL_nil ?_
    refine WA_one 9 (by kernel_rfl) rfl ?_
    refine WL_load ty84 h23 hC29.keep rfl rfl (fun v17 h24 => ?_)
    obtain ⟨v18, rfl, h25⟩ := ro_st84 h24
    refine WL_nil ?_
    obtain ⟨x22, hr9, hL1⟩ := bind_some hL1
    refine WA_one 10 (by kernel_rfl) rfl ?_
    refine WL_call Tryz.call57 rfl rfl (c_S_l6Bind x3 v1 ((hC29.ro 2 rfl).now (Keep.refl _ _)) x21 v18 (h25.now hC29.keep) x22 hr9) ?_
    rintro v19 w23 ⟨hB21, F1, hv6, hn4, hb4⟩
    have hC30 := hC29.push hB21 (A := Item.own v19 x22) hv6 hn4 hb4
    refine WL_nil ?_
    refine WA_tk 11 (by kernel_rfl) rfl rfl (fl_assign rfl) ?_
    refine WL_assign rfl rfl ?_
    refine WL_nil ?_
    refine WA_done (by kernel_rfl) ?_
    refine blk_normal (nrm_normal (W_reg ?_))
    refine WL_move rfl rfl ?_
    refine WL_add rfl rfl rfl ?_
    refine WL_assign rfl rfl ?_
    refine WL_nil ?_
    have hC31 := hC30.f4
    have hC32 := hC31.f1
    have hC33 := hC32.f3
    have hC34 := hC33.h3
    refine nrm_sub (l' := [(1, u2), (3, u5), (6, (ptr b1 0)), (9, v19), (10, v15), (11, (.int .i64 (w64 (x5 + 1))))]) ⟨rfl, rfl, rfl, rfl, rfl, rfl, trivial⟩ ?_
    exact ⟨k1, Nat.lt_succ_self _, v19, x22, v15, x19, w64 (x5 + 1), rfl, hC34, hL1⟩
   replace hL1 := ite_f hL1 hc3
   refine W_exit (nrm_exit (nrm_exit (blk_exit ?_)))
   have hq10 := Option.some.inj hL1
   subst hq10
   have hC35 := hC12.h0
   refine nrm_sub (l' := []) trivial ?_
   exact ⟨rfl, rfl, hC35⟩
 rintro l4 _ w24 hs4 ⟨rfl, rfl, hC36⟩
 try dsimp only at hF
 refine nrm_sub' hs4 ?_
 clear hs4
 refine W_seq_reg ?_
 refine WL_assign rfl rfl ?_
 refine WL_nil (W_ret ?_)
 have hq11 := Option.some.inj hF
 subst hq11
 refine fn_ret1 rfl rfl ?_
 exact ⟨_, rfl, bool_res hC36 _⟩

theorem c_S_l30Meets {w0 : World} (a1 : (List Int)) (u1 : Value) (g1 : RO [] w0 u1 a1) (a2 : (List Int)) (u2 : Value) (g2 : RO [] w0 u2 a2) (rr : Bool) (hF : S.l30Meets a1 a2 = some rr) :
 Calls Tryz.prog 44 [u1, u2].toArray w0 fun e w' => ∃ v, e = .returned v ∧ Res w0 rr v w' := by
 refine calls_of_W Tryz.func44 rfl rfl ?_
 have hC0 := Ctx.start w0
 unfold S.l30Meets at hF
 refine W_seq_reg ?_
 refine WL_assign rfl rfl ?_
 refine WL_nil (W_seq (W_seq_reg ?_))
 refine WL_assign rfl rfl ?_
 refine WL_nil ?_
 obtain ⟨r1, hr1, hF⟩ := bind_some hF
 refine W_norm (fun l w => .inl () = r1 ∧ l = [] ∧ Below w0.heap.size w0 w ∧ Ctx [] w0 w []) ?_ ?_
 ·refine W_block ?_
  refine W.sub (l' := [(0, u1), (1, u2), (5, (.int .i64 0))]) ?_ ⟨rfl, rfl, rfl, trivial⟩
  refine W_loop (fun k l w => ∃ x1 : Int, l = [(0, u1), (1, u2), (5, (.int .i64 x1))] ∧ Below w0.heap.size w0 w ∧ Ctx [] w0 w [] ∧ S.l30Meets_l1 a1 a2 k x1 = some r1) FUEL ⟨0, rfl, (Below.refl _ _), hC0, hr1⟩ ?_
  clear hr1
  rintro k1 _ w1 ⟨x1, rfl, hB1, hC1, hL1⟩
  cases k1 with
  | zero => rw [S.l30Meets_l1] at hL1; cases hL1
  | succ k1 =>
   rw [S.l30Meets_l1] at hL1
   refine W_seq (W_seq_reg ?_)
   refine WL_move rfl rfl ?_
   refine WL_move rfl rfl ?_
   refine WL_len Tryz.underlying22 g1 rfl rfl ?_
   refine WL_lss rfl rfl rfl ?_
   refine WL_nil ?_
   refine W_cond rfl (fun hc1 => ?_) (fun hc1 => ?_)
   ·replace hL1 := ite_t hL1 hc1
    refine W_skip (nrm_normal (W_seq (W_block (W_seq_reg ?_))))
    refine WL_move rfl rfl ?_
    refine WL_move rfl rfl ?_
    refine WL_move rfl rfl ?_
    obtain ⟨x2, hx1, hL1⟩ := bind_some hL1
    refine WL_index Tryz.underlying22 ty3 g1 hx1 rfl rfl rfl (fun b1 o1 h1 => ?_)
    refine WL_load ty3 h1 hC1.keep rfl rfl (fun v1 h2 => ?_)
    obtain rfl := ro_int h2
    obtain ⟨x3, hr2, hL1⟩ := bind_some hL1
    refine WL_call Tryz.call54 rfl rfl (c_S_l2Has a2 u2 (g2.now hC1.keep) x2 x3 hr2) ?_
    intro _ w2 hv1
    obtain ⟨rfl, hB2⟩ := res_bool hv1
    have hC2 := hC1.grow hB2
    refine WL_nil ?_
    refine W_cond rfl (fun hc2 => ?_) (fun hc2 => ?_)
    ·replace hL1 := ite_t hL1 hc2
     refine W_seq_reg ?_
     refine WL_assign rfl rfl ?_
     refine WL_nil (W_ret (blk_ret (nrm_ret (nrm_ret (blk_ret (nrm_ret (nrm_ret ?_)))))))
     have hq1 := Option.some.inj hL1
     subst hq1
     dsimp only at hF
     have hq2 := Option.some.inj hF
     subst hq2
     refine fn_ret1 rfl rfl ?_
     exact ⟨_, rfl, bool_res hC2 _⟩
    replace hL1 := ite_f hL1 hc2
    refine W_skip (blk_normal (nrm_normal (W_reg ?_)))
    refine WL_move rfl rfl ?_
    refine WL_add rfl rfl rfl ?_
    refine WL_assign rfl rfl ?_
    refine WL_nil ?_
    refine nrm_sub (l' := [(0, u1), (1, u2), (5, (.int .i64 (w64 (x1 + 1))))]) ⟨rfl, rfl, rfl, trivial⟩ ?_
    exact ⟨k1, Nat.lt_succ_self _, w64 (x1 + 1), rfl, ((Keep.of hB1).then hB2).below, hC2, hL1⟩
   replace hL1 := ite_f hL1 hc1
   refine W_exit (nrm_exit (nrm_exit (blk_exit ?_)))
   have hq3 := Option.some.inj hL1
   subst hq3
   refine nrm_sub (l' := []) trivial ?_
   exact ⟨rfl, rfl, (Keep.of hB1).below, hC1⟩
 rintro l2 _ w3 hs2 ⟨rfl, rfl, hB3, hC3⟩
 try dsimp only at hF
 refine nrm_sub' hs2 ?_
 clear hs2
 refine W_seq_reg ?_
 refine WL_assign rfl rfl ?_
 refine WL_nil (W_ret ?_)
 have hq4 := Option.some.inj hF
 subst hq4
 refine fn_ret1 rfl rfl ?_
 exact ⟨_, rfl, bool_res hC3 _⟩

theorem c_S_IsPrivateOrder {w0 : World} (a1 : (List Int)) (u1 : Value) (g1 : RO [] w0 u1 a1) (a2 : (List (Int × (List Int) × Int × Int × Int))) (u2 : Value) (g2 : RO [] w0 u2 a2) (a3 : ((List Int) × (List (Int × (List Int))))) (u3 : Value) (g3 : RO [] w0 u3 a3.1) (u4 : Value) (g4 : RO [] w0 u4 a3.2) (a4 : (List (Int × Int))) (u5 : Value) (g5 : RO [] w0 u5 a4) (a5 : (List Int)) (u6 : Value) (g6 : RO [] w0 u6 a5) (rr : Bool) (hF : S.IsPrivateOrder a1 a2 a3 a4 a5 = some rr) :
 Calls Tryz.prog 10 [u1, u2, (.agg #[u3, u4]), u5, u6].toArray w0 fun e w' => ∃ v, e = .returned v ∧ Res w0 rr v w' := by
 refine calls_of_W Tryz.func10 rfl rfl ?_
 have hC0 := Ctx.start w0
 unfold S.IsPrivateOrder at hF
 refine W_seq_reg ?_
 refine WL_boxK (cs := [u3, u4]) hC0 rfl rfl rfl (fun b1 w1 hC1 hB1 hN1 => ?_)
 refine WL_assign rfl rfl ?_
 refine WL_nil ?_
 obtain ⟨r1, hr1, hF⟩ := bind_some hF
 refine W_cut (fun l w => ∃ x1 : Bool, x1 = r1 ∧ l = [(10, (.bool x1))] ∧ Below w1.heap.size w1 w ∧ Ctx [] w0 w []) ?_ ?_
 ·refine W_reg ?_
  refine WL_move rfl rfl ?_
  refine WL_move rfl rfl ?_
  refine WL_load_box_agg [u3, u4] hC1 0 rfl rfl rfl Tryz.isAgg37 Tryz.sizeOf37 rfl rfl ?_
  refine WL_move rfl rfl ?_
  obtain ⟨x2, hr2, hr1⟩ := bind_some hr1
  refine WL_call Tryz.call43 rfl rfl (c_S_IsOrder a1 u1 (g1.now hC1.keep) a2 u2 (g2.now hC1.keep) (a3.1, a3.2) u3 (g3.now hC1.keep) u4 (g4.now hC1.keep) a4 u5 (g5.now hC1.keep) x2 hr2) ?_
  intro _ w3 hv1
  obtain ⟨rfl, hB3⟩ := res_bool hv1
  have hC3 := hC1.grow hB3
  refine WL_move rfl rfl ?_
  refine WL_fork (fun hc1 => ?_) (fun hc1 => ?_)
  ·replace hr1 := ite_t hr1 hc1
   refine WL_guard rfl rfl ?_
   refine WL_move rfl rfl ?_
   refine WL_guard rfl rfl ?_
   refine WL_load_box_agg [u3, u4] hC3 0 rfl rfl rfl Tryz.isAgg37 Tryz.sizeOf37 rfl rfl ?_
   refine WL_guard rfl rfl ?_
   refine WL_move rfl rfl ?_
   obtain ⟨x3, hr3, hr1⟩ := bind_some hr1
   refine WL_guard rfl rfl ?_
   refine WL_call Tryz.call39 rfl rfl (c_S_Disclosed a2 u2 (g2.now hC3.keep) (a3.1, a3.2) u3 (g3.now hC3.keep) u4 (g4.now hC3.keep) a4 u5 (g5.now hC3.keep) x3 hr3) ?_
   rintro v1 w4 ⟨hB4, F1, hv2, hn1, hb1⟩
   have hC4 := hC3.push hB4 (A := Item.own v1 x3) hv2 hn1 hb1
   refine WL_guard rfl rfl ?_
   refine WL_move rfl rfl ?_
   obtain ⟨x4, hr4, hr1⟩ := bind_some hr1
   refine WL_guard rfl rfl ?_
   refine WL_call Tryz.call44 rfl rfl (c_S_l30Meets x3 v1 ((hC4.ro 0 rfl).now (Keep.refl _ _)) a5 u6 (g6.now hC4.keep) x4 hr4) ?_
   intro _ w5 hv3
   obtain ⟨rfl, hB5⟩ := res_bool hv3
   have hC5 := hC4.grow hB5
   refine WL_guard rfl rfl ?_
   refine WL_not rfl rfl ?_
   refine WL_pick_t rfl rfl rfl ?_
   refine WL_assign rfl rfl ?_
   refine WL_nil ?_
   have hq1 := Option.some.inj hr1
   subst hq1
   have hC6 := hC5.h0
   refine nrm_sub (l' := [(10, (.bool (!x4)))]) ⟨rfl, trivial⟩ ?_
   exact ⟨(!x4), rfl, rfl, (((Keep.of hB3).then hB4).then hB5).below, hC6⟩
  replace hr1 := ite_f hr1 hc1
  refine WL_guard_skip rfl rfl (by simp) rfl ?_
  refine WL_guard_skip rfl rfl (by simp) rfl ?_
  refine WL_guard_skip rfl rfl (by simp) rfl ?_
  refine WL_guard_skip rfl rfl (by simp) rfl ?_
  refine WL_guard_skip rfl rfl (by simp) rfl ?_
  refine WL_guard_skip rfl rfl (by simp) rfl ?_
  refine WL_guard_skip rfl rfl (by simp) rfl ?_
  refine WL_pick_f rfl rfl rfl ?_
  refine WL_assign rfl rfl ?_
  refine WL_nil ?_
  have hq2 := Option.some.inj hr1
  subst hq2
  have hC7 := hC3.h0
  refine nrm_sub (l' := [(10, (.bool false))]) ⟨rfl, trivial⟩ ?_
  exact ⟨false, rfl, rfl, (Keep.of hB3).below, hC7⟩
 rintro _ w2 ⟨x1, rfl, rfl, hB2, hC2⟩
 try dsimp only at hF
 refine W_ret ?_
 have hq3 := Option.some.inj hF
 subst hq3
 refine fn_ret1 rfl rfl ?_
 exact ⟨_, rfl, bool_res hC2 _⟩

theorem c_Q_toIntS {w0 : World} (a1 : (List Int)) (u1 : Value) (g1 : RO [] w0 u1 a1) (rr : (List Int)) (hF : Q.toIntS a1 = some rr) :
 Calls Tryz.prog 11 [u1].toArray w0 fun e w' => ∃ v, e = .returned v ∧ Res w0 rr v w' := by
 refine calls_of_W Tryz.func11 rfl rfl ?_
 have hC0 := Ctx.start w0
 unfold Q.toIntS at hF
 refine W_seq_reg ?_
 refine WL_assign rfl rfl ?_
 refine WL_nil (W_seq_reg ?_)
 refine WL_move rfl rfl ?_
 refine WL_len Tryz.underlying22 g1 rfl rfl ?_
 obtain ⟨x1, hx1, hF⟩ := bind_some hF
 refine WL_makeSlice hC0 Tryz.underlying22 ty3 rfl zc3 zr3 hx1 rfl rfl rfl (fun b1 w1 hC1 hB1 => ?_)
 refine WL_assign rfl rfl ?_
 refine WL_nil (W_seq (W_seq_reg ?_))
 refine WL_assign rfl rfl ?_
 refine WL_nil ?_
 obtain ⟨r1, hr1, hF⟩ := bind_some hF
 refine W_norm (fun l w => ∃ x4 : (List Int), x4 = r1 ∧ l = [(3, (.slice (some ⟨b1, 0, none⟩) (Int.toNat (List.length a1 : Int)) (Int.toNat (List.length a1 : Int))))] ∧ Ctx [] w0 w [Item.own (.slice (some ⟨b1, 0, none⟩) (Int.toNat (List.length a1 : Int)) (Int.toNat (List.length a1 : Int))) (x4 : (List Int))]) ?_ ?_
 ·refine W_block ?_
  refine W.sub (l' := [(0, u1), (3, (.slice (some ⟨b1, 0, none⟩) (Int.toNat (List.length a1 : Int)) (Int.toNat (List.length a1 : Int)))), (4, (.int .i64 0))]) ?_ ⟨rfl, rfl, rfl, trivial⟩
  refine W_loop (fun k l w => ∃ x2 : (List Int), ∃ x3 : Int, l = [(0, u1), (3, (.slice (some ⟨b1, 0, none⟩) (Int.toNat (List.length a1 : Int)) (Int.toNat (List.length a1 : Int)))), (4, (.int .i64 x3))] ∧ Ctx [] w0 w [Item.own (.slice (some ⟨b1, 0, none⟩) (Int.toNat (List.length a1 : Int)) (Int.toNat (List.length a1 : Int))) (x2 : (List Int))] ∧ Q.toIntS_l1 a1 k x2 x3 = some r1) FUEL ⟨x1, 0, rfl, hC1, hr1⟩ ?_
  clear hr1
  rintro k1 _ w2 ⟨x2, x3, rfl, hC2, hL1⟩
  cases k1 with
  | zero => rw [Q.toIntS_l1] at hL1; cases hL1
  | succ k1 =>
   rw [Q.toIntS_l1] at hL1
   refine W_seq (W_seq_reg ?_)
   refine WL_move rfl rfl ?_
   refine WL_move rfl rfl ?_
   refine WL_len Tryz.underlying22 g1 rfl rfl ?_
   refine WL_lss rfl rfl rfl ?_
   refine WL_nil ?_
   refine W_cond rfl (fun hc1 => ?_) (fun hc1 => ?_)
   ·replace hL1 := ite_t hL1 hc1
    refine W_skip (nrm_normal (W_seq (W_block (W_reg ?_))))
    refine WL_move rfl rfl ?_
    refine WL_move rfl rfl ?_
    refine WL_move rfl rfl ?_
    refine WL_move rfl rfl ?_
    obtain ⟨x5, hx2, hL1⟩ := bind_some hL1
    refine WL_index Tryz.underlying22 ty3 g1 hx2 rfl rfl rfl (fun b2 o1 h1 => ?_)
    refine WL_load ty3 h1 hC2.keep rfl rfl (fun v1 h2 => ?_)
    obtain rfl := ro_int h2
    obtain ⟨x6, hx3, hL1⟩ := bind_some hL1
    refine WL_index_own hC2 0 rfl Tryz.underlying22 ty3 hx3 rfl rfl rfl (fun b3 hE1 => ?_)
    have hC4 := hC2.triv (int_val (x5))
    refine WL_store_elem hC4 0 rfl ty3 hE1 hx3 rfl rfl rfl (fun w3 hC3 => ?_)
    try dsimp only [List.set] at hC3
    refine WL_nil (blk_normal (nrm_normal (W_reg ?_)))
    refine WL_move rfl rfl ?_
    refine WL_add rfl rfl rfl ?_
    refine WL_assign rfl rfl ?_
    refine WL_nil ?_
    refine nrm_sub (l' := [(0, u1), (3, (.slice (some ⟨b1, 0, none⟩) (Int.toNat (List.length a1 : Int)) (Int.toNat (List.length a1 : Int)))), (4, (.int .i64 (w64 (x3 + 1))))]) ⟨rfl, rfl, rfl, trivial⟩ ?_
    exact ⟨k1, Nat.lt_succ_self _, (List.set x2 (Int.toNat x3) x5), w64 (x3 + 1), rfl, hC3, hL1⟩
   replace hL1 := ite_f hL1 hc1
   refine W_exit (nrm_exit (nrm_exit (blk_exit ?_)))
   have hq1 := Option.some.inj hL1
   subst hq1
   refine nrm_sub (l' := [(3, (.slice (some ⟨b1, 0, none⟩) (Int.toNat (List.length a1 : Int)) (Int.toNat (List.length a1 : Int))))]) ⟨rfl, trivial⟩ ?_
   exact ⟨x2, rfl, rfl, hC2⟩
 rintro l2 _ w4 hs2 ⟨x4, rfl, rfl, hC5⟩
 try dsimp only at hF
 refine nrm_sub' hs2 ?_
 clear hs2
 refine W_seq_reg ?_
 refine WL_move rfl rfl ?_
 refine WL_assign rfl rfl ?_
 refine WL_nil (W_ret ?_)
 have hq2 := Option.some.inj hF
 subst hq2
 refine fn_ret1 rfl rfl ?_
 exact ⟨_, rfl, own_res hC5 0 rfl⟩

theorem c_Q_toMethod {w0 : World} (a1 : (Int × (List Int) × Int × Int × Int)) (u1 : Value) (g1 : RO [] w0 u1 a1.2.1) (rr : (Int × (List Int) × Int × Int × Int)) (hF : Q.toMethod a1 = some rr) :
 Calls Tryz.prog 45 [(.agg #[(.int .i64 a1.1), u1, (.int .i64 a1.2.2.1), (.int .i64 a1.2.2.2.1), (.int .i64 a1.2.2.2.2)])].toArray w0 fun e w' => ∃ v, e = .returned v ∧ Res w0 rr v w' := by
 refine calls_of_W Tryz.func45 rfl rfl ?_
 have hC0 := Ctx.start w0
 unfold Q.toMethod at hF
 refine W_seq_reg ?_
 refine WL_boxK (cs := [(.int .i64 a1.1), u1, (.int .i64 a1.2.2.1), (.int .i64 a1.2.2.2.1), (.int .i64 a1.2.2.2.2)]) hC0 rfl rfl rfl (fun b1 w1 hC1 hB1 hN1 => ?_)
 refine WL_allocK hC1 zero71 rfl rfl (fun b2 w2 hC2 hB2 hN2 => ?_)
 refine WL_nil (W_seq_reg ?_)
 refine WL_allocK hC2 zero71 rfl rfl (fun b3 w3 hC3 hB3 hN3 => ?_)
 refine WL_nil (W_seq_reg ?_)
 refine WL_field Tryz.underlying68 rfl rfl (fun w => ⟨_, Tryz.sizeOf3 w⟩) rfl rfl ?_
 refine WL_load_box hC3 2 rfl rfl Tryz.isAgg3 rfl rfl ?_
 refine WL_field Tryz.underlying71 rfl rfl (fun w => ⟨_, Tryz.sizeOf3 w⟩) rfl rfl ?_
 refine WL_store_boxK (cs' := [(.int .i64 a1.1), (.slice none 0 0), (.int .i64 0), (.int .i64 0), (.int .i64 0)]) hC3 0 rfl rfl rfl rfl Tryz.sizeOf3 rfl rfl (fun w4 hC4 hKp1 => ?_)
 try dsimp only [List.set] at hC4
 have hk1 := Keep.over (((Keep.of hB1).then hB2).then hB3) (Nat.le_trans ((Keep.of hB1).then hB2).size hN3) hKp1
 have hk2 := Keep.over ((Keep.of hB2).then hB3) (Nat.le_trans (Keep.of hB2).size hN3) hKp1
 have hk3 := Keep.over (Keep.of hB3) hN3 hKp1
 refine WL_nil (W_seq_reg ?_)
 refine WL_field Tryz.underlying68 rfl rfl (fun w => ⟨_, Tryz.sizeOf22 w⟩) rfl rfl ?_
 refine WL_load_box hC4 2 rfl rfl Tryz.isAgg22 rfl rfl ?_
 obtain ⟨x1, hr1, hF⟩ := bind_some hF
 refine WL_call Tryz.call11 rfl rfl (c_Q_toIntS a1.2.1 u1 (g1.now hC4.keep) x1 hr1) ?_
 rintro v1 w5 ⟨hB4, F1, hv1, hn1, hb1⟩
 have hC5 := hC4.push hB4 (A := Item.own v1 x1) hv1 hn1 hb1
 refine WL_field Tryz.underlying71 rfl rfl (fun w => ⟨_, Tryz.sizeOf22 w⟩) rfl rfl ?_
 refine WL_store_boxK (cs' := [(.int .i64 a1.1), v1, (.int .i64 0), (.int .i64 0), (.int .i64 0)]) hC5 1 rfl rfl (ro_one (hC5.ro 0 rfl)) rfl Tryz.sizeOf22 rfl rfl (fun w6 hC6 hKp2 => ?_)
 try dsimp only [List.set] at hC6
 have hk4 := Keep.over (hk1.then hB4) (Nat.le_trans ((Keep.of hB1).then hB2).size hN3) hKp2
 have hk5 := Keep.over (hk2.then hB4) (Nat.le_trans (Keep.of hB2).size hN3) hKp2
 have hk6 := Keep.over (hk3.then hB4) hN3 hKp2
 refine WL_nil (W_seq_reg ?_)
 refine WL_field Tryz.underlying68 rfl rfl (fun w => ⟨_, Tryz.sizeOf3 w⟩) rfl rfl ?_
 refine WL_load_box hC6 3 rfl rfl Tryz.isAgg3 rfl rfl ?_
 refine WL_field Tryz.underlying71 rfl rfl (fun w => ⟨_, Tryz.sizeOf3 w⟩) rfl rfl ?_
 refine WL_store_boxK (cs' := [(.int .i64 a1.1), v1, (.int .i64 a1.2.2.1), (.int .i64 0), (.int .i64 0)]) hC6 1 rfl rfl rfl rfl Tryz.sizeOf3 rfl rfl (fun w7 hC7 hKp3 => ?_)
 try dsimp only [List.set] at hC7
 have hk7 := Keep.over hk4 (Nat.le_trans ((Keep.of hB1).then hB2).size hN3) hKp3
 have hk8 := Keep.over hk5 (Nat.le_trans (Keep.of hB2).size hN3) hKp3
 have hk9 := Keep.over hk6 hN3 hKp3
 refine WL_nil (W_seq_reg ?_)
 refine WL_field Tryz.underlying68 rfl rfl (fun w => ⟨_, Tryz.sizeOf3 w⟩) rfl rfl ?_
 refine WL_load_box hC7 3 rfl rfl Tryz.isAgg3 rfl rfl ?_
 refine WL_field Tryz.underlying71 rfl rfl (fun w => ⟨_, Tryz.sizeOf3 w⟩) rfl rfl ?_
 refine WL_store_boxK (cs' := [(.int .i64 a1.1), v1, (.int .i64 a1.2.2.1), (.int .i64 a1.2.2.2.1), (.int .i64 0)]) hC7 1 rfl rfl rfl rfl Tryz.sizeOf3 rfl rfl (fun w9 hC8 hKp4 => ?_)
 try dsimp only [List.set] at hC8
 have hk10 := Keep.over hk7 (Nat.le_trans ((Keep.of hB1).then hB2).size hN3) hKp4
 have hk11 := Keep.over hk8 (Nat.le_trans (Keep.of hB2).size hN3) hKp4
 have hk12 := Keep.over hk9 hN3 hKp4
 refine WL_nil (W_seq_reg ?_)
 refine WL_field Tryz.underlying68 rfl rfl (fun w => ⟨_, Tryz.sizeOf3 w⟩) rfl rfl ?_
 refine WL_load_box hC8 3 rfl rfl Tryz.isAgg3 rfl rfl ?_
 refine WL_field Tryz.underlying71 rfl rfl (fun w => ⟨_, Tryz.sizeOf3 w⟩) rfl rfl ?_
 refine WL_store_boxK (cs' := [(.int .i64 a1.1), v1, (.int .i64 a1.2.2.1), (.int .i64 a1.2.2.2.1), (.int .i64 a1.2.2.2.2)]) hC8 1 rfl rfl rfl rfl Tryz.sizeOf3 rfl rfl (fun w10 hC9 hKp5 => ?_)
 try dsimp only [List.set] at hC9
 have hk13 := Keep.over hk10 (Nat.le_trans ((Keep.of hB1).then hB2).size hN3) hKp5
 have hk14 := Keep.over hk11 (Nat.le_trans (Keep.of hB2).size hN3) hKp5
 have hk15 := Keep.over hk12 hN3 hKp5
 refine WL_nil (W_seq_reg ?_)
 refine WL_load_box_agg [(.int .i64 a1.1), v1, (.int .i64 a1.2.2.1), (.int .i64 a1.2.2.2.1), (.int .i64 a1.2.2.2.2)] hC9 1 rfl rfl rfl Tryz.isAgg71 Tryz.sizeOf71 rfl rfl ?_
 refine WL_store_box_aggK (cs' := [(.int .i64 a1.1), v1, (.int .i64 a1.2.2.1), (.int .i64 a1.2.2.2.1), (.int .i64 a1.2.2.2.2)]) (new := [(.int .i64 a1.1), v1, (.int .i64 a1.2.2.1), (.int .i64 a1.2.2.2.1), (.int .i64 a1.2.2.2.2)]) hC9 2 rfl rfl (by intro v hv; simp only [List.mem_cons, List.not_mem_nil, or_false] at hv; rcases hv with rfl | rfl | rfl | rfl | rfl; exact rfl; exact (ro_one (hC9.ro 0 rfl)); exact rfl; exact rfl; exact rfl) rfl Tryz.sizeOf71 rfl rfl (fun w11 hC10 hKp6 => ?_)
 try dsimp only [List.set] at hC10
 have hk16 := Keep.over hk13 (Nat.le_trans (Keep.of hB1).size hN2) hKp6
 have hk17 := Keep.over hk14 hN2 hKp6
 refine WL_nil (W_ret ?_)
 have hq1 := Option.some.inj hF
 subst hq1
 refine fn_retG1 rfl (rv_cell_agg (cs' := [(.int .i64 a1.1), v1, (.int .i64 a1.2.2.1), (.int .i64 a1.2.2.2.1), (.int .i64 a1.2.2.2.2)]) hC10 (i := 2) rfl rfl rfl Tryz.isAgg71 Tryz.sizeOf71 rfl) ?_
 have hC11 := own_st71 a1.1 v1 x1 a1.2.2.1 a1.2.2.2.1 a1.2.2.2.2 hC10
 exact ⟨_, rfl, own_res hC11 0 rfl⟩

theorem c_Q_toMethodS {w0 : World} (a1 : (List (Int × (List Int) × Int × Int × Int))) (u1 : Value) (g1 : RO [] w0 u1 a1) (rr : (List (Int × (List Int) × Int × Int × Int))) (hF : Q.toMethodS a1 = some rr) :
 Calls Tryz.prog 12 [u1].toArray w0 fun e w' => ∃ v, e = .returned v ∧ Res w0 rr v w' := by
 refine calls_of_W Tryz.func12 rfl rfl ?_
 have hC0 := Ctx.start w0
 unfold Q.toMethodS at hF
 refine W_seq_reg ?_
 refine WL_assign rfl rfl ?_
 refine WL_nil (W_seq_reg ?_)
 refine WL_move rfl rfl ?_
 refine WL_len Tryz.underlying23 g1 rfl rfl ?_
 obtain ⟨x1, hx1, hF⟩ := bind_some hF
 refine WL_makeSlice hC0 Tryz.underlying33 ty71 rfl zc71 zr71 hx1 rfl rfl rfl (fun b1 w1 hC1 hB1 => ?_)
 refine WL_assign rfl rfl ?_
 refine WL_nil (W_seq (W_seq_reg ?_))
 refine WL_assign rfl rfl ?_
 refine WL_nil ?_
 obtain ⟨r1, hr1, hF⟩ := bind_some hF
 refine W_norm (fun l w => ∃ x4 : (List (Int × (List Int) × Int × Int × Int)), x4 = r1 ∧ l = [(3, (.slice (some ⟨b1, 0, none⟩) (Int.toNat (List.length a1 : Int)) (Int.toNat (List.length a1 : Int))))] ∧ Ctx [] w0 w [Item.own (.slice (some ⟨b1, 0, none⟩) (Int.toNat (List.length a1 : Int)) (Int.toNat (List.length a1 : Int))) (x4 : (List (Int × (List Int) × Int × Int × Int)))]) ?_ ?_
 ·refine W_block ?_
  refine W.sub (l' := [(0, u1), (3, (.slice (some ⟨b1, 0, none⟩) (Int.toNat (List.length a1 : Int)) (Int.toNat (List.length a1 : Int)))), (4, (.int .i64 0))]) ?_ ⟨rfl, rfl, rfl, trivial⟩
  refine W_loop (fun k l w => ∃ x2 : (List (Int × (List Int) × Int × Int × Int)), ∃ x3 : Int, l = [(0, u1), (3, (.slice (some ⟨b1, 0, none⟩) (Int.toNat (List.length a1 : Int)) (Int.toNat (List.length a1 : Int)))), (4, (.int .i64 x3))] ∧ Ctx [] w0 w [Item.own (.slice (some ⟨b1, 0, none⟩) (Int.toNat (List.length a1 : Int)) (Int.toNat (List.length a1 : Int))) (x2 : (List (Int × (List Int) × Int × Int × Int)))] ∧ Q.toMethodS_l1 a1 k x2 x3 = some r1) FUEL ⟨x1, 0, rfl, hC1, hr1⟩ ?_
  clear hr1
  rintro k1 _ w2 ⟨x2, x3, rfl, hC2, hL1⟩
  cases k1 with
  | zero => rw [Q.toMethodS_l1] at hL1; cases hL1
  | succ k1 =>
   rw [Q.toMethodS_l1] at hL1
   refine W_seq (W_seq_reg ?_)
   refine WL_move rfl rfl ?_
   refine WL_move rfl rfl ?_
   refine WL_len Tryz.underlying23 g1 rfl rfl ?_
   refine WL_lss rfl rfl rfl ?_
   refine WL_nil ?_
   refine W_cond rfl (fun hc1 => ?_) (fun hc1 => ?_)
   ·replace hL1 := ite_t hL1 hc1
    refine W_skip (nrm_normal (W_seq (W_block (W_reg ?_))))
    refine WL_move rfl rfl ?_
    refine WL_move rfl rfl ?_
    refine WL_move rfl rfl ?_
    refine WL_move rfl rfl ?_
    obtain ⟨x5, hx2, hL1⟩ := bind_some hL1
    refine WL_index Tryz.underlying23 ty68 g1 hx2 rfl rfl rfl (fun b2 o1 h1 => ?_)
    refine WL_load ty68 h1 hC2.keep rfl rfl (fun v1 h2 => ?_)
    obtain ⟨v2, rfl, h3⟩ := ro_st68 h2
    obtain ⟨x6, hr2, hL1⟩ := bind_some hL1
    refine WL_call Tryz.call45 rfl rfl (c_Q_toMethod x5 v2 (h3.now hC2.keep) x6 hr2) ?_
    rintro v3 w3 ⟨hB3, F1, hv1, hn1, hb1⟩
    have hC3 := hC2.push hB3 (A := Item.own v3 x6) hv1 hn1 hb1
    obtain ⟨v4, rfl, hC4⟩ := st71_own hC3
    obtain ⟨x7, hx3, hL1⟩ := bind_some hL1
    refine WL_index_own hC4 1 rfl Tryz.underlying33 ty71 hx3 rfl rfl rfl (fun b3 hE1 => ?_)
    have hC6 := own_st71 x6.1 v4 x6.2.1 x6.2.2.1 x6.2.2.2.1 x6.2.2.2.2 hC4
    refine WL_store_elem hC6 0 rfl ty71 hE1 hx3 rfl rfl rfl (fun w4 hC5 => ?_)
    try dsimp only [List.set] at hC5
    refine WL_nil (blk_normal (nrm_normal (W_reg ?_)))
    refine WL_move rfl rfl ?_
    refine WL_add rfl rfl rfl ?_
    refine WL_assign rfl rfl ?_
    refine WL_nil ?_
    refine nrm_sub (l' := [(0, u1), (3, (.slice (some ⟨b1, 0, none⟩) (Int.toNat (List.length a1 : Int)) (Int.toNat (List.length a1 : Int)))), (4, (.int .i64 (w64 (x3 + 1))))]) ⟨rfl, rfl, rfl, trivial⟩ ?_
    exact ⟨k1, Nat.lt_succ_self _, (List.set x2 (Int.toNat x3) (x6.1, x6.2.1, x6.2.2.1, x6.2.2.2.1, x6.2.2.2.2)), w64 (x3 + 1), rfl, hC5, hL1⟩
   replace hL1 := ite_f hL1 hc1
   refine W_exit (nrm_exit (nrm_exit (blk_exit ?_)))
   have hq1 := Option.some.inj hL1
   subst hq1
   refine nrm_sub (l' := [(3, (.slice (some ⟨b1, 0, none⟩) (Int.toNat (List.length a1 : Int)) (Int.toNat (List.length a1 : Int))))]) ⟨rfl, trivial⟩ ?_
   exact ⟨x2, rfl, rfl, hC2⟩
 rintro l2 _ w5 hs2 ⟨x4, rfl, rfl, hC8⟩
 try dsimp only at hF
 refine nrm_sub' hs2 ?_
 clear hs2
 refine W_seq_reg ?_
 refine WL_move rfl rfl ?_
 refine WL_assign rfl rfl ?_
 refine WL_nil (W_ret ?_)
 have hq2 := Option.some.inj hF
 subst hq2
 refine fn_ret1 rfl rfl ?_
 exact ⟨_, rfl, own_res hC8 0 rfl⟩

theorem c_Q_toAtom {w0 : World} (a1 : (Int × (List Int))) (u1 : Value) (g1 : RO [] w0 u1 a1.2) (rr : (Int × (List Int))) (hF : Q.toAtom a1 = some rr) :
 Calls Tryz.prog 85 [(.agg #[(.int .i64 a1.1), u1])].toArray w0 fun e w' => ∃ v, e = .returned v ∧ Res w0 rr v w' := by
 refine calls_of_W Tryz.func85 rfl rfl ?_
 have hC0 := Ctx.start w0
 unfold Q.toAtom at hF
 refine W_seq_reg ?_
 refine WL_boxK (cs := [(.int .i64 a1.1), u1]) hC0 rfl rfl rfl (fun b1 w1 hC1 hB1 hN1 => ?_)
 refine WL_allocK hC1 zero84 rfl rfl (fun b2 w2 hC2 hB2 hN2 => ?_)
 refine WL_nil (W_seq_reg ?_)
 refine WL_allocK hC2 zero84 rfl rfl (fun b3 w3 hC3 hB3 hN3 => ?_)
 refine WL_nil (W_seq_reg ?_)
 refine WL_field Tryz.underlying105 rfl rfl (fun w => ⟨_, Tryz.sizeOf3 w⟩) rfl rfl ?_
 refine WL_load_box hC3 2 rfl rfl Tryz.isAgg3 rfl rfl ?_
 refine WL_field Tryz.underlying84 rfl rfl (fun w => ⟨_, Tryz.sizeOf3 w⟩) rfl rfl ?_
 refine WL_store_boxK (cs' := [(.int .i64 a1.1), (.slice none 0 0)]) hC3 0 rfl rfl rfl rfl Tryz.sizeOf3 rfl rfl (fun w4 hC4 hKp1 => ?_)
 try dsimp only [List.set] at hC4
 have hk1 := Keep.over (((Keep.of hB1).then hB2).then hB3) (Nat.le_trans ((Keep.of hB1).then hB2).size hN3) hKp1
 have hk2 := Keep.over ((Keep.of hB2).then hB3) (Nat.le_trans (Keep.of hB2).size hN3) hKp1
 have hk3 := Keep.over (Keep.of hB3) hN3 hKp1
 refine WL_nil (W_seq_reg ?_)
 refine WL_field Tryz.underlying105 rfl rfl (fun w => ⟨_, Tryz.sizeOf22 w⟩) rfl rfl ?_
 refine WL_load_box hC4 2 rfl rfl Tryz.isAgg22 rfl rfl ?_
 obtain ⟨x1, hr1, hF⟩ := bind_some hF
 refine WL_call Tryz.call11 rfl rfl (c_Q_toIntS a1.2 u1 (g1.now hC4.keep) x1 hr1) ?_
 rintro v1 w5 ⟨hB4, F1, hv1, hn1, hb1⟩
 have hC5 := hC4.push hB4 (A := Item.own v1 x1) hv1 hn1 hb1
 refine WL_field Tryz.underlying84 rfl rfl (fun w => ⟨_, Tryz.sizeOf22 w⟩) rfl rfl ?_
 refine WL_store_boxK (cs' := [(.int .i64 a1.1), v1]) hC5 1 rfl rfl (ro_one (hC5.ro 0 rfl)) rfl Tryz.sizeOf22 rfl rfl (fun w6 hC6 hKp2 => ?_)
 try dsimp only [List.set] at hC6
 have hk4 := Keep.over (hk1.then hB4) (Nat.le_trans ((Keep.of hB1).then hB2).size hN3) hKp2
 have hk5 := Keep.over (hk2.then hB4) (Nat.le_trans (Keep.of hB2).size hN3) hKp2
 have hk6 := Keep.over (hk3.then hB4) hN3 hKp2
 refine WL_nil (W_seq_reg ?_)
 refine WL_load_box_agg [(.int .i64 a1.1), v1] hC6 1 rfl rfl rfl Tryz.isAgg84 Tryz.sizeOf84 rfl rfl ?_
 refine WL_store_box_aggK (cs' := [(.int .i64 a1.1), v1]) (new := [(.int .i64 a1.1), v1]) hC6 2 rfl rfl (by intro v hv; simp only [List.mem_cons, List.not_mem_nil, or_false] at hv; rcases hv with rfl | rfl; exact rfl; exact (ro_one (hC6.ro 0 rfl))) rfl Tryz.sizeOf84 rfl rfl (fun w7 hC7 hKp3 => ?_)
 try dsimp only [List.set] at hC7
 have hk7 := Keep.over hk4 (Nat.le_trans (Keep.of hB1).size hN2) hKp3
 have hk8 := Keep.over hk5 hN2 hKp3
 refine WL_nil (W_ret ?_)
 have hq1 := Option.some.inj hF
 subst hq1
 refine fn_retG1 rfl (rv_cell_agg (cs' := [(.int .i64 a1.1), v1]) hC7 (i := 2) rfl rfl rfl Tryz.isAgg84 Tryz.sizeOf84 rfl) ?_
 have hC8 := own_st84 a1.1 v1 x1 hC7
 exact ⟨_, rfl, own_res hC8 0 rfl⟩

theorem c_Q_toAtomS {w0 : World} (a1 : (List (Int × (List Int)))) (u1 : Value) (g1 : RO [] w0 u1 a1) (rr : (List (Int × (List Int)))) (hF : Q.toAtomS a1 = some rr) :
 Calls Tryz.prog 46 [u1].toArray w0 fun e w' => ∃ v, e = .returned v ∧ Res w0 rr v w' := by
 refine calls_of_W Tryz.func46 rfl rfl ?_
 have hC0 := Ctx.start w0
 unfold Q.toAtomS at hF
 refine W_seq_reg ?_
 refine WL_assign rfl rfl ?_
 refine WL_nil (W_seq_reg ?_)
 refine WL_move rfl rfl ?_
 refine WL_len Tryz.underlying24 g1 rfl rfl ?_
 obtain ⟨x1, hx1, hF⟩ := bind_some hF
 refine WL_makeSlice hC0 Tryz.underlying35 ty84 rfl zc84 zr84 hx1 rfl rfl rfl (fun b1 w1 hC1 hB1 => ?_)
 refine WL_assign rfl rfl ?_
 refine WL_nil (W_seq (W_seq_reg ?_))
 refine WL_assign rfl rfl ?_
 refine WL_nil ?_
 obtain ⟨r1, hr1, hF⟩ := bind_some hF
 refine W_norm (fun l w => ∃ x4 : (List (Int × (List Int))), x4 = r1 ∧ l = [(3, (.slice (some ⟨b1, 0, none⟩) (Int.toNat (List.length a1 : Int)) (Int.toNat (List.length a1 : Int))))] ∧ Ctx [] w0 w [Item.own (.slice (some ⟨b1, 0, none⟩) (Int.toNat (List.length a1 : Int)) (Int.toNat (List.length a1 : Int))) (x4 : (List (Int × (List Int))))]) ?_ ?_
 ·refine W_block ?_
  refine W.sub (l' := [(0, u1), (3, (.slice (some ⟨b1, 0, none⟩) (Int.toNat (List.length a1 : Int)) (Int.toNat (List.length a1 : Int)))), (4, (.int .i64 0))]) ?_ ⟨rfl, rfl, rfl, trivial⟩
  refine W_loop (fun k l w => ∃ x2 : (List (Int × (List Int))), ∃ x3 : Int, l = [(0, u1), (3, (.slice (some ⟨b1, 0, none⟩) (Int.toNat (List.length a1 : Int)) (Int.toNat (List.length a1 : Int)))), (4, (.int .i64 x3))] ∧ Ctx [] w0 w [Item.own (.slice (some ⟨b1, 0, none⟩) (Int.toNat (List.length a1 : Int)) (Int.toNat (List.length a1 : Int))) (x2 : (List (Int × (List Int))))] ∧ Q.toAtomS_l1 a1 k x2 x3 = some r1) FUEL ⟨x1, 0, rfl, hC1, hr1⟩ ?_
  clear hr1
  rintro k1 _ w2 ⟨x2, x3, rfl, hC2, hL1⟩
  cases k1 with
  | zero => rw [Q.toAtomS_l1] at hL1; cases hL1
  | succ k1 =>
   rw [Q.toAtomS_l1] at hL1
   refine W_seq (W_seq_reg ?_)
   refine WL_move rfl rfl ?_
   refine WL_move rfl rfl ?_
   refine WL_len Tryz.underlying24 g1 rfl rfl ?_
   refine WL_lss rfl rfl rfl ?_
   refine WL_nil ?_
   refine W_cond rfl (fun hc1 => ?_) (fun hc1 => ?_)
   ·replace hL1 := ite_t hL1 hc1
    refine W_skip (nrm_normal (W_seq (W_block (W_reg ?_))))
    refine WL_move rfl rfl ?_
    refine WL_move rfl rfl ?_
    refine WL_move rfl rfl ?_
    refine WL_move rfl rfl ?_
    obtain ⟨x5, hx2, hL1⟩ := bind_some hL1
    refine WL_index Tryz.underlying24 ty105 g1 hx2 rfl rfl rfl (fun b2 o1 h1 => ?_)
    refine WL_load ty105 h1 hC2.keep rfl rfl (fun v1 h2 => ?_)
    obtain ⟨v2, rfl, h3⟩ := ro_st105 h2
    obtain ⟨x6, hr2, hL1⟩ := bind_some hL1
    refine WL_call Tryz.call85 rfl rfl (c_Q_toAtom x5 v2 (h3.now hC2.keep) x6 hr2) ?_
    rintro v3 w3 ⟨hB3, F1, hv1, hn1, hb1⟩
    have hC3 := hC2.push hB3 (A := Item.own v3 x6) hv1 hn1 hb1
    obtain ⟨v4, rfl, hC4⟩ := st84_own hC3
    obtain ⟨x7, hx3, hL1⟩ := bind_some hL1
    refine WL_index_own hC4 1 rfl Tryz.underlying35 ty84 hx3 rfl rfl rfl (fun b3 hE1 => ?_)
    have hC6 := own_st84 x6.1 v4 x6.2 hC4
    refine WL_store_elem hC6 0 rfl ty84 hE1 hx3 rfl rfl rfl (fun w4 hC5 => ?_)
    try dsimp only [List.set] at hC5
    refine WL_nil (blk_normal (nrm_normal (W_reg ?_)))
    refine WL_move rfl rfl ?_
    refine WL_add rfl rfl rfl ?_
    refine WL_assign rfl rfl ?_
    refine WL_nil ?_
    refine nrm_sub (l' := [(0, u1), (3, (.slice (some ⟨b1, 0, none⟩) (Int.toNat (List.length a1 : Int)) (Int.toNat (List.length a1 : Int)))), (4, (.int .i64 (w64 (x3 + 1))))]) ⟨rfl, rfl, rfl, trivial⟩ ?_
    exact ⟨k1, Nat.lt_succ_self _, (List.set x2 (Int.toNat x3) (x6.1, x6.2)), w64 (x3 + 1), rfl, hC5, hL1⟩
   replace hL1 := ite_f hL1 hc1
   refine W_exit (nrm_exit (nrm_exit (blk_exit ?_)))
   have hq1 := Option.some.inj hL1
   subst hq1
   refine nrm_sub (l' := [(3, (.slice (some ⟨b1, 0, none⟩) (Int.toNat (List.length a1 : Int)) (Int.toNat (List.length a1 : Int))))]) ⟨rfl, trivial⟩ ?_
   exact ⟨x2, rfl, rfl, hC2⟩
 rintro l2 _ w5 hs2 ⟨x4, rfl, rfl, hC8⟩
 try dsimp only at hF
 refine nrm_sub' hs2 ?_
 clear hs2
 refine W_seq_reg ?_
 refine WL_move rfl rfl ?_
 refine WL_assign rfl rfl ?_
 refine WL_nil (W_ret ?_)
 have hq2 := Option.some.inj hF
 subst hq2
 refine fn_ret1 rfl rfl ?_
 exact ⟨_, rfl, own_res hC8 0 rfl⟩

theorem c_Q_toQuery {w0 : World} (a1 : ((List Int) × (List (Int × (List Int))))) (u1 : Value) (g1 : RO [] w0 u1 a1.1) (u2 : Value) (g2 : RO [] w0 u2 a1.2) (rr : ((List Int) × (List (Int × (List Int))))) (hF : Q.toQuery a1 = some rr) :
 Calls Tryz.prog 13 [(.agg #[u1, u2])].toArray w0 fun e w' => ∃ v, e = .returned v ∧ Res w0 rr v w' := by
 refine calls_of_W Tryz.func13 rfl rfl ?_
 have hC0 := Ctx.start w0
 unfold Q.toQuery at hF
 refine W_seq_reg ?_
 refine WL_boxK (cs := [u1, u2]) hC0 rfl rfl rfl (fun b1 w1 hC1 hB1 hN1 => ?_)
 refine WL_allocK hC1 zero37 rfl rfl (fun b2 w2 hC2 hB2 hN2 => ?_)
 refine WL_nil (W_seq_reg ?_)
 refine WL_allocK hC2 zero37 rfl rfl (fun b3 w3 hC3 hB3 hN3 => ?_)
 refine WL_nil (W_seq_reg ?_)
 refine WL_field Tryz.underlying26 rfl rfl (fun w => ⟨_, Tryz.sizeOf22 w⟩) rfl rfl ?_
 refine WL_load_box hC3 2 rfl rfl Tryz.isAgg22 rfl rfl ?_
 obtain ⟨x1, hr1, hF⟩ := bind_some hF
 refine WL_call Tryz.call11 rfl rfl (c_Q_toIntS a1.1 u1 (g1.now hC3.keep) x1 hr1) ?_
 rintro v1 w4 ⟨hB4, F1, hv1, hn1, hb1⟩
 have hC4 := hC3.push hB4 (A := Item.own v1 x1) hv1 hn1 hb1
 refine WL_field Tryz.underlying37 rfl rfl (fun w => ⟨_, Tryz.sizeOf22 w⟩) rfl rfl ?_
 refine WL_store_boxK (cs' := [v1, (.slice none 0 0)]) hC4 1 rfl rfl (ro_one (hC4.ro 0 rfl)) rfl Tryz.sizeOf22 rfl rfl (fun w5 hC5 hKp1 => ?_)
 try dsimp only [List.set] at hC5
 have hk1 := Keep.over ((((Keep.of hB1).then hB2).then hB3).then hB4) (Nat.le_trans ((Keep.of hB1).then hB2).size hN3) hKp1
 have hk2 := Keep.over (((Keep.of hB2).then hB3).then hB4) (Nat.le_trans (Keep.of hB2).size hN3) hKp1
 have hk3 := Keep.over ((Keep.of hB3).then hB4) hN3 hKp1
 refine WL_nil (W_seq_reg ?_)
 refine WL_field Tryz.underlying26 rfl rfl (fun w => ⟨_, Tryz.sizeOf24 w⟩) rfl rfl ?_
 refine WL_load_box hC5 3 rfl rfl Tryz.isAgg24 rfl rfl ?_
 obtain ⟨x2, hr2, hF⟩ := bind_some hF
 refine WL_call Tryz.call46 rfl rfl (c_Q_toAtomS a1.2 u2 (g2.now hC5.keep) x2 hr2) ?_
 rintro v2 w6 ⟨hB5, F2, hv2, hn2, hb2⟩
 have hC6 := hC5.push hB5 (A := Item.own v2 x2) hv2 hn2 hb2
 refine WL_field Tryz.underlying37 rfl rfl (fun w => ⟨_, Tryz.sizeOf35 w⟩) rfl rfl ?_
 refine WL_store_boxK (cs' := [v1, v2]) hC6 2 rfl rfl (ro_one (hC6.ro 0 rfl)) rfl Tryz.sizeOf35 rfl rfl (fun w7 hC7 hKp2 => ?_)
 try dsimp only [List.set] at hC7
 have hk4 := Keep.over (hk1.then hB5) (Nat.le_trans ((Keep.of hB1).then hB2).size hN3) hKp2
 have hk5 := Keep.over (hk2.then hB5) (Nat.le_trans (Keep.of hB2).size hN3) hKp2
 have hk6 := Keep.over (hk3.then hB5) hN3 hKp2
 refine WL_nil (W_seq_reg ?_)
 refine WL_load_box_agg [v1, v2] hC7 2 rfl rfl rfl Tryz.isAgg37 Tryz.sizeOf37 rfl rfl ?_
 refine WL_store_box_aggK (cs' := [v1, v2]) (new := [v1, v2]) hC7 3 rfl rfl (by intro v hv; simp only [List.mem_cons, List.not_mem_nil, or_false] at hv; rcases hv with rfl | rfl; exact (ro_one (hC7.ro 1 rfl)); exact (ro_one (hC7.ro 0 rfl))) rfl Tryz.sizeOf37 rfl rfl (fun w9 hC8 hKp3 => ?_)
 try dsimp only [List.set] at hC8
 have hk7 := Keep.over hk4 (Nat.le_trans (Keep.of hB1).size hN2) hKp3
 have hk8 := Keep.over hk5 hN2 hKp3
 refine WL_nil (W_ret ?_)
 have hq1 := Option.some.inj hF
 subst hq1
 refine fn_retG1 rfl (rv_cell_agg (cs' := [v1, v2]) hC8 (i := 3) rfl rfl rfl Tryz.isAgg37 Tryz.sizeOf37 rfl) ?_
 have hC11 := hC8.f1
 have hC9 := own_st37 v1 x1 v2 x2 hC11
 exact ⟨_, rfl, own_res hC9 0 rfl⟩

theorem c_Q_toStep {w0 : World} (a1 : (Int × Int)) (rr : (Int × Int)) (hF : Q.toStep a1 = some rr) :
 Calls Tryz.prog 47 [(.agg #[(.int .i64 a1.1), (.int .i64 a1.2)])].toArray w0 fun e w' => ∃ v, e = .returned v ∧ Res w0 rr v w' := by
 refine calls_of_W Tryz.func47 rfl rfl ?_
 have hC0 := Ctx.start w0
 unfold Q.toStep at hF
 refine W_seq_reg ?_
 refine WL_boxK (cs := [(.int .i64 a1.1), (.int .i64 a1.2)]) hC0 rfl rfl rfl (fun b1 w1 hC1 hB1 hN1 => ?_)
 refine WL_allocK hC1 zero75 rfl rfl (fun b2 w2 hC2 hB2 hN2 => ?_)
 refine WL_nil (W_seq_reg ?_)
 refine WL_allocK hC2 zero75 rfl rfl (fun b3 w3 hC3 hB3 hN3 => ?_)
 refine WL_nil (W_seq_reg ?_)
 refine WL_field Tryz.underlying77 rfl rfl (fun w => ⟨_, Tryz.sizeOf3 w⟩) rfl rfl ?_
 refine WL_load_box hC3 2 rfl rfl Tryz.isAgg3 rfl rfl ?_
 refine WL_field Tryz.underlying75 rfl rfl (fun w => ⟨_, Tryz.sizeOf3 w⟩) rfl rfl ?_
 refine WL_store_boxK (cs' := [(.int .i64 a1.1), (.int .i64 0)]) hC3 0 rfl rfl rfl rfl Tryz.sizeOf3 rfl rfl (fun w4 hC4 hKp1 => ?_)
 try dsimp only [List.set] at hC4
 have hk1 := Keep.over (((Keep.of hB1).then hB2).then hB3) (Nat.le_trans ((Keep.of hB1).then hB2).size hN3) hKp1
 have hk2 := Keep.over ((Keep.of hB2).then hB3) (Nat.le_trans (Keep.of hB2).size hN3) hKp1
 have hk3 := Keep.over (Keep.of hB3) hN3 hKp1
 refine WL_nil (W_seq_reg ?_)
 refine WL_field Tryz.underlying77 rfl rfl (fun w => ⟨_, Tryz.sizeOf3 w⟩) rfl rfl ?_
 refine WL_load_box hC4 2 rfl rfl Tryz.isAgg3 rfl rfl ?_
 refine WL_field Tryz.underlying75 rfl rfl (fun w => ⟨_, Tryz.sizeOf3 w⟩) rfl rfl ?_
 refine WL_store_boxK (cs' := [(.int .i64 a1.1), (.int .i64 a1.2)]) hC4 0 rfl rfl rfl rfl Tryz.sizeOf3 rfl rfl (fun w5 hC5 hKp2 => ?_)
 try dsimp only [List.set] at hC5
 have hk4 := Keep.over hk1 (Nat.le_trans ((Keep.of hB1).then hB2).size hN3) hKp2
 have hk5 := Keep.over hk2 (Nat.le_trans (Keep.of hB2).size hN3) hKp2
 have hk6 := Keep.over hk3 hN3 hKp2
 refine WL_nil (W_seq_reg ?_)
 refine WL_load_box_agg [(.int .i64 a1.1), (.int .i64 a1.2)] hC5 0 rfl rfl rfl Tryz.isAgg75 Tryz.sizeOf75 rfl rfl ?_
 refine WL_store_box_aggK (cs' := [(.int .i64 a1.1), (.int .i64 a1.2)]) (new := [(.int .i64 a1.1), (.int .i64 a1.2)]) hC5 1 rfl rfl (by intro v hv; simp only [List.mem_cons, List.not_mem_nil, or_false] at hv; rcases hv with rfl | rfl; exact rfl; exact rfl) rfl Tryz.sizeOf75 rfl rfl (fun w6 hC6 hKp3 => ?_)
 try dsimp only [List.set] at hC6
 have hk7 := Keep.over hk4 (Nat.le_trans (Keep.of hB1).size hN2) hKp3
 have hk8 := Keep.over hk5 hN2 hKp3
 refine WL_nil (W_ret ?_)
 have hq1 := Option.some.inj hF
 subst hq1
 refine fn_retG1 rfl (rv_cell_agg (cs' := [(.int .i64 a1.1), (.int .i64 a1.2)]) hC6 (i := 1) rfl rfl rfl Tryz.isAgg75 Tryz.sizeOf75 rfl) ?_
 have hC7 := own_st75 a1.1 a1.2 hC6
 exact ⟨_, rfl, own_res hC7 0 rfl⟩

theorem c_Q_toStepS {w0 : World} (a1 : (List (Int × Int))) (u1 : Value) (g1 : RO [] w0 u1 a1) (rr : (List (Int × Int))) (hF : Q.toStepS a1 = some rr) :
 Calls Tryz.prog 14 [u1].toArray w0 fun e w' => ∃ v, e = .returned v ∧ Res w0 rr v w' := by
 refine calls_of_W Tryz.func14 rfl rfl ?_
 have hC0 := Ctx.start w0
 unfold Q.toStepS at hF
 refine W_seq_reg ?_
 refine WL_assign rfl rfl ?_
 refine WL_nil (W_seq_reg ?_)
 refine WL_move rfl rfl ?_
 refine WL_len Tryz.underlying27 g1 rfl rfl ?_
 obtain ⟨x1, hx1, hF⟩ := bind_some hF
 refine WL_makeSlice hC0 Tryz.underlying39 ty75 rfl zc75 zr75 hx1 rfl rfl rfl (fun b1 w1 hC1 hB1 => ?_)
 refine WL_assign rfl rfl ?_
 refine WL_nil (W_seq (W_seq_reg ?_))
 refine WL_assign rfl rfl ?_
 refine WL_nil ?_
 obtain ⟨r1, hr1, hF⟩ := bind_some hF
 refine W_norm (fun l w => ∃ x4 : (List (Int × Int)), x4 = r1 ∧ l = [(3, (.slice (some ⟨b1, 0, none⟩) (Int.toNat (List.length a1 : Int)) (Int.toNat (List.length a1 : Int))))] ∧ Ctx [] w0 w [Item.own (.slice (some ⟨b1, 0, none⟩) (Int.toNat (List.length a1 : Int)) (Int.toNat (List.length a1 : Int))) (x4 : (List (Int × Int)))]) ?_ ?_
 ·refine W_block ?_
  refine W.sub (l' := [(0, u1), (3, (.slice (some ⟨b1, 0, none⟩) (Int.toNat (List.length a1 : Int)) (Int.toNat (List.length a1 : Int)))), (4, (.int .i64 0))]) ?_ ⟨rfl, rfl, rfl, trivial⟩
  refine W_loop (fun k l w => ∃ x2 : (List (Int × Int)), ∃ x3 : Int, l = [(0, u1), (3, (.slice (some ⟨b1, 0, none⟩) (Int.toNat (List.length a1 : Int)) (Int.toNat (List.length a1 : Int)))), (4, (.int .i64 x3))] ∧ Ctx [] w0 w [Item.own (.slice (some ⟨b1, 0, none⟩) (Int.toNat (List.length a1 : Int)) (Int.toNat (List.length a1 : Int))) (x2 : (List (Int × Int)))] ∧ Q.toStepS_l1 a1 k x2 x3 = some r1) FUEL ⟨x1, 0, rfl, hC1, hr1⟩ ?_
  clear hr1
  rintro k1 _ w2 ⟨x2, x3, rfl, hC2, hL1⟩
  cases k1 with
  | zero => rw [Q.toStepS_l1] at hL1; cases hL1
  | succ k1 =>
   rw [Q.toStepS_l1] at hL1
   refine W_seq (W_seq_reg ?_)
   refine WL_move rfl rfl ?_
   refine WL_move rfl rfl ?_
   refine WL_len Tryz.underlying27 g1 rfl rfl ?_
   refine WL_lss rfl rfl rfl ?_
   refine WL_nil ?_
   refine W_cond rfl (fun hc1 => ?_) (fun hc1 => ?_)
   ·replace hL1 := ite_t hL1 hc1
    refine W_skip (nrm_normal (W_seq (W_block (W_reg ?_))))
    refine WL_move rfl rfl ?_
    refine WL_move rfl rfl ?_
    refine WL_move rfl rfl ?_
    refine WL_move rfl rfl ?_
    obtain ⟨x5, hx2, hL1⟩ := bind_some hL1
    refine WL_index Tryz.underlying27 ty77 g1 hx2 rfl rfl rfl (fun b2 o1 h1 => ?_)
    refine WL_load ty77 h1 hC2.keep rfl rfl (fun v1 h2 => ?_)
    obtain rfl := ro_st77 h2
    obtain ⟨x6, hr2, hL1⟩ := bind_some hL1
    refine WL_call Tryz.call47 rfl rfl (c_Q_toStep x5 x6 hr2) ?_
    rintro v2 w3 ⟨hB3, F1, hv1, hn1, hb1⟩
    have hC3 := hC2.push hB3 (A := Item.own v2 x6) hv1 hn1 hb1
    obtain ⟨rfl, hC4⟩ := st75_own hC3
    obtain ⟨x7, hx3, hL1⟩ := bind_some hL1
    refine WL_index_own hC4 0 rfl Tryz.underlying39 ty75 hx3 rfl rfl rfl (fun b3 hE1 => ?_)
    have hC6 := own_st75 x6.1 x6.2 hC4
    refine WL_store_elem hC6 0 rfl ty75 hE1 hx3 rfl rfl rfl (fun w4 hC5 => ?_)
    try dsimp only [List.set] at hC5
    refine WL_nil (blk_normal (nrm_normal (W_reg ?_)))
    refine WL_move rfl rfl ?_
    refine WL_add rfl rfl rfl ?_
    refine WL_assign rfl rfl ?_
    refine WL_nil ?_
    refine nrm_sub (l' := [(0, u1), (3, (.slice (some ⟨b1, 0, none⟩) (Int.toNat (List.length a1 : Int)) (Int.toNat (List.length a1 : Int)))), (4, (.int .i64 (w64 (x3 + 1))))]) ⟨rfl, rfl, rfl, trivial⟩ ?_
    exact ⟨k1, Nat.lt_succ_self _, (List.set x2 (Int.toNat x3) (x6.1, x6.2)), w64 (x3 + 1), rfl, hC5, hL1⟩
   replace hL1 := ite_f hL1 hc1
   refine W_exit (nrm_exit (nrm_exit (blk_exit ?_)))
   have hq1 := Option.some.inj hL1
   subst hq1
   refine nrm_sub (l' := [(3, (.slice (some ⟨b1, 0, none⟩) (Int.toNat (List.length a1 : Int)) (Int.toNat (List.length a1 : Int))))]) ⟨rfl, trivial⟩ ?_
   exact ⟨x2, rfl, rfl, hC2⟩
 rintro l2 _ w5 hs2 ⟨x4, rfl, rfl, hC7⟩
 try dsimp only at hF
 refine nrm_sub' hs2 ?_
 clear hs2
 refine W_seq_reg ?_
 refine WL_move rfl rfl ?_
 refine WL_assign rfl rfl ?_
 refine WL_nil (W_ret ?_)
 have hq2 := Option.some.inj hF
 subst hq2
 refine fn_ret1 rfl rfl ?_
 exact ⟨_, rfl, own_res hC7 0 rfl⟩

theorem c_M_within {w0 : World} (a1 : Int) (a2 : Int) (a3 : Int) (rr : Bool) (hF : M.within a1 a2 a3 = some rr) :
 Calls Tryz.prog 78 [(.int .i64 a1), (.int .i64 a2), (.int .i64 a3)].toArray w0 fun e w' => ∃ v, e = .returned v ∧ Res w0 rr v w' := by
 refine calls_of_W Tryz.func78 rfl rfl ?_
 have hC0 := Ctx.start w0
 unfold M.within at hF
 refine W_seq_reg ?_
 refine WL_assign rfl rfl ?_
 refine WL_nil ?_
 obtain ⟨r1, hr1, hF⟩ := bind_some hF
 refine W_cut (fun l w => ∃ x1 : Bool, x1 = r1 ∧ l = [(6, (.bool x1))] ∧ Below w0.heap.size w0 w ∧ Ctx [] w0 w []) ?_ ?_
 ·refine W_reg ?_
  refine WL_move rfl rfl ?_
  refine WL_move rfl rfl ?_
  refine WL_geq rfl rfl rfl ?_
  refine WL_move rfl rfl ?_
  refine WL_fork (fun hc1 => ?_) (fun hc1 => ?_)
  ·replace hr1 := ite_t hr1 hc1
   refine WL_guard rfl rfl ?_
   refine WL_move rfl rfl ?_
   refine WL_guard rfl rfl ?_
   refine WL_move rfl rfl ?_
   refine WL_guard rfl rfl ?_
   refine WL_leq rfl rfl rfl ?_
   refine WL_pick_t rfl rfl rfl ?_
   refine WL_assign rfl rfl ?_
   refine WL_nil ?_
   have hq1 := Option.some.inj hr1
   subst hq1
   refine nrm_sub (l' := [(6, (.bool (decide (a1 ≤ a3))))]) ⟨rfl, trivial⟩ ?_
   exact ⟨(decide (a1 ≤ a3)), rfl, rfl, (Below.refl _ _), hC0⟩
  replace hr1 := ite_f hr1 hc1
  refine WL_guard_skip rfl rfl (by simp) rfl ?_
  refine WL_guard_skip rfl rfl (by simp) rfl ?_
  refine WL_guard_skip rfl rfl (by simp) rfl ?_
  refine WL_pick_f rfl rfl rfl ?_
  refine WL_assign rfl rfl ?_
  refine WL_nil ?_
  have hq2 := Option.some.inj hr1
  subst hq2
  refine nrm_sub (l' := [(6, (.bool false))]) ⟨rfl, trivial⟩ ?_
  exact ⟨false, rfl, rfl, (Below.refl _ _), hC0⟩
 rintro _ w1 ⟨x1, rfl, rfl, hB1, hC1⟩
 try dsimp only at hF
 refine W_ret ?_
 have hq3 := Option.some.inj hF
 subst hq3
 refine fn_ret1 rfl rfl ?_
 exact ⟨_, rfl, bool_res hC1 _⟩

theorem c_M_isValue {w0 : World} (a1 : Int) (rr : Bool) (hF : M.isValue a1 = some rr) :
 Calls Tryz.prog 98 [(.int .i64 a1)].toArray w0 fun e w' => ∃ v, e = .returned v ∧ Res w0 rr v w' := by
 refine calls_of_W Tryz.func98 rfl rfl ?_
 have hC0 := Ctx.start w0
 unfold M.isValue at hF
 refine W_seq_reg ?_
 refine WL_assign rfl rfl ?_
 refine WL_nil (W_seq_reg ?_)
 refine WL_move rfl rfl ?_
 obtain ⟨x1, hr1, hF⟩ := bind_some hF
 refine WL_call Tryz.call78 rfl rfl (c_M_within a1 0 9 x1 hr1) ?_
 intro _ w1 hv1
 obtain ⟨rfl, hB1⟩ := res_bool hv1
 have hC1 := hC0.grow hB1
 refine WL_assign rfl rfl ?_
 refine WL_nil (W_ret ?_)
 have hq1 := Option.some.inj hF
 subst hq1
 refine fn_ret1 rfl rfl ?_
 exact ⟨_, rfl, bool_res hC1 _⟩

theorem c_M_passed {w0 : World} (a1 : (Int × (List Int) × Int × Int × Int)) (u1 : Value) (g1 : RO [] w0 u1 a1.2.1) (a2 : (Int × (List Int))) (u2 : Value) (g2 : RO [] w0 u2 a2.2) (rr : (List Int)) (hF : M.passed a1 a2 = some rr) :
 Calls Tryz.prog 79 [(.agg #[(.int .i64 a1.1), u1, (.int .i64 a1.2.2.1), (.int .i64 a1.2.2.2.1), (.int .i64 a1.2.2.2.2)]), (.agg #[(.int .i64 a2.1), u2])].toArray w0 fun e w' => ∃ v, e = .returned v ∧ Res w0 rr v w' := by
 refine calls_of_W Tryz.func79 rfl rfl ?_
 have hC0 := Ctx.start w0
 unfold M.passed at hF
 refine W_seq_reg ?_
 refine WL_boxK (cs := [(.int .i64 a1.1), u1, (.int .i64 a1.2.2.1), (.int .i64 a1.2.2.2.1), (.int .i64 a1.2.2.2.2)]) hC0 rfl rfl rfl (fun b1 w1 hC1 hB1 hN1 => ?_)
 refine WL_boxK (cs := [(.int .i64 a2.1), u2]) hC1 rfl rfl rfl (fun b2 w2 hC2 hB2 hN2 => ?_)
 refine WL_assign rfl rfl ?_
 refine WL_nil (W_seq_reg ?_)
 refine WL_buildSlice (vs := []) hC2 Tryz.underlying22 ty3 rfl rfl rfl rfl (by simp) rfl rfl (fun b3 w3 hC3 hB3 => ?_)
 have hC4 := hC3.row0 (α := Int)
 have hC5 := hC4.front 1 rfl
 dsimp only [List.eraseIdx, List.cons_append, List.nil_append, List.append_nil] at hC5
 have hC6 : Ctx [] w0 w3 (Item.own (.slice (some ⟨b3, 0, none⟩) 0 0) (([] : List Int) : List Int) :: [Item.box b2 [(.int .i64 a2.1), u2], Item.box b1 [(.int .i64 a1.1), u1, (.int .i64 a1.2.2.1), (.int .i64 a1.2.2.2.1), (.int .i64 a1.2.2.2.2)]]) := hC5.rowOwn (by simp [maxLen])
 refine WL_assign rfl rfl ?_
 refine WL_nil (W_seq (W_seq_reg ?_))
 refine WL_field Tryz.underlying71 rfl rfl (fun w => ⟨_, Tryz.sizeOf22 w⟩) rfl rfl ?_
 refine WL_load_box hC6 2 rfl rfl Tryz.isAgg22 rfl rfl ?_
 refine WL_len Tryz.underlying22 g1 rfl rfl ?_
 refine WL_move rfl rfl ?_
 refine WL_nil ?_
 obtain ⟨r1, hr1, hF⟩ := bind_some hF
 refine W_norm (fun l w => ∃ v2 : Value, ∃ x3 : (List Int), x3 = r1 ∧ l = [(5, v2)] ∧ Ctx [] w0 w [Item.own v2 (x3 : (List Int))]) ?_ ?_
 ·refine W_block ?_
  have hC23 := hC6.f1
  have hC24 := hC23.f1
  have hC25 := hC24.h2
  refine W.sub (l' := [(3, (ptr b2 0)), (5, (.slice (some ⟨b3, 0, none⟩) 0 0)), (10, u1), (11, (.int .i64 (List.length a1.2.1 : Int))), (12, (.int .i64 0))]) ?_ ⟨rfl, rfl, rfl, rfl, rfl, trivial⟩
  refine W_loop (fun k l w => ∃ v1 : Value, ∃ x1 : (List Int), ∃ x2 : Int, l = [(3, (ptr b2 0)), (5, v1), (10, u1), (11, (.int .i64 (List.length a1.2.1 : Int))), (12, (.int .i64 x2))] ∧ Ctx [] w0 w [Item.own v1 (x1 : (List Int)), Item.box b2 [(.int .i64 a2.1), u2]] ∧ M.passed_l1 a1 a2 k x1 x2 = some r1) FUEL ⟨(.slice (some ⟨b3, 0, none⟩) 0 0), ([] : List Int), 0, rfl, hC25, hr1⟩ ?_
  clear hr1
  rintro k1 _ w4 ⟨v1, x1, x2, rfl, hC7, hL1⟩
  cases k1 with
  | zero => rw [M.passed_l1] at hL1; cases hL1
  | succ k1 =>
   rw [M.passed_l1] at hL1
   refine W_seq_reg ?_
   refine WL_lss rfl rfl rfl ?_
   refine WL_nil (W_seq ?_)
   refine W_cond rfl (fun hc1 => ?_) (fun hc1 => ?_)
   ·replace hL1 := ite_t hL1 hc1
    refine W_skip (nrm_normal (W_seq (W_block (W_seq_reg ?_))))
    obtain ⟨x4, hx1, hL1⟩ := bind_some hL1
    refine WL_index Tryz.underlying22 ty3 g1 hx1 rfl rfl rfl (fun b4 o1 h1 => ?_)
    refine WL_load ty3 h1 hC7.keep rfl rfl (fun v3 h2 => ?_)
    obtain rfl := ro_int h2
    refine WL_assign rfl rfl ?_
    refine WL_nil ?_
    obtain ⟨r2, hr2, hL1⟩ := bind_some hL1
    refine W_cut (fun l w => ∃ x5 : Bool, x5 = r2 ∧ l = [(3, (ptr b2 0)), (5, v1), (7, (.int .i64 x4)), (10, u1), (11, (.int .i64 (List.length a1.2.1 : Int))), (12, (.int .i64 x2)), (29, (.bool x5))] ∧ Below w4.heap.size w4 w ∧ Ctx [] w0 w [Item.own v1 (x1 : (List Int)), Item.box b2 [(.int .i64 a2.1), u2]]) ?_ ?_
    ·refine W_reg ?_
     refine WL_move rfl rfl ?_
     refine WL_field Tryz.underlying84 rfl rfl (fun w => ⟨_, Tryz.sizeOf22 w⟩) rfl rfl ?_
     refine WL_load_box hC7 1 rfl rfl Tryz.isAgg22 rfl rfl ?_
     refine WL_len Tryz.underlying22 g2 rfl rfl ?_
     refine WL_sub rfl rfl rfl ?_
     obtain ⟨x6, hr3, hr2⟩ := bind_some hr2
     refine WL_call Tryz.call78 rfl rfl (c_M_within x4 0 (w64 ((List.length a2.2 : Int) - 1)) x6 hr3) ?_
     intro _ w6 hv1
     obtain ⟨rfl, hB6⟩ := res_bool hv1
     have hC9 := hC7.grow hB6
     refine WL_move rfl rfl ?_
     refine WL_fork (fun hc2 => ?_) (fun hc2 => ?_)
     ·replace hr2 := ite_t hr2 hc2
      refine WL_guard rfl rfl ?_
      refine WL_field Tryz.underlying84 rfl rfl (fun w => ⟨_, Tryz.sizeOf22 w⟩) rfl rfl ?_
      refine WL_guard rfl rfl ?_
      refine WL_load_box hC9 1 rfl rfl Tryz.isAgg22 rfl rfl ?_
      refine WL_guard rfl rfl ?_
      refine WL_move rfl rfl ?_
      obtain ⟨x7, hx2, hr2⟩ := bind_some hr2
      refine WL_guard rfl rfl ?_
      refine WL_index Tryz.underlying22 ty3 g2 hx2 rfl rfl rfl (fun b5 o2 h3 => ?_)
      refine WL_guard rfl rfl ?_
      refine WL_load ty3 h3 hC9.keep rfl rfl (fun v4 h4 => ?_)
      obtain rfl := ro_int h4
      obtain ⟨x8, hr4, hr2⟩ := bind_some hr2
      refine WL_guard rfl rfl ?_
      refine WL_call Tryz.call98 rfl rfl (c_M_isValue x7 x8 hr4) ?_
      intro _ w7 hv2
      obtain ⟨rfl, hB7⟩ := res_bool hv2
      have hC10 := hC9.grow hB7
      refine WL_pick_t rfl rfl rfl ?_
      refine WL_nil ?_
      have hq1 := Option.some.inj hr2
      subst hq1
      refine nrm_sub (l' := [(3, (ptr b2 0)), (5, v1), (7, (.int .i64 x4)), (10, u1), (11, (.int .i64 (List.length a1.2.1 : Int))), (12, (.int .i64 x2)), (29, (.bool x8))]) ⟨rfl, rfl, rfl, rfl, rfl, rfl, rfl, trivial⟩ ?_
      exact ⟨x8, rfl, rfl, ((Keep.of hB6).then hB7).below, hC10⟩
     replace hr2 := ite_f hr2 hc2
     refine WL_guard_skip rfl rfl (by simp) rfl ?_
     refine WL_guard_skip rfl rfl (by simp) rfl ?_
     refine WL_guard_skip rfl rfl (by simp) rfl ?_
     refine WL_guard_skip rfl rfl (by simp) rfl ?_
     refine WL_guard_skip rfl rfl (by simp) rfl ?_
     refine WL_guard_skip rfl rfl (by simp) rfl ?_
     refine WL_pick_f rfl rfl rfl ?_
     refine WL_nil ?_
     have hq2 := Option.some.inj hr2
     subst hq2
     refine nrm_sub (l' := [(3, (ptr b2 0)), (5, v1), (7, (.int .i64 x4)), (10, u1), (11, (.int .i64 (List.length a1.2.1 : Int))), (12, (.int .i64 x2)), (29, (.bool false))]) ⟨rfl, rfl, rfl, rfl, rfl, rfl, rfl, trivial⟩ ?_
     exact ⟨false, rfl, rfl, (Keep.of hB6).below, hC9⟩
    rintro _ w5 ⟨x5, rfl, rfl, hB5, hC8⟩
    try dsimp only at hL1
    obtain ⟨r3, hr5, hL1⟩ := bind_some hL1
    refine W_norm (fun l w => ∃ v5 : Value, ∃ x9 : (List Int), x9 = r3 ∧ l = [(3, (ptr b2 0)), (5, v5), (10, u1), (11, (.int .i64 (List.length a1.2.1 : Int))), (12, (.int .i64 x2))] ∧ Ctx [] w0 w [Item.own v5 (x9 : (List Int)), Item.box b2 [(.int .i64 a2.1), u2]]) ?_ ?_
    ·refine W_cond rfl (fun hc3 => ?_) (fun hc3 => ?_)
     ·replace hr5 := ite_t hr5 hc3
      refine W_reg ?_
      refine WL_move rfl rfl ?_
      refine WL_field Tryz.underlying84 rfl rfl (fun w => ⟨_, Tryz.sizeOf22 w⟩) rfl rfl ?_
      refine WL_load_box hC8 1 rfl rfl Tryz.isAgg22 rfl rfl ?_
      refine WL_move rfl rfl ?_
      obtain ⟨x10, hx3, hr5⟩ := bind_some hr5
      refine WL_index Tryz.underlying22 ty3 g2 hx3 rfl rfl rfl (fun b6 o3 h5 => ?_)
      refine WL_load ty3 h5 hC8.keep rfl rfl (fun v6 h6 => ?_)
      obtain rfl := ro_int h6
      refine WL_buildSlice (vs := [(.int .i64 x10)]) hC8 Tryz.underlying22 ty3 rfl rfl rfl rfl (by intro v hv; simp only [List.mem_cons, List.not_mem_nil, or_false] at hv; rcases hv with rfl <;> rfl) rfl rfl (fun b7 w10 hC12 hB9 => ?_)
      have hC13 := hC12.row0 (α := Int)
      have hC14 := hC13.triv (int_val (x10))
      have hC15 := hC14.row1
      have hC16 := hC15.front 1 rfl
      dsimp only [List.eraseIdx, List.cons_append, List.nil_append, List.append_nil] at hC16
      have hC17 : Ctx [] w0 w10 (Item.own (.slice (some ⟨b7, 0, none⟩) 1 1) ([x10] : List Int) :: [Item.own v1 (x1 : (List Int)), Item.box b2 [(.int .i64 a2.1), u2]]) := hC16.rowOwn (by simp [maxLen])
      obtain ⟨x11, hx4, hr5⟩ := bind_some hr5
      refine WL_append_flat (α := Int) hC17 1 rfl (hC17.ro 0 rfl) (Keep.refl _ _) Tryz.underlying22 ty3 rfl hx4 rfl rfl rfl (fun v7 w11 hC18 => ?_)
      try dsimp only [List.set] at hC18
      refine WL_assign rfl rfl ?_
      refine WL_nil ?_
      have hq3 := Option.some.inj hr5
      subst hq3
      have hC19 := hC18.f2
      have hC20 := hC19.f2
      have hC21 := hC20.h2
      refine nrm_sub (l' := [(3, (ptr b2 0)), (5, v7), (10, u1), (11, (.int .i64 (List.length a1.2.1 : Int))), (12, (.int .i64 x2))]) ⟨rfl, rfl, rfl, rfl, rfl, trivial⟩ ?_
      exact ⟨v7, x11, rfl, rfl, hC21⟩
     replace hr5 := ite_f hr5 hc3
     refine W_skip ?_
     have hq4 := Option.some.inj hr5
     subst hq4
     refine nrm_sub (l' := [(3, (ptr b2 0)), (5, v1), (10, u1), (11, (.int .i64 (List.length a1.2.1 : Int))), (12, (.int .i64 x2))]) ⟨rfl, rfl, rfl, rfl, rfl, trivial⟩ ?_
     exact ⟨v1, x1, rfl, rfl, hC8⟩
    rintro l3 _ w9 hs3 ⟨v5, x9, rfl, rfl, hC11⟩
    try dsimp only at hL1
    refine blk_normal ?_
    refine nrm_sub' hs3 ?_
    clear hs3
    refine W_reg ?_
    refine WL_add rfl rfl rfl ?_
    refine WL_move rfl rfl ?_
    refine WL_nil ?_
    refine nrm_sub (l' := [(3, (ptr b2 0)), (5, v5), (10, u1), (11, (.int .i64 (List.length a1.2.1 : Int))), (12, (.int .i64 (w64 (x2 + 1))))]) ⟨rfl, rfl, rfl, rfl, rfl, trivial⟩ ?_
    exact ⟨k1, Nat.lt_succ_self _, v5, x9, w64 (x2 + 1), rfl, hC11, hL1⟩
   replace hL1 := ite_f hL1 hc1
   refine W_exit (nrm_exit (nrm_exit (blk_exit ?_)))
   have hq5 := Option.some.inj hL1
   subst hq5
   have hC22 := hC7.h1
   refine nrm_sub (l' := [(5, v1)]) ⟨rfl, trivial⟩ ?_
   exact ⟨v1, x1, rfl, rfl, hC22⟩
 rintro l4 _ w12 hs4 ⟨v2, x3, rfl, rfl, hC26⟩
 try dsimp only at hF
 refine nrm_sub' hs4 ?_
 clear hs4
 refine W_seq_reg ?_
 refine WL_move rfl rfl ?_
 refine WL_assign rfl rfl ?_
 refine WL_nil (W_ret ?_)
 have hq6 := Option.some.inj hF
 subst hq6
 refine fn_ret1 rfl rfl ?_
 exact ⟨_, rfl, own_res hC26 0 rfl⟩

theorem c_Slices_Sort_Lint_int {Fs : List (List Nat)} {w0 : World} (a1 : (List Int)) (u1 : Value) (hH : Hold [Item.own u1 (a1 : (List Int))] w0 Fs) (hn : Fs.flatten.Nodup) (rr : (List Int)) (hF : Slices.Sort_Lint_int a1 = some rr) :
    Calls Tryz.prog 80 [u1].toArray w0 fun e w' => ∃ v, e = .returned v ∧ v = (.tuple #[]) ∧ Ctx Fs.flatten w0 w' [Item.own u1 (rr : (List Int))] := sort_calls Tryz.lays189 a1 u1 hH hn rr hF

theorem c_Slices_Compact_Lint_int {Fs : List (List Nat)} {w0 : World} (a1 : (List Int)) (u1 : Value) (hH : Hold [Item.own u1 (a1 : (List Int))] w0 Fs) (hn : Fs.flatten.Nodup) (rr : (List Int)) (hF : Slices.Compact_Lint_int a1 = some rr) :
    Calls Tryz.prog 81 [u1].toArray w0 fun e w' => ∃ v, e = .returned v ∧ ∃ q0 : Value, v = q0 ∧ Ctx Fs.flatten w0 w' [Item.own q0 (rr : (List Int))] := compact_calls Tryz.laysNm220 a1 u1 hH hn rr hF

theorem c_M_Disclosed {w0 : World} (a1 : (List (Int × (List Int) × Int × Int × Int))) (u1 : Value) (g1 : RO [] w0 u1 a1) (a2 : ((List Int) × (List (Int × (List Int))))) (u2 : Value) (g2 : RO [] w0 u2 a2.1) (u3 : Value) (g3 : RO [] w0 u3 a2.2) (a3 : (List (Int × Int))) (u4 : Value) (g4 : RO [] w0 u4 a3) (rr : (List Int)) (hF : M.Disclosed a1 a2 a3 = some rr) :
 Calls Tryz.prog 38 [u1, (.agg #[u2, u3]), u4].toArray w0 fun e w' => ∃ v, e = .returned v ∧ Res w0 rr v w' := by
 refine calls_of_W Tryz.func38 rfl rfl ?_
 have hC0 := Ctx.start w0
 unfold M.Disclosed at hF
 refine W_seq_reg ?_
 refine WL_boxK (cs := [u2, u3]) hC0 rfl rfl rfl (fun b1 w1 hC1 hB1 hN1 => ?_)
 refine WL_assign rfl rfl ?_
 refine WL_nil (W_seq_reg ?_)
 refine WL_buildSlice (vs := []) hC1 Tryz.underlying22 ty3 rfl rfl rfl rfl (by simp) rfl rfl (fun b2 w2 hC2 hB2 => ?_)
 have hC3 := hC2.row0 (α := Int)
 have hC4 := hC3.front 1 rfl
 dsimp only [List.eraseIdx, List.cons_append, List.nil_append, List.append_nil] at hC4
 have hC5 : Ctx [] w0 w2 (Item.own (.slice (some ⟨b2, 0, none⟩) 0 0) (([] : List Int) : List Int) :: [Item.box b1 [u2, u3]]) := hC4.rowOwn (by simp [maxLen])
 refine WL_assign rfl rfl ?_
 refine WL_nil (W_seq (W_seq_reg ?_))
 refine WL_move rfl rfl ?_
 refine WL_len Tryz.underlying39 g4 rfl rfl ?_
 refine WL_move rfl rfl ?_
 refine WL_nil ?_
 obtain ⟨r1, hr1, hF⟩ := bind_some hF
 refine W_norm (fun l w => ∃ v2 : Value, ∃ x3 : (List Int), x3 = r1 ∧ l = [(7, v2)] ∧ Ctx [] w0 w [Item.own v2 (x3 : (List Int))]) ?_ ?_
 ·refine W_block ?_
  refine W.sub (l' := [(0, u1), (4, (ptr b1 0)), (7, (.slice (some ⟨b2, 0, none⟩) 0 0)), (11, u4), (12, (.int .i64 (List.length a3 : Int))), (13, (.int .i64 0))]) ?_ ⟨rfl, rfl, rfl, rfl, rfl, rfl, trivial⟩
  refine W_loop (fun k l w => ∃ v1 : Value, ∃ x1 : (List Int), ∃ x2 : Int, l = [(0, u1), (4, (ptr b1 0)), (7, v1), (11, u4), (12, (.int .i64 (List.length a3 : Int))), (13, (.int .i64 x2))] ∧ Ctx [] w0 w [Item.own v1 (x1 : (List Int)), Item.box b1 [u2, u3]] ∧ M.Disclosed_l1 a3 a2 a1 k x1 x2 = some r1) FUEL ⟨(.slice (some ⟨b2, 0, none⟩) 0 0), ([] : List Int), 0, rfl, hC5, hr1⟩ ?_
  clear hr1
  rintro k1 _ w3 ⟨v1, x1, x2, rfl, hC6, hL1⟩
  cases k1 with
  | zero => rw [M.Disclosed_l1] at hL1; cases hL1
  | succ k1 =>
   rw [M.Disclosed_l1] at hL1
   refine W_seq_reg ?_
   refine WL_lss rfl rfl rfl ?_
   refine WL_nil (W_seq ?_)
   refine W_cond rfl (fun hc1 => ?_) (fun hc1 => ?_)
   ·replace hL1 := ite_t hL1 hc1
    refine W_skip (nrm_normal (W_seq (W_block (W_seq_reg ?_))))
    obtain ⟨x4, hx1, hL1⟩ := bind_some hL1
    refine WL_index Tryz.underlying39 ty75 g4 hx1 rfl rfl rfl (fun b3 o1 h1 => ?_)
    refine WL_load ty75 h1 hC6.keep rfl rfl (fun v3 h2 => ?_)
    obtain rfl := ro_st75 h2
    refine WL_allocK hC6 zero75 rfl rfl (fun b4 w4 hC7 hB4 hN2 => ?_)
    refine WL_store_box_aggK (cs' := [(.int .i64 x4.1), (.int .i64 x4.2)]) (new := [(.int .i64 x4.1), (.int .i64 x4.2)]) hC7 0 rfl rfl (by intro v hv; simp only [List.mem_cons, List.not_mem_nil, or_false] at hv; rcases hv with rfl | rfl; exact rfl; exact rfl) rfl Tryz.sizeOf75 rfl rfl (fun w5 hC8 hKp1 => ?_)
    try dsimp only [List.set] at hC8
    have hk1 := Keep.over (Keep.of hB4) hN2 hKp1
    refine WL_nil ?_
    obtain ⟨r2, hr2, hL1⟩ := bind_some hL1
    refine W_cut (fun l w => ∃ x5 : Bool, x5 = r2 ∧ l = [(0, u1), (4, (ptr b1 0)), (7, v1), (9, (ptr b4 0)), (11, u4), (12, (.int .i64 (List.length a3 : Int))), (13, (.int .i64 x2)), (31, (.bool x5))] ∧ Below w5.heap.size w5 w ∧ Ctx [] w0 w [Item.box b4 [(.int .i64 x4.1), (.int .i64 x4.2)], Item.own v1 (x1 : (List Int)), Item.box b1 [u2, u3]]) ?_ ?_
    ·refine W_reg ?_
     refine WL_field Tryz.underlying75 rfl rfl (fun w => ⟨_, Tryz.sizeOf3 w⟩) rfl rfl ?_
     refine WL_load_box hC8 0 rfl rfl Tryz.isAgg3 rfl rfl ?_
     refine WL_field Tryz.underlying37 rfl rfl (fun w => ⟨_, Tryz.sizeOf35 w⟩) rfl rfl ?_
     refine WL_load_box hC8 2 rfl rfl Tryz.isAgg35 rfl rfl ?_
     refine WL_len Tryz.underlying35 g3 rfl rfl ?_
     refine WL_sub rfl rfl rfl ?_
     obtain ⟨x6, hr3, hr2⟩ := bind_some hr2
     refine WL_call Tryz.call78 rfl rfl (c_M_within x4.1 0 (w64 ((List.length a2.2 : Int) - 1)) x6 hr3) ?_
     intro _ w7 hv1
     obtain ⟨rfl, hB6⟩ := res_bool hv1
     have hC10 := hC8.grow hB6
     refine WL_move rfl rfl ?_
     refine WL_fork (fun hc2 => ?_) (fun hc2 => ?_)
     ·replace hr2 := ite_t hr2 hc2
      refine WL_guard rfl rfl ?_
      refine WL_field Tryz.underlying75 rfl rfl (fun w => ⟨_, Tryz.sizeOf3 w⟩) rfl rfl ?_
      refine WL_guard rfl rfl ?_
      refine WL_load_box hC10 0 rfl rfl Tryz.isAgg3 rfl rfl ?_
      refine WL_guard rfl rfl ?_
      refine WL_move rfl rfl ?_
      refine WL_guard rfl rfl ?_
      refine WL_len Tryz.underlying33 g1 rfl rfl ?_
      refine WL_guard rfl rfl ?_
      refine WL_sub rfl rfl rfl ?_
      obtain ⟨x7, hr4, hr2⟩ := bind_some hr2
      refine WL_guard rfl rfl ?_
      refine WL_call Tryz.call78 rfl rfl (c_M_within x4.2 0 (w64 ((List.length a1 : Int) - 1)) x7 hr4) ?_
      intro _ w9 hv2
      obtain ⟨rfl, hB7⟩ := res_bool hv2
      have hC11 := hC10.grow hB7
      refine WL_pick_t rfl rfl rfl ?_
      refine WL_nil ?_
      have hq1 := Option.some.inj hr2
      subst hq1
      refine nrm_sub (l' := [(0, u1), (4, (ptr b1 0)), (7, v1), (9, (ptr b4 0)), (11, u4), (12, (.int .i64 (List.length a3 : Int))), (13, (.int .i64 x2)), (31, (.bool x7))]) ⟨rfl, rfl, rfl, rfl, rfl, rfl, rfl, rfl, trivial⟩ ?_
      exact ⟨x7, rfl, rfl, ((Keep.of hB6).then hB7).below, hC11⟩
     replace hr2 := ite_f hr2 hc2
     refine WL_guard_skip rfl rfl (by simp) rfl ?_
     refine WL_guard_skip rfl rfl (by simp) rfl ?_
     refine WL_guard_skip rfl rfl (by simp) rfl ?_
     refine WL_guard_skip rfl rfl (by simp) rfl ?_
     refine WL_guard_skip rfl rfl (by simp) rfl ?_
     refine WL_guard_skip rfl rfl (by simp) rfl ?_
     refine WL_pick_f rfl rfl rfl ?_
     refine WL_nil ?_
     have hq2 := Option.some.inj hr2
     subst hq2
     refine nrm_sub (l' := [(0, u1), (4, (ptr b1 0)), (7, v1), (9, (ptr b4 0)), (11, u4), (12, (.int .i64 (List.length a3 : Int))), (13, (.int .i64 x2)), (31, (.bool false))]) ⟨rfl, rfl, rfl, rfl, rfl, rfl, rfl, rfl, trivial⟩ ?_
     exact ⟨false, rfl, rfl, (Keep.of hB6).below, hC10⟩
    rintro _ w6 ⟨x5, rfl, rfl, hB5, hC9⟩
    try dsimp only at hL1
    obtain ⟨r3, hr5, hL1⟩ := bind_some hL1
    refine W_norm (fun l w => ∃ v4 : Value, ∃ x8 : (List Int), x8 = r3 ∧ l = [(0, u1), (4, (ptr b1 0)), (7, v4), (11, u4), (12, (.int .i64 (List.length a3 : Int))), (13, (.int .i64 x2))] ∧ Ctx [] w0 w [Item.own v4 (x8 : (List Int)), Item.box b1 [u2, u3]]) ?_ ?_
    ·refine W_cond rfl (fun hc3 => ?_) (fun hc3 => ?_)
     ·replace hr5 := ite_t hr5 hc3
      refine W_drawn 15 rfl hmix (fun w11 hB9 => ?_)
      have hC13 := hC9.grow hB9
      refine WA_tk 0 (by kernel_rfl) rfl rfl (fl_move rfl) ?_
      refine WL_move rfl rfl ?_
      refine WL_nil ?_
      refine WA_tk 1 (by kernel_rfl) rfl rfl (fl_move rfl) ?_
      refine WL_move rfl rfl ?_
      refine WL_nil ?_
      refine WA_tk 2 (by kernel_rfl) rfl rfl (fl_field Tryz.underlying75 rfl rfl (fun w => ⟨_, Tryz.sizeOf3 w⟩) rfl) ?_
      refine WL_field Tryz.underlying75 rfl rfl (fun w => ⟨_, Tryz.sizeOf3 w⟩) rfl rfl ?_
      refine WL_nil ?_
      refine WA_tk 6 (by kernel_rfl) rfl rfl (fl_field Tryz.underlying37 rfl rfl (fun w => ⟨_, Tryz.sizeOf35 w⟩) rfl) ?_
      refine WL_field Tryz.underlying37 rfl rfl (fun w => ⟨_, Tryz.sizeOf35 w⟩) rfl rfl ?_
      refine WL_nil ?_
      refine WA_tk 8 (by kernel_rfl) rfl rfl (fl_field Tryz.underlying75 rfl rfl (fun w => ⟨_, Tryz.sizeOf3 w⟩) rfl) ?_
      refine WL_field Tryz.underlying75 rfl rfl (fun w => ⟨_, Tryz.sizeOf3 w⟩) rfl rfl ?_
      refine WL_nil ?_
      obtain ⟨x9, hx2, hr5⟩ := bind_some hr5
      obtain ⟨x10, hx3, hr5⟩ := bind_some hr5
      refine WA.sub (l' := [(0, u1), (4, (ptr b1 0)), (7, v1), (9, (ptr b4 0)), (11, u4), (12, (.int .i64 (List.length a3 : Int))), (13, (.int .i64 x2)), (31, (.bool x5)), (32, v1), (33, u1), (34, (ptr b4 1)), (38, (ptr b1 1)), (40, (ptr b4 0))]) ?_ ⟨rfl, rfl, rfl, rfl, rfl, rfl, rfl, rfl, rfl, rfl, rfl, rfl, rfl, trivial⟩
      refine WA_postsE [⟨3, [], fun vs => PW.val (.int .i64 x4.2), []⟩, ⟨4, [], fun vs => PW.at [] w0 x9, []⟩, ⟨5, [], fun vs => PW.ro [] w0 x9, []⟩, ⟨7, [], fun vs => PW.val u3, []⟩, ⟨9, [], fun vs => PW.val (.int .i64 x4.1), []⟩, ⟨10, [], fun vs => PW.at [] w0 x10, []⟩, ⟨11, [], fun vs => PW.ro [] w0 x10, []⟩] [[], [3], [4], [], [], [7, 9], [10]] 3 rfl (by kernel_rfl) (by kernel_rfl) rfl ?_ ?_
      ·refine StepsE_cons rfl ?_ ?_
       ·intro w12 hB10
        refine DepsE_nil ?_
        refine ⟨_, rfl, ?_⟩
        refine WL_load_box (hC13.grow hB10) 0 rfl rfl Tryz.isAgg3 rfl rfl ?_
        refine WL_nil ?_
        exact FinE_val (Below.refl _ _) rfl rfl ⟨rfl, rfl⟩
       refine StepsE_cons rfl ?_ ?_
       ·intro w12 hB10
        refine DepsE_cons rfl rfl rfl ?_
        rintro _ _ ⟨rfl, rfl⟩ _
        refine DepsE_nil ?_
        refine ⟨_, rfl, ?_⟩
        refine WL_index Tryz.underlying33 ty71 g1 hx2 rfl rfl rfl (fun b5 o2 h3 => ?_)
        refine WL_nil ?_
        exact FinE_val (Below.refl _ _) rfl rfl ⟨rfl, _, _, rfl, h3⟩
       refine StepsE_cons rfl ?_ ?_
       ·intro w12 hB10
        refine DepsE_cons rfl rfl rfl ?_
        rintro _ _ ⟨rfl, b5, o2, rfl, h3⟩ _
        refine DepsE_nil ?_
        refine ⟨_, rfl, ?_⟩
        refine WL_load ty71 h3 (hC13.keep.then hB10) rfl rfl (fun v7 h6 => ?_)
        refine WL_nil ?_
        exact FinE_val (Below.refl _ _) rfl rfl ⟨rfl, h6⟩
       refine StepsE_cons rfl ?_ ?_
       ·intro w12 hB10
        refine DepsE_nil ?_
        refine ⟨_, rfl, ?_⟩
        refine WL_load_box (hC13.grow hB10) 2 rfl rfl Tryz.isAgg35 rfl rfl ?_
        refine WL_nil ?_
        exact FinE_val (Below.refl _ _) rfl rfl ⟨rfl, rfl⟩
       refine StepsE_cons rfl ?_ ?_
       ·intro w12 hB10
        refine DepsE_nil ?_
        refine ⟨_, rfl, ?_⟩
        refine WL_load_box (hC13.grow hB10) 0 rfl rfl Tryz.isAgg3 rfl rfl ?_
        refine WL_nil ?_
        exact FinE_val (Below.refl _ _) rfl rfl ⟨rfl, rfl⟩
       refine StepsE_cons rfl ?_ ?_
       ·intro w12 hB10
        refine DepsE_cons rfl rfl rfl ?_
        rintro _ _ ⟨rfl, rfl⟩ _
        refine DepsE_cons rfl rfl rfl ?_
        rintro _ _ ⟨rfl, rfl⟩ _
        refine DepsE_nil ?_
        refine ⟨_, rfl, ?_⟩
        refine WL_index Tryz.underlying35 ty84 g3 hx3 rfl rfl rfl (fun b6 o3 h7 => ?_)
        refine WL_nil ?_
        exact FinE_val (Below.refl _ _) rfl rfl ⟨rfl, _, _, rfl, h7⟩
       refine StepsE_cons rfl ?_ ?_
       ·intro w12 hB10
        refine DepsE_cons rfl rfl rfl ?_
        rintro _ _ ⟨rfl, b6, o3, rfl, h7⟩ _
        refine DepsE_nil ?_
        refine ⟨_, rfl, ?_⟩
        refine WL_load ty84 h7 (hC13.keep.then hB10) rfl rfl (fun v10 h10 => ?_)
        refine WL_nil ?_
        exact FinE_val (Below.refl _ _) rfl rfl ⟨rfl, h10⟩
       exact StepsE_nil
      intro w13 hB11
      refine AllE_cons rfl rfl rfl ?_
      rintro _ _ ⟨rfl, rfl⟩
      refine AllE_cons rfl rfl rfl ?_
      rintro _ _ ⟨rfl, b5, o2, rfl, h3⟩
      refine AllE_cons rfl rfl rfl ?_
      rintro v7 _ ⟨rfl, h6⟩
      obtain ⟨v6, rfl, h5⟩ := ro_st71 h6
      refine AllE_cons rfl rfl rfl ?_
      rintro _ _ ⟨rfl, rfl⟩
      refine AllE_cons rfl rfl rfl ?_
      rintro _ _ ⟨rfl, rfl⟩
      refine AllE_cons rfl rfl rfl ?_
      rintro _ _ ⟨rfl, b6, o3, rfl, h7⟩
      refine AllE_cons rfl rfl rfl ?_
      rintro v10 _ ⟨rfl, h10⟩
      obtain ⟨v9, rfl, h9⟩ := ro_st84 h10
      refine AllE_nil ?_
      intro hn1 hb1
      have hC14 := hC13.grow hB11
      obtain ⟨x11, hr6, hr5⟩ := bind_some hr5
      refine WA_one 12 (by kernel_rfl) rfl ?_
      refine WL_call Tryz.call79 rfl rfl (c_M_passed x9 v6 (h5.now hC14.keep) x10 v9 (h9.now hC14.keep) x11 hr6) ?_
      rintro v11 w14 ⟨hB12, F1, hv3, hn2, hb2⟩
      have hC15 := hC14.push hB12 (A := Item.own v11 x11) hv3 hn2 hb2
      refine WL_nil ?_
      obtain ⟨x12, hx4, hr5⟩ := bind_some hr5
      refine WA_one 13 (by kernel_rfl) rfl ?_
      refine WL_append_flat8 b8_3 (α := Int) hC15 2 rfl (hC15.ro 0 rfl) (Keep.refl _ _) Tryz.underlying22 ty3 rfl hx4 rfl rfl rfl (fun v12 w15 hC16 => ?_)
      try dsimp only [List.set] at hC16
      refine WL_nil ?_
      refine WA_tk 14 (by kernel_rfl) rfl rfl (fl_assign rfl) ?_
      refine WL_assign rfl rfl ?_
      refine WL_nil ?_
      refine WA_done (by kernel_rfl) ?_
      have hq3 := Option.some.inj hr5
      subst hq3
      have hC17 := hC16.f3
      have hC18 := hC17.f3
      have hC19 := hC18.h2
      refine nrm_sub (l' := [(0, u1), (4, (ptr b1 0)), (7, v12), (11, u4), (12, (.int .i64 (List.length a3 : Int))), (13, (.int .i64 x2))]) ⟨rfl, rfl, rfl, rfl, rfl, rfl, trivial⟩ ?_
      exact ⟨v12, x12, rfl, rfl, hC19⟩
     replace hr5 := ite_f hr5 hc3
     refine W_skip ?_
     have hq4 := Option.some.inj hr5
     subst hq4
     have hC20 := hC9.f2
     have hC21 := hC20.f2
     have hC22 := hC21.h2
     refine nrm_sub (l' := [(0, u1), (4, (ptr b1 0)), (7, v1), (11, u4), (12, (.int .i64 (List.length a3 : Int))), (13, (.int .i64 x2))]) ⟨rfl, rfl, rfl, rfl, rfl, rfl, trivial⟩ ?_
     exact ⟨v1, x1, rfl, rfl, hC22⟩
    rintro l3 _ w10 hs3 ⟨v4, x8, rfl, rfl, hC12⟩
    try dsimp only at hL1
    refine blk_normal ?_
    refine nrm_sub' hs3 ?_
    clear hs3
    refine W_reg ?_
    refine WL_add rfl rfl rfl ?_
    refine WL_move rfl rfl ?_
    refine WL_nil ?_
    refine nrm_sub (l' := [(0, u1), (4, (ptr b1 0)), (7, v4), (11, u4), (12, (.int .i64 (List.length a3 : Int))), (13, (.int .i64 (w64 (x2 + 1))))]) ⟨rfl, rfl, rfl, rfl, rfl, rfl, trivial⟩ ?_
    exact ⟨k1, Nat.lt_succ_self _, v4, x8, w64 (x2 + 1), rfl, hC12, hL1⟩
   replace hL1 := ite_f hL1 hc1
   refine W_exit (nrm_exit (nrm_exit (blk_exit ?_)))
   have hq5 := Option.some.inj hL1
   subst hq5
   have hC23 := hC6.h1
   refine nrm_sub (l' := [(7, v1)]) ⟨rfl, trivial⟩ ?_
   exact ⟨v1, x1, rfl, rfl, hC23⟩
 rintro l4 _ w16 hs4 ⟨v2, x3, rfl, rfl, hC24⟩
 try dsimp only at hF
 refine nrm_sub' hs4 ?_
 clear hs4
 refine W_seq_reg ?_
 refine WL_move rfl rfl ?_
 obtain ⟨x13, hr7, hF⟩ := bind_some hF
 obtain ⟨Fs1, hH1, hn3, hF1, hO1, hb3⟩ := Ctx.lend2 (As := []) [Item.own v2 (x3 : (List Int))] hC24
 refine WL_call Tryz.call80 rfl rfl (c_Slices_Sort_Lint_int x3 v2 hH1 hn3 x13 hr7) ?_
 rintro _ w17 ⟨rfl, hq6⟩
 have hC26 : Ctx [] w0 w17 [Item.own v2 (x13 : (List Int))] := hb3 _ _ hq6
 refine WL_nil (W_seq_reg ?_)
 refine WL_move rfl rfl ?_
 obtain ⟨x14, hr8, hF⟩ := bind_some hF
 obtain ⟨Fs2, hH2, hn4, hF2, hO2, hb4⟩ := Ctx.lend2 (As := []) [Item.own v2 (x13 : (List Int))] hC26
 refine WL_call Tryz.call81 rfl rfl (c_Slices_Compact_Lint_int x13 v2 hH2 hn4 x14 hr8) ?_
 rintro v13 w18 ⟨_, rfl, hq7⟩
 have hC28 : Ctx [] w0 w18 [Item.own v13 (x14 : (List Int))] := hb4 _ _ hq7
 refine WL_assign rfl rfl ?_
 refine WL_nil (W_ret ?_)
 have hq8 := Option.some.inj hF
 subst hq8
 refine fn_ret1 rfl rfl ?_
 exact ⟨_, rfl, own_res hC28 0 rfl⟩

theorem c_M_IsSchema_c1 {w0 : World} (a1 : Int) (rr : Bool) (hF : M.IsSchema_c1 a1 = some rr) :
 Calls Tryz.prog 145 [(.int .i64 a1)].toArray w0 fun e w' => ∃ v, e = .returned v ∧ Res w0 rr v w' := by
 refine calls_of_W Tryz.func145 rfl rfl ?_
 have hC0 := Ctx.start w0
 unfold M.IsSchema_c1 at hF
 refine W_seq_reg ?_
 refine WL_assign rfl rfl ?_
 refine WL_nil (W_seq_reg ?_)
 refine WL_move rfl rfl ?_
 obtain ⟨x1, hr1, hF⟩ := bind_some hF
 refine WL_call Tryz.call78 rfl rfl (c_M_within a1 1 3 x1 hr1) ?_
 intro _ w1 hv1
 obtain ⟨rfl, hB1⟩ := res_bool hv1
 have hC1 := hC0.grow hB1
 refine WL_not rfl rfl ?_
 refine WL_assign rfl rfl ?_
 refine WL_nil (W_ret ?_)
 have hq1 := Option.some.inj hF
 subst hq1
 refine fn_ret1 rfl rfl ?_
 exact ⟨_, rfl, bool_res hC1 _⟩

theorem c_Slices_IndexFunc_Lint_int_M_IsSchema_c1 {w0 : World} (a1 : (List Int)) (u1 : Value) (g1 : RO [] w0 u1 a1) (rr : Int) (hF : Slices.IndexFunc_Lint_int_M_IsSchema_c1 a1 = some rr) :
 Calls Tryz.prog 99 [u1, (.func (.func 145) #[] #[])].toArray w0 fun e w' => ∃ v, e = .returned v ∧ Res w0 rr v w' := by
 refine calls_of_W Tryz.func99 rfl rfl ?_
 have hC0 := Ctx.start w0
 unfold Slices.IndexFunc_Lint_int_M_IsSchema_c1 at hF
 refine W_seq_reg ?_
 refine WL_assign rfl rfl ?_
 refine WL_nil (W_seq (W_seq_reg ?_))
 refine WL_move rfl rfl ?_
 refine WL_len Tryz.underlying22 g1 rfl rfl ?_
 refine WL_move rfl rfl ?_
 refine WL_nil ?_
 obtain ⟨r1, hr1, hF⟩ := bind_some hF
 refine W_norm (fun l w => .inl () = r1 ∧ l = [] ∧ Below w0.heap.size w0 w ∧ Ctx [] w0 w []) ?_ ?_
 ·refine W_block ?_
  refine W.sub (l' := [(0, u1), (1, (.func (.func 145) #[] #[])), (7, (.int .i64 (List.length a1 : Int))), (8, (.int .i64 0))]) ?_ ⟨rfl, rfl, rfl, rfl, trivial⟩
  refine W_loop (fun k l w => ∃ x1 : Int, l = [(0, u1), (1, (.func (.func 145) #[] #[])), (7, (.int .i64 (List.length a1 : Int))), (8, (.int .i64 x1))] ∧ Below w0.heap.size w0 w ∧ Ctx [] w0 w [] ∧ Slices.IndexFunc_Lint_int_M_IsSchema_c1_l1 a1 k x1 = some r1) FUEL ⟨0, rfl, (Below.refl _ _), hC0, hr1⟩ ?_
  clear hr1
  rintro k1 _ w1 ⟨x1, rfl, hB1, hC1, hL1⟩
  cases k1 with
  | zero => rw [Slices.IndexFunc_Lint_int_M_IsSchema_c1_l1] at hL1; cases hL1
  | succ k1 =>
   rw [Slices.IndexFunc_Lint_int_M_IsSchema_c1_l1] at hL1
   refine W_seq_reg ?_
   refine WL_lss rfl rfl rfl ?_
   refine WL_nil (W_seq ?_)
   refine W_cond rfl (fun hc1 => ?_) (fun hc1 => ?_)
   ·replace hL1 := ite_t hL1 hc1
    refine W_skip (nrm_normal (W_seq (W_block (W_seq_reg ?_))))
    refine WL_move rfl rfl ?_
    refine WL_assign rfl rfl ?_
    refine WL_nil (W_seq_reg ?_)
    refine WL_move rfl rfl ?_
    refine WL_move rfl rfl ?_
    refine WL_move rfl rfl ?_
    obtain ⟨x2, hx1, hL1⟩ := bind_some hL1
    refine WL_index Tryz.underlying22 ty3 g1 hx1 rfl rfl rfl (fun b1 o1 h1 => ?_)
    refine WL_load ty3 h1 hC1.keep rfl rfl (fun v1 h2 => ?_)
    obtain rfl := ro_int h2
    obtain ⟨x3, hr2, hL1⟩ := bind_some hL1
    refine WL_callv (cap := []) Tryz.call145 rfl rfl rfl (c_M_IsSchema_c1 x2 x3 hr2) ?_
    intro _ w2 hv1
    obtain ⟨rfl, hB2⟩ := res_bool hv1
    have hC2 := hC1.grow hB2
    refine WL_nil ?_
    refine W_cond rfl (fun hc2 => ?_) (fun hc2 => ?_)
    ·replace hL1 := ite_t hL1 hc2
     refine W_seq_reg ?_
     refine WL_move rfl rfl ?_
     refine WL_assign rfl rfl ?_
     refine WL_nil (W_ret (blk_ret (nrm_ret (nrm_ret (blk_ret (nrm_ret (nrm_ret ?_)))))))
     have hq1 := Option.some.inj hL1
     subst hq1
     dsimp only at hF
     have hq2 := Option.some.inj hF
     subst hq2
     refine fn_ret1 rfl rfl ?_
     exact ⟨_, rfl, int_res hC2 _⟩
    replace hL1 := ite_f hL1 hc2
    refine W_skip (blk_normal (nrm_normal (W_reg ?_)))
    refine WL_add rfl rfl rfl ?_
    refine WL_move rfl rfl ?_
    refine WL_nil ?_
    refine nrm_sub (l' := [(0, u1), (1, (.func (.func 145) #[] #[])), (7, (.int .i64 (List.length a1 : Int))), (8, (.int .i64 (w64 (x1 + 1))))]) ⟨rfl, rfl, rfl, rfl, trivial⟩ ?_
    exact ⟨k1, Nat.lt_succ_self _, w64 (x1 + 1), rfl, ((Keep.of hB1).then hB2).below, hC2, hL1⟩
   replace hL1 := ite_f hL1 hc1
   refine W_exit (nrm_exit (nrm_exit (blk_exit ?_)))
   have hq3 := Option.some.inj hL1
   subst hq3
   refine nrm_sub (l' := []) trivial ?_
   exact ⟨rfl, rfl, (Keep.of hB1).below, hC1⟩
 rintro l2 _ w3 hs2 ⟨rfl, rfl, hB3, hC3⟩
 try dsimp only at hF
 refine nrm_sub' hs2 ?_
 clear hs2
 refine W_seq_reg ?_
 refine WL_assign rfl rfl ?_
 refine WL_nil (W_ret ?_)
 have hq4 := Option.some.inj hF
 subst hq4
 refine fn_ret1 rfl rfl ?_
 exact ⟨_, rfl, int_res hC3 _⟩

theorem c_Slices_ContainsFunc_Lint_int_M_IsSchema_c1 {w0 : World} (a1 : (List Int)) (u1 : Value) (g1 : RO [] w0 u1 a1) (rr : Bool) (hF : Slices.ContainsFunc_Lint_int_M_IsSchema_c1 a1 = some rr) :
 Calls Tryz.prog 71 [u1, (.func (.func 145) #[] #[])].toArray w0 fun e w' => ∃ v, e = .returned v ∧ Res w0 rr v w' := by
 refine calls_of_W Tryz.func71 rfl rfl ?_
 have hC0 := Ctx.start w0
 unfold Slices.ContainsFunc_Lint_int_M_IsSchema_c1 at hF
 refine W_seq_reg ?_
 refine WL_assign rfl rfl ?_
 refine WL_nil (W_seq_reg ?_)
 refine WL_move rfl rfl ?_
 refine WL_move rfl rfl ?_
 obtain ⟨x1, hr1, hF⟩ := bind_some hF
 refine WL_call Tryz.call99 rfl rfl (c_Slices_IndexFunc_Lint_int_M_IsSchema_c1 a1 u1 (g1.now hC0.keep) x1 hr1) ?_
 intro _ w1 hv1
 obtain ⟨rfl, hB1⟩ := res_int hv1
 have hC1 := hC0.grow hB1
 refine WL_geq rfl rfl rfl ?_
 refine WL_assign rfl rfl ?_
 refine WL_nil (W_ret ?_)
 have hq1 := Option.some.inj hF
 subst hq1
 refine fn_ret1 rfl rfl ?_
 exact ⟨_, rfl, bool_res hC1 _⟩

theorem c_M_IsSchema {w0 : World} (a1 : (List Int)) (u1 : Value) (g1 : RO [] w0 u1 a1) (rr : Bool) (hF : M.IsSchema a1 = some rr) :
 Calls Tryz.prog 114 [u1].toArray w0 fun e w' => ∃ v, e = .returned v ∧ Res w0 rr v w' := by
 refine calls_of_W Tryz.func114 rfl rfl ?_
 have hC0 := Ctx.start w0
 unfold M.IsSchema at hF
 refine W_seq_reg ?_
 refine WL_assign rfl rfl ?_
 refine WL_nil ?_
 obtain ⟨r1, hr1, hF⟩ := bind_some hF
 refine W_cut (fun l w => ∃ x1 : Bool, x1 = r1 ∧ l = [(2, (.bool x1))] ∧ Below w0.heap.size w0 w ∧ Ctx [] w0 w []) ?_ ?_
 ·refine W_reg ?_
  refine WL_move rfl rfl ?_
  refine WL_len Tryz.underlying22 g1 rfl rfl ?_
  obtain ⟨x2, hr2, hr1⟩ := bind_some hr1
  refine WL_call Tryz.call78 rfl rfl (c_M_within (List.length a1 : Int) 1 3 x2 hr2) ?_
  intro _ w2 hv1
  obtain ⟨rfl, hB2⟩ := res_bool hv1
  have hC2 := hC0.grow hB2
  refine WL_move rfl rfl ?_
  refine WL_fork (fun hc1 => ?_) (fun hc1 => ?_)
  ·replace hr1 := ite_t hr1 hc1
   refine WL_guard rfl rfl ?_
   refine WL_move rfl rfl ?_
   obtain ⟨x3, hr3, hr1⟩ := bind_some hr1
   refine WL_guard rfl rfl ?_
   refine WL_call Tryz.call71 rfl rfl (c_Slices_ContainsFunc_Lint_int_M_IsSchema_c1 a1 u1 (g1.now hC2.keep) x3 hr3) ?_
   intro _ w3 hv2
   obtain ⟨rfl, hB3⟩ := res_bool hv2
   have hC3 := hC2.grow hB3
   refine WL_guard rfl rfl ?_
   refine WL_not rfl rfl ?_
   refine WL_pick_t rfl rfl rfl ?_
   refine WL_assign rfl rfl ?_
   refine WL_nil ?_
   have hq1 := Option.some.inj hr1
   subst hq1
   refine nrm_sub (l' := [(2, (.bool (!x3)))]) ⟨rfl, trivial⟩ ?_
   exact ⟨(!x3), rfl, rfl, ((Keep.of hB2).then hB3).below, hC3⟩
  replace hr1 := ite_f hr1 hc1
  refine WL_guard_skip rfl rfl (by simp) rfl ?_
  refine WL_guard_skip rfl rfl (by simp) rfl ?_
  refine WL_guard_skip rfl rfl (by simp) rfl ?_
  refine WL_pick_f rfl rfl rfl ?_
  refine WL_assign rfl rfl ?_
  refine WL_nil ?_
  have hq2 := Option.some.inj hr1
  subst hq2
  refine nrm_sub (l' := [(2, (.bool false))]) ⟨rfl, trivial⟩ ?_
  exact ⟨false, rfl, rfl, (Keep.of hB2).below, hC2⟩
 rintro _ w1 ⟨x1, rfl, rfl, hB1, hC1⟩
 try dsimp only at hF
 refine W_ret ?_
 have hq3 := Option.some.inj hF
 subst hq3
 refine fn_ret1 rfl rfl ?_
 exact ⟨_, rfl, bool_res hC1 _⟩

theorem c_M_hasRel {w0 : World} (a1 : (List Int)) (u1 : Value) (g1 : RO [] w0 u1 a1) (a2 : Int) (rr : Bool) (hF : M.hasRel a1 a2 = some rr) :
 Calls Tryz.prog 146 [u1, (.int .i64 a2)].toArray w0 fun e w' => ∃ v, e = .returned v ∧ Res w0 rr v w' := by
 refine calls_of_W Tryz.func146 rfl rfl ?_
 have hC0 := Ctx.start w0
 unfold M.hasRel at hF
 refine W_seq_reg ?_
 refine WL_assign rfl rfl ?_
 refine WL_nil ?_
 obtain ⟨r1, hr1, hF⟩ := bind_some hF
 refine W_cut (fun l w => ∃ x1 : Bool, x1 = r1 ∧ l = [(4, (.bool x1))] ∧ Below w0.heap.size w0 w ∧ Ctx [] w0 w []) ?_ ?_
 ·refine W_reg ?_
  refine WL_move rfl rfl ?_
  obtain ⟨x2, hr2, hr1⟩ := bind_some hr1
  refine WL_call Tryz.call114 rfl rfl (c_M_IsSchema a1 u1 (g1.now hC0.keep) x2 hr2) ?_
  intro _ w2 hv1
  obtain ⟨rfl, hB2⟩ := res_bool hv1
  have hC2 := hC0.grow hB2
  refine WL_move rfl rfl ?_
  refine WL_fork (fun hc1 => ?_) (fun hc1 => ?_)
  ·replace hr1 := ite_t hr1 hc1
   refine WL_guard rfl rfl ?_
   refine WL_move rfl rfl ?_
   refine WL_guard rfl rfl ?_
   refine WL_move rfl rfl ?_
   refine WL_guard rfl rfl ?_
   refine WL_len Tryz.underlying22 g1 rfl rfl ?_
   refine WL_guard rfl rfl ?_
   refine WL_sub rfl rfl rfl ?_
   obtain ⟨x3, hr3, hr1⟩ := bind_some hr1
   refine WL_guard rfl rfl ?_
   refine WL_call Tryz.call78 rfl rfl (c_M_within a2 0 (w64 ((List.length a1 : Int) - 1)) x3 hr3) ?_
   intro _ w3 hv2
   obtain ⟨rfl, hB3⟩ := res_bool hv2
   have hC3 := hC2.grow hB3
   refine WL_pick_t rfl rfl rfl ?_
   refine WL_assign rfl rfl ?_
   refine WL_nil ?_
   have hq1 := Option.some.inj hr1
   subst hq1
   refine nrm_sub (l' := [(4, (.bool x3))]) ⟨rfl, trivial⟩ ?_
   exact ⟨x3, rfl, rfl, ((Keep.of hB2).then hB3).below, hC3⟩
  replace hr1 := ite_f hr1 hc1
  refine WL_guard_skip rfl rfl (by simp) rfl ?_
  refine WL_guard_skip rfl rfl (by simp) rfl ?_
  refine WL_guard_skip rfl rfl (by simp) rfl ?_
  refine WL_guard_skip rfl rfl (by simp) rfl ?_
  refine WL_guard_skip rfl rfl (by simp) rfl ?_
  refine WL_pick_f rfl rfl rfl ?_
  refine WL_assign rfl rfl ?_
  refine WL_nil ?_
  have hq2 := Option.some.inj hr1
  subst hq2
  refine nrm_sub (l' := [(4, (.bool false))]) ⟨rfl, trivial⟩ ?_
  exact ⟨false, rfl, rfl, (Keep.of hB2).below, hC2⟩
 rintro _ w1 ⟨x1, rfl, rfl, hB1, hC1⟩
 try dsimp only at hF
 refine W_ret ?_
 have hq3 := Option.some.inj hF
 subst hq3
 refine fn_ret1 rfl rfl ?_
 exact ⟨_, rfl, bool_res hC1 _⟩

theorem c_M_ascending {w0 : World} (a1 : (List Int)) (u1 : Value) (g1 : RO [] w0 u1 a1) (rr : Bool) (hF : M.ascending a1 = some rr) :
 Calls Tryz.prog 160 [u1].toArray w0 fun e w' => ∃ v, e = .returned v ∧ Res w0 rr v w' := by
 refine calls_of_W Tryz.func160 rfl rfl ?_
 have hC0 := Ctx.start w0
 unfold M.ascending at hF
 refine W_seq_reg ?_
 refine WL_assign rfl rfl ?_
 refine WL_nil (W_seq (W_seq_reg ?_))
 refine WL_move rfl rfl ?_
 refine WL_len Tryz.underlying22 g1 rfl rfl ?_
 refine WL_move rfl rfl ?_
 refine WL_nil ?_
 obtain ⟨r1, hr1, hF⟩ := bind_some hF
 refine W_norm (fun l w => .inl () = r1 ∧ l = [] ∧ Below w0.heap.size w0 w ∧ Ctx [] w0 w []) ?_ ?_
 ·refine W_block ?_
  refine W.sub (l' := [(0, u1), (5, (.int .i64 (List.length a1 : Int))), (6, (.int .i64 0))]) ?_ ⟨rfl, rfl, rfl, trivial⟩
  refine W_loop (fun k l w => ∃ x1 : Int, l = [(0, u1), (5, (.int .i64 (List.length a1 : Int))), (6, (.int .i64 x1))] ∧ Below w0.heap.size w0 w ∧ Ctx [] w0 w [] ∧ M.ascending_l1 a1 k x1 = some r1) FUEL ⟨0, rfl, (Below.refl _ _), hC0, hr1⟩ ?_
  clear hr1
  rintro k1 _ w1 ⟨x1, rfl, hB1, hC1, hL1⟩
  cases k1 with
  | zero => rw [M.ascending_l1] at hL1; cases hL1
  | succ k1 =>
   rw [M.ascending_l1] at hL1
   refine W_seq_reg ?_
   refine WL_lss rfl rfl rfl ?_
   refine WL_nil (W_seq ?_)
   refine W_cond rfl (fun hc1 => ?_) (fun hc1 => ?_)
   ·replace hL1 := ite_t hL1 hc1
    refine W_skip (nrm_normal (W_seq (W_block (W_seq_reg ?_))))
    refine WL_move rfl rfl ?_
    refine WL_assign rfl rfl ?_
    refine WL_nil ?_
    obtain ⟨r2, hr2, hL1⟩ := bind_some hL1
    refine W_cut (fun l w => ∃ x2 : Bool, x2 = r2 ∧ l = [(0, u1), (5, (.int .i64 (List.length a1 : Int))), (6, (.int .i64 x1)), (22, (.bool x2))] ∧ Below w1.heap.size w1 w ∧ Ctx [] w0 w []) ?_ ?_
    ·refine W_drawn 14 rfl hmix (fun w3 hB3 => ?_)
     have hC3 := hC1.grow hB3
     refine WA_tk 0 (by kernel_rfl) rfl rfl (fl_move rfl) ?_
     refine WL_move rfl rfl ?_
     refine WL_nil ?_
     refine WA_tk 1 (by kernel_rfl) rfl rfl (fl_gtr rfl rfl) ?_
     refine WL_gtr rfl rfl rfl ?_
     refine WL_nil ?_
     refine WA_tk 2 (by kernel_rfl) rfl rfl (fl_move rfl) ?_
     refine WL_move rfl rfl ?_
     refine WL_nil ?_
     refine WA_fork (fun hc2 => ?_) (fun hc2 => ?_)
     ·replace hr2 := ite_t hr2 hc2
      refine WA_takeG 3 rfl (by kernel_rfl) (by kernel_rfl) (by kernel_rfl) rfl rfl rfl (fl_move rfl) ?_
      refine WL_guard rfl rfl ?_
      refine WL_move rfl rfl ?_
      refine WL_nil ?_
      refine WA_takeG 4 rfl (by kernel_rfl) (by kernel_rfl) (by kernel_rfl) rfl rfl rfl (fl_move rfl) ?_
      refine WL_guard rfl rfl ?_
      refine WL_move rfl rfl ?_
      refine WL_nil ?_
      obtain ⟨x3, hx1, hr2⟩ := bind_some hr2
      refine WA_takeG 5 rfl (by kernel_rfl) (by kernel_rfl) (by kernel_rfl) rfl rfl rfl (fl_index Tryz.underlying22 ty3 g1 hx1 rfl rfl) ?_
      refine WL_guard rfl rfl ?_
      refine WL_index Tryz.underlying22 ty3 g1 hx1 rfl rfl rfl (fun b1 o1 h1 => ?_)
      refine WL_nil ?_
      refine WA_takeG 7 rfl (by kernel_rfl) (by kernel_rfl) (by kernel_rfl) rfl rfl rfl (fl_move rfl) ?_
      refine WL_guard rfl rfl ?_
      refine WL_move rfl rfl ?_
      refine WL_nil ?_
      refine WA_takeG 8 rfl (by kernel_rfl) (by kernel_rfl) (by kernel_rfl) rfl rfl rfl (fl_move rfl) ?_
      refine WL_guard rfl rfl ?_
      refine WL_move rfl rfl ?_
      refine WL_nil ?_
      refine WA_takeG 9 rfl (by kernel_rfl) (by kernel_rfl) (by kernel_rfl) rfl rfl rfl (fl_sub rfl rfl) ?_
      refine WL_guard rfl rfl ?_
      refine WL_sub rfl rfl rfl ?_
      refine WL_nil ?_
      obtain ⟨x4, hx2, hr2⟩ := bind_some hr2
      refine WA_takeG 10 rfl (by kernel_rfl) (by kernel_rfl) (by kernel_rfl) rfl rfl rfl (fl_index Tryz.underlying22 ty3 g1 hx2 rfl rfl) ?_
      refine WL_guard rfl rfl ?_
      refine WL_index Tryz.underlying22 ty3 g1 hx2 rfl rfl rfl (fun b2 o2 h2 => ?_)
      refine WL_nil ?_
      refine WA.sub (l' := [(0, u1), (3, (.int .i64 x1)), (5, (.int .i64 (List.length a1 : Int))), (6, (.int .i64 x1)), (7, (.bool (decide (x1 < (List.length a1 : Int))))), (8, (.int .i64 x1)), (9, (.int .i64 x1)), (10, (.bool (decide (0 < x1)))), (11, (.bool true)), (12, u1), (13, (.int .i64 x1)), (14, (ptr b1 o1)), (16, u1), (17, (.int .i64 x1)), (18, (.int .i64 (w64 (x1 - 1)))), (19, (ptr b2 o2))]) ?_ ⟨rfl, rfl, rfl, rfl, rfl, rfl, rfl, rfl, rfl, rfl, rfl, rfl, rfl, rfl, rfl, rfl, trivial⟩
      refine WA_postsE [⟨6, [], fun vs => PW.val (.int .i64 x3), []⟩, ⟨11, [], fun vs => PW.val (.int .i64 x4), []⟩] [[], []] 2 rfl (by kernel_rfl) (by kernel_rfl) rfl ?_ ?_
      ·refine StepsE_cons rfl ?_ ?_
       ·intro w4 hB4
        refine DepsE_nil ?_
        refine ⟨_, rfl, ?_⟩
        refine WL_guard rfl rfl ?_
        refine WL_load ty3 h1 (hC3.keep.then hB4) rfl rfl (fun v1 h3 => ?_)
        obtain rfl := ro_int h3
        refine WL_nil ?_
        exact FinE_val (Below.refl _ _) rfl rfl ⟨rfl, rfl⟩
       refine StepsE_cons rfl ?_ ?_
       ·intro w4 hB4
        refine DepsE_nil ?_
        refine ⟨_, rfl, ?_⟩
        refine WL_guard rfl rfl ?_
        refine WL_load ty3 h2 (hC3.keep.then hB4) rfl rfl (fun v2 h4 => ?_)
        obtain rfl := ro_int h4
        refine WL_nil ?_
        exact FinE_val (Below.refl _ _) rfl rfl ⟨rfl, rfl⟩
       exact StepsE_nil
      intro w5 hB5
      refine AllE_cons rfl rfl rfl ?_
      rintro _ _ ⟨rfl, rfl⟩
      refine AllE_cons rfl rfl rfl ?_
      rintro _ _ ⟨rfl, rfl⟩
      refine AllE_nil ?_
      intro hn1 hb1
      have hC4 := hC3.grow hB5
      refine WA_takeG 12 rfl (by kernel_rfl) (by kernel_rfl) (by kernel_rfl) rfl rfl rfl (fl_leq rfl rfl) ?_
      refine WL_guard rfl rfl ?_
      refine WL_leq rfl rfl rfl ?_
      refine WL_nil ?_
      refine WA_tk 13 (by kernel_rfl) rfl rfl (fl_pick_t rfl rfl) ?_
      refine WL_pick_t rfl rfl rfl ?_
      refine WL_nil ?_
      refine WA_done (by kernel_rfl) ?_
      have hq1 := Option.some.inj hr2
      subst hq1
      refine nrm_sub (l' := [(0, u1), (5, (.int .i64 (List.length a1 : Int))), (6, (.int .i64 x1)), (22, (.bool (decide (x3 ≤ x4))))]) ⟨rfl, rfl, rfl, rfl, trivial⟩ ?_
      exact ⟨(decide (x3 ≤ x4)), rfl, rfl, ((Keep.of hB3).then hB5).below, hC4⟩
     replace hr2 := ite_f hr2 hc2
     refine WA_sk 3 (by kernel_rfl) rfl rfl rfl rfl (by simp) rfl rfl ?_
     refine WA_sk 4 (by kernel_rfl) rfl rfl rfl rfl (by simp) rfl rfl ?_
     refine WA_sk 5 (by kernel_rfl) rfl rfl rfl rfl (by simp) rfl rfl ?_
     refine WA_sk 6 (by kernel_rfl) rfl rfl rfl rfl (by simp) rfl rfl ?_
     refine WA_sk 7 (by kernel_rfl) rfl rfl rfl rfl (by simp) rfl rfl ?_
     refine WA_sk 8 (by kernel_rfl) rfl rfl rfl rfl (by simp) rfl rfl ?_
     refine WA_sk 9 (by kernel_rfl) rfl rfl rfl rfl (by simp) rfl rfl ?_
     refine WA_sk 10 (by kernel_rfl) rfl rfl rfl rfl (by simp) rfl rfl ?_
     refine WA_sk 11 (by kernel_rfl) rfl rfl rfl rfl (by simp) rfl rfl ?_
     refine WA_sk 12 (by kernel_rfl) rfl rfl rfl rfl (by simp) rfl rfl ?_
     refine WA_tk 13 (by kernel_rfl) rfl rfl (fl_pick_f rfl rfl) ?_
     refine WL_pick_f rfl rfl rfl ?_
     refine WL_nil ?_
     refine WA_done (by kernel_rfl) ?_
     have hq2 := Option.some.inj hr2
     subst hq2
     refine nrm_sub (l' := [(0, u1), (5, (.int .i64 (List.length a1 : Int))), (6, (.int .i64 x1)), (22, (.bool false))]) ⟨rfl, rfl, rfl, rfl, trivial⟩ ?_
     exact ⟨false, rfl, rfl, (Keep.of hB3).below, hC3⟩
    rintro _ w2 ⟨x2, rfl, rfl, hB2, hC2⟩
    try dsimp only at hL1
    refine W_cond rfl (fun hc3 => ?_) (fun hc3 => ?_)
    ·replace hL1 := ite_t hL1 hc3
     refine W_seq_reg ?_
     refine WL_assign rfl rfl ?_
     refine WL_nil (W_ret (blk_ret (nrm_ret (nrm_ret (blk_ret (nrm_ret (nrm_ret ?_)))))))
     have hq3 := Option.some.inj hL1
     subst hq3
     dsimp only at hF
     have hq4 := Option.some.inj hF
     subst hq4
     refine fn_ret1 rfl rfl ?_
     exact ⟨_, rfl, bool_res hC2 _⟩
    replace hL1 := ite_f hL1 hc3
    refine W_skip (blk_normal (nrm_normal (W_reg ?_)))
    refine WL_add rfl rfl rfl ?_
    refine WL_move rfl rfl ?_
    refine WL_nil ?_
    refine nrm_sub (l' := [(0, u1), (5, (.int .i64 (List.length a1 : Int))), (6, (.int .i64 (w64 (x1 + 1))))]) ⟨rfl, rfl, rfl, trivial⟩ ?_
    exact ⟨k1, Nat.lt_succ_self _, w64 (x1 + 1), rfl, ((Keep.of hB1).then hB2).below, hC2, hL1⟩
   replace hL1 := ite_f hL1 hc1
   refine W_exit (nrm_exit (nrm_exit (blk_exit ?_)))
   have hq5 := Option.some.inj hL1
   subst hq5
   refine nrm_sub (l' := []) trivial ?_
   exact ⟨rfl, rfl, (Keep.of hB1).below, hC1⟩
 rintro l3 _ w6 hs3 ⟨rfl, rfl, hB6, hC5⟩
 try dsimp only at hF
 refine nrm_sub' hs3 ?_
 clear hs3
 refine W_seq_reg ?_
 refine WL_assign rfl rfl ?_
 refine WL_nil (W_ret ?_)
 have hq6 := Option.some.inj hF
 subst hq6
 refine fn_ret1 rfl rfl ?_
 exact ⟨_, rfl, bool_res hC5 _⟩

theorem c_M_Method_fits_c1 {w0 : World} (a1 : Int) (pb1 : Nat) (ax1 : Int) (g1 : ROAt [] w0 pb1 0 ax1) (rr : Bool) (hF : M.Method_fits_c1 a1 ax1 = some rr) :
 Calls Tryz.prog 161 [(.int .i64 a1), (ptr pb1 0)].toArray w0 fun e w' => ∃ v, e = .returned v ∧ Res w0 rr v w' := by
 refine calls_of_W Tryz.func161 rfl rfl ?_
 have hC0 := Ctx.start w0
 unfold M.Method_fits_c1 at hF
 refine W_seq_reg ?_
 refine WL_assign rfl rfl ?_
 refine WL_nil (W_seq_reg ?_)
 refine WL_move rfl rfl ?_
 refine WL_load ty3 g1 hC0.keep rfl rfl (fun v1 h1 => ?_)
 obtain rfl := ro_int h1
 refine WL_sub rfl rfl rfl ?_
 obtain ⟨x1, hr1, hF⟩ := bind_some hF
 refine WL_call Tryz.call78 rfl rfl (c_M_within a1 0 (w64 (ax1 - 1)) x1 hr1) ?_
 intro _ w1 hv1
 obtain ⟨rfl, hB1⟩ := res_bool hv1
 have hC1 := hC0.grow hB1
 refine WL_not rfl rfl ?_
 refine WL_assign rfl rfl ?_
 refine WL_nil (W_ret ?_)
 have hq1 := Option.some.inj hF
 subst hq1
 refine fn_ret1 rfl rfl ?_
 exact ⟨_, rfl, bool_res hC1 _⟩

theorem c_M_isCost {w0 : World} (a1 : Int) (rr : Bool) (hF : M.isCost a1 = some rr) :
 Calls Tryz.prog 162 [(.int .i64 a1)].toArray w0 fun e w' => ∃ v, e = .returned v ∧ Res w0 rr v w' := by
 refine calls_of_W Tryz.func162 rfl rfl ?_
 have hC0 := Ctx.start w0
 unfold M.isCost at hF
 refine W_seq_reg ?_
 refine WL_assign rfl rfl ?_
 refine WL_nil (W_seq_reg ?_)
 refine WL_move rfl rfl ?_
 obtain ⟨x1, hr1, hF⟩ := bind_some hF
 refine WL_call Tryz.call78 rfl rfl (c_M_within a1 0 99 x1 hr1) ?_
 intro _ w1 hv1
 obtain ⟨rfl, hB1⟩ := res_bool hv1
 have hC1 := hC0.grow hB1
 refine WL_assign rfl rfl ?_
 refine WL_nil (W_ret ?_)
 have hq1 := Option.some.inj hF
 subst hq1
 refine fn_ret1 rfl rfl ?_
 exact ⟨_, rfl, bool_res hC1 _⟩

theorem c_Slices_IndexFunc_Lint_int_M_Method_fits_c1 {w0 : World} (a1 : (List Int)) (u1 : Value) (g1 : RO [] w0 u1 a1) (pb1 : Nat) (ax1 : Int) (g2 : ROAt [] w0 pb1 0 ax1) (rr : Int) (hF : Slices.IndexFunc_Lint_int_M_Method_fits_c1 a1 ax1 = some rr) :
 Calls Tryz.prog 99 [u1, (.func (.func 161) #[] #[(ptr pb1 0)])].toArray w0 fun e w' => ∃ v, e = .returned v ∧ Res w0 rr v w' := by
 refine calls_of_W Tryz.func99 rfl rfl ?_
 have hC0 := Ctx.start w0
 unfold Slices.IndexFunc_Lint_int_M_Method_fits_c1 at hF
 refine W_seq_reg ?_
 refine WL_assign rfl rfl ?_
 refine WL_nil (W_seq (W_seq_reg ?_))
 refine WL_move rfl rfl ?_
 refine WL_len Tryz.underlying22 g1 rfl rfl ?_
 refine WL_move rfl rfl ?_
 refine WL_nil ?_
 obtain ⟨r1, hr1, hF⟩ := bind_some hF
 refine W_norm (fun l w => .inl () = r1 ∧ l = [] ∧ Below w0.heap.size w0 w ∧ Ctx [] w0 w []) ?_ ?_
 ·refine W_block ?_
  refine W.sub (l' := [(0, u1), (1, (.func (.func 161) #[] #[(ptr pb1 0)])), (7, (.int .i64 (List.length a1 : Int))), (8, (.int .i64 0))]) ?_ ⟨rfl, rfl, rfl, rfl, trivial⟩
  refine W_loop (fun k l w => ∃ x1 : Int, l = [(0, u1), (1, (.func (.func 161) #[] #[(ptr pb1 0)])), (7, (.int .i64 (List.length a1 : Int))), (8, (.int .i64 x1))] ∧ Below w0.heap.size w0 w ∧ Ctx [] w0 w [] ∧ Slices.IndexFunc_Lint_int_M_Method_fits_c1_l1 a1 ax1 k x1 = some r1) FUEL ⟨0, rfl, (Below.refl _ _), hC0, hr1⟩ ?_
  clear hr1
  rintro k1 _ w1 ⟨x1, rfl, hB1, hC1, hL1⟩
  cases k1 with
  | zero => rw [Slices.IndexFunc_Lint_int_M_Method_fits_c1_l1] at hL1; cases hL1
  | succ k1 =>
   rw [Slices.IndexFunc_Lint_int_M_Method_fits_c1_l1] at hL1
   refine W_seq_reg ?_
   refine WL_lss rfl rfl rfl ?_
   refine WL_nil (W_seq ?_)
   refine W_cond rfl (fun hc1 => ?_) (fun hc1 => ?_)
   ·replace hL1 := ite_t hL1 hc1
    refine W_skip (nrm_normal (W_seq (W_block (W_seq_reg ?_))))
    refine WL_move rfl rfl ?_
    refine WL_assign rfl rfl ?_
    refine WL_nil (W_seq_reg ?_)
    refine WL_move rfl rfl ?_
    refine WL_move rfl rfl ?_
    refine WL_move rfl rfl ?_
    obtain ⟨x2, hx1, hL1⟩ := bind_some hL1
    refine WL_index Tryz.underlying22 ty3 g1 hx1 rfl rfl rfl (fun b1 o1 h1 => ?_)
    refine WL_load ty3 h1 hC1.keep rfl rfl (fun v1 h2 => ?_)
    obtain rfl := ro_int h2
    obtain ⟨x3, hr2, hL1⟩ := bind_some hL1
    refine WL_callv (cap := [(ptr pb1 0)]) Tryz.call161 rfl rfl rfl (c_M_Method_fits_c1 x2 pb1 ax1 (g2.now hC1.keep) x3 hr2) ?_
    intro _ w2 hv1
    obtain ⟨rfl, hB2⟩ := res_bool hv1
    have hC2 := hC1.grow hB2
    refine WL_nil ?_
    refine W_cond rfl (fun hc2 => ?_) (fun hc2 => ?_)
    ·replace hL1 := ite_t hL1 hc2
     refine W_seq_reg ?_
     refine WL_move rfl rfl ?_
     refine WL_assign rfl rfl ?_
     refine WL_nil (W_ret (blk_ret (nrm_ret (nrm_ret (blk_ret (nrm_ret (nrm_ret ?_)))))))
     have hq1 := Option.some.inj hL1
     subst hq1
     dsimp only at hF
     have hq2 := Option.some.inj hF
     subst hq2
     refine fn_ret1 rfl rfl ?_
     exact ⟨_, rfl, int_res hC2 _⟩
    replace hL1 := ite_f hL1 hc2
    refine W_skip (blk_normal (nrm_normal (W_reg ?_)))
    refine WL_add rfl rfl rfl ?_
    refine WL_move rfl rfl ?_
    refine WL_nil ?_
    refine nrm_sub (l' := [(0, u1), (1, (.func (.func 161) #[] #[(ptr pb1 0)])), (7, (.int .i64 (List.length a1 : Int))), (8, (.int .i64 (w64 (x1 + 1))))]) ⟨rfl, rfl, rfl, rfl, trivial⟩ ?_
    exact ⟨k1, Nat.lt_succ_self _, w64 (x1 + 1), rfl, ((Keep.of hB1).then hB2).below, hC2, hL1⟩
   replace hL1 := ite_f hL1 hc1
   refine W_exit (nrm_exit (nrm_exit (blk_exit ?_)))
   have hq3 := Option.some.inj hL1
   subst hq3
   refine nrm_sub (l' := []) trivial ?_
   exact ⟨rfl, rfl, (Keep.of hB1).below, hC1⟩
 rintro l2 _ w3 hs2 ⟨rfl, rfl, hB3, hC3⟩
 try dsimp only at hF
 refine nrm_sub' hs2 ?_
 clear hs2
 refine W_seq_reg ?_
 refine WL_assign rfl rfl ?_
 refine WL_nil (W_ret ?_)
 have hq4 := Option.some.inj hF
 subst hq4
 refine fn_ret1 rfl rfl ?_
 exact ⟨_, rfl, int_res hC3 _⟩

theorem c_Slices_ContainsFunc_Lint_int_M_Method_fits_c1 {w0 : World} (a1 : (List Int)) (u1 : Value) (g1 : RO [] w0 u1 a1) (pb1 : Nat) (ax1 : Int) (g2 : ROAt [] w0 pb1 0 ax1) (rr : Bool) (hF : Slices.ContainsFunc_Lint_int_M_Method_fits_c1 a1 ax1 = some rr) :
 Calls Tryz.prog 71 [u1, (.func (.func 161) #[] #[(ptr pb1 0)])].toArray w0 fun e w' => ∃ v, e = .returned v ∧ Res w0 rr v w' := by
 refine calls_of_W Tryz.func71 rfl rfl ?_
 have hC0 := Ctx.start w0
 unfold Slices.ContainsFunc_Lint_int_M_Method_fits_c1 at hF
 refine W_seq_reg ?_
 refine WL_assign rfl rfl ?_
 refine WL_nil (W_seq_reg ?_)
 refine WL_move rfl rfl ?_
 refine WL_move rfl rfl ?_
 obtain ⟨x1, hr1, hF⟩ := bind_some hF
 refine WL_call Tryz.call99 rfl rfl (c_Slices_IndexFunc_Lint_int_M_Method_fits_c1 a1 u1 (g1.now hC0.keep) pb1 ax1 (g2.now hC0.keep) x1 hr1) ?_
 intro _ w1 hv1
 obtain ⟨rfl, hB1⟩ := res_int hv1
 have hC1 := hC0.grow hB1
 refine WL_geq rfl rfl rfl ?_
 refine WL_assign rfl rfl ?_
 refine WL_nil (W_ret ?_)
 have hq1 := Option.some.inj hF
 subst hq1
 refine fn_ret1 rfl rfl ?_
 exact ⟨_, rfl, bool_res hC1 _⟩

theorem c_M_Method_fits {w0 : World} (a1 : (Int × (List Int) × Int × Int × Int)) (u1 : Value) (g1 : RO [] w0 u1 a1.2.1) (a2 : Int) (rr : Bool) (hF : M.Method_fits a1 a2 = some rr) :
 Calls Tryz.prog 147 [(.agg #[(.int .i64 a1.1), u1, (.int .i64 a1.2.2.1), (.int .i64 a1.2.2.2.1), (.int .i64 a1.2.2.2.2)]), (.int .i64 a2)].toArray w0 fun e w' => ∃ v, e = .returned v ∧ Res w0 rr v w' := by
 refine calls_of_W Tryz.func147 rfl rfl ?_
 have hC0 := Ctx.start w0
 unfold M.Method_fits at hF
 refine W_seq_reg ?_
 refine WL_boxK (cs := [(.int .i64 a1.1), u1, (.int .i64 a1.2.2.1), (.int .i64 a1.2.2.2.1), (.int .i64 a1.2.2.2.2)]) hC0 rfl rfl rfl (fun b1 w1 hC1 hB1 hN1 => ?_)
 refine WL_boxK (cs := [(.int .i64 a2)]) hC1 rfl rfl rfl (fun b2 w2 hC2 hB2 hN2 => ?_)
 refine WL_assign rfl rfl ?_
 refine WL_nil ?_
 obtain ⟨r1, hr1, hF⟩ := bind_some hF
 refine W_cut (fun l w => ∃ x1 : Bool, x1 = r1 ∧ l = [(4, (.bool x1))] ∧ Below w2.heap.size w2 w ∧ Ctx [] w0 w []) ?_ ?_
 ·refine W_reg ?_
  refine WL_field Tryz.underlying71 rfl rfl (fun w => ⟨_, Tryz.sizeOf22 w⟩) rfl rfl ?_
  refine WL_load_box hC2 1 rfl rfl Tryz.isAgg22 rfl rfl ?_
  obtain ⟨x2, hr2, hr1⟩ := bind_some hr1
  refine WL_call Tryz.call160 rfl rfl (c_M_ascending a1.2.1 u1 (g1.now hC2.keep) x2 hr2) ?_
  intro _ w4 hv1
  obtain ⟨rfl, hB4⟩ := res_bool hv1
  have hC4 := hC2.grow hB4
  refine WL_move rfl rfl ?_
  refine WL_fork (fun hc1 => ?_) (fun hc1 => ?_)
  ·replace hr1 := ite_t hr1 hc1
   refine WL_guard rfl rfl ?_
   refine WL_field Tryz.underlying71 rfl rfl (fun w => ⟨_, Tryz.sizeOf22 w⟩) rfl rfl ?_
   refine WL_guard rfl rfl ?_
   refine WL_load_box hC4 1 rfl rfl Tryz.isAgg22 rfl rfl ?_
   refine WL_guard rfl rfl ?_
   refine WL_makeFunc rfl rfl ?_
   obtain ⟨x3, hr3, hr1⟩ := bind_some hr1
   refine WL_guard rfl rfl ?_
   refine WL_call Tryz.call71 rfl rfl (c_Slices_ContainsFunc_Lint_int_M_Method_fits_c1 a1.2.1 u1 (g1.now hC4.keep) b2 a2 (hC4.boxAt 0 rfl repw_int) x3 hr3) ?_
   intro _ w5 hv2
   obtain ⟨rfl, hB5⟩ := res_bool hv2
   have hC5 := hC4.grow hB5
   refine WL_guard rfl rfl ?_
   refine WL_not rfl rfl ?_
   refine WL_pick_t rfl rfl rfl ?_
   refine WL_move rfl rfl ?_
   refine WL_fork (fun hc2 => ?_) (fun hc2 => ?_)
   ·replace hr1 := ite_t hr1 hc2
    refine WL_guard rfl rfl ?_
    refine WL_field Tryz.underlying71 rfl rfl (fun w => ⟨_, Tryz.sizeOf3 w⟩) rfl rfl ?_
    refine WL_guard rfl rfl ?_
    refine WL_load_box hC5 1 rfl rfl Tryz.isAgg3 rfl rfl ?_
    obtain ⟨x4, hr4, hr1⟩ := bind_some hr1
    refine WL_guard rfl rfl ?_
    refine WL_call Tryz.call78 rfl rfl (c_M_within a1.2.2.1 0 9 x4 hr4) ?_
    intro _ w6 hv3
    obtain ⟨rfl, hB6⟩ := res_bool hv3
    have hC6 := hC5.grow hB6
    refine WL_pick_t rfl rfl rfl ?_
    refine WL_move rfl rfl ?_
    refine WL_fork (fun hc3 => ?_) (fun hc3 => ?_)
    ·replace hr1 := ite_t hr1 hc3
     refine WL_guard rfl rfl ?_
     refine WL_field Tryz.underlying71 rfl rfl (fun w => ⟨_, Tryz.sizeOf3 w⟩) rfl rfl ?_
     refine WL_guard rfl rfl ?_
     refine WL_load_box hC6 1 rfl rfl Tryz.isAgg3 rfl rfl ?_
     obtain ⟨x5, hr5, hr1⟩ := bind_some hr1
     refine WL_guard rfl rfl ?_
     refine WL_call Tryz.call162 rfl rfl (c_M_isCost a1.2.2.2.1 x5 hr5) ?_
     intro _ w7 hv4
     obtain ⟨rfl, hB7⟩ := res_bool hv4
     have hC7 := hC6.grow hB7
     refine WL_pick_t rfl rfl rfl ?_
     refine WL_move rfl rfl ?_
     refine WL_fork (fun hc4 => ?_) (fun hc4 => ?_)
     ·replace hr1 := ite_t hr1 hc4
      refine WL_guard rfl rfl ?_
      refine WL_field Tryz.underlying71 rfl rfl (fun w => ⟨_, Tryz.sizeOf3 w⟩) rfl rfl ?_
      refine WL_guard rfl rfl ?_
      refine WL_load_box hC7 1 rfl rfl Tryz.isAgg3 rfl rfl ?_
      obtain ⟨x6, hr6, hr1⟩ := bind_some hr1
      refine WL_guard rfl rfl ?_
      refine WL_call Tryz.call78 rfl rfl (c_M_within a1.2.2.2.2 1 99 x6 hr6) ?_
      intro _ w9 hv5
      obtain ⟨rfl, hB8⟩ := res_bool hv5
      have hC8 := hC7.grow hB8
      refine WL_pick_t rfl rfl rfl ?_
      refine WL_assign rfl rfl ?_
      refine WL_nil ?_
      have hq1 := Option.some.inj hr1
      subst hq1
      have hC9 := hC8.h0
      refine nrm_sub (l' := [(4, (.bool x6))]) ⟨rfl, trivial⟩ ?_
      exact ⟨x6, rfl, rfl, (((((Keep.of hB4).then hB5).then hB6).then hB7).then hB8).below, hC9⟩
     replace hr1 := ite_f hr1 hc4
     refine WL_guard_skip rfl rfl (by simp) rfl ?_
     refine WL_guard_skip rfl rfl (by simp) rfl ?_
     refine WL_guard_skip rfl rfl (by simp) rfl ?_
     refine WL_pick_f rfl rfl rfl ?_
     refine WL_assign rfl rfl ?_
     refine WL_nil ?_
     have hq2 := Option.some.inj hr1
     subst hq2
     have hC10 := hC7.h0
     refine nrm_sub (l' := [(4, (.bool false))]) ⟨rfl, trivial⟩ ?_
     exact ⟨false, rfl, rfl, ((((Keep.of hB4).then hB5).then hB6).then hB7).below, hC10⟩
    replace hr1 := ite_f hr1 hc3
    refine WL_guard_skip rfl rfl (by simp) rfl ?_
    refine WL_guard_skip rfl rfl (by simp) rfl ?_
    refine WL_guard_skip rfl rfl (by simp) rfl ?_
    refine WL_pick_f rfl rfl rfl ?_
    refine WL_move rfl rfl ?_
    refine WL_guard_skip rfl rfl (by simp) rfl ?_
    refine WL_guard_skip rfl rfl (by simp) rfl ?_
    refine WL_guard_skip rfl rfl (by simp) rfl ?_
    refine WL_pick_f rfl rfl rfl ?_
    refine WL_assign rfl rfl ?_
    refine WL_nil ?_
    have hq3 := Option.some.inj hr1
    subst hq3
    have hC11 := hC6.h0
    refine nrm_sub (l' := [(4, (.bool false))]) ⟨rfl, trivial⟩ ?_
    exact ⟨false, rfl, rfl, (((Keep.of hB4).then hB5).then hB6).below, hC11⟩
   replace hr1 := ite_f hr1 hc2
   refine WL_guard_skip rfl rfl (by simp) rfl ?_
   refine WL_guard_skip rfl rfl (by simp) rfl ?_
   refine WL_guard_skip rfl rfl (by simp) rfl ?_
   refine WL_pick_f rfl rfl rfl ?_
   refine WL_move rfl rfl ?_
   refine WL_guard_skip rfl rfl (by simp) rfl ?_
   refine WL_guard_skip rfl rfl (by simp) rfl ?_
   refine WL_guard_skip rfl rfl (by simp) rfl ?_
   refine WL_pick_f rfl rfl rfl ?_
   refine WL_move rfl rfl ?_
   refine WL_guard_skip rfl rfl (by simp) rfl ?_
   refine WL_guard_skip rfl rfl (by simp) rfl ?_
   refine WL_guard_skip rfl rfl (by simp) rfl ?_
   refine WL_pick_f rfl rfl rfl ?_
   refine WL_assign rfl rfl ?_
   refine WL_nil ?_
   have hq4 := Option.some.inj hr1
   subst hq4
   have hC12 := hC5.h0
   refine nrm_sub (l' := [(4, (.bool false))]) ⟨rfl, trivial⟩ ?_
   exact ⟨false, rfl, rfl, ((Keep.of hB4).then hB5).below, hC12⟩
  replace hr1 := ite_f hr1 hc1
  refine WL_guard_skip rfl rfl (by simp) rfl ?_
  refine WL_guard_skip rfl rfl (by simp) rfl ?_
  refine WL_guard_skip rfl rfl (by simp) rfl ?_
  refine WL_guard_skip rfl rfl (by simp) rfl ?_
  refine WL_guard_skip rfl rfl (by simp) rfl ?_
  refine WL_pick_f rfl rfl rfl ?_
  refine WL_move rfl rfl ?_
  refine WL_guard_skip rfl rfl (by simp) rfl ?_
  refine WL_guard_skip rfl rfl (by simp) rfl ?_
  refine WL_guard_skip rfl rfl (by simp) rfl ?_
  refine WL_pick_f rfl rfl rfl ?_
  refine WL_move rfl rfl ?_
  refine WL_guard_skip rfl rfl (by simp) rfl ?_
  refine WL_guard_skip rfl rfl (by simp) rfl ?_
  refine WL_guard_skip rfl rfl (by simp) rfl ?_
  refine WL_pick_f rfl rfl rfl ?_
  refine WL_move rfl rfl ?_
  refine WL_guard_skip rfl rfl (by simp) rfl ?_
  refine WL_guard_skip rfl rfl (by simp) rfl ?_
  refine WL_guard_skip rfl rfl (by simp) rfl ?_
  refine WL_pick_f rfl rfl rfl ?_
  refine WL_assign rfl rfl ?_
  refine WL_nil ?_
  have hq5 := Option.some.inj hr1
  subst hq5
  have hC13 := hC4.h0
  refine nrm_sub (l' := [(4, (.bool false))]) ⟨rfl, trivial⟩ ?_
  exact ⟨false, rfl, rfl, (Keep.of hB4).below, hC13⟩
 rintro _ w3 ⟨x1, rfl, rfl, hB3, hC3⟩
 try dsimp only at hF
 refine W_ret ?_
 have hq6 := Option.some.inj hF
 subst hq6
 refine fn_ret1 rfl rfl ?_
 exact ⟨_, rfl, bool_res hC3 _⟩

theorem c_M_IsMethod {w0 : World} (a1 : (List Int)) (u1 : Value) (g1 : RO [] w0 u1 a1) (a2 : (Int × (List Int) × Int × Int × Int)) (u2 : Value) (g2 : RO [] w0 u2 a2.2.1) (rr : Bool) (hF : M.IsMethod a1 a2 = some rr) :
 Calls Tryz.prog 117 [u1, (.agg #[(.int .i64 a2.1), u2, (.int .i64 a2.2.2.1), (.int .i64 a2.2.2.2.1), (.int .i64 a2.2.2.2.2)])].toArray w0 fun e w' => ∃ v, e = .returned v ∧ Res w0 rr v w' := by
 refine calls_of_W Tryz.func117 rfl rfl ?_
 have hC0 := Ctx.start w0
 unfold M.IsMethod at hF
 refine W_seq_reg ?_
 refine WL_boxK (cs := [(.int .i64 a2.1), u2, (.int .i64 a2.2.2.1), (.int .i64 a2.2.2.2.1), (.int .i64 a2.2.2.2.2)]) hC0 rfl rfl rfl (fun b1 w1 hC1 hB1 hN1 => ?_)
 refine WL_assign rfl rfl ?_
 refine WL_nil ?_
 obtain ⟨r1, hr1, hF⟩ := bind_some hF
 refine W_cut (fun l w => ∃ x1 : Bool, x1 = r1 ∧ l = [(4, (.bool x1))] ∧ Below w1.heap.size w1 w ∧ Ctx [] w0 w []) ?_ ?_
 ·refine W_drawn 14 rfl hmix (fun w3 hB3 => ?_)
  have hC3 := hC1.grow hB3
  refine WA_tk 0 (by kernel_rfl) rfl rfl (fl_move rfl) ?_
  refine WL_move rfl rfl ?_
  refine WL_nil ?_
  refine WA_tk 1 (by kernel_rfl) rfl rfl (fl_field Tryz.underlying71 rfl rfl (fun w => ⟨_, Tryz.sizeOf3 w⟩) rfl) ?_
  refine WL_field Tryz.underlying71 rfl rfl (fun w => ⟨_, Tryz.sizeOf3 w⟩) rfl rfl ?_
  refine WL_nil ?_
  refine WA_one 2 (by kernel_rfl) rfl ?_
  refine WL_load_box hC3 0 rfl rfl Tryz.isAgg3 rfl rfl ?_
  refine WL_nil ?_
  obtain ⟨x2, hr2, hr1⟩ := bind_some hr1
  refine WA_one 3 (by kernel_rfl) rfl ?_
  refine WL_call Tryz.call146 rfl rfl (c_M_hasRel a1 u1 (g1.now hC3.keep) a2.1 x2 hr2) ?_
  intro _ w4 hv1
  obtain ⟨rfl, hB4⟩ := res_bool hv1
  have hC4 := hC3.grow hB4
  refine WL_nil ?_
  refine WA_tk 4 (by kernel_rfl) rfl rfl (fl_move rfl) ?_
  refine WL_move rfl rfl ?_
  refine WL_nil ?_
  refine WA_fork (fun hc1 => ?_) (fun hc1 => ?_)
  ·replace hr1 := ite_t hr1 hc1
   refine WA_takeG 6 rfl (by kernel_rfl) (by kernel_rfl) (by kernel_rfl) rfl rfl rfl (fl_move rfl) ?_
   refine WL_guard rfl rfl ?_
   refine WL_move rfl rfl ?_
   refine WL_nil ?_
   refine WA_takeG 7 rfl (by kernel_rfl) (by kernel_rfl) (by kernel_rfl) rfl rfl rfl (fl_field Tryz.underlying71 rfl rfl (fun w => ⟨_, Tryz.sizeOf3 w⟩) rfl) ?_
   refine WL_guard rfl rfl ?_
   refine WL_field Tryz.underlying71 rfl rfl (fun w => ⟨_, Tryz.sizeOf3 w⟩) rfl rfl ?_
   refine WL_nil ?_
   obtain ⟨x3, hx1, hr1⟩ := bind_some hr1
   refine WA.sub (l' := [(0, u1), (1, (.agg #[(.int .i64 a2.1), u2, (.int .i64 a2.2.2.1), (.int .i64 a2.2.2.2.1), (.int .i64 a2.2.2.2.2)])), (3, (ptr b1 0)), (4, (.bool false)), (5, u1), (6, (ptr b1 0)), (7, (.int .i64 a2.1)), (8, (.bool x2)), (9, (.bool true)), (11, u1), (12, (ptr b1 0))]) ?_ ⟨rfl, rfl, rfl, rfl, rfl, rfl, rfl, rfl, rfl, rfl, rfl, trivial⟩
   refine WA_postsE [⟨5, [], fun vs => PW.val (.agg #[(.int .i64 a2.1), u2, (.int .i64 a2.2.2.1), (.int .i64 a2.2.2.2.1), (.int .i64 a2.2.2.2.2)]), []⟩, ⟨8, [], fun vs => PW.val (.int .i64 a2.1), []⟩, ⟨9, [], fun vs => PW.at [] w0 x3, []⟩, ⟨10, [], fun vs => PW.val (.int .i64 x3), []⟩] [[], [], [8], [9]] 3 rfl (by kernel_rfl) (by kernel_rfl) rfl ?_ ?_
   ·refine StepsE_cons rfl ?_ ?_
    ·intro w5 hB5
     refine DepsE_nil ?_
     refine ⟨_, rfl, ?_⟩
     refine WL_guard rfl rfl ?_
     refine WL_load_box_agg [(.int .i64 a2.1), u2, (.int .i64 a2.2.2.1), (.int .i64 a2.2.2.2.1), (.int .i64 a2.2.2.2.2)] (hC4.grow hB5) 0 rfl rfl rfl Tryz.isAgg71 Tryz.sizeOf71 rfl rfl ?_
     refine WL_nil ?_
     exact FinE_val (Below.refl _ _) rfl rfl ⟨rfl, rfl⟩
    refine StepsE_cons rfl ?_ ?_
    ·intro w5 hB5
     refine DepsE_nil ?_
     refine ⟨_, rfl, ?_⟩
     refine WL_guard rfl rfl ?_
     refine WL_load_box (hC4.grow hB5) 0 rfl rfl Tryz.isAgg3 rfl rfl ?_
     refine WL_nil ?_
     exact FinE_val (Below.refl _ _) rfl rfl ⟨rfl, rfl⟩
    refine StepsE_cons rfl ?_ ?_
    ·intro w5 hB5
     refine DepsE_cons rfl rfl rfl ?_
     rintro _ _ ⟨rfl, rfl⟩ _
     refine DepsE_nil ?_
     refine ⟨_, rfl, ?_⟩
     refine WL_guard rfl rfl ?_
     refine WL_index Tryz.underlying22 ty3 g1 hx1 rfl rfl rfl (fun b2 o1 h1 => ?_)
     refine WL_nil ?_
     exact FinE_val (Below.refl _ _) rfl rfl ⟨rfl, _, _, rfl, h1⟩
    refine StepsE_cons rfl ?_ ?_
    ·intro w5 hB5
     refine DepsE_cons rfl rfl rfl ?_
     rintro _ _ ⟨rfl, b2, o1, rfl, h1⟩ _
     refine DepsE_nil ?_
     refine ⟨_, rfl, ?_⟩
     refine WL_guard rfl rfl ?_
     refine WL_load ty3 h1 (hC4.keep.then hB5) rfl rfl (fun v1 h2 => ?_)
     obtain rfl := ro_int h2
     refine WL_nil ?_
     exact FinE_val (Below.refl _ _) rfl rfl ⟨rfl, rfl⟩
    exact StepsE_nil
   intro w6 hB6
   refine AllE_cons rfl rfl rfl ?_
   rintro _ _ ⟨rfl, rfl⟩
   refine AllE_cons rfl rfl rfl ?_
   rintro _ _ ⟨rfl, rfl⟩
   refine AllE_cons rfl rfl rfl ?_
   rintro _ _ ⟨rfl, b2, o1, rfl, h1⟩
   refine AllE_cons rfl rfl rfl ?_
   rintro _ _ ⟨rfl, rfl⟩
   refine AllE_nil ?_
   intro hn1 hb1
   have hC5 := hC4.grow hB6
   obtain ⟨x4, hr3, hr1⟩ := bind_some hr1
   refine WA_one 11 (by kernel_rfl) rfl ?_
   refine WL_guard rfl rfl ?_
   refine WL_call Tryz.call147 rfl rfl (c_M_Method_fits (a2.1, a2.2.1, a2.2.2.1, a2.2.2.2.1, a2.2.2.2.2) u2 (g2.now hC5.keep) x3 x4 hr3) ?_
   intro _ w7 hv2
   obtain ⟨rfl, hB7⟩ := res_bool hv2
   have hC6 := hC5.grow hB7
   refine WL_nil ?_
   refine WA_tk 12 (by kernel_rfl) rfl rfl (fl_pick_t rfl rfl) ?_
   refine WL_pick_t rfl rfl rfl ?_
   refine WL_nil ?_
   refine WA_tk 13 (by kernel_rfl) rfl rfl (fl_assign rfl) ?_
   refine WL_assign rfl rfl ?_
   refine WL_nil ?_
   refine WA_done (by kernel_rfl) ?_
   have hq1 := Option.some.inj hr1
   subst hq1
   have hC7 := hC6.h0
   refine nrm_sub (l' := [(4, (.bool x4))]) ⟨rfl, trivial⟩ ?_
   exact ⟨x4, rfl, rfl, ((((Keep.of hB3).then hB4).then hB6).then hB7).below, hC7⟩
  replace hr1 := ite_f hr1 hc1
  refine WA_sk 5 (by kernel_rfl) rfl rfl rfl rfl (by simp) rfl rfl ?_
  refine WA_sk 6 (by kernel_rfl) rfl rfl rfl rfl (by simp) rfl rfl ?_
  refine WA_sk 7 (by kernel_rfl) rfl rfl rfl rfl (by simp) rfl rfl ?_
  refine WA_sk 8 (by kernel_rfl) rfl rfl rfl rfl (by simp) rfl rfl ?_
  refine WA_sk 9 (by kernel_rfl) rfl rfl rfl rfl (by simp) rfl rfl ?_
  refine WA_sk 10 (by kernel_rfl) rfl rfl rfl rfl (by simp) rfl rfl ?_
  refine WA_sk 11 (by kernel_rfl) rfl rfl rfl rfl (by simp) rfl rfl ?_
  refine WA_tk 12 (by kernel_rfl) rfl rfl (fl_pick_f rfl rfl) ?_
  refine WL_pick_f rfl rfl rfl ?_
  refine WL_nil ?_
  refine WA_tk 13 (by kernel_rfl) rfl rfl (fl_assign rfl) ?_
  refine WL_assign rfl rfl ?_
  refine WL_nil ?_
  refine WA_done (by kernel_rfl) ?_
  have hq2 := Option.some.inj hr1
  subst hq2
  have hC8 := hC4.h0
  refine nrm_sub (l' := [(4, (.bool false))]) ⟨rfl, trivial⟩ ?_
  exact ⟨false, rfl, rfl, ((Keep.of hB3).then hB4).below, hC8⟩
 rintro _ w2 ⟨x1, rfl, rfl, hB2, hC2⟩
 try dsimp only at hF
 refine W_ret ?_
 have hq3 := Option.some.inj hF
 subst hq3
 refine fn_ret1 rfl rfl ?_
 exact ⟨_, rfl, bool_res hC2 _⟩

theorem c_M_AreMethods_c1 {w0 : World} (a1 : (Int × (List Int) × Int × Int × Int)) (u1 : Value) (g1 : RO [] w0 u1 a1.2.1) (pb1 : Nat) (ax1 : (List Int)) (g2 : ROAt [] w0 pb1 0 ax1) (rr : Bool) (hF : M.AreMethods_c1 a1 ax1 = some rr) :
 Calls Tryz.prog 116 [(.agg #[(.int .i64 a1.1), u1, (.int .i64 a1.2.2.1), (.int .i64 a1.2.2.2.1), (.int .i64 a1.2.2.2.2)]), (ptr pb1 0)].toArray w0 fun e w' => ∃ v, e = .returned v ∧ Res w0 rr v w' := by
 refine calls_of_W Tryz.func116 rfl rfl ?_
 have hC0 := Ctx.start w0
 unfold M.AreMethods_c1 at hF
 refine W_seq_reg ?_
 refine WL_boxK (cs := [(.int .i64 a1.1), u1, (.int .i64 a1.2.2.1), (.int .i64 a1.2.2.2.1), (.int .i64 a1.2.2.2.2)]) hC0 rfl rfl rfl (fun b1 w1 hC1 hB1 hN1 => ?_)
 refine WL_assign rfl rfl ?_
 refine WL_nil (W_seq_reg ?_)
 refine WL_load ty22 g2 hC1.keep rfl rfl (fun v1 h1 => ?_)
 refine WL_load_box_agg [(.int .i64 a1.1), u1, (.int .i64 a1.2.2.1), (.int .i64 a1.2.2.2.1), (.int .i64 a1.2.2.2.2)] hC1 0 rfl rfl rfl Tryz.isAgg71 Tryz.sizeOf71 rfl rfl ?_
 obtain ⟨x1, hr1, hF⟩ := bind_some hF
 refine WL_call Tryz.call117 rfl rfl (c_M_IsMethod ax1 v1 (h1.now hC1.keep) (a1.1, a1.2.1, a1.2.2.1, a1.2.2.2.1, a1.2.2.2.2) u1 (g1.now hC1.keep) x1 hr1) ?_
 intro _ w2 hv1
 obtain ⟨rfl, hB2⟩ := res_bool hv1
 have hC2 := hC1.grow hB2
 refine WL_not rfl rfl ?_
 refine WL_assign rfl rfl ?_
 refine WL_nil (W_ret ?_)
 have hq1 := Option.some.inj hF
 subst hq1
 refine fn_ret1 rfl rfl ?_
 exact ⟨_, rfl, bool_res hC2 _⟩

theorem c_Slices_IndexFunc_Limpl_Method_impl_Method_M_AreMethods_c1 {w0 : World} (a1 : (List (Int × (List Int) × Int × Int × Int))) (u1 : Value) (g1 : RO [] w0 u1 a1) (pb1 : Nat) (ax1 : (List Int)) (g2 : ROAt [] w0 pb1 0 ax1) (rr : Int) (hF : Slices.IndexFunc_Limpl_Method_impl_Method_M_AreMethods_c1 a1 ax1 = some rr) :
 Calls Tryz.prog 123 [u1, (.func (.func 116) #[] #[(ptr pb1 0)])].toArray w0 fun e w' => ∃ v, e = .returned v ∧ Res w0 rr v w' := by
 refine calls_of_W Tryz.func123 rfl rfl ?_
 have hC0 := Ctx.start w0
 unfold Slices.IndexFunc_Limpl_Method_impl_Method_M_AreMethods_c1 at hF
 refine W_seq_reg ?_
 refine WL_assign rfl rfl ?_
 refine WL_nil (W_seq (W_seq_reg ?_))
 refine WL_move rfl rfl ?_
 refine WL_len Tryz.underlying33 g1 rfl rfl ?_
 refine WL_move rfl rfl ?_
 refine WL_nil ?_
 obtain ⟨r1, hr1, hF⟩ := bind_some hF
 refine W_norm (fun l w => .inl () = r1 ∧ l = [] ∧ Below w0.heap.size w0 w ∧ Ctx [] w0 w []) ?_ ?_
 ·refine W_block ?_
  refine W.sub (l' := [(0, u1), (1, (.func (.func 116) #[] #[(ptr pb1 0)])), (7, (.int .i64 (List.length a1 : Int))), (8, (.int .i64 0))]) ?_ ⟨rfl, rfl, rfl, rfl, trivial⟩
  refine W_loop (fun k l w => ∃ x1 : Int, l = [(0, u1), (1, (.func (.func 116) #[] #[(ptr pb1 0)])), (7, (.int .i64 (List.length a1 : Int))), (8, (.int .i64 x1))] ∧ Below w0.heap.size w0 w ∧ Ctx [] w0 w [] ∧ Slices.IndexFunc_Limpl_Method_impl_Method_M_AreMethods_c1_l1 a1 ax1 k x1 = some r1) FUEL ⟨0, rfl, (Below.refl _ _), hC0, hr1⟩ ?_
  clear hr1
  rintro k1 _ w1 ⟨x1, rfl, hB1, hC1, hL1⟩
  cases k1 with
  | zero => rw [Slices.IndexFunc_Limpl_Method_impl_Method_M_AreMethods_c1_l1] at hL1; cases hL1
  | succ k1 =>
   rw [Slices.IndexFunc_Limpl_Method_impl_Method_M_AreMethods_c1_l1] at hL1
   refine W_seq_reg ?_
   refine WL_lss rfl rfl rfl ?_
   refine WL_nil (W_seq ?_)
   refine W_cond rfl (fun hc1 => ?_) (fun hc1 => ?_)
   ·replace hL1 := ite_t hL1 hc1
    refine W_skip (nrm_normal (W_seq (W_block (W_seq_reg ?_))))
    refine WL_move rfl rfl ?_
    refine WL_assign rfl rfl ?_
    refine WL_nil (W_seq_reg ?_)
    refine WL_move rfl rfl ?_
    refine WL_move rfl rfl ?_
    refine WL_move rfl rfl ?_
    obtain ⟨x2, hx1, hL1⟩ := bind_some hL1
    refine WL_index Tryz.underlying33 ty71 g1 hx1 rfl rfl rfl (fun b1 o1 h1 => ?_)
    refine WL_load ty71 h1 hC1.keep rfl rfl (fun v1 h2 => ?_)
    obtain ⟨v2, rfl, h3⟩ := ro_st71 h2
    obtain ⟨x3, hr2, hL1⟩ := bind_some hL1
    refine WL_callv (cap := [(ptr pb1 0)]) Tryz.call116 rfl rfl rfl (c_M_AreMethods_c1 x2 v2 (h3.now hC1.keep) pb1 ax1 (g2.now hC1.keep) x3 hr2) ?_
    intro _ w2 hv1
    obtain ⟨rfl, hB2⟩ := res_bool hv1
    have hC2 := hC1.grow hB2
    refine WL_nil ?_
    refine W_cond rfl (fun hc2 => ?_) (fun hc2 => ?_)
    ·replace hL1 := ite_t hL1 hc2
     refine W_seq_reg ?_
     refine WL_move rfl rfl ?_
     refine WL_assign rfl rfl ?_
     refine WL_nil (W_ret (blk_ret (nrm_ret (nrm_ret (blk_ret (nrm_ret (nrm_ret ?_)))))))
     have hq1 := Option.some.inj hL1
     subst hq1
     dsimp only at hF
     have hq2 := Option.some.inj hF
     subst hq2
     refine fn_ret1 rfl rfl ?_
     exact ⟨_, rfl, int_res hC2 _⟩
    replace hL1 := ite_f hL1 hc2
    refine W_skip (blk_normal (nrm_normal (W_reg ?_)))
    refine WL_add rfl rfl rfl ?_
    refine WL_move rfl rfl ?_
    refine WL_nil ?_
    refine nrm_sub (l' := [(0, u1), (1, (.func (.func 116) #[] #[(ptr pb1 0)])), (7, (.int .i64 (List.length a1 : Int))), (8, (.int .i64 (w64 (x1 + 1))))]) ⟨rfl, rfl, rfl, rfl, trivial⟩ ?_
    exact ⟨k1, Nat.lt_succ_self _, w64 (x1 + 1), rfl, ((Keep.of hB1).then hB2).below, hC2, hL1⟩
   replace hL1 := ite_f hL1 hc1
   refine W_exit (nrm_exit (nrm_exit (blk_exit ?_)))
   have hq3 := Option.some.inj hL1
   subst hq3
   refine nrm_sub (l' := []) trivial ?_
   exact ⟨rfl, rfl, (Keep.of hB1).below, hC1⟩
 rintro l2 _ w3 hs2 ⟨rfl, rfl, hB3, hC3⟩
 try dsimp only at hF
 refine nrm_sub' hs2 ?_
 clear hs2
 refine W_seq_reg ?_
 refine WL_assign rfl rfl ?_
 refine WL_nil (W_ret ?_)
 have hq4 := Option.some.inj hF
 subst hq4
 refine fn_ret1 rfl rfl ?_
 exact ⟨_, rfl, int_res hC3 _⟩

theorem c_Slices_ContainsFunc_Limpl_Method_impl_Method_M_AreMethods_c1 {w0 : World} (a1 : (List (Int × (List Int) × Int × Int × Int))) (u1 : Value) (g1 : RO [] w0 u1 a1) (pb1 : Nat) (ax1 : (List Int)) (g2 : ROAt [] w0 pb1 0 ax1) (rr : Bool) (hF : Slices.ContainsFunc_Limpl_Method_impl_Method_M_AreMethods_c1 a1 ax1 = some rr) :
 Calls Tryz.prog 115 [u1, (.func (.func 116) #[] #[(ptr pb1 0)])].toArray w0 fun e w' => ∃ v, e = .returned v ∧ Res w0 rr v w' := by
 refine calls_of_W Tryz.func115 rfl rfl ?_
 have hC0 := Ctx.start w0
 unfold Slices.ContainsFunc_Limpl_Method_impl_Method_M_AreMethods_c1 at hF
 refine W_seq_reg ?_
 refine WL_assign rfl rfl ?_
 refine WL_nil (W_seq_reg ?_)
 refine WL_move rfl rfl ?_
 refine WL_move rfl rfl ?_
 obtain ⟨x1, hr1, hF⟩ := bind_some hF
 refine WL_call Tryz.call123 rfl rfl (c_Slices_IndexFunc_Limpl_Method_impl_Method_M_AreMethods_c1 a1 u1 (g1.now hC0.keep) pb1 ax1 (g2.now hC0.keep) x1 hr1) ?_
 intro _ w1 hv1
 obtain ⟨rfl, hB1⟩ := res_int hv1
 have hC1 := hC0.grow hB1
 refine WL_geq rfl rfl rfl ?_
 refine WL_assign rfl rfl ?_
 refine WL_nil (W_ret ?_)
 have hq1 := Option.some.inj hF
 subst hq1
 refine fn_ret1 rfl rfl ?_
 exact ⟨_, rfl, bool_res hC1 _⟩

theorem c_M_AreMethods {w0 : World} (a1 : (List Int)) (u1 : Value) (g1 : RO [] w0 u1 a1) (a2 : (List (Int × (List Int) × Int × Int × Int))) (u2 : Value) (g2 : RO [] w0 u2 a2) (rr : Bool) (hF : M.AreMethods a1 a2 = some rr) :
 Calls Tryz.prog 92 [u1, u2].toArray w0 fun e w' => ∃ v, e = .returned v ∧ Res w0 rr v w' := by
 refine calls_of_W Tryz.func92 rfl rfl ?_
 have hC0 := Ctx.start w0
 unfold M.AreMethods at hF
 refine W_seq_reg ?_
 refine WL_boxK (cs := [u1]) hC0 (ro_cells g1) rfl rfl (fun b1 w1 hC1 hB1 hN1 => ?_)
 refine WL_assign rfl rfl ?_
 refine WL_nil ?_
 obtain ⟨r1, hr1, hF⟩ := bind_some hF
 refine W_cut (fun l w => ∃ x1 : Bool, x1 = r1 ∧ l = [(4, (.bool x1))] ∧ Below w1.heap.size w1 w ∧ Ctx [] w0 w []) ?_ ?_
 ·refine W_reg ?_
  refine WL_load_box hC1 0 rfl rfl Tryz.isAgg22 rfl rfl ?_
  obtain ⟨x2, hr2, hr1⟩ := bind_some hr1
  refine WL_call Tryz.call114 rfl rfl (c_M_IsSchema a1 u1 (g1.now hC1.keep) x2 hr2) ?_
  intro _ w3 hv1
  obtain ⟨rfl, hB3⟩ := res_bool hv1
  have hC3 := hC1.grow hB3
  refine WL_move rfl rfl ?_
  refine WL_fork (fun hc1 => ?_) (fun hc1 => ?_)
  ·replace hr1 := ite_t hr1 hc1
   refine WL_guard rfl rfl ?_
   refine WL_move rfl rfl ?_
   refine WL_guard rfl rfl ?_
   refine WL_len Tryz.underlying33 g2 rfl rfl ?_
   refine WL_guard rfl rfl ?_
   refine WL_leq rfl rfl rfl ?_
   refine WL_pick_t rfl rfl rfl ?_
   refine WL_move rfl rfl ?_
   refine WL_fork (fun hc2 => ?_) (fun hc2 => ?_)
   ·replace hr1 := ite_t hr1 hc2
    refine WL_guard rfl rfl ?_
    refine WL_move rfl rfl ?_
    refine WL_guard rfl rfl ?_
    refine WL_makeFunc rfl rfl ?_
    obtain ⟨x3, hr3, hr1⟩ := bind_some hr1
    refine WL_guard rfl rfl ?_
    refine WL_call Tryz.call115 rfl rfl (c_Slices_ContainsFunc_Limpl_Method_impl_Method_M_AreMethods_c1 a2 u2 (g2.now hC3.keep) b1 a1 (hC3.boxAt 0 rfl (repw_slice (g1.now hC3.keep))) x3 hr3) ?_
    intro _ w4 hv2
    obtain ⟨rfl, hB4⟩ := res_bool hv2
    have hC4 := hC3.grow hB4
    refine WL_guard rfl rfl ?_
    refine WL_not rfl rfl ?_
    refine WL_pick_t rfl rfl rfl ?_
    refine WL_assign rfl rfl ?_
    refine WL_nil ?_
    have hq1 := Option.some.inj hr1
    subst hq1
    have hC5 := hC4.h0
    refine nrm_sub (l' := [(4, (.bool (!x3)))]) ⟨rfl, trivial⟩ ?_
    exact ⟨(!x3), rfl, rfl, ((Keep.of hB3).then hB4).below, hC5⟩
   replace hr1 := ite_f hr1 hc2
   refine WL_guard_skip rfl rfl (by simp) rfl ?_
   refine WL_guard_skip rfl rfl (by simp) rfl ?_
   refine WL_guard_skip rfl rfl (by simp) rfl ?_
   refine WL_guard_skip rfl rfl (by simp) rfl ?_
   refine WL_pick_f rfl rfl rfl ?_
   refine WL_assign rfl rfl ?_
   refine WL_nil ?_
   have hq2 := Option.some.inj hr1
   subst hq2
   have hC6 := hC3.h0
   refine nrm_sub (l' := [(4, (.bool false))]) ⟨rfl, trivial⟩ ?_
   exact ⟨false, rfl, rfl, (Keep.of hB3).below, hC6⟩
  replace hr1 := ite_f hr1 hc1
  refine WL_guard_skip rfl rfl (by simp) rfl ?_
  refine WL_guard_skip rfl rfl (by simp) rfl ?_
  refine WL_guard_skip rfl rfl (by simp) rfl ?_
  refine WL_pick_f rfl rfl rfl ?_
  refine WL_move rfl rfl ?_
  refine WL_guard_skip rfl rfl (by simp) rfl ?_
  refine WL_guard_skip rfl rfl (by simp) rfl ?_
  refine WL_guard_skip rfl rfl (by simp) rfl ?_
  refine WL_guard_skip rfl rfl (by simp) rfl ?_
  refine WL_pick_f rfl rfl rfl ?_
  refine WL_assign rfl rfl ?_
  refine WL_nil ?_
  have hq3 := Option.some.inj hr1
  subst hq3
  have hC7 := hC3.h0
  refine nrm_sub (l' := [(4, (.bool false))]) ⟨rfl, trivial⟩ ?_
  exact ⟨false, rfl, rfl, (Keep.of hB3).below, hC7⟩
 rintro _ w2 ⟨x1, rfl, rfl, hB2, hC2⟩
 try dsimp only at hF
 refine W_ret ?_
 have hq4 := Option.some.inj hF
 subst hq4
 refine fn_ret1 rfl rfl ?_
 exact ⟨_, rfl, bool_res hC2 _⟩

theorem c_M_IsVar {w0 : World} (a1 : Int) (rr : Bool) (hF : M.IsVar a1 = some rr) :
 Calls Tryz.prog 109 [(.int .i64 a1)].toArray w0 fun e w' => ∃ v, e = .returned v ∧ Res w0 rr v w' := by
 refine calls_of_W Tryz.func109 rfl rfl ?_
 have hC0 := Ctx.start w0
 unfold M.IsVar at hF
 refine W_seq_reg ?_
 refine WL_assign rfl rfl ?_
 refine WL_nil (W_seq_reg ?_)
 refine WL_move rfl rfl ?_
 obtain ⟨x1, hr1, hF⟩ := bind_some hF
 refine WL_call Tryz.call78 rfl rfl (c_M_within a1 10 17 x1 hr1) ?_
 intro _ w1 hv1
 obtain ⟨rfl, hB1⟩ := res_bool hv1
 have hC1 := hC0.grow hB1
 refine WL_assign rfl rfl ?_
 refine WL_nil (W_ret ?_)
 have hq1 := Option.some.inj hF
 subst hq1
 refine fn_ret1 rfl rfl ?_
 exact ⟨_, rfl, bool_res hC1 _⟩

theorem c_M_IsTerm {w0 : World} (a1 : Int) (rr : Bool) (hF : M.IsTerm a1 = some rr) :
 Calls Tryz.prog 164 [(.int .i64 a1)].toArray w0 fun e w' => ∃ v, e = .returned v ∧ Res w0 rr v w' := by
 refine calls_of_W Tryz.func164 rfl rfl ?_
 have hC0 := Ctx.start w0
 unfold M.IsTerm at hF
 refine W_seq_reg ?_
 refine WL_assign rfl rfl ?_
 refine WL_nil ?_
 obtain ⟨r1, hr1, hF⟩ := bind_some hF
 refine W_cut (fun l w => ∃ x1 : Bool, x1 = r1 ∧ l = [(2, (.bool x1))] ∧ Below w0.heap.size w0 w ∧ Ctx [] w0 w []) ?_ ?_
 ·refine W_reg ?_
  refine WL_move rfl rfl ?_
  obtain ⟨x2, hr2, hr1⟩ := bind_some hr1
  refine WL_call Tryz.call98 rfl rfl (c_M_isValue a1 x2 hr2) ?_
  intro _ w2 hv1
  obtain ⟨rfl, hB2⟩ := res_bool hv1
  have hC2 := hC0.grow hB2
  refine WL_move rfl rfl ?_
  refine WL_fork (fun hc1 => ?_) (fun hc1 => ?_)
  ·replace hr1 := ite_t hr1 hc1
   refine WL_guard_skip rfl rfl (by simp) rfl ?_
   refine WL_guard_skip rfl rfl (by simp) rfl ?_
   refine WL_pick_t rfl rfl rfl ?_
   refine WL_assign rfl rfl ?_
   refine WL_nil ?_
   have hq1 := Option.some.inj hr1
   subst hq1
   refine nrm_sub (l' := [(2, (.bool true))]) ⟨rfl, trivial⟩ ?_
   exact ⟨true, rfl, rfl, (Keep.of hB2).below, hC2⟩
  replace hr1 := ite_f hr1 hc1
  refine WL_guard rfl rfl ?_
  refine WL_move rfl rfl ?_
  obtain ⟨x3, hr3, hr1⟩ := bind_some hr1
  refine WL_guard rfl rfl ?_
  refine WL_call Tryz.call109 rfl rfl (c_M_IsVar a1 x3 hr3) ?_
  intro _ w3 hv2
  obtain ⟨rfl, hB3⟩ := res_bool hv2
  have hC3 := hC2.grow hB3
  refine WL_pick_f rfl rfl rfl ?_
  refine WL_assign rfl rfl ?_
  refine WL_nil ?_
  have hq2 := Option.some.inj hr1
  subst hq2
  refine nrm_sub (l' := [(2, (.bool x3))]) ⟨rfl, trivial⟩ ?_
  exact ⟨x3, rfl, rfl, ((Keep.of hB2).then hB3).below, hC3⟩
 rintro _ w1 ⟨x1, rfl, rfl, hB1, hC1⟩
 try dsimp only at hF
 refine W_ret ?_
 have hq3 := Option.some.inj hF
 subst hq3
 refine fn_ret1 rfl rfl ?_
 exact ⟨_, rfl, bool_res hC1 _⟩

theorem c_M_areTerms_c1 {w0 : World} (a1 : Int) (rr : Bool) (hF : M.areTerms_c1 a1 = some rr) :
 Calls Tryz.prog 163 [(.int .i64 a1)].toArray w0 fun e w' => ∃ v, e = .returned v ∧ Res w0 rr v w' := by
 refine calls_of_W Tryz.func163 rfl rfl ?_
 have hC0 := Ctx.start w0
 unfold M.areTerms_c1 at hF
 refine W_seq_reg ?_
 refine WL_assign rfl rfl ?_
 refine WL_nil (W_seq_reg ?_)
 refine WL_move rfl rfl ?_
 obtain ⟨x1, hr1, hF⟩ := bind_some hF
 refine WL_call Tryz.call164 rfl rfl (c_M_IsTerm a1 x1 hr1) ?_
 intro _ w1 hv1
 obtain ⟨rfl, hB1⟩ := res_bool hv1
 have hC1 := hC0.grow hB1
 refine WL_not rfl rfl ?_
 refine WL_assign rfl rfl ?_
 refine WL_nil (W_ret ?_)
 have hq1 := Option.some.inj hF
 subst hq1
 refine fn_ret1 rfl rfl ?_
 exact ⟨_, rfl, bool_res hC1 _⟩

theorem c_Slices_IndexFunc_Lint_int_M_areTerms_c1 {w0 : World} (a1 : (List Int)) (u1 : Value) (g1 : RO [] w0 u1 a1) (rr : Int) (hF : Slices.IndexFunc_Lint_int_M_areTerms_c1 a1 = some rr) :
 Calls Tryz.prog 99 [u1, (.func (.func 163) #[] #[])].toArray w0 fun e w' => ∃ v, e = .returned v ∧ Res w0 rr v w' := by
 refine calls_of_W Tryz.func99 rfl rfl ?_
 have hC0 := Ctx.start w0
 unfold Slices.IndexFunc_Lint_int_M_areTerms_c1 at hF
 refine W_seq_reg ?_
 refine WL_assign rfl rfl ?_
 refine WL_nil (W_seq (W_seq_reg ?_))
 refine WL_move rfl rfl ?_
 refine WL_len Tryz.underlying22 g1 rfl rfl ?_
 refine WL_move rfl rfl ?_
 refine WL_nil ?_
 obtain ⟨r1, hr1, hF⟩ := bind_some hF
 refine W_norm (fun l w => .inl () = r1 ∧ l = [] ∧ Below w0.heap.size w0 w ∧ Ctx [] w0 w []) ?_ ?_
 ·refine W_block ?_
  refine W.sub (l' := [(0, u1), (1, (.func (.func 163) #[] #[])), (7, (.int .i64 (List.length a1 : Int))), (8, (.int .i64 0))]) ?_ ⟨rfl, rfl, rfl, rfl, trivial⟩
  refine W_loop (fun k l w => ∃ x1 : Int, l = [(0, u1), (1, (.func (.func 163) #[] #[])), (7, (.int .i64 (List.length a1 : Int))), (8, (.int .i64 x1))] ∧ Below w0.heap.size w0 w ∧ Ctx [] w0 w [] ∧ Slices.IndexFunc_Lint_int_M_areTerms_c1_l1 a1 k x1 = some r1) FUEL ⟨0, rfl, (Below.refl _ _), hC0, hr1⟩ ?_
  clear hr1
  rintro k1 _ w1 ⟨x1, rfl, hB1, hC1, hL1⟩
  cases k1 with
  | zero => rw [Slices.IndexFunc_Lint_int_M_areTerms_c1_l1] at hL1; cases hL1
  | succ k1 =>
   rw [Slices.IndexFunc_Lint_int_M_areTerms_c1_l1] at hL1
   refine W_seq_reg ?_
   refine WL_lss rfl rfl rfl ?_
   refine WL_nil (W_seq ?_)
   refine W_cond rfl (fun hc1 => ?_) (fun hc1 => ?_)
   ·replace hL1 := ite_t hL1 hc1
    refine W_skip (nrm_normal (W_seq (W_block (W_seq_reg ?_))))
    refine WL_move rfl rfl ?_
    refine WL_assign rfl rfl ?_
    refine WL_nil (W_seq_reg ?_)
    refine WL_move rfl rfl ?_
    refine WL_move rfl rfl ?_
    refine WL_move rfl rfl ?_
    obtain ⟨x2, hx1, hL1⟩ := bind_some hL1
    refine WL_index Tryz.underlying22 ty3 g1 hx1 rfl rfl rfl (fun b1 o1 h1 => ?_)
    refine WL_load ty3 h1 hC1.keep rfl rfl (fun v1 h2 => ?_)
    obtain rfl := ro_int h2
    obtain ⟨x3, hr2, hL1⟩ := bind_some hL1
    refine WL_callv (cap := []) Tryz.call163 rfl rfl rfl (c_M_areTerms_c1 x2 x3 hr2) ?_
    intro _ w2 hv1
    obtain ⟨rfl, hB2⟩ := res_bool hv1
    have hC2 := hC1.grow hB2
    refine WL_nil ?_
    refine W_cond rfl (fun hc2 => ?_) (fun hc2 => ?_)
    ·replace hL1 := ite_t hL1 hc2
     refine W_seq_reg ?_
     refine WL_move rfl rfl ?_
     refine WL_assign rfl rfl ?_
     refine WL_nil (W_ret (blk_ret (nrm_ret (nrm_ret (blk_ret (nrm_ret (nrm_ret ?_)))))))
     have hq1 := Option.some.inj hL1
     subst hq1
     dsimp only at hF
     have hq2 := Option.some.inj hF
     subst hq2
     refine fn_ret1 rfl rfl ?_
     exact ⟨_, rfl, int_res hC2 _⟩
    replace hL1 := ite_f hL1 hc2
    refine W_skip (blk_normal (nrm_normal (W_reg ?_)))
    refine WL_add rfl rfl rfl ?_
    refine WL_move rfl rfl ?_
    refine WL_nil ?_
    refine nrm_sub (l' := [(0, u1), (1, (.func (.func 163) #[] #[])), (7, (.int .i64 (List.length a1 : Int))), (8, (.int .i64 (w64 (x1 + 1))))]) ⟨rfl, rfl, rfl, rfl, trivial⟩ ?_
    exact ⟨k1, Nat.lt_succ_self _, w64 (x1 + 1), rfl, ((Keep.of hB1).then hB2).below, hC2, hL1⟩
   replace hL1 := ite_f hL1 hc1
   refine W_exit (nrm_exit (nrm_exit (blk_exit ?_)))
   have hq3 := Option.some.inj hL1
   subst hq3
   refine nrm_sub (l' := []) trivial ?_
   exact ⟨rfl, rfl, (Keep.of hB1).below, hC1⟩
 rintro l2 _ w3 hs2 ⟨rfl, rfl, hB3, hC3⟩
 try dsimp only at hF
 refine nrm_sub' hs2 ?_
 clear hs2
 refine W_seq_reg ?_
 refine WL_assign rfl rfl ?_
 refine WL_nil (W_ret ?_)
 have hq4 := Option.some.inj hF
 subst hq4
 refine fn_ret1 rfl rfl ?_
 exact ⟨_, rfl, int_res hC3 _⟩

theorem c_Slices_ContainsFunc_Lint_int_M_areTerms_c1 {w0 : World} (a1 : (List Int)) (u1 : Value) (g1 : RO [] w0 u1 a1) (rr : Bool) (hF : Slices.ContainsFunc_Lint_int_M_areTerms_c1 a1 = some rr) :
 Calls Tryz.prog 71 [u1, (.func (.func 163) #[] #[])].toArray w0 fun e w' => ∃ v, e = .returned v ∧ Res w0 rr v w' := by
 refine calls_of_W Tryz.func71 rfl rfl ?_
 have hC0 := Ctx.start w0
 unfold Slices.ContainsFunc_Lint_int_M_areTerms_c1 at hF
 refine W_seq_reg ?_
 refine WL_assign rfl rfl ?_
 refine WL_nil (W_seq_reg ?_)
 refine WL_move rfl rfl ?_
 refine WL_move rfl rfl ?_
 obtain ⟨x1, hr1, hF⟩ := bind_some hF
 refine WL_call Tryz.call99 rfl rfl (c_Slices_IndexFunc_Lint_int_M_areTerms_c1 a1 u1 (g1.now hC0.keep) x1 hr1) ?_
 intro _ w1 hv1
 obtain ⟨rfl, hB1⟩ := res_int hv1
 have hC1 := hC0.grow hB1
 refine WL_geq rfl rfl rfl ?_
 refine WL_assign rfl rfl ?_
 refine WL_nil (W_ret ?_)
 have hq1 := Option.some.inj hF
 subst hq1
 refine fn_ret1 rfl rfl ?_
 exact ⟨_, rfl, bool_res hC1 _⟩

theorem c_M_areTerms {w0 : World} (a1 : (List Int)) (u1 : Value) (g1 : RO [] w0 u1 a1) (rr : Bool) (hF : M.areTerms a1 = some rr) :
 Calls Tryz.prog 149 [u1].toArray w0 fun e w' => ∃ v, e = .returned v ∧ Res w0 rr v w' := by
 refine calls_of_W Tryz.func149 rfl rfl ?_
 have hC0 := Ctx.start w0
 unfold M.areTerms at hF
 refine W_seq_reg ?_
 refine WL_assign rfl rfl ?_
 refine WL_nil (W_seq_reg ?_)
 refine WL_move rfl rfl ?_
 obtain ⟨x1, hr1, hF⟩ := bind_some hF
 refine WL_call Tryz.call71 rfl rfl (c_Slices_ContainsFunc_Lint_int_M_areTerms_c1 a1 u1 (g1.now hC0.keep) x1 hr1) ?_
 intro _ w1 hv1
 obtain ⟨rfl, hB1⟩ := res_bool hv1
 have hC1 := hC0.grow hB1
 refine WL_not rfl rfl ?_
 refine WL_assign rfl rfl ?_
 refine WL_nil (W_ret ?_)
 have hq1 := Option.some.inj hF
 subst hq1
 refine fn_ret1 rfl rfl ?_
 exact ⟨_, rfl, bool_res hC1 _⟩

theorem c_M_IsAtom {w0 : World} (a1 : (List Int)) (u1 : Value) (g1 : RO [] w0 u1 a1) (a2 : (Int × (List Int))) (u2 : Value) (g2 : RO [] w0 u2 a2.2) (rr : Bool) (hF : M.IsAtom a1 a2 = some rr) :
 Calls Tryz.prog 120 [u1, (.agg #[(.int .i64 a2.1), u2])].toArray w0 fun e w' => ∃ v, e = .returned v ∧ Res w0 rr v w' := by
 refine calls_of_W Tryz.func120 rfl rfl ?_
 have hC0 := Ctx.start w0
 unfold M.IsAtom at hF
 refine W_seq_reg ?_
 refine WL_boxK (cs := [(.int .i64 a2.1), u2]) hC0 rfl rfl rfl (fun b1 w1 hC1 hB1 hN1 => ?_)
 refine WL_assign rfl rfl ?_
 refine WL_nil ?_
 obtain ⟨r1, hr1, hF⟩ := bind_some hF
 refine W_cut (fun l w => ∃ x1 : Bool, x1 = r1 ∧ l = [(4, (.bool x1))] ∧ Below w1.heap.size w1 w ∧ Ctx [] w0 w []) ?_ ?_
 ·refine W_drawn 21 rfl hmix (fun w3 hB3 => ?_)
  have hC3 := hC1.grow hB3
  refine WA_tk 0 (by kernel_rfl) rfl rfl (fl_move rfl) ?_
  refine WL_move rfl rfl ?_
  refine WL_nil ?_
  refine WA_tk 1 (by kernel_rfl) rfl rfl (fl_field Tryz.underlying84 rfl rfl (fun w => ⟨_, Tryz.sizeOf3 w⟩) rfl) ?_
  refine WL_field Tryz.underlying84 rfl rfl (fun w => ⟨_, Tryz.sizeOf3 w⟩) rfl rfl ?_
  refine WL_nil ?_
  refine WA_one 2 (by kernel_rfl) rfl ?_
  refine WL_load_box hC3 0 rfl rfl Tryz.isAgg3 rfl rfl ?_
  refine WL_nil ?_
  obtain ⟨x2, hr2, hr1⟩ := bind_some hr1
  refine WA_one 3 (by kernel_rfl) rfl ?_
  refine WL_call Tryz.call146 rfl rfl (c_M_hasRel a1 u1 (g1.now hC3.keep) a2.1 x2 hr2) ?_
  intro _ w4 hv1
  obtain ⟨rfl, hB4⟩ := res_bool hv1
  have hC4 := hC3.grow hB4
  refine WL_nil ?_
  refine WA_tk 4 (by kernel_rfl) rfl rfl (fl_move rfl) ?_
  refine WL_move rfl rfl ?_
  refine WL_nil ?_
  refine WA_fork (fun hc1 => ?_) (fun hc1 => ?_)
  ·replace hr1 := ite_t hr1 hc1
   refine WA_takeG 5 rfl (by kernel_rfl) (by kernel_rfl) (by kernel_rfl) rfl rfl rfl (fl_field Tryz.underlying84 rfl rfl (fun w => ⟨_, Tryz.sizeOf22 w⟩) rfl) ?_
   refine WL_guard rfl rfl ?_
   refine WL_field Tryz.underlying84 rfl rfl (fun w => ⟨_, Tryz.sizeOf22 w⟩) rfl rfl ?_
   refine WL_nil ?_
   refine WA_takeG 8 rfl (by kernel_rfl) (by kernel_rfl) (by kernel_rfl) rfl rfl rfl (fl_move rfl) ?_
   refine WL_guard rfl rfl ?_
   refine WL_move rfl rfl ?_
   refine WL_nil ?_
   refine WA_takeG 9 rfl (by kernel_rfl) (by kernel_rfl) (by kernel_rfl) rfl rfl rfl (fl_field Tryz.underlying84 rfl rfl (fun w => ⟨_, Tryz.sizeOf3 w⟩) rfl) ?_
   refine WL_guard rfl rfl ?_
   refine WL_field Tryz.underlying84 rfl rfl (fun w => ⟨_, Tryz.sizeOf3 w⟩) rfl rfl ?_
   refine WL_nil ?_
   obtain ⟨x3, hx1, hr1⟩ := bind_some hr1
   refine WA.sub (l' := [(0, u1), (1, (.agg #[(.int .i64 a2.1), u2])), (3, (ptr b1 0)), (4, (.bool false)), (5, u1), (6, (ptr b1 0)), (7, (.int .i64 a2.1)), (8, (.bool x2)), (9, (.bool true)), (10, (ptr b1 1)), (13, u1), (14, (ptr b1 0))]) ?_ ⟨rfl, rfl, rfl, rfl, rfl, rfl, rfl, rfl, rfl, rfl, rfl, rfl, trivial⟩
   refine WA_postsE [⟨6, [], fun vs => PW.val u2, []⟩, ⟨7, [], fun vs => PW.val (.int .i64 (List.length a2.2 : Int)), []⟩, ⟨10, [], fun vs => PW.val (.int .i64 a2.1), []⟩, ⟨11, [], fun vs => PW.at [] w0 x3, []⟩, ⟨12, [], fun vs => PW.val (.int .i64 x3), []⟩] [[], [6], [], [10], [11]] 8 rfl (by kernel_rfl) (by kernel_rfl) rfl ?_ ?_
   ·refine StepsE_cons rfl ?_ ?_
    ·intro w5 hB5
     refine DepsE_nil ?_
     refine ⟨_, rfl, ?_⟩
     refine WL_guard rfl rfl ?_
     refine WL_load_box (hC4.grow hB5) 0 rfl rfl Tryz.isAgg22 rfl rfl ?_
     refine WL_nil ?_
     exact FinE_val (Below.refl _ _) rfl rfl ⟨rfl, rfl⟩
    refine StepsE_cons rfl ?_ ?_
    ·intro w5 hB5
     refine DepsE_cons rfl rfl rfl ?_
     rintro _ _ ⟨rfl, rfl⟩ _
     refine DepsE_nil ?_
     refine ⟨_, rfl, ?_⟩
     refine WL_guard rfl rfl ?_
     refine WL_len Tryz.underlying22 g2 rfl rfl ?_
     refine WL_nil ?_
     exact FinE_val (Below.refl _ _) rfl rfl ⟨rfl, rfl⟩
    refine StepsE_cons rfl ?_ ?_
    ·intro w5 hB5
     refine DepsE_nil ?_
     refine ⟨_, rfl, ?_⟩
     refine WL_guard rfl rfl ?_
     refine WL_load_box (hC4.grow hB5) 0 rfl rfl Tryz.isAgg3 rfl rfl ?_
     refine WL_nil ?_
     exact FinE_val (Below.refl _ _) rfl rfl ⟨rfl, rfl⟩
    refine StepsE_cons rfl ?_ ?_
    ·intro w5 hB5
     refine DepsE_cons rfl rfl rfl ?_
     rintro _ _ ⟨rfl, rfl⟩ _
     refine DepsE_nil ?_
     refine ⟨_, rfl, ?_⟩
     refine WL_guard rfl rfl ?_
     refine WL_index Tryz.underlying22 ty3 g1 hx1 rfl rfl rfl (fun b2 o1 h1 => ?_)
     refine WL_nil ?_
     exact FinE_val (Below.refl _ _) rfl rfl ⟨rfl, _, _, rfl, h1⟩
    refine StepsE_cons rfl ?_ ?_
    ·intro w5 hB5
     refine DepsE_cons rfl rfl rfl ?_
     rintro _ _ ⟨rfl, b2, o1, rfl, h1⟩ _
     refine DepsE_nil ?_
     refine ⟨_, rfl, ?_⟩
     refine WL_guard rfl rfl ?_
     refine WL_load ty3 h1 (hC4.keep.then hB5) rfl rfl (fun v1 h2 => ?_)
     obtain rfl := ro_int h2
     refine WL_nil ?_
     exact FinE_val (Below.refl _ _) rfl rfl ⟨rfl, rfl⟩
    exact StepsE_nil
   intro w6 hB6
   refine AllE_cons rfl rfl rfl ?_
   rintro _ _ ⟨rfl, rfl⟩
   refine AllE_cons rfl rfl rfl ?_
   rintro _ _ ⟨rfl, rfl⟩
   refine AllE_cons rfl rfl rfl ?_
   rintro _ _ ⟨rfl, rfl⟩
   refine AllE_cons rfl rfl rfl ?_
   rintro _ _ ⟨rfl, b2, o1, rfl, h1⟩
   refine AllE_cons rfl rfl rfl ?_
   rintro _ _ ⟨rfl, rfl⟩
   refine AllE_nil ?_
   intro hn1 hb1
   have hC5 := hC4.grow hB6
   refine WA_takeG 13 rfl (by kernel_rfl) (by kernel_rfl) (by kernel_rfl) rfl rfl rfl (fl_eql rfl rfl) ?_
   refine WL_guard rfl rfl ?_
   refine WL_eql rfl rfl rfl ?_
   refine WL_nil ?_
   refine WA_tk 14 (by kernel_rfl) rfl rfl (fl_pick_t rfl rfl) ?_
   refine WL_pick_t rfl rfl rfl ?_
   refine WL_nil ?_
   refine WA_tk 15 (by kernel_rfl) rfl rfl (fl_move rfl) ?_
   refine WL_move rfl rfl ?_
   refine WL_nil ?_
   refine WA_fork (fun hc2 => ?_) (fun hc2 => ?_)
   ·replace hr1 := ite_t hr1 hc2
    refine WA_takeG 16 rfl (by kernel_rfl) (by kernel_rfl) (by kernel_rfl) rfl rfl rfl (fl_field Tryz.underlying84 rfl rfl (fun w => ⟨_, Tryz.sizeOf22 w⟩) rfl) ?_
    refine WL_guard rfl rfl ?_
    refine WL_field Tryz.underlying84 rfl rfl (fun w => ⟨_, Tryz.sizeOf22 w⟩) rfl rfl ?_
    refine WL_nil ?_
    refine WA_one 17 (by kernel_rfl) rfl ?_
    refine WL_guard rfl rfl ?_
    refine WL_load_box hC5 0 rfl rfl Tryz.isAgg22 rfl rfl ?_
    refine WL_nil ?_
    obtain ⟨x4, hr3, hr1⟩ := bind_some hr1
    refine WA_one 18 (by kernel_rfl) rfl ?_
    refine WL_guard rfl rfl ?_
    refine WL_call Tryz.call149 rfl rfl (c_M_areTerms a2.2 u2 (g2.now hC5.keep) x4 hr3) ?_
    intro _ w7 hv2
    obtain ⟨rfl, hB7⟩ := res_bool hv2
    have hC6 := hC5.grow hB7
    refine WL_nil ?_
    refine WA_tk 19 (by kernel_rfl) rfl rfl (fl_pick_t rfl rfl) ?_
    refine WL_pick_t rfl rfl rfl ?_
    refine WL_nil ?_
    refine WA_tk 20 (by kernel_rfl) rfl rfl (fl_assign rfl) ?_
    refine WL_assign rfl rfl ?_
    refine WL_nil ?_
    refine WA_done (by kernel_rfl) ?_
    have hq1 := Option.some.inj hr1
    subst hq1
    have hC7 := hC6.h0
    refine nrm_sub (l' := [(4, (.bool x4))]) ⟨rfl, trivial⟩ ?_
    exact ⟨x4, rfl, rfl, ((((Keep.of hB3).then hB4).then hB6).then hB7).below, hC7⟩
   replace hr1 := ite_f hr1 hc2
   refine WA_sk 16 (by kernel_rfl) rfl rfl rfl rfl (by simp) rfl rfl ?_
   refine WA_sk 17 (by kernel_rfl) rfl rfl rfl rfl (by simp) rfl rfl ?_
   refine WA_sk 18 (by kernel_rfl) rfl rfl rfl rfl (by simp) rfl rfl ?_
   refine WA_tk 19 (by kernel_rfl) rfl rfl (fl_pick_f rfl rfl) ?_
   refine WL_pick_f rfl rfl rfl ?_
   refine WL_nil ?_
   refine WA_tk 20 (by kernel_rfl) rfl rfl (fl_assign rfl) ?_
   refine WL_assign rfl rfl ?_
   refine WL_nil ?_
   refine WA_done (by kernel_rfl) ?_
   have hq2 := Option.some.inj hr1
   subst hq2
   have hC8 := hC5.h0
   refine nrm_sub (l' := [(4, (.bool false))]) ⟨rfl, trivial⟩ ?_
   exact ⟨false, rfl, rfl, (((Keep.of hB3).then hB4).then hB6).below, hC8⟩
  replace hr1 := ite_f hr1 hc1
  refine WA_sk 5 (by kernel_rfl) rfl rfl rfl rfl (by simp) rfl rfl ?_
  refine WA_sk 6 (by kernel_rfl) rfl rfl rfl rfl (by simp) rfl rfl ?_
  refine WA_sk 7 (by kernel_rfl) rfl rfl rfl rfl (by simp) rfl rfl ?_
  refine WA_sk 8 (by kernel_rfl) rfl rfl rfl rfl (by simp) rfl rfl ?_
  refine WA_sk 9 (by kernel_rfl) rfl rfl rfl rfl (by simp) rfl rfl ?_
  refine WA_sk 10 (by kernel_rfl) rfl rfl rfl rfl (by simp) rfl rfl ?_
  refine WA_sk 11 (by kernel_rfl) rfl rfl rfl rfl (by simp) rfl rfl ?_
  refine WA_sk 12 (by kernel_rfl) rfl rfl rfl rfl (by simp) rfl rfl ?_
  refine WA_sk 13 (by kernel_rfl) rfl rfl rfl rfl (by simp) rfl rfl ?_
  refine WA_tk 14 (by kernel_rfl) rfl rfl (fl_pick_f rfl rfl) ?_
  refine WL_pick_f rfl rfl rfl ?_
  refine WL_nil ?_
  refine WA_tk 15 (by kernel_rfl) rfl rfl (fl_move rfl) ?_
  refine WL_move rfl rfl ?_
  refine WL_nil ?_
  refine WA_sk 16 (by kernel_rfl) rfl rfl rfl rfl (by simp) rfl rfl ?_
  refine WA_sk 17 (by kernel_rfl) rfl rfl rfl rfl (by simp) rfl rfl ?_
  refine WA_sk 18 (by kernel_rfl) rfl rfl rfl rfl (by simp) rfl rfl ?_
  refine WA_tk 19 (by kernel_rfl) rfl rfl (fl_pick_f rfl rfl) ?_
  refine WL_pick_f rfl rfl rfl ?_
  refine WL_nil ?_
  refine WA_tk 20 (by kernel_rfl) rfl rfl (fl_assign rfl) ?_
  refine WL_assign rfl rfl ?_
  refine WL_nil ?_
  refine WA_done (by kernel_rfl) ?_
  have hq3 := Option.some.inj hr1
  subst hq3
  have hC9 := hC4.h0
  refine nrm_sub (l' := [(4, (.bool false))]) ⟨rfl, trivial⟩ ?_
  exact ⟨false, rfl, rfl, ((Keep.of hB3).then hB4).below, hC9⟩
 rintro _ w2 ⟨x1, rfl, rfl, hB2, hC2⟩
 try dsimp only at hF
 refine W_ret ?_
 have hq4 := Option.some.inj hF
 subst hq4
 refine fn_ret1 rfl rfl ?_
 exact ⟨_, rfl, bool_res hC2 _⟩

theorem c_M_IsQuery_c1 {w0 : World} (a1 : (Int × (List Int))) (u1 : Value) (g1 : RO [] w0 u1 a1.2) (pb1 : Nat) (ax1 : (List Int)) (g2 : ROAt [] w0 pb1 0 ax1) (rr : Bool) (hF : M.IsQuery_c1 a1 ax1 = some rr) :
 Calls Tryz.prog 119 [(.agg #[(.int .i64 a1.1), u1]), (ptr pb1 0)].toArray w0 fun e w' => ∃ v, e = .returned v ∧ Res w0 rr v w' := by
 refine calls_of_W Tryz.func119 rfl rfl ?_
 have hC0 := Ctx.start w0
 unfold M.IsQuery_c1 at hF
 refine W_seq_reg ?_
 refine WL_boxK (cs := [(.int .i64 a1.1), u1]) hC0 rfl rfl rfl (fun b1 w1 hC1 hB1 hN1 => ?_)
 refine WL_assign rfl rfl ?_
 refine WL_nil (W_seq_reg ?_)
 refine WL_load ty22 g2 hC1.keep rfl rfl (fun v1 h1 => ?_)
 refine WL_load_box_agg [(.int .i64 a1.1), u1] hC1 0 rfl rfl rfl Tryz.isAgg84 Tryz.sizeOf84 rfl rfl ?_
 obtain ⟨x1, hr1, hF⟩ := bind_some hF
 refine WL_call Tryz.call120 rfl rfl (c_M_IsAtom ax1 v1 (h1.now hC1.keep) (a1.1, a1.2) u1 (g1.now hC1.keep) x1 hr1) ?_
 intro _ w2 hv1
 obtain ⟨rfl, hB2⟩ := res_bool hv1
 have hC2 := hC1.grow hB2
 refine WL_not rfl rfl ?_
 refine WL_assign rfl rfl ?_
 refine WL_nil (W_ret ?_)
 have hq1 := Option.some.inj hF
 subst hq1
 refine fn_ret1 rfl rfl ?_
 exact ⟨_, rfl, bool_res hC2 _⟩

theorem c_M_termsOf_M_IsVar {w0 : World} (a1 : (List (Int × (List Int)))) (u1 : Value) (g1 : RO [] w0 u1 a1) (rr : (List Int)) (hF : M.termsOf_M_IsVar a1 = some rr) :
 Calls Tryz.prog 97 [u1, (.func (.func 109) #[] #[])].toArray w0 fun e w' => ∃ v, e = .returned v ∧ Res w0 rr v w' := by
 refine calls_of_W Tryz.func97 rfl rfl ?_
 have hC0 := Ctx.start w0
 unfold M.termsOf_M_IsVar at hF
 refine W_seq_reg ?_
 refine WL_assign rfl rfl ?_
 refine WL_nil (W_seq_reg ?_)
 refine WL_buildSlice (vs := []) hC0 Tryz.underlying22 ty3 rfl rfl rfl rfl (by simp) rfl rfl (fun b1 w1 hC1 hB1 => ?_)
 have hC2 := hC1.row0 (α := Int)
 have hC3 := hC2.front 1 rfl
 dsimp only [List.eraseIdx, List.cons_append, List.nil_append, List.append_nil] at hC3
 have hC4 : Ctx [] w0 w1 (Item.own (.slice (some ⟨b1, 0, none⟩) 0 0) (([] : List Int) : List Int) :: []) := hC3.rowOwn (by simp [maxLen])
 refine WL_assign rfl rfl ?_
 refine WL_nil (W_seq (W_seq_reg ?_))
 refine WL_move rfl rfl ?_
 refine WL_len Tryz.underlying35 g1 rfl rfl ?_
 refine WL_move rfl rfl ?_
 refine WL_nil ?_
 obtain ⟨r1, hr1, hF⟩ := bind_some hF
 refine W_norm (fun l w => ∃ v2 : Value, ∃ x3 : (List Int), x3 = r1 ∧ l = [(5, v2)] ∧ Ctx [] w0 w [Item.own v2 (x3 : (List Int))]) ?_ ?_
 ·refine W_block ?_
  refine W.sub (l' := [(1, (.func (.func 109) #[] #[])), (5, (.slice (some ⟨b1, 0, none⟩) 0 0)), (11, u1), (12, (.int .i64 (List.length a1 : Int))), (13, (.int .i64 0))]) ?_ ⟨rfl, rfl, rfl, rfl, rfl, trivial⟩
  refine W_loop (fun k l w => ∃ v1 : Value, ∃ x1 : (List Int), ∃ x2 : Int, l = [(1, (.func (.func 109) #[] #[])), (5, v1), (11, u1), (12, (.int .i64 (List.length a1 : Int))), (13, (.int .i64 x2))] ∧ Ctx [] w0 w [Item.own v1 (x1 : (List Int))] ∧ M.termsOf_M_IsVar_l1 a1 k x1 x2 = some r1) FUEL ⟨(.slice (some ⟨b1, 0, none⟩) 0 0), ([] : List Int), 0, rfl, hC4, hr1⟩ ?_
  clear hr1
  rintro k1 _ w2 ⟨v1, x1, x2, rfl, hC5, hL1⟩
  cases k1 with
  | zero => rw [M.termsOf_M_IsVar_l1] at hL1; cases hL1
  | succ k1 =>
   rw [M.termsOf_M_IsVar_l1] at hL1
   refine W_seq_reg ?_
   refine WL_lss rfl rfl rfl ?_
   refine WL_nil (W_seq ?_)
   refine W_cond rfl (fun hc1 => ?_) (fun hc1 => ?_)
   ·replace hL1 := ite_t hL1 hc1
    refine W_skip (nrm_normal (W_seq (W_block (W_seq_reg ?_))))
    obtain ⟨x4, hx1, hL1⟩ := bind_some hL1
    refine WL_index Tryz.underlying35 ty84 g1 hx1 rfl rfl rfl (fun b2 o1 h1 => ?_)
    refine WL_load ty84 h1 hC5.keep rfl rfl (fun v3 h2 => ?_)
    obtain ⟨v4, rfl, h3⟩ := ro_st84 h2
    refine WL_allocK hC5 zero84 rfl rfl (fun b3 w3 hC6 hB3 hN1 => ?_)
    refine WL_store_box_aggK (cs' := [(.int .i64 x4.1), v4]) (new := [(.int .i64 x4.1), v4]) hC6 0 rfl rfl (by intro v hv; simp only [List.mem_cons, List.not_mem_nil, or_false] at hv; rcases hv with rfl | rfl; exact rfl; exact (ro_one h3)) rfl Tryz.sizeOf84 rfl rfl (fun w4 hC7 hKp1 => ?_)
    try dsimp only [List.set] at hC7
    have hk1 := Keep.over (Keep.of hB3) hN1 hKp1
    refine WL_nil (W_seq_reg ?_)
    refine WL_field Tryz.underlying84 rfl rfl (fun w => ⟨_, Tryz.sizeOf22 w⟩) rfl rfl ?_
    refine WL_load_box hC7 0 rfl rfl Tryz.isAgg22 rfl rfl ?_
    refine WL_len Tryz.underlying22 h3 rfl rfl ?_
    refine WL_move rfl rfl ?_
    refine WL_nil ?_
    obtain ⟨r2, hr2, hL1⟩ := bind_some hL1
    refine W_norm (fun l w => ∃ v6 : Value, ∃ x7 : (List Int), x7 = r2 ∧ l = [(1, (.func (.func 109) #[] #[])), (5, v6), (11, u1), (12, (.int .i64 (List.length a1 : Int))), (13, (.int .i64 x2))] ∧ Ctx [] w0 w [Item.own v6 (x7 : (List Int))]) ?_ ?_
    ·refine W_block ?_
     have hC20 := hC7.f1
     have hC21 := hC20.h1
     refine W.sub (l' := [(1, (.func (.func 109) #[] #[])), (5, v1), (11, u1), (12, (.int .i64 (List.length a1 : Int))), (13, (.int .i64 x2)), (18, v4), (19, (.int .i64 (List.length x4.2 : Int))), (20, (.int .i64 0))]) ?_ ⟨rfl, rfl, rfl, rfl, rfl, rfl, rfl, rfl, trivial⟩
     refine W_loop (fun k l w => ∃ v5 : Value, ∃ x5 : (List Int), ∃ x6 : Int, l = [(1, (.func (.func 109) #[] #[])), (5, v5), (11, u1), (12, (.int .i64 (List.length a1 : Int))), (13, (.int .i64 x2)), (18, v4), (19, (.int .i64 (List.length x4.2 : Int))), (20, (.int .i64 x6))] ∧ Ctx [] w0 w [Item.own v5 (x5 : (List Int))] ∧ M.termsOf_M_IsVar_l2 x4 k x5 x6 = some r2) FUEL ⟨v1, x1, 0, rfl, hC21, hr2⟩ ?_
     clear hr2
     rintro k2 _ w5 ⟨v5, x5, x6, rfl, hC8, hL2⟩
     cases k2 with
     | zero => rw [M.termsOf_M_IsVar_l2] at hL2; cases hL2
     | succ k2 =>
      rw [M.termsOf_M_IsVar_l2] at hL2
      refine W_seq_reg ?_
      refine WL_lss rfl rfl rfl ?_
      refine WL_nil (W_seq ?_)
      refine W_cond rfl (fun hc2 => ?_) (fun hc2 => ?_)
      ·replace hL2 := ite_t hL2 hc2
       refine W_skip (nrm_normal (W_seq (W_block (W_seq_reg ?_))))
       obtain ⟨x8, hx2, hL2⟩ := bind_some hL2
       refine WL_index Tryz.underlying22 ty3 h3 hx2 rfl rfl rfl (fun b4 o2 h4 => ?_)
       refine WL_load ty3 h4 hC8.keep rfl rfl (fun v7 h5 => ?_)
       obtain rfl := ro_int h5
       refine WL_assign rfl rfl ?_
       refine WL_nil (W_seq_reg ?_)
       refine WL_move rfl rfl ?_
       refine WL_move rfl rfl ?_
       obtain ⟨x9, hr3, hL2⟩ := bind_some hL2
       refine WL_callv (cap := []) Tryz.call109 rfl rfl rfl (c_M_IsVar x8 x9 hr3) ?_
       intro _ w6 hv1
       obtain ⟨rfl, hB5⟩ := res_bool hv1
       have hC9 := hC8.grow hB5
       refine WL_nil ?_
       obtain ⟨r3, hr4, hL2⟩ := bind_some hL2
       refine W_norm (fun l w => ∃ v8 : Value, ∃ x10 : (List Int), x10 = r3 ∧ l = [(1, (.func (.func 109) #[] #[])), (5, v8), (11, u1), (12, (.int .i64 (List.length a1 : Int))), (13, (.int .i64 x2)), (18, v4), (19, (.int .i64 (List.length x4.2 : Int))), (20, (.int .i64 x6))] ∧ Ctx [] w0 w [Item.own v8 (x10 : (List Int))]) ?_ ?_
       ·refine W_cond rfl (fun hc3 => ?_) (fun hc3 => ?_)
        ·replace hr4 := ite_t hr4 hc3
         refine W_reg ?_
         refine WL_move rfl rfl ?_
         refine WL_move rfl rfl ?_
         refine WL_buildSlice (vs := [(.int .i64 x8)]) hC9 Tryz.underlying22 ty3 rfl rfl rfl rfl (by intro v hv; simp only [List.mem_cons, List.not_mem_nil, or_false] at hv; rcases hv with rfl <;> rfl) rfl rfl (fun b5 w9 hC11 hB7 => ?_)
         have hC12 := hC11.row0 (α := Int)
         have hC13 := hC12.triv (int_val (x8))
         have hC14 := hC13.row1
         have hC15 := hC14.front 1 rfl
         dsimp only [List.eraseIdx, List.cons_append, List.nil_append, List.append_nil] at hC15
         have hC16 : Ctx [] w0 w9 (Item.own (.slice (some ⟨b5, 0, none⟩) 1 1) ([x8] : List Int) :: [Item.own v5 (x5 : (List Int))]) := hC15.rowOwn (by simp [maxLen])
         obtain ⟨x11, hx3, hr4⟩ := bind_some hr4
         refine WL_append_flat (α := Int) hC16 1 rfl (hC16.ro 0 rfl) (Keep.refl _ _) Tryz.underlying22 ty3 rfl hx3 rfl rfl rfl (fun v9 w10 hC17 => ?_)
         try dsimp only [List.set] at hC17
         refine WL_assign rfl rfl ?_
         refine WL_nil ?_
         have hq1 := Option.some.inj hr4
         subst hq1
         have hC18 := hC17.f1
         have hC19 := hC18.h1
         refine nrm_sub (l' := [(1, (.func (.func 109) #[] #[])), (5, v9), (11, u1), (12, (.int .i64 (List.length a1 : Int))), (13, (.int .i64 x2)), (18, v4), (19, (.int .i64 (List.length x4.2 : Int))), (20, (.int .i64 x6))]) ⟨rfl, rfl, rfl, rfl, rfl, rfl, rfl, rfl, trivial⟩ ?_
         exact ⟨v9, x11, rfl, rfl, hC19⟩
        replace hr4 := ite_f hr4 hc3
        refine W_skip ?_
        have hq2 := Option.some.inj hr4
        subst hq2
        refine nrm_sub (l' := [(1, (.func (.func 109) #[] #[])), (5, v5), (11, u1), (12, (.int .i64 (List.length a1 : Int))), (13, (.int .i64 x2)), (18, v4), (19, (.int .i64 (List.length x4.2 : Int))), (20, (.int .i64 x6))]) ⟨rfl, rfl, rfl, rfl, rfl, rfl, rfl, rfl, trivial⟩ ?_
        exact ⟨v5, x5, rfl, rfl, hC9⟩
       rintro l3 _ w7 hs3 ⟨v8, x10, rfl, rfl, hC10⟩
       try dsimp only at hL2
       refine blk_normal ?_
       refine nrm_sub' hs3 ?_
       clear hs3
       refine W_reg ?_
       refine WL_add rfl rfl rfl ?_
       refine WL_move rfl rfl ?_
       refine WL_nil ?_
       refine nrm_sub (l' := [(1, (.func (.func 109) #[] #[])), (5, v8), (11, u1), (12, (.int .i64 (List.length a1 : Int))), (13, (.int .i64 x2)), (18, v4), (19, (.int .i64 (List.length x4.2 : Int))), (20, (.int .i64 (w64 (x6 + 1))))]) ⟨rfl, rfl, rfl, rfl, rfl, rfl, rfl, rfl, trivial⟩ ?_
       exact ⟨k2, Nat.lt_succ_self _, v8, x10, w64 (x6 + 1), rfl, hC10, hL2⟩
      replace hL2 := ite_f hL2 hc2
      refine W_exit (nrm_exit (nrm_exit (blk_exit ?_)))
      have hq3 := Option.some.inj hL2
      subst hq3
      refine nrm_sub (l' := [(1, (.func (.func 109) #[] #[])), (5, v5), (11, u1), (12, (.int .i64 (List.length a1 : Int))), (13, (.int .i64 x2))]) ⟨rfl, rfl, rfl, rfl, rfl, trivial⟩ ?_
      exact ⟨v5, x5, rfl, rfl, hC8⟩
    rintro l4 _ w11 hs4 ⟨v6, x7, rfl, rfl, hC22⟩
    try dsimp only at hL1
    refine blk_normal ?_
    refine nrm_sub' hs4 ?_
    clear hs4
    refine W_reg ?_
    refine WL_add rfl rfl rfl ?_
    refine WL_move rfl rfl ?_
    refine WL_nil ?_
    refine nrm_sub (l' := [(1, (.func (.func 109) #[] #[])), (5, v6), (11, u1), (12, (.int .i64 (List.length a1 : Int))), (13, (.int .i64 (w64 (x2 + 1))))]) ⟨rfl, rfl, rfl, rfl, rfl, trivial⟩ ?_
    exact ⟨k1, Nat.lt_succ_self _, v6, x7, w64 (x2 + 1), rfl, hC22, hL1⟩
   replace hL1 := ite_f hL1 hc1
   refine W_exit (nrm_exit (nrm_exit (blk_exit ?_)))
   have hq4 := Option.some.inj hL1
   subst hq4
   refine nrm_sub (l' := [(5, v1)]) ⟨rfl, trivial⟩ ?_
   exact ⟨v1, x1, rfl, rfl, hC5⟩
 rintro l5 _ w12 hs5 ⟨v2, x3, rfl, rfl, hC23⟩
 try dsimp only at hF
 refine nrm_sub' hs5 ?_
 clear hs5
 refine W_seq_reg ?_
 refine WL_move rfl rfl ?_
 obtain ⟨x12, hr5, hF⟩ := bind_some hF
 obtain ⟨Fs1, hH1, hn1, hF1, hO1, hb1⟩ := Ctx.lend2 (As := []) [Item.own v2 (x3 : (List Int))] hC23
 refine WL_call Tryz.call80 rfl rfl (c_Slices_Sort_Lint_int x3 v2 hH1 hn1 x12 hr5) ?_
 rintro _ w13 ⟨rfl, hq5⟩
 have hC25 : Ctx [] w0 w13 [Item.own v2 (x12 : (List Int))] := hb1 _ _ hq5
 refine WL_nil (W_seq_reg ?_)
 refine WL_move rfl rfl ?_
 obtain ⟨x13, hr6, hF⟩ := bind_some hF
 obtain ⟨Fs2, hH2, hn2, hF2, hO2, hb2⟩ := Ctx.lend2 (As := []) [Item.own v2 (x12 : (List Int))] hC25
 refine WL_call Tryz.call81 rfl rfl (c_Slices_Compact_Lint_int x12 v2 hH2 hn2 x13 hr6) ?_
 rintro v10 w14 ⟨_, rfl, hq6⟩
 have hC27 : Ctx [] w0 w14 [Item.own v10 (x13 : (List Int))] := hb2 _ _ hq6
 refine WL_assign rfl rfl ?_
 refine WL_nil (W_ret ?_)
 have hq7 := Option.some.inj hF
 subst hq7
 refine fn_ret1 rfl rfl ?_
 exact ⟨_, rfl, own_res hC27 0 rfl⟩

theorem c_M_VarsOf {w0 : World} (a1 : ((List Int) × (List (Int × (List Int))))) (u1 : Value) (g1 : RO [] w0 u1 a1.1) (u2 : Value) (g2 : RO [] w0 u2 a1.2) (rr : (List Int)) (hF : M.VarsOf a1 = some rr) :
 Calls Tryz.prog 150 [(.agg #[u1, u2])].toArray w0 fun e w' => ∃ v, e = .returned v ∧ Res w0 rr v w' := by
 refine calls_of_W Tryz.func150 rfl rfl ?_
 have hC0 := Ctx.start w0
 unfold M.VarsOf at hF
 refine W_seq_reg ?_
 refine WL_boxK (cs := [u1, u2]) hC0 rfl rfl rfl (fun b1 w1 hC1 hB1 hN1 => ?_)
 refine WL_assign rfl rfl ?_
 refine WL_nil (W_seq_reg ?_)
 refine WL_field Tryz.underlying37 rfl rfl (fun w => ⟨_, Tryz.sizeOf35 w⟩) rfl rfl ?_
 refine WL_load_box hC1 0 rfl rfl Tryz.isAgg35 rfl rfl ?_
 obtain ⟨x1, hr1, hF⟩ := bind_some hF
 refine WL_call Tryz.call97 rfl rfl (c_M_termsOf_M_IsVar a1.2 u2 (g2.now hC1.keep) x1 hr1) ?_
 rintro v1 w2 ⟨hB2, F1, hv1, hn1, hb1⟩
 have hC2 := hC1.push hB2 (A := Item.own v1 x1) hv1 hn1 hb1
 refine WL_assign rfl rfl ?_
 refine WL_nil (W_ret ?_)
 have hq1 := Option.some.inj hF
 subst hq1
 refine fn_ret1 rfl rfl ?_
 exact ⟨_, rfl, own_res hC2 0 rfl⟩

theorem c_Slices_Index_Lint_int {w0 : World} (a1 : (List Int)) (u1 : Value) (g1 : RO [] w0 u1 a1) (a2 : Int) (rr : Int) (hF : Slices.Index_Lint_int a1 a2 = some rr) :
 Calls Tryz.prog 100 [u1, (.int .i64 a2)].toArray w0 fun e w' => ∃ v, e = .returned v ∧ Res w0 rr v w' := by
 refine calls_of_W Tryz.func100 rfl rfl ?_
 have hC0 := Ctx.start w0
 unfold Slices.Index_Lint_int at hF
 refine W_seq_reg ?_
 refine WL_assign rfl rfl ?_
 refine WL_nil (W_seq (W_seq_reg ?_))
 refine WL_move rfl rfl ?_
 refine WL_len Tryz.underlying22 g1 rfl rfl ?_
 refine WL_move rfl rfl ?_
 refine WL_nil ?_
 obtain ⟨r1, hr1, hF⟩ := bind_some hF
 refine W_norm (fun l w => .inl () = r1 ∧ l = [] ∧ Below w0.heap.size w0 w ∧ Ctx [] w0 w []) ?_ ?_
 ·refine W_block ?_
  refine W.sub (l' := [(0, u1), (1, (.int .i64 a2)), (7, (.int .i64 (List.length a1 : Int))), (8, (.int .i64 0))]) ?_ ⟨rfl, rfl, rfl, rfl, trivial⟩
  refine W_loop (fun k l w => ∃ x1 : Int, l = [(0, u1), (1, (.int .i64 a2)), (7, (.int .i64 (List.length a1 : Int))), (8, (.int .i64 x1))] ∧ Below w0.heap.size w0 w ∧ Ctx [] w0 w [] ∧ Slices.Index_Lint_int_l1 a1 a2 k x1 = some r1) FUEL ⟨0, rfl, (Below.refl _ _), hC0, hr1⟩ ?_
  clear hr1
  rintro k1 _ w1 ⟨x1, rfl, hB1, hC1, hL1⟩
  cases k1 with
  | zero => rw [Slices.Index_Lint_int_l1] at hL1; cases hL1
  | succ k1 =>
   rw [Slices.Index_Lint_int_l1] at hL1
   refine W_seq_reg ?_
   refine WL_lss rfl rfl rfl ?_
   refine WL_nil (W_seq ?_)
   refine W_cond rfl (fun hc1 => ?_) (fun hc1 => ?_)
   ·replace hL1 := ite_t hL1 hc1
    refine W_skip (nrm_normal (W_seq (W_block (W_seq_reg ?_))))
    refine WL_move rfl rfl ?_
    refine WL_assign rfl rfl ?_
    refine WL_nil (W_seq_reg ?_)
    refine WL_move rfl rfl ?_
    refine WL_move rfl rfl ?_
    refine WL_move rfl rfl ?_
    obtain ⟨x2, hx1, hL1⟩ := bind_some hL1
    refine WL_index Tryz.underlying22 ty3 g1 hx1 rfl rfl rfl (fun b1 o1 h1 => ?_)
    refine WL_load ty3 h1 hC1.keep rfl rfl (fun v1 h2 => ?_)
    obtain rfl := ro_int h2
    refine WL_eql rfl rfl rfl ?_
    refine WL_nil ?_
    refine W_cond rfl (fun hc2 => ?_) (fun hc2 => ?_)
    ·replace hL1 := ite_t hL1 hc2
     refine W_seq_reg ?_
     refine WL_move rfl rfl ?_
     refine WL_assign rfl rfl ?_
     refine WL_nil (W_ret (blk_ret (nrm_ret (nrm_ret (blk_ret (nrm_ret (nrm_ret ?_)))))))
     have hq1 := Option.some.inj hL1
     subst hq1
     dsimp only at hF
     have hq2 := Option.some.inj hF
     subst hq2
     refine fn_ret1 rfl rfl ?_
     exact ⟨_, rfl, int_res hC1 _⟩
    replace hL1 := ite_f hL1 hc2
    refine W_skip (blk_normal (nrm_normal (W_reg ?_)))
    refine WL_add rfl rfl rfl ?_
    refine WL_move rfl rfl ?_
    refine WL_nil ?_
    refine nrm_sub (l' := [(0, u1), (1, (.int .i64 a2)), (7, (.int .i64 (List.length a1 : Int))), (8, (.int .i64 (w64 (x1 + 1))))]) ⟨rfl, rfl, rfl, rfl, trivial⟩ ?_
    exact ⟨k1, Nat.lt_succ_self _, w64 (x1 + 1), rfl, (Keep.of hB1).below, hC1, hL1⟩
   replace hL1 := ite_f hL1 hc1
   refine W_exit (nrm_exit (nrm_exit (blk_exit ?_)))
   have hq3 := Option.some.inj hL1
   subst hq3
   refine nrm_sub (l' := []) trivial ?_
   exact ⟨rfl, rfl, (Keep.of hB1).below, hC1⟩
 rintro l2 _ w2 hs2 ⟨rfl, rfl, hB2, hC2⟩
 try dsimp only at hF
 refine nrm_sub' hs2 ?_
 clear hs2
 refine W_seq_reg ?_
 refine WL_assign rfl rfl ?_
 refine WL_nil (W_ret ?_)
 have hq4 := Option.some.inj hF
 subst hq4
 refine fn_ret1 rfl rfl ?_
 exact ⟨_, rfl, int_res hC2 _⟩

theorem c_Slices_Contains_Lint_int {w0 : World} (a1 : (List Int)) (u1 : Value) (g1 : RO [] w0 u1 a1) (a2 : Int) (rr : Bool) (hF : Slices.Contains_Lint_int a1 a2 = some rr) :
 Calls Tryz.prog 66 [u1, (.int .i64 a2)].toArray w0 fun e w' => ∃ v, e = .returned v ∧ Res w0 rr v w' := by
 refine calls_of_W Tryz.func66 rfl rfl ?_
 have hC0 := Ctx.start w0
 unfold Slices.Contains_Lint_int at hF
 refine W_seq_reg ?_
 refine WL_assign rfl rfl ?_
 refine WL_nil (W_seq_reg ?_)
 refine WL_move rfl rfl ?_
 refine WL_move rfl rfl ?_
 obtain ⟨x1, hr1, hF⟩ := bind_some hF
 refine WL_call Tryz.call100 rfl rfl (c_Slices_Index_Lint_int a1 u1 (g1.now hC0.keep) a2 x1 hr1) ?_
 intro _ w1 hv1
 obtain ⟨rfl, hB1⟩ := res_int hv1
 have hC1 := hC0.grow hB1
 refine WL_geq rfl rfl rfl ?_
 refine WL_assign rfl rfl ?_
 refine WL_nil (W_ret ?_)
 have hq1 := Option.some.inj hF
 subst hq1
 refine fn_ret1 rfl rfl ?_
 exact ⟨_, rfl, bool_res hC1 _⟩

theorem c_M_hasHead_c1 {w0 : World} (a1 : Int) (pb1 : Nat) (ax1 : (List Int)) (g1 : ROAt [] w0 pb1 0 ax1) (rr : Bool) (hF : M.hasHead_c1 a1 ax1 = some rr) :
 Calls Tryz.prog 151 [(.int .i64 a1), (ptr pb1 0)].toArray w0 fun e w' => ∃ v, e = .returned v ∧ Res w0 rr v w' := by
 refine calls_of_W Tryz.func151 rfl rfl ?_
 have hC0 := Ctx.start w0
 unfold M.hasHead_c1 at hF
 refine W_seq_reg ?_
 refine WL_assign rfl rfl ?_
 refine WL_nil (W_seq_reg ?_)
 refine WL_load ty22 g1 hC0.keep rfl rfl (fun v1 h1 => ?_)
 refine WL_move rfl rfl ?_
 obtain ⟨x1, hr1, hF⟩ := bind_some hF
 refine WL_call Tryz.call66 rfl rfl (c_Slices_Contains_Lint_int ax1 v1 (h1.now hC0.keep) a1 x1 hr1) ?_
 intro _ w1 hv1
 obtain ⟨rfl, hB1⟩ := res_bool hv1
 have hC1 := hC0.grow hB1
 refine WL_not rfl rfl ?_
 refine WL_assign rfl rfl ?_
 refine WL_nil (W_ret ?_)
 have hq1 := Option.some.inj hF
 subst hq1
 refine fn_ret1 rfl rfl ?_
 exact ⟨_, rfl, bool_res hC1 _⟩

theorem c_Slices_IndexFunc_Lint_int_M_hasHead_c1 {w0 : World} (a1 : (List Int)) (u1 : Value) (g1 : RO [] w0 u1 a1) (pb1 : Nat) (ax1 : (List Int)) (g2 : ROAt [] w0 pb1 0 ax1) (rr : Int) (hF : Slices.IndexFunc_Lint_int_M_hasHead_c1 a1 ax1 = some rr) :
 Calls Tryz.prog 99 [u1, (.func (.func 151) #[] #[(ptr pb1 0)])].toArray w0 fun e w' => ∃ v, e = .returned v ∧ Res w0 rr v w' := by
 refine calls_of_W Tryz.func99 rfl rfl ?_
 have hC0 := Ctx.start w0
 unfold Slices.IndexFunc_Lint_int_M_hasHead_c1 at hF
 refine W_seq_reg ?_
 refine WL_assign rfl rfl ?_
 refine WL_nil (W_seq (W_seq_reg ?_))
 refine WL_move rfl rfl ?_
 refine WL_len Tryz.underlying22 g1 rfl rfl ?_
 refine WL_move rfl rfl ?_
 refine WL_nil ?_
 obtain ⟨r1, hr1, hF⟩ := bind_some hF
 refine W_norm (fun l w => .inl () = r1 ∧ l = [] ∧ Below w0.heap.size w0 w ∧ Ctx [] w0 w []) ?_ ?_
 ·refine W_block ?_
  refine W.sub (l' := [(0, u1), (1, (.func (.func 151) #[] #[(ptr pb1 0)])), (7, (.int .i64 (List.length a1 : Int))), (8, (.int .i64 0))]) ?_ ⟨rfl, rfl, rfl, rfl, trivial⟩
  refine W_loop (fun k l w => ∃ x1 : Int, l = [(0, u1), (1, (.func (.func 151) #[] #[(ptr pb1 0)])), (7, (.int .i64 (List.length a1 : Int))), (8, (.int .i64 x1))] ∧ Below w0.heap.size w0 w ∧ Ctx [] w0 w [] ∧ Slices.IndexFunc_Lint_int_M_hasHead_c1_l1 a1 ax1 k x1 = some r1) FUEL ⟨0, rfl, (Below.refl _ _), hC0, hr1⟩ ?_
  clear hr1
  rintro k1 _ w1 ⟨x1, rfl, hB1, hC1, hL1⟩
  cases k1 with
  | zero => rw [Slices.IndexFunc_Lint_int_M_hasHead_c1_l1] at hL1; cases hL1
  | succ k1 =>
   rw [Slices.IndexFunc_Lint_int_M_hasHead_c1_l1] at hL1
   refine W_seq_reg ?_
   refine WL_lss rfl rfl rfl ?_
   refine WL_nil (W_seq ?_)
   refine W_cond rfl (fun hc1 => ?_) (fun hc1 => ?_)
   ·replace hL1 := ite_t hL1 hc1
    refine W_skip (nrm_normal (W_seq (W_block (W_seq_reg ?_))))
    refine WL_move rfl rfl ?_
    refine WL_assign rfl rfl ?_
    refine WL_nil (W_seq_reg ?_)
    refine WL_move rfl rfl ?_
    refine WL_move rfl rfl ?_
    refine WL_move rfl rfl ?_
    obtain ⟨x2, hx1, hL1⟩ := bind_some hL1
    refine WL_index Tryz.underlying22 ty3 g1 hx1 rfl rfl rfl (fun b1 o1 h1 => ?_)
    refine WL_load ty3 h1 hC1.keep rfl rfl (fun v1 h2 => ?_)
    obtain rfl := ro_int h2
    obtain ⟨x3, hr2, hL1⟩ := bind_some hL1
    refine WL_callv (cap := [(ptr pb1 0)]) Tryz.call151 rfl rfl rfl (c_M_hasHead_c1 x2 pb1 ax1 (g2.now hC1.keep) x3 hr2) ?_
    intro _ w2 hv1
    obtain ⟨rfl, hB2⟩ := res_bool hv1
    have hC2 := hC1.grow hB2
    refine WL_nil ?_
    refine W_cond rfl (fun hc2 => ?_) (fun hc2 => ?_)
    ·replace hL1 := ite_t hL1 hc2
     refine W_seq_reg ?_
     refine WL_move rfl rfl ?_
     refine WL_assign rfl rfl ?_
     refine WL_nil (W_ret (blk_ret (nrm_ret (nrm_ret (blk_ret (nrm_ret (nrm_ret ?_)))))))
     have hq1 := Option.some.inj hL1
     subst hq1
     dsimp only at hF
     have hq2 := Option.some.inj hF
     subst hq2
     refine fn_ret1 rfl rfl ?_
     exact ⟨_, rfl, int_res hC2 _⟩
    replace hL1 := ite_f hL1 hc2
    refine W_skip (blk_normal (nrm_normal (W_reg ?_)))
    refine WL_add rfl rfl rfl ?_
    refine WL_move rfl rfl ?_
    refine WL_nil ?_
    refine nrm_sub (l' := [(0, u1), (1, (.func (.func 151) #[] #[(ptr pb1 0)])), (7, (.int .i64 (List.length a1 : Int))), (8, (.int .i64 (w64 (x1 + 1))))]) ⟨rfl, rfl, rfl, rfl, trivial⟩ ?_
    exact ⟨k1, Nat.lt_succ_self _, w64 (x1 + 1), rfl, ((Keep.of hB1).then hB2).below, hC2, hL1⟩
   replace hL1 := ite_f hL1 hc1
   refine W_exit (nrm_exit (nrm_exit (blk_exit ?_)))
   have hq3 := Option.some.inj hL1
   subst hq3
   refine nrm_sub (l' := []) trivial ?_
   exact ⟨rfl, rfl, (Keep.of hB1).below, hC1⟩
 rintro l2 _ w3 hs2 ⟨rfl, rfl, hB3, hC3⟩
 try dsimp only at hF
 refine nrm_sub' hs2 ?_
 clear hs2
 refine W_seq_reg ?_
 refine WL_assign rfl rfl ?_
 refine WL_nil (W_ret ?_)
 have hq4 := Option.some.inj hF
 subst hq4
 refine fn_ret1 rfl rfl ?_
 exact ⟨_, rfl, int_res hC3 _⟩

theorem c_Slices_ContainsFunc_Lint_int_M_hasHead_c1 {w0 : World} (a1 : (List Int)) (u1 : Value) (g1 : RO [] w0 u1 a1) (pb1 : Nat) (ax1 : (List Int)) (g2 : ROAt [] w0 pb1 0 ax1) (rr : Bool) (hF : Slices.ContainsFunc_Lint_int_M_hasHead_c1 a1 ax1 = some rr) :
 Calls Tryz.prog 71 [u1, (.func (.func 151) #[] #[(ptr pb1 0)])].toArray w0 fun e w' => ∃ v, e = .returned v ∧ Res w0 rr v w' := by
 refine calls_of_W Tryz.func71 rfl rfl ?_
 have hC0 := Ctx.start w0
 unfold Slices.ContainsFunc_Lint_int_M_hasHead_c1 at hF
 refine W_seq_reg ?_
 refine WL_assign rfl rfl ?_
 refine WL_nil (W_seq_reg ?_)
 refine WL_move rfl rfl ?_
 refine WL_move rfl rfl ?_
 obtain ⟨x1, hr1, hF⟩ := bind_some hF
 refine WL_call Tryz.call99 rfl rfl (c_Slices_IndexFunc_Lint_int_M_hasHead_c1 a1 u1 (g1.now hC0.keep) pb1 ax1 (g2.now hC0.keep) x1 hr1) ?_
 intro _ w1 hv1
 obtain ⟨rfl, hB1⟩ := res_int hv1
 have hC1 := hC0.grow hB1
 refine WL_geq rfl rfl rfl ?_
 refine WL_assign rfl rfl ?_
 refine WL_nil (W_ret ?_)
 have hq1 := Option.some.inj hF
 subst hq1
 refine fn_ret1 rfl rfl ?_
 exact ⟨_, rfl, bool_res hC1 _⟩

end Go.Gx.Px
