/- The contracts of the Go functions against the pure functions, printed by program. Conditions: each says them. -/
import Derived.Test.YtngpabaocflipaaGreatC3
set_option linter.unusedVariables false
set_option linter.unusedSimpArgs false
set_option maxRecDepth 100000
set_option maxHeartbeats 4000000
namespace Go.Gx.Px
open Go.Proofs Go.RowKit

theorem c_M_IsAccess {w0 : World} (a1 : (List Int)) (u1 : Value) (g1 : RO [] w0 u1 a1) (a2 : (List (Int × (List Int) × Int × Int × Int))) (u2 : Value) (g2 : RO [] w0 u2 a2) (a3 : (Int × (List Int))) (u3 : Value) (g3 : RO [] w0 u3 a3.2) (rr : Bool) (hF : M.IsAccess a1 a2 a3 = some rr) :
 Calls Tryz.prog 98 [u1, u2, (.agg #[(.int .i64 a3.1), u3])].toArray w0 fun e w' => ∃ v, e = .returned v ∧ Res w0 rr v w' := by
 refine calls_of_W Tryz.func98 rfl rfl ?_
 have hC0 := Ctx.start w0
 unfold M.IsAccess at hF
 refine W_seq_reg ?_
 refine WL_boxK (cs := [(.int .i64 a3.1), u3]) hC0 rfl rfl rfl (fun b1 w1 hC1 hB1 hN1 => ?_)
 refine WL_assign rfl rfl ?_
 refine WL_nil ?_
 obtain ⟨r1, hr1, hF⟩ := bind_some hF
 refine W_cut (fun l w => ∃ x1 : Bool, x1 = r1 ∧ l = [(6, (.bool x1))] ∧ Below w1.heap.size w1 w ∧ Ctx [] w0 w []) ?_ ?_
 ·refine W_drawn 30 rfl hmix (fun w3 hB3 => ?_)
  have hC3 := hC1.grow hB3
  refine WA_tk 0 (by kernel_rfl) rfl rfl (fl_move rfl) ?_
  refine WL_move rfl rfl ?_
  refine WL_nil ?_
  refine WA_tk 1 (by kernel_rfl) rfl rfl (fl_move rfl) ?_
  refine WL_move rfl rfl ?_
  refine WL_nil ?_
  obtain ⟨x2, hr2, hr1⟩ := bind_some hr1
  refine WA_one 2 (by kernel_rfl) rfl ?_
  refine WL_call Tryz.call71 rfl rfl (c_M_AreMethods a1 u1 (g1.now hC3.keep) a2 u2 (g2.now hC3.keep) x2 hr2) ?_
  intro _ w4 hv1
  obtain ⟨rfl, hB4⟩ := res_bool hv1
  have hC4 := hC3.grow hB4
  refine WL_nil ?_
  refine WA_tk 3 (by kernel_rfl) rfl rfl (fl_move rfl) ?_
  refine WL_move rfl rfl ?_
  refine WL_nil ?_
  refine WA_fork (fun hc1 => ?_) (fun hc1 => ?_)
  ·replace hr1 := ite_t hr1 hc1
   refine WA_takeG 4 rfl (by kernel_rfl) (by kernel_rfl) (by kernel_rfl) rfl rfl rfl (fl_field Tryz.underlying44 rfl rfl (fun w => ⟨_, Tryz.sizeOf3 w⟩) rfl) ?_
   refine WL_guard rfl rfl ?_
   refine WL_field Tryz.underlying44 rfl rfl (fun w => ⟨_, Tryz.sizeOf3 w⟩) rfl rfl ?_
   refine WL_nil ?_
   refine WA_takeG 6 rfl (by kernel_rfl) (by kernel_rfl) (by kernel_rfl) rfl rfl rfl (fl_move rfl) ?_
   refine WL_guard rfl rfl ?_
   refine WL_move rfl rfl ?_
   refine WL_nil ?_
   refine WA_takeG 7 rfl (by kernel_rfl) (by kernel_rfl) (by kernel_rfl) rfl rfl rfl (fl_len Tryz.underlying25 g2 rfl) ?_
   refine WL_guard rfl rfl ?_
   refine WL_len Tryz.underlying25 g2 rfl rfl ?_
   refine WL_nil ?_
   refine WA_takeG 8 rfl (by kernel_rfl) (by kernel_rfl) (by kernel_rfl) rfl rfl rfl (fl_sub rfl rfl) ?_
   refine WL_guard rfl rfl ?_
   refine WL_sub rfl rfl rfl ?_
   refine WL_nil ?_
   refine WA_one 5 (by kernel_rfl) rfl ?_
   refine WL_guard rfl rfl ?_
   refine WL_load_box hC4 0 rfl rfl Tryz.isAgg3 rfl rfl ?_
   refine WL_nil ?_
   obtain ⟨x3, hr3, hr1⟩ := bind_some hr1
   refine WA_one 9 (by kernel_rfl) rfl ?_
   refine WL_guard rfl rfl ?_
   refine WL_call Tryz.call147 rfl rfl (c_M_within a3.1 0 (w64 ((List.length a2 : Int) - 1)) x3 hr3) ?_
   intro _ w5 hv2
   obtain ⟨rfl, hB5⟩ := res_bool hv2
   have hC5 := hC4.grow hB5
   refine WL_nil ?_
   refine WA_tk 10 (by kernel_rfl) rfl rfl (fl_pick_t rfl rfl) ?_
   refine WL_pick_t rfl rfl rfl ?_
   refine WL_nil ?_
   refine WA_tk 11 (by kernel_rfl) rfl rfl (fl_move rfl) ?_
   refine WL_move rfl rfl ?_
   refine WL_nil ?_
   refine WA_fork (fun hc2 => ?_) (fun hc2 => ?_)
   ·replace hr1 := ite_t hr1 hc2
    refine WA_takeG 12 rfl (by kernel_rfl) (by kernel_rfl) (by kernel_rfl) rfl rfl rfl (fl_field Tryz.underlying44 rfl rfl (fun w => ⟨_, Tryz.sizeOf24 w⟩) rfl) ?_
    refine WL_guard rfl rfl ?_
    refine WL_field Tryz.underlying44 rfl rfl (fun w => ⟨_, Tryz.sizeOf24 w⟩) rfl rfl ?_
    refine WL_nil ?_
    refine WA_takeG 15 rfl (by kernel_rfl) (by kernel_rfl) (by kernel_rfl) rfl rfl rfl (fl_move rfl) ?_
    refine WL_guard rfl rfl ?_
    refine WL_move rfl rfl ?_
    refine WL_nil ?_
    refine WA_takeG 16 rfl (by kernel_rfl) (by kernel_rfl) (by kernel_rfl) rfl rfl rfl (fl_field Tryz.underlying44 rfl rfl (fun w => ⟨_, Tryz.sizeOf3 w⟩) rfl) ?_
    refine WL_guard rfl rfl ?_
    refine WL_field Tryz.underlying44 rfl rfl (fun w => ⟨_, Tryz.sizeOf3 w⟩) rfl rfl ?_
    refine WL_nil ?_
    obtain ⟨x4, hx1, hr1⟩ := bind_some hr1
    refine WA.sub (l' := [(0, u1), (1, u2), (2, (.agg #[(.int .i64 a3.1), u3])), (5, (ptr b1 0)), (6, (.bool false)), (7, u1), (8, u2), (9, (.bool x2)), (10, (.bool true)), (11, (ptr b1 0)), (12, (.int .i64 a3.1)), (13, u2), (14, (.int .i64 (List.length a2 : Int))), (15, (.int .i64 (w64 ((List.length a2 : Int) - 1)))), (16, (.bool x3)), (17, (.bool x3)), (18, (.bool true)), (19, (ptr b1 1)), (22, u2), (23, (ptr b1 0))]) ?_ ⟨rfl, rfl, rfl, rfl, rfl, rfl, rfl, rfl, rfl, rfl, rfl, rfl, rfl, rfl, rfl, rfl, rfl, rfl, rfl, rfl, trivial⟩
    refine WA_postsE [⟨13, [], fun vs => PW.val u3, []⟩, ⟨14, [], fun vs => PW.val (.int .i64 (List.length a3.2 : Int)), []⟩, ⟨17, [], fun vs => PW.val (.int .i64 a3.1), []⟩, ⟨18, [], fun vs => PW.at [] w0 x4, []⟩, ⟨19, [], fun vs => PW.at [] w0 x4.2.1, []⟩, ⟨20, [], fun vs => PW.ro [] w0 x4.2.1, []⟩, ⟨21, [], fun vs => PW.val (.int .i64 (List.length x4.2.1 : Int)), []⟩] [[], [13], [], [17], [18], [19], [20]] 8 rfl (by kernel_rfl) (by kernel_rfl) rfl ?_ ?_
    ·refine StepsE_cons rfl ?_ ?_
     ·intro w6 hB6
      refine DepsE_nil ?_
      refine ⟨_, rfl, ?_⟩
      refine WL_guard rfl rfl ?_
      refine WL_load_box (hC5.grow hB6) 0 rfl rfl Tryz.isAgg24 rfl rfl ?_
      refine WL_nil ?_
      exact FinE_val (Below.refl _ _) rfl rfl ⟨rfl, rfl⟩
     refine StepsE_cons rfl ?_ ?_
     ·intro w6 hB6
      refine DepsE_cons rfl rfl rfl ?_
      rintro _ _ ⟨rfl, rfl⟩ _
      refine DepsE_nil ?_
      refine ⟨_, rfl, ?_⟩
      refine WL_guard rfl rfl ?_
      refine WL_len Tryz.underlying24 g3 rfl rfl ?_
      refine WL_nil ?_
      exact FinE_val (Below.refl _ _) rfl rfl ⟨rfl, rfl⟩
     refine StepsE_cons rfl ?_ ?_
     ·intro w6 hB6
      refine DepsE_nil ?_
      refine ⟨_, rfl, ?_⟩
      refine WL_guard rfl rfl ?_
      refine WL_load_box (hC5.grow hB6) 0 rfl rfl Tryz.isAgg3 rfl rfl ?_
      refine WL_nil ?_
      exact FinE_val (Below.refl _ _) rfl rfl ⟨rfl, rfl⟩
     refine StepsE_cons rfl ?_ ?_
     ·intro w6 hB6
      refine DepsE_cons rfl rfl rfl ?_
      rintro _ _ ⟨rfl, rfl⟩ _
      refine DepsE_nil ?_
      refine ⟨_, rfl, ?_⟩
      refine WL_guard rfl rfl ?_
      refine WL_index Tryz.underlying25 ty93 g2 hx1 rfl rfl rfl (fun b2 o1 h1 => ?_)
      refine WL_nil ?_
      exact FinE_val (Below.refl _ _) rfl rfl ⟨rfl, _, _, rfl, h1⟩
     refine StepsE_cons rfl ?_ ?_
     ·intro w6 hB6
      refine DepsE_cons rfl rfl rfl ?_
      rintro _ _ ⟨rfl, b2, o1, rfl, h1⟩ _
      refine DepsE_nil ?_
      refine ⟨_, rfl, ?_⟩
      refine WL_guard rfl rfl ?_
      refine WL_field Tryz.underlying93 rfl rfl (fun w => ⟨_, Tryz.sizeOf24 w⟩) rfl rfl ?_
      refine WL_nil ?_
      exact FinE_val (Below.refl _ _) rfl rfl ⟨rfl, _, _, rfl, h1.snd.fst⟩
     refine StepsE_cons rfl ?_ ?_
     ·intro w6 hB6
      refine DepsE_cons rfl rfl rfl ?_
      rintro _ _ ⟨rfl, b3, o2, rfl, h2⟩ _
      refine DepsE_nil ?_
      refine ⟨_, rfl, ?_⟩
      refine WL_guard rfl rfl ?_
      refine WL_load ty24 h2 (hC5.keep.then hB6) rfl rfl (fun v1 h3 => ?_)
      refine WL_nil ?_
      exact FinE_val (Below.refl _ _) rfl rfl ⟨rfl, h3⟩
     refine StepsE_cons rfl ?_ ?_
     ·intro w6 hB6
      refine DepsE_cons rfl rfl rfl ?_
      rintro v1 _ ⟨rfl, h3⟩ _
      refine DepsE_nil ?_
      refine ⟨_, rfl, ?_⟩
      refine WL_guard rfl rfl ?_
      refine WL_len Tryz.underlying24 h3 rfl rfl ?_
      refine WL_nil ?_
      exact FinE_val (Below.refl _ _) rfl rfl ⟨rfl, rfl⟩
     exact StepsE_nil
    intro w7 hB7
    refine AllE_cons rfl rfl rfl ?_
    rintro _ _ ⟨rfl, rfl⟩
    refine AllE_cons rfl rfl rfl ?_
    rintro _ _ ⟨rfl, rfl⟩
    refine AllE_cons rfl rfl rfl ?_
    rintro _ _ ⟨rfl, rfl⟩
    refine AllE_cons rfl rfl rfl ?_
    rintro _ _ ⟨rfl, b2, o1, rfl, h1⟩
    refine AllE_cons rfl rfl rfl ?_
    rintro _ _ ⟨rfl, b3, o2, rfl, h2⟩
    refine AllE_cons rfl rfl rfl ?_
    rintro v1 _ ⟨rfl, h3⟩
    refine AllE_cons rfl rfl rfl ?_
    rintro _ _ ⟨rfl, rfl⟩
    refine AllE_nil ?_
    intro hn1 hb1
    have hC6 := hC5.grow hB7
    refine WA_takeG 22 rfl (by kernel_rfl) (by kernel_rfl) (by kernel_rfl) rfl rfl rfl (fl_eql rfl rfl) ?_
    refine WL_guard rfl rfl ?_
    refine WL_eql rfl rfl rfl ?_
    refine WL_nil ?_
    refine WA_tk 23 (by kernel_rfl) rfl rfl (fl_pick_t rfl rfl) ?_
    refine WL_pick_t rfl rfl rfl ?_
    refine WL_nil ?_
    refine WA_tk 24 (by kernel_rfl) rfl rfl (fl_move rfl) ?_
    refine WL_move rfl rfl ?_
    refine WL_nil ?_
    refine WA_fork (fun hc3 => ?_) (fun hc3 => ?_)
    ·replace hr1 := ite_t hr1 hc3
     refine WA_takeG 25 rfl (by kernel_rfl) (by kernel_rfl) (by kernel_rfl) rfl rfl rfl (fl_field Tryz.underlying44 rfl rfl (fun w => ⟨_, Tryz.sizeOf24 w⟩) rfl) ?_
     refine WL_guard rfl rfl ?_
     refine WL_field Tryz.underlying44 rfl rfl (fun w => ⟨_, Tryz.sizeOf24 w⟩) rfl rfl ?_
     refine WL_nil ?_
     refine WA_one 26 (by kernel_rfl) rfl ?_
     refine WL_guard rfl rfl ?_
     refine WL_load_box hC6 0 rfl rfl Tryz.isAgg24 rfl rfl ?_
     refine WL_nil ?_
     obtain ⟨x5, hr4, hr1⟩ := bind_some hr1
     refine WA_one 27 (by kernel_rfl) rfl ?_
     refine WL_guard rfl rfl ?_
     refine WL_call Tryz.call148 rfl rfl (c_M_areValues a3.2 u3 (g3.now hC6.keep) x5 hr4) ?_
     intro _ w9 hv3
     obtain ⟨rfl, hB8⟩ := res_bool hv3
     have hC7 := hC6.grow hB8
     refine WL_nil ?_
     refine WA_tk 28 (by kernel_rfl) rfl rfl (fl_pick_t rfl rfl) ?_
     refine WL_pick_t rfl rfl rfl ?_
     refine WL_nil ?_
     refine WA_tk 29 (by kernel_rfl) rfl rfl (fl_assign rfl) ?_
     refine WL_assign rfl rfl ?_
     refine WL_nil ?_
     refine WA_done (by kernel_rfl) ?_
     have hq1 := Option.some.inj hr1
     subst hq1
     have hC8 := hC7.h0
     refine nrm_sub (l' := [(6, (.bool x5))]) ⟨rfl, trivial⟩ ?_
     exact ⟨x5, rfl, rfl, (((((Keep.of hB3).then hB4).then hB5).then hB7).then hB8).below, hC8⟩
    replace hr1 := ite_f hr1 hc3
    refine WA_sk 25 (by kernel_rfl) rfl rfl rfl rfl (by simp) rfl rfl ?_
    refine WA_sk 26 (by kernel_rfl) rfl rfl rfl rfl (by simp) rfl rfl ?_
    refine WA_sk 27 (by kernel_rfl) rfl rfl rfl rfl (by simp) rfl rfl ?_
    refine WA_tk 28 (by kernel_rfl) rfl rfl (fl_pick_f rfl rfl) ?_
    refine WL_pick_f rfl rfl rfl ?_
    refine WL_nil ?_
    refine WA_tk 29 (by kernel_rfl) rfl rfl (fl_assign rfl) ?_
    refine WL_assign rfl rfl ?_
    refine WL_nil ?_
    refine WA_done (by kernel_rfl) ?_
    have hq2 := Option.some.inj hr1
    subst hq2
    have hC9 := hC6.h0
    refine nrm_sub (l' := [(6, (.bool false))]) ⟨rfl, trivial⟩ ?_
    exact ⟨false, rfl, rfl, ((((Keep.of hB3).then hB4).then hB5).then hB7).below, hC9⟩
   replace hr1 := ite_f hr1 hc2
   refine WA_sk 12 (by kernel_rfl) rfl rfl rfl rfl (by simp) rfl rfl ?_
   refine WA_sk 13 (by kernel_rfl) rfl rfl rfl rfl (by simp) rfl rfl ?_
   refine WA_sk 14 (by kernel_rfl) rfl rfl rfl rfl (by simp) rfl rfl ?_
   refine WA_sk 15 (by kernel_rfl) rfl rfl rfl rfl (by simp) rfl rfl ?_
   refine WA_sk 16 (by kernel_rfl) rfl rfl rfl rfl (by simp) rfl rfl ?_
   refine WA_sk 17 (by kernel_rfl) rfl rfl rfl rfl (by simp) rfl rfl ?_
   refine WA_sk 18 (by kernel_rfl) rfl rfl rfl rfl (by simp) rfl rfl ?_
   refine WA_sk 19 (by kernel_rfl) rfl rfl rfl rfl (by simp) rfl rfl ?_
   refine WA_sk 20 (by kernel_rfl) rfl rfl rfl rfl (by simp) rfl rfl ?_
   refine WA_sk 21 (by kernel_rfl) rfl rfl rfl rfl (by simp) rfl rfl ?_
   refine WA_sk 22 (by kernel_rfl) rfl rfl rfl rfl (by simp) rfl rfl ?_
   refine WA_tk 23 (by kernel_rfl) rfl rfl (fl_pick_f rfl rfl) ?_
   refine WL_pick_f rfl rfl rfl ?_
   refine WL_nil ?_
   refine WA_tk 24 (by kernel_rfl) rfl rfl (fl_move rfl) ?_
   refine WL_move rfl rfl ?_
   refine WL_nil ?_
   refine WA_sk 25 (by kernel_rfl) rfl rfl rfl rfl (by simp) rfl rfl ?_
   refine WA_sk 26 (by kernel_rfl) rfl rfl rfl rfl (by simp) rfl rfl ?_
   refine WA_sk 27 (by kernel_rfl) rfl rfl rfl rfl (by simp) rfl rfl ?_
   refine WA_tk 28 (by kernel_rfl) rfl rfl (fl_pick_f rfl rfl) ?_
   refine WL_pick_f rfl rfl rfl ?_
   refine WL_nil ?_
   refine WA_tk 29 (by kernel_rfl) rfl rfl (fl_assign rfl) ?_
   refine WL_assign rfl rfl ?_
   refine WL_nil ?_
   refine WA_done (by kernel_rfl) ?_
   have hq3 := Option.some.inj hr1
   subst hq3
   have hC10 := hC5.h0
   refine nrm_sub (l' := [(6, (.bool false))]) ⟨rfl, trivial⟩ ?_
   exact ⟨false, rfl, rfl, (((Keep.of hB3).then hB4).then hB5).below, hC10⟩
  replace hr1 := ite_f hr1 hc1
  refine WA_sk 4 (by kernel_rfl) rfl rfl rfl rfl (by simp) rfl rfl ?_
  refine WA_sk 5 (by kernel_rfl) rfl rfl rfl rfl (by simp) rfl rfl ?_
  refine WA_sk 6 (by kernel_rfl) rfl rfl rfl rfl (by simp) rfl rfl ?_
  refine WA_sk 7 (by kernel_rfl) rfl rfl rfl rfl (by simp) rfl rfl ?_
  refine WA_sk 8 (by kernel_rfl) rfl rfl rfl rfl (by simp) rfl rfl ?_
  refine WA_sk 9 (by kernel_rfl) rfl rfl rfl rfl (by simp) rfl rfl ?_
  refine WA_tk 10 (by kernel_rfl) rfl rfl (fl_pick_f rfl rfl) ?_
  refine WL_pick_f rfl rfl rfl ?_
  refine WL_nil ?_
  refine WA_tk 11 (by kernel_rfl) rfl rfl (fl_move rfl) ?_
  refine WL_move rfl rfl ?_
  refine WL_nil ?_
  refine WA_sk 12 (by kernel_rfl) rfl rfl rfl rfl (by simp) rfl rfl ?_
  refine WA_sk 13 (by kernel_rfl) rfl rfl rfl rfl (by simp) rfl rfl ?_
  refine WA_sk 14 (by kernel_rfl) rfl rfl rfl rfl (by simp) rfl rfl ?_
  refine WA_sk 15 (by kernel_rfl) rfl rfl rfl rfl (by simp) rfl rfl ?_
  refine WA_sk 16 (by kernel_rfl) rfl rfl rfl rfl (by simp) rfl rfl ?_
  refine WA_sk 17 (by kernel_rfl) rfl rfl rfl rfl (by simp) rfl rfl ?_
  refine WA_sk 18 (by kernel_rfl) rfl rfl rfl rfl (by simp) rfl rfl ?_
  refine WA_sk 19 (by kernel_rfl) rfl rfl rfl rfl (by simp) rfl rfl ?_
  refine WA_sk 20 (by kernel_rfl) rfl rfl rfl rfl (by simp) rfl rfl ?_
  refine WA_sk 21 (by kernel_rfl) rfl rfl rfl rfl (by simp) rfl rfl ?_
  refine WA_sk 22 (by kernel_rfl) rfl rfl rfl rfl (by simp) rfl rfl ?_
  refine WA_tk 23 (by kernel_rfl) rfl rfl (fl_pick_f rfl rfl) ?_
  refine WL_pick_f rfl rfl rfl ?_
  refine WL_nil ?_
  refine WA_tk 24 (by kernel_rfl) rfl rfl (fl_move rfl) ?_
  refine WL_move rfl rfl ?_
  refine WL_nil ?_
  refine WA_sk 25 (by kernel_rfl) rfl rfl rfl rfl (by simp) rfl rfl ?_
  refine WA_sk 26 (by kernel_rfl) rfl rfl rfl rfl (by simp) rfl rfl ?_
  refine WA_sk 27 (by kernel_rfl) rfl rfl rfl rfl (by simp) rfl rfl ?_
  refine WA_tk 28 (by kernel_rfl) rfl rfl (fl_pick_f rfl rfl) ?_
  refine WL_pick_f rfl rfl rfl ?_
  refine WL_nil ?_
  refine WA_tk 29 (by kernel_rfl) rfl rfl (fl_assign rfl) ?_
  refine WL_assign rfl rfl ?_
  refine WL_nil ?_
  refine WA_done (by kernel_rfl) ?_
  have hq4 := Option.some.inj hr1
  subst hq4
  have hC11 := hC4.h0
  refine nrm_sub (l' := [(6, (.bool false))]) ⟨rfl, trivial⟩ ?_
  exact ⟨false, rfl, rfl, ((Keep.of hB3).then hB4).below, hC11⟩
 rintro _ w2 ⟨x1, rfl, rfl, hB2, hC2⟩
 try dsimp only at hF
 refine W_ret ?_
 have hq5 := Option.some.inj hF
 subst hq5
 refine fn_ret1 rfl rfl ?_
 exact ⟨_, rfl, bool_res hC2 _⟩

theorem c_M_IsFact {w0 : World} (a1 : (List Int)) (u1 : Value) (g1 : RO [] w0 u1 a1) (a2 : (Int × (List Int))) (u2 : Value) (g2 : RO [] w0 u2 a2.2) (rr : Bool) (hF : M.IsFact a1 a2 = some rr) :
 Calls Tryz.prog 137 [u1, (.agg #[(.int .i64 a2.1), u2])].toArray w0 fun e w' => ∃ v, e = .returned v ∧ Res w0 rr v w' := by
 refine calls_of_W Tryz.func137 rfl rfl ?_
 have hC0 := Ctx.start w0
 unfold M.IsFact at hF
 refine W_seq_reg ?_
 refine WL_boxK (cs := [(.int .i64 a2.1), u2]) hC0 rfl rfl rfl (fun b1 w1 hC1 hB1 hN1 => ?_)
 refine WL_assign rfl rfl ?_
 refine WL_nil ?_
 obtain ⟨r1, hr1, hF⟩ := bind_some hF
 refine W_cut (fun l w => ∃ x1 : Bool, x1 = r1 ∧ l = [(4, (.bool x1))] ∧ Below w1.heap.size w1 w ∧ Ctx [] w0 w []) ?_ ?_
 ·refine W_drawn 21 rfl hmix (fun w3 hB3 => ?_)
  have hC3 := hC1.grow hB3
  refine WA_tk 0 (by kernel_rfl) rfl rfl (fl_move rfl) ?_
  refine WL_move rfl rfl ?_
  refine WL_nil ?_
  refine WA_tk 1 (by kernel_rfl) rfl rfl (fl_field Tryz.underlying88 rfl rfl (fun w => ⟨_, Tryz.sizeOf3 w⟩) rfl) ?_
  refine WL_field Tryz.underlying88 rfl rfl (fun w => ⟨_, Tryz.sizeOf3 w⟩) rfl rfl ?_
  refine WL_nil ?_
  refine WA_one 2 (by kernel_rfl) rfl ?_
  refine WL_load_box hC3 0 rfl rfl Tryz.isAgg3 rfl rfl ?_
  refine WL_nil ?_
  obtain ⟨x2, hr2, hr1⟩ := bind_some hr1
  refine WA_one 3 (by kernel_rfl) rfl ?_
  refine WL_call Tryz.call185 rfl rfl (c_M_hasRel a1 u1 (g1.now hC3.keep) a2.1 x2 hr2) ?_
  intro _ w4 hv1
  obtain ⟨rfl, hB4⟩ := res_bool hv1
  have hC4 := hC3.grow hB4
  refine WL_nil ?_
  refine WA_tk 4 (by kernel_rfl) rfl rfl (fl_move rfl) ?_
  refine WL_move rfl rfl ?_
  refine WL_nil ?_
  refine WA_fork (fun hc1 => ?_) (fun hc1 => ?_)
  ·replace hr1 := ite_t hr1 hc1
   refine WA_takeG 5 rfl (by kernel_rfl) (by kernel_rfl) (by kernel_rfl) rfl rfl rfl (fl_field Tryz.underlying88 rfl rfl (fun w => ⟨_, Tryz.sizeOf24 w⟩) rfl) ?_
   refine WL_guard rfl rfl ?_
   refine WL_field Tryz.underlying88 rfl rfl (fun w => ⟨_, Tryz.sizeOf24 w⟩) rfl rfl ?_
   refine WL_nil ?_
   refine WA_takeG 8 rfl (by kernel_rfl) (by kernel_rfl) (by kernel_rfl) rfl rfl rfl (fl_move rfl) ?_
   refine WL_guard rfl rfl ?_
   refine WL_move rfl rfl ?_
   refine WL_nil ?_
   refine WA_takeG 9 rfl (by kernel_rfl) (by kernel_rfl) (by kernel_rfl) rfl rfl rfl (fl_field Tryz.underlying88 rfl rfl (fun w => ⟨_, Tryz.sizeOf3 w⟩) rfl) ?_
   refine WL_guard rfl rfl ?_
   refine WL_field Tryz.underlying88 rfl rfl (fun w => ⟨_, Tryz.sizeOf3 w⟩) rfl rfl ?_
   refine WL_nil ?_
   obtain ⟨x3, hx1, hr1⟩ := bind_some hr1
   refine WA.sub (l' := [(0, u1), (1, (.agg #[(.int .i64 a2.1), u2])), (3, (ptr b1 0)), (4, (.bool false)), (5, u1), (6, (ptr b1 0)), (7, (.int .i64 a2.1)), (8, (.bool x2)), (9, (.bool true)), (10, (ptr b1 1)), (13, u1), (14, (ptr b1 0))]) ?_ ⟨rfl, rfl, rfl, rfl, rfl, rfl, rfl, rfl, rfl, rfl, rfl, rfl, trivial⟩
   refine WA_postsE [⟨6, [], fun vs => PW.val u2, []⟩, ⟨7, [], fun vs => PW.val (.int .i64 (List.length a2.2 : Int)), []⟩, ⟨10, [], fun vs => PW.val (.int .i64 a2.1), []⟩, ⟨11, [], fun vs => PW.at [] w0 x3, []⟩, ⟨12, [], fun vs => PW.val (.int .i64 x3), []⟩] [[], [6], [], [10], [11]] 8 rfl (by kernel_rfl) (by kernel_rfl) rfl ?_ ?_
   ·refine StepsE_cons rfl ?_ ?_
    ·intro w5 hB5
     refine DepsE_nil ?_
     refine ⟨_, rfl, ?_⟩
     refine WL_guard rfl rfl ?_
     refine WL_load_box (hC4.grow hB5) 0 rfl rfl Tryz.isAgg24 rfl rfl ?_
     refine WL_nil ?_
     exact FinE_val (Below.refl _ _) rfl rfl ⟨rfl, rfl⟩
    refine StepsE_cons rfl ?_ ?_
    ·intro w5 hB5
     refine DepsE_cons rfl rfl rfl ?_
     rintro _ _ ⟨rfl, rfl⟩ _
     refine DepsE_nil ?_
     refine ⟨_, rfl, ?_⟩
     refine WL_guard rfl rfl ?_
     refine WL_len Tryz.underlying24 g2 rfl rfl ?_
     refine WL_nil ?_
     exact FinE_val (Below.refl _ _) rfl rfl ⟨rfl, rfl⟩
    refine StepsE_cons rfl ?_ ?_
    ·intro w5 hB5
     refine DepsE_nil ?_
     refine ⟨_, rfl, ?_⟩
     refine WL_guard rfl rfl ?_
     refine WL_load_box (hC4.grow hB5) 0 rfl rfl Tryz.isAgg3 rfl rfl ?_
     refine WL_nil ?_
     exact FinE_val (Below.refl _ _) rfl rfl ⟨rfl, rfl⟩
    refine StepsE_cons rfl ?_ ?_
    ·intro w5 hB5
     refine DepsE_cons rfl rfl rfl ?_
     rintro _ _ ⟨rfl, rfl⟩ _
     refine DepsE_nil ?_
     refine ⟨_, rfl, ?_⟩
     refine WL_guard rfl rfl ?_
     refine WL_index Tryz.underlying24 ty3 g1 hx1 rfl rfl rfl (fun b2 o1 h1 => ?_)
     refine WL_nil ?_
     exact FinE_val (Below.refl _ _) rfl rfl ⟨rfl, _, _, rfl, h1⟩
    refine StepsE_cons rfl ?_ ?_
    ·intro w5 hB5
     refine DepsE_cons rfl rfl rfl ?_
     rintro _ _ ⟨rfl, b2, o1, rfl, h1⟩ _
     refine DepsE_nil ?_
     refine ⟨_, rfl, ?_⟩
     refine WL_guard rfl rfl ?_
     refine WL_load ty3 h1 (hC4.keep.then hB5) rfl rfl (fun v1 h2 => ?_)
     obtain rfl := ro_int h2
     refine WL_nil ?_
     exact FinE_val (Below.refl _ _) rfl rfl ⟨rfl, rfl⟩
    exact StepsE_nil
   intro w6 hB6
   refine AllE_cons rfl rfl rfl ?_
   rintro _ _ ⟨rfl, rfl⟩
   refine AllE_cons rfl rfl rfl ?_
   rintro _ _ ⟨rfl, rfl⟩
   refine AllE_cons rfl rfl rfl ?_
   rintro _ _ ⟨rfl, rfl⟩
   refine AllE_cons rfl rfl rfl ?_
   rintro _ _ ⟨rfl, b2, o1, rfl, h1⟩
   refine AllE_cons rfl rfl rfl ?_
   rintro _ _ ⟨rfl, rfl⟩
   refine AllE_nil ?_
   intro hn1 hb1
   have hC5 := hC4.grow hB6
   refine WA_takeG 13 rfl (by kernel_rfl) (by kernel_rfl) (by kernel_rfl) rfl rfl rfl (fl_eql rfl rfl) ?_
   refine WL_guard rfl rfl ?_
   refine WL_eql rfl rfl rfl ?_
   refine WL_nil ?_
   refine WA_tk 14 (by kernel_rfl) rfl rfl (fl_pick_t rfl rfl) ?_
   refine WL_pick_t rfl rfl rfl ?_
   refine WL_nil ?_
   refine WA_tk 15 (by kernel_rfl) rfl rfl (fl_move rfl) ?_
   refine WL_move rfl rfl ?_
   refine WL_nil ?_
   refine WA_fork (fun hc2 => ?_) (fun hc2 => ?_)
   ·replace hr1 := ite_t hr1 hc2
    refine WA_takeG 16 rfl (by kernel_rfl) (by kernel_rfl) (by kernel_rfl) rfl rfl rfl (fl_field Tryz.underlying88 rfl rfl (fun w => ⟨_, Tryz.sizeOf24 w⟩) rfl) ?_
    refine WL_guard rfl rfl ?_
    refine WL_field Tryz.underlying88 rfl rfl (fun w => ⟨_, Tryz.sizeOf24 w⟩) rfl rfl ?_
    refine WL_nil ?_
    refine WA_one 17 (by kernel_rfl) rfl ?_
    refine WL_guard rfl rfl ?_
    refine WL_load_box hC5 0 rfl rfl Tryz.isAgg24 rfl rfl ?_
    refine WL_nil ?_
    obtain ⟨x4, hr3, hr1⟩ := bind_some hr1
    refine WA_one 18 (by kernel_rfl) rfl ?_
    refine WL_guard rfl rfl ?_
    refine WL_call Tryz.call148 rfl rfl (c_M_areValues a2.2 u2 (g2.now hC5.keep) x4 hr3) ?_
    intro _ w7 hv2
    obtain ⟨rfl, hB7⟩ := res_bool hv2
    have hC6 := hC5.grow hB7
    refine WL_nil ?_
    refine WA_tk 19 (by kernel_rfl) rfl rfl (fl_pick_t rfl rfl) ?_
    refine WL_pick_t rfl rfl rfl ?_
    refine WL_nil ?_
    refine WA_tk 20 (by kernel_rfl) rfl rfl (fl_assign rfl) ?_
    refine WL_assign rfl rfl ?_
    refine WL_nil ?_
    refine WA_done (by kernel_rfl) ?_
    have hq1 := Option.some.inj hr1
    subst hq1
    have hC7 := hC6.h0
    refine nrm_sub (l' := [(4, (.bool x4))]) ⟨rfl, trivial⟩ ?_
    exact ⟨x4, rfl, rfl, ((((Keep.of hB3).then hB4).then hB6).then hB7).below, hC7⟩
   replace hr1 := ite_f hr1 hc2
   refine WA_sk 16 (by kernel_rfl) rfl rfl rfl rfl (by simp) rfl rfl ?_
   refine WA_sk 17 (by kernel_rfl) rfl rfl rfl rfl (by simp) rfl rfl ?_
   refine WA_sk 18 (by kernel_rfl) rfl rfl rfl rfl (by simp) rfl rfl ?_
   refine WA_tk 19 (by kernel_rfl) rfl rfl (fl_pick_f rfl rfl) ?_
   refine WL_pick_f rfl rfl rfl ?_
   refine WL_nil ?_
   refine WA_tk 20 (by kernel_rfl) rfl rfl (fl_assign rfl) ?_
   refine WL_assign rfl rfl ?_
   refine WL_nil ?_
   refine WA_done (by kernel_rfl) ?_
   have hq2 := Option.some.inj hr1
   subst hq2
   have hC8 := hC5.h0
   refine nrm_sub (l' := [(4, (.bool false))]) ⟨rfl, trivial⟩ ?_
   exact ⟨false, rfl, rfl, (((Keep.of hB3).then hB4).then hB6).below, hC8⟩
  replace hr1 := ite_f hr1 hc1
  refine WA_sk 5 (by kernel_rfl) rfl rfl rfl rfl (by simp) rfl rfl ?_
  refine WA_sk 6 (by kernel_rfl) rfl rfl rfl rfl (by simp) rfl rfl ?_
  refine WA_sk 7 (by kernel_rfl) rfl rfl rfl rfl (by simp) rfl rfl ?_
  refine WA_sk 8 (by kernel_rfl) rfl rfl rfl rfl (by simp) rfl rfl ?_
  refine WA_sk 9 (by kernel_rfl) rfl rfl rfl rfl (by simp) rfl rfl ?_
  refine WA_sk 10 (by kernel_rfl) rfl rfl rfl rfl (by simp) rfl rfl ?_
  refine WA_sk 11 (by kernel_rfl) rfl rfl rfl rfl (by simp) rfl rfl ?_
  refine WA_sk 12 (by kernel_rfl) rfl rfl rfl rfl (by simp) rfl rfl ?_
  refine WA_sk 13 (by kernel_rfl) rfl rfl rfl rfl (by simp) rfl rfl ?_
  refine WA_tk 14 (by kernel_rfl) rfl rfl (fl_pick_f rfl rfl) ?_
  refine WL_pick_f rfl rfl rfl ?_
  refine WL_nil ?_
  refine WA_tk 15 (by kernel_rfl) rfl rfl (fl_move rfl) ?_
  refine WL_move rfl rfl ?_
  refine WL_nil ?_
  refine WA_sk 16 (by kernel_rfl) rfl rfl rfl rfl (by simp) rfl rfl ?_
  refine WA_sk 17 (by kernel_rfl) rfl rfl rfl rfl (by simp) rfl rfl ?_
  refine WA_sk 18 (by kernel_rfl) rfl rfl rfl rfl (by simp) rfl rfl ?_
  refine WA_tk 19 (by kernel_rfl) rfl rfl (fl_pick_f rfl rfl) ?_
  refine WL_pick_f rfl rfl rfl ?_
  refine WL_nil ?_
  refine WA_tk 20 (by kernel_rfl) rfl rfl (fl_assign rfl) ?_
  refine WL_assign rfl rfl ?_
  refine WL_nil ?_
  refine WA_done (by kernel_rfl) ?_
  have hq3 := Option.some.inj hr1
  subst hq3
  have hC9 := hC4.h0
  refine nrm_sub (l' := [(4, (.bool false))]) ⟨rfl, trivial⟩ ?_
  exact ⟨false, rfl, rfl, ((Keep.of hB3).then hB4).below, hC9⟩
 rintro _ w2 ⟨x1, rfl, rfl, hB2, hC2⟩
 try dsimp only at hF
 refine W_ret ?_
 have hq4 := Option.some.inj hF
 subst hq4
 refine fn_ret1 rfl rfl ?_
 exact ⟨_, rfl, bool_res hC2 _⟩

theorem c_M_AreFacts {w0 : World} (a1 : (List Int)) (u1 : Value) (g1 : RO [] w0 u1 a1) (a2 : (List (Int × (List Int)))) (u2 : Value) (g2 : RO [] w0 u2 a2) (rr : Bool) (hF : M.AreFacts a1 a2 = some rr) :
 Calls Tryz.prog 99 [u1, u2].toArray w0 fun e w' => ∃ v, e = .returned v ∧ Res w0 rr v w' := by
 refine calls_of_W Tryz.func99 rfl rfl ?_
 have hC0 := Ctx.start w0
 unfold M.AreFacts at hF
 refine W_seq_reg ?_
 refine WL_assign rfl rfl ?_
 refine WL_nil (W_seq (W_seq_reg ?_))
 refine WL_move rfl rfl ?_
 refine WL_len Tryz.underlying31 g2 rfl rfl ?_
 refine WL_move rfl rfl ?_
 refine WL_nil ?_
 obtain ⟨r1, hr1, hF⟩ := bind_some hF
 refine W_norm (fun l w => .inl () = r1 ∧ l = [(0, u1), (1, u2)] ∧ Ctx [] w0 w []) ?_ ?_
 ·refine W_block ?_
  refine W.sub (l' := [(0, u1), (1, u2), (7, u2), (8, (.int .i64 (List.length a2 : Int))), (9, (.int .i64 0))]) ?_ ⟨rfl, rfl, rfl, rfl, rfl, trivial⟩
  refine W_loop (fun k l w => ∃ x1 : Int, l = [(0, u1), (1, u2), (7, u2), (8, (.int .i64 (List.length a2 : Int))), (9, (.int .i64 x1))] ∧ Ctx [] w0 w [] ∧ M.AreFacts_l1 a2 a1 k x1 = some r1) FUEL ⟨0, rfl, hC0, hr1⟩ ?_
  clear hr1
  rintro k1 _ w1 ⟨x1, rfl, hC1, hL1⟩
  cases k1 with
  | zero => rw [M.AreFacts_l1] at hL1; cases hL1
  | succ k1 =>
   rw [M.AreFacts_l1] at hL1
   refine W_seq_reg ?_
   refine WL_lss rfl rfl rfl ?_
   refine WL_nil (W_seq ?_)
   refine W_cond rfl (fun hc1 => ?_) (fun hc1 => ?_)
   ·replace hL1 := ite_t hL1 hc1
    refine W_skip (nrm_normal (W_seq (W_block (W_seq_reg ?_))))
    refine WL_move rfl rfl ?_
    obtain ⟨x2, hx1, hL1⟩ := bind_some hL1
    refine WL_index Tryz.underlying31 ty88 g2 hx1 rfl rfl rfl (fun b1 o1 h1 => ?_)
    refine WL_load ty88 h1 hC1.keep rfl rfl (fun v1 h2 => ?_)
    obtain ⟨v2, rfl, h3⟩ := ro_st88 h2
    refine WL_allocK hC1 zero88 rfl rfl (fun b2 w2 hC2 hB2 hN1 => ?_)
    refine WL_assign rfl rfl ?_
    refine WL_store_box_aggK (cs' := [(.int .i64 x2.1), v2]) (new := [(.int .i64 x2.1), v2]) hC2 0 rfl rfl (by intro v hv; simp only [List.mem_cons, List.not_mem_nil, or_false] at hv; rcases hv with rfl | rfl; exact rfl; exact (ro_one h3)) rfl Tryz.sizeOf88 rfl rfl (fun w3 hC3 hKp1 => ?_)
    try dsimp only [List.set] at hC3
    have hk1 := Keep.over (Keep.of hB2) hN1 hKp1
    refine WL_nil ?_
    obtain ⟨r2, hr2, hL1⟩ := bind_some hL1
    refine W_cut (fun l w => ∃ x3 : Bool, x3 = r2 ∧ l = [(0, u1), (1, u2), (7, u2), (8, (.int .i64 (List.length a2 : Int))), (9, (.int .i64 x1)), (31, (.bool x3))] ∧ Below w3.heap.size w3 w ∧ Ctx [] w0 w []) ?_ ?_
    ·refine W_drawn 18 rfl hmix (fun w5 hB4 => ?_)
     have hC5 := hC3.grow hB4
     refine WA_tk 0 (by kernel_rfl) rfl rfl (fl_move rfl) ?_
     refine WL_move rfl rfl ?_
     refine WL_nil ?_
     refine WA_one 1 (by kernel_rfl) rfl ?_
     refine WL_load_box_agg [(.int .i64 x2.1), v2] hC5 0 rfl rfl rfl Tryz.isAgg88 Tryz.sizeOf88 rfl rfl ?_
     refine WL_nil ?_
     obtain ⟨x4, hr3, hr2⟩ := bind_some hr2
     refine WA_one 2 (by kernel_rfl) rfl ?_
     refine WL_call Tryz.call137 rfl rfl (c_M_IsFact a1 u1 (g1.now hC5.keep) (x2.1, x2.2) v2 (h3.now hC5.keep) x4 hr3) ?_
     intro _ w6 hv1
     obtain ⟨rfl, hB5⟩ := res_bool hv1
     have hC6 := hC5.grow hB5
     refine WL_nil ?_
     refine WA_tk 3 (by kernel_rfl) rfl rfl (fl_not rfl) ?_
     refine WL_not rfl rfl ?_
     refine WL_nil ?_
     refine WA_tk 4 (by kernel_rfl) rfl rfl (fl_move rfl) ?_
     refine WL_move rfl rfl ?_
     refine WL_nil ?_
     refine WA_fork (fun hc2 => ?_) (fun hc2 => ?_)
     ·replace hr2 := ite_t hr2 hc2
      refine WA_sk 5 (by kernel_rfl) rfl rfl rfl rfl (by simp) rfl rfl ?_
      refine WA_sk 6 (by kernel_rfl) rfl rfl rfl rfl (by simp) rfl rfl ?_
      refine WA_sk 7 (by kernel_rfl) rfl rfl rfl rfl (by simp) rfl rfl ?_
      refine WA_sk 8 (by kernel_rfl) rfl rfl rfl rfl (by simp [undef]) rfl rfl ?_
      refine WA_sk 9 (by kernel_rfl) rfl rfl rfl rfl (by simp [undef]) rfl rfl ?_
      refine WA_sk 10 (by kernel_rfl) rfl rfl rfl rfl (by simp [undef]) rfl rfl ?_
      refine WA_sk 11 (by kernel_rfl) rfl rfl rfl rfl (by simp [undef]) rfl rfl ?_
      refine WA_sk 12 (by kernel_rfl) rfl rfl rfl rfl (by simp [undef]) rfl rfl ?_
      refine WA_sk 13 (by kernel_rfl) rfl rfl rfl rfl (by simp [undef]) rfl rfl ?_
      refine WA_sk 14 (by kernel_rfl) rfl rfl rfl rfl (by simp [undef]) rfl rfl ?_
      refine WA_sk 15 (by kernel_rfl) rfl rfl rfl rfl (by simp [undef]) rfl rfl ?_
      refine WA_sk 16 (by kernel_rfl) rfl rfl rfl rfl (by simp) rfl rfl ?_
      refine WA_tk 17 (by kernel_rfl) rfl rfl (fl_pick_t rfl rfl) ?_
      refine WL_pick_t rfl rfl rfl ?_
      refine WL_nil ?_
      refine WA_done (by kernel_rfl) ?_
      have hq1 := Option.some.inj hr2
      subst hq1
      have hC7 := hC6.h0
      refine nrm_sub (l' := [(0, u1), (1, u2), (7, u2), (8, (.int .i64 (List.length a2 : Int))), (9, (.int .i64 x1)), (31, (.bool true))]) ⟨rfl, rfl, rfl, rfl, rfl, rfl, trivial⟩ ?_
      exact ⟨true, rfl, rfl, ((Keep.of hB4).then hB5).below, hC7⟩
     replace hr2 := ite_f hr2 hc2
     refine WA_takeG 5 rfl (by kernel_rfl) (by kernel_rfl) (by kernel_rfl) rfl rfl rfl (fl_move rfl) ?_
     refine WL_guard rfl rfl ?_
     refine WL_move rfl rfl ?_
     refine WL_nil ?_
     refine WA_takeG 6 rfl (by kernel_rfl) (by kernel_rfl) (by kernel_rfl) rfl rfl rfl (fl_gtr rfl rfl) ?_
     refine WL_guard rfl rfl ?_
     refine WL_gtr rfl rfl rfl ?_
     refine WL_nil ?_
     refine WA_takeG 7 rfl (by kernel_rfl) (by kernel_rfl) (by kernel_rfl) rfl rfl rfl (fl_move rfl) ?_
     refine WL_guard rfl rfl ?_
     refine WL_move rfl rfl ?_
     refine WL_nil ?_
     refine WA_fork (fun hc3 => ?_) (fun hc3 => ?_)
     ·replace hr2 := ite_t hr2 hc3
      refine WA_takeG 8 rfl (by kernel_rfl) (by kernel_rfl) (by kernel_rfl) rfl rfl rfl (fl_move rfl) ?_
      refine WL_guard rfl rfl ?_
      refine WL_move rfl rfl ?_
      refine WL_nil ?_
      refine WA_takeG 9 rfl (by kernel_rfl) (by kernel_rfl) (by kernel_rfl) rfl rfl rfl (fl_move rfl) ?_
      refine WL_guard rfl rfl ?_
      refine WL_move rfl rfl ?_
      refine WL_nil ?_
      refine WA_takeG 10 rfl (by kernel_rfl) (by kernel_rfl) (by kernel_rfl) rfl rfl rfl (fl_sub rfl rfl) ?_
      refine WL_guard rfl rfl ?_
      refine WL_sub rfl rfl rfl ?_
      refine WL_nil ?_
      obtain ⟨x5, hx2, hr2⟩ := bind_some hr2
      refine WA_takeG 11 rfl (by kernel_rfl) (by kernel_rfl) (by kernel_rfl) rfl rfl rfl (fl_index Tryz.underlying31 ty88 g2 hx2 rfl rfl) ?_
      refine WL_guard rfl rfl ?_
      refine WL_index Tryz.underlying31 ty88 g2 hx2 rfl rfl rfl (fun b3 o2 h4 => ?_)
      refine WL_nil ?_
      refine WA.sub (l' := [(0, u1), (1, u2), (5, (.int .i64 x1)), (6, (ptr b2 0)), (7, u2), (8, (.int .i64 (List.length a2 : Int))), (9, (.int .i64 x1)), (10, (.bool (decide (x1 < (List.length a2 : Int))))), (11, (.int .i64 x1)), (12, (ptr b1 o1)), (13, (.agg #[(.int .i64 x2.1), v2])), (14, u1), (15, (.agg #[(.int .i64 x2.1), v2])), (16, (.bool x4)), (17, (.bool (!x4))), (18, (.bool false)), (19, (.int .i64 x1)), (20, (.bool (decide (0 < x1)))), (21, (.bool true)), (22, u2), (23, (.int .i64 x1)), (24, (.int .i64 (w64 (x1 - 1)))), (25, (ptr b3 o2))]) ?_ ⟨rfl, rfl, rfl, rfl, rfl, rfl, rfl, rfl, rfl, rfl, rfl, rfl, rfl, rfl, rfl, rfl, rfl, rfl, rfl, rfl, rfl, rfl, rfl, trivial⟩
      refine WA_postsE [⟨12, [], fun vs => PW.ro [] w0 x5, []⟩, ⟨13, [], fun vs => PW.val (.agg #[(.int .i64 x2.1), v2]), []⟩] [[], []] 4 rfl (by kernel_rfl) (by kernel_rfl) rfl ?_ ?_
      ·refine StepsE_cons rfl ?_ ?_
       ·intro w7 hB6
        refine DepsE_nil ?_
        refine ⟨_, rfl, ?_⟩
        refine WL_guard rfl rfl ?_
        refine WL_load ty88 h4 (hC6.keep.then hB6) rfl rfl (fun v5 h7 => ?_)
        refine WL_nil ?_
        exact FinE_val (Below.refl _ _) rfl rfl ⟨rfl, h7⟩
       refine StepsE_cons rfl ?_ ?_
       ·intro w7 hB6
        refine DepsE_nil ?_
        refine ⟨_, rfl, ?_⟩
        refine WL_guard rfl rfl ?_
        refine WL_load_box_agg [(.int .i64 x2.1), v2] (hC6.grow hB6) 0 rfl rfl rfl Tryz.isAgg88 Tryz.sizeOf88 rfl rfl ?_
        refine WL_nil ?_
        exact FinE_val (Below.refl _ _) rfl rfl ⟨rfl, rfl⟩
       exact StepsE_nil
      intro w9 hB7
      refine AllE_cons rfl rfl rfl ?_
      rintro v5 _ ⟨rfl, h7⟩
      obtain ⟨v4, rfl, h6⟩ := ro_st88 h7
      refine AllE_cons rfl rfl rfl ?_
      rintro _ _ ⟨rfl, rfl⟩
      refine AllE_nil ?_
      intro hn1 hb1
      have hC8 := hC6.grow hB7
      obtain ⟨x6, hr4, hr2⟩ := bind_some hr2
      refine WA_one 14 (by kernel_rfl) rfl ?_
      refine WL_guard rfl rfl ?_
      refine WL_call Tryz.call128 rfl rfl (c_M_CompareFacts x5 v4 (h6.now hC8.keep) (x2.1, x2.2) v2 (h3.now hC8.keep) x6 hr4) ?_
      intro _ w10 hv2
      obtain ⟨rfl, hB8⟩ := res_int hv2
      have hC9 := hC8.grow hB8
      refine WL_nil ?_
      refine WA_takeG 15 rfl (by kernel_rfl) (by kernel_rfl) (by kernel_rfl) rfl rfl rfl (fl_geq rfl rfl) ?_
      refine WL_guard rfl rfl ?_
      refine WL_geq rfl rfl rfl ?_
      refine WL_nil ?_
      refine WA_takeG 16 rfl (by kernel_rfl) (by kernel_rfl) (by kernel_rfl) rfl rfl rfl (fl_pick_t rfl rfl) ?_
      refine WL_guard rfl rfl ?_
      refine WL_pick_t rfl rfl rfl ?_
      refine WL_nil ?_
      refine WA_tk 17 (by kernel_rfl) rfl rfl (fl_pick_f rfl rfl) ?_
      refine WL_pick_f rfl rfl rfl ?_
      refine WL_nil ?_
      refine WA_done (by kernel_rfl) ?_
      have hq2 := Option.some.inj hr2
      subst hq2
      have hC10 := hC9.h0
      refine nrm_sub (l' := [(0, u1), (1, u2), (7, u2), (8, (.int .i64 (List.length a2 : Int))), (9, (.int .i64 x1)), (31, (.bool (decide (0 ≤ x6))))]) ⟨rfl, rfl, rfl, rfl, rfl, rfl, trivial⟩ ?_
      exact ⟨(decide (0 ≤ x6)), rfl, rfl, ((((Keep.of hB4).then hB5).then hB7).then hB8).below, hC10⟩
     replace hr2 := ite_f hr2 hc3
     refine WA_sk 8 (by kernel_rfl) rfl rfl rfl rfl (by simp) rfl rfl ?_
     refine WA_sk 9 (by kernel_rfl) rfl rfl rfl rfl (by simp) rfl rfl ?_
     refine WA_sk 10 (by kernel_rfl) rfl rfl rfl rfl (by simp) rfl rfl ?_
     refine WA_sk 11 (by kernel_rfl) rfl rfl rfl rfl (by simp) rfl rfl ?_
     refine WA_sk 12 (by kernel_rfl) rfl rfl rfl rfl (by simp) rfl rfl ?_
     refine WA_sk 13 (by kernel_rfl) rfl rfl rfl rfl (by simp) rfl rfl ?_
     refine WA_sk 14 (by kernel_rfl) rfl rfl rfl rfl (by simp) rfl rfl ?_
     refine WA_sk 15 (by kernel_rfl) rfl rfl rfl rfl (by simp) rfl rfl ?_
     refine WA_takeG 16 rfl (by kernel_rfl) (by kernel_rfl) (by kernel_rfl) rfl rfl rfl (fl_pick_f rfl rfl) ?_
     refine WL_guard rfl rfl ?_
     refine WL_pick_f rfl rfl rfl ?_
     refine WL_nil ?_
     refine WA_tk 17 (by kernel_rfl) rfl rfl (fl_pick_f rfl rfl) ?_
     refine WL_pick_f rfl rfl rfl ?_
     refine WL_nil ?_
     refine WA_done (by kernel_rfl) ?_
     have hq3 := Option.some.inj hr2
     subst hq3
     have hC11 := hC6.h0
     refine nrm_sub (l' := [(0, u1), (1, u2), (7, u2), (8, (.int .i64 (List.length a2 : Int))), (9, (.int .i64 x1)), (31, (.bool false))]) ⟨rfl, rfl, rfl, rfl, rfl, rfl, trivial⟩ ?_
     exact ⟨false, rfl, rfl, ((Keep.of hB4).then hB5).below, hC11⟩
    rintro _ w4 ⟨x3, rfl, rfl, hB3, hC4⟩
    try dsimp only at hL1
    refine W_cond rfl (fun hc4 => ?_) (fun hc4 => ?_)
    ·replace hL1 := ite_t hL1 hc4
     refine W_seq_reg ?_
     refine WL_assign rfl rfl ?_
     refine WL_nil (W_ret (blk_ret (nrm_ret (nrm_ret (blk_ret (nrm_ret (nrm_ret ?_)))))))
     have hq4 := Option.some.inj hL1
     subst hq4
     dsimp only at hF
     have hq5 := Option.some.inj hF
     subst hq5
     refine fn_ret1 rfl rfl ?_
     exact ⟨_, rfl, bool_res hC4 _⟩
    replace hL1 := ite_f hL1 hc4
    refine W_skip (blk_normal (nrm_normal (W_reg ?_)))
    refine WL_add rfl rfl rfl ?_
    refine WL_move rfl rfl ?_
    refine WL_nil ?_
    refine nrm_sub (l' := [(0, u1), (1, u2), (7, u2), (8, (.int .i64 (List.length a2 : Int))), (9, (.int .i64 (w64 (x1 + 1))))]) ⟨rfl, rfl, rfl, rfl, rfl, trivial⟩ ?_
    exact ⟨k1, Nat.lt_succ_self _, w64 (x1 + 1), rfl, hC4, hL1⟩
   replace hL1 := ite_f hL1 hc1
   refine W_exit (nrm_exit (nrm_exit (blk_exit ?_)))
   have hq6 := Option.some.inj hL1
   subst hq6
   refine nrm_sub (l' := [(0, u1), (1, u2)]) ⟨rfl, rfl, trivial⟩ ?_
   exact ⟨rfl, rfl, hC1⟩
 rintro l3 _ w11 hs3 ⟨rfl, rfl, hC12⟩
 try dsimp only at hF
 refine nrm_sub' hs3 ?_
 clear hs3
 obtain ⟨r3, hr5, hF⟩ := bind_some hF
 refine W_cut (fun l w => ∃ x7 : Bool, x7 = r3 ∧ l = [(4, (.bool x7))] ∧ Below w11.heap.size w11 w ∧ Ctx [] w0 w []) ?_ ?_
 ·refine W_reg ?_
  refine WL_move rfl rfl ?_
  obtain ⟨x8, hr6, hr5⟩ := bind_some hr5
  refine WL_call Tryz.call132 rfl rfl (c_M_IsSchema a1 u1 (g1.now hC12.keep) x8 hr6) ?_
  intro _ w13 hv3
  obtain ⟨rfl, hB11⟩ := res_bool hv3
  have hC14 := hC12.grow hB11
  refine WL_move rfl rfl ?_
  refine WL_fork (fun hc5 => ?_) (fun hc5 => ?_)
  ·replace hr5 := ite_t hr5 hc5
   refine WL_guard rfl rfl ?_
   refine WL_move rfl rfl ?_
   refine WL_guard rfl rfl ?_
   refine WL_len Tryz.underlying31 g2 rfl rfl ?_
   refine WL_guard rfl rfl ?_
   refine WL_leq rfl rfl rfl ?_
   refine WL_pick_t rfl rfl rfl ?_
   refine WL_assign rfl rfl ?_
   refine WL_nil ?_
   have hq7 := Option.some.inj hr5
   subst hq7
   refine nrm_sub (l' := [(4, (.bool (decide ((List.length a2 : Int) ≤ 24))))]) ⟨rfl, trivial⟩ ?_
   exact ⟨(decide ((List.length a2 : Int) ≤ 24)), rfl, rfl, (Keep.of hB11).below, hC14⟩
  replace hr5 := ite_f hr5 hc5
  refine WL_guard_skip rfl rfl (by simp) rfl ?_
  refine WL_guard_skip rfl rfl (by simp) rfl ?_
  refine WL_guard_skip rfl rfl (by simp) rfl ?_
  refine WL_pick_f rfl rfl rfl ?_
  refine WL_assign rfl rfl ?_
  refine WL_nil ?_
  have hq8 := Option.some.inj hr5
  subst hq8
  refine nrm_sub (l' := [(4, (.bool false))]) ⟨rfl, trivial⟩ ?_
  exact ⟨false, rfl, rfl, (Keep.of hB11).below, hC14⟩
 rintro _ w12 ⟨x7, rfl, rfl, hB10, hC13⟩
 try dsimp only at hF
 refine W_ret ?_
 have hq9 := Option.some.inj hF
 subst hq9
 refine fn_ret1 rfl rfl ?_
 exact ⟨_, rfl, bool_res hC13 _⟩

theorem c_M_IsTold {w0 : World} (a1 : (List Int)) (u1 : Value) (g1 : RO [] w0 u1 a1) (a2 : (List (Int × (List Int) × Int × Int × Int))) (u2 : Value) (g2 : RO [] w0 u2 a2) (a3 : ((Int × (List Int)) × (List (Int × (List Int))))) (u3 : Value) (g3 : RO [] w0 u3 a3.1.2) (u4 : Value) (g4 : RO [] w0 u4 a3.2) (rr : Bool) (hF : M.IsTold a1 a2 a3 = some rr) :
 Calls Tryz.prog 31 [u1, u2, (.agg #[(.int .i64 a3.1.1), u3, u4])].toArray w0 fun e w' => ∃ v, e = .returned v ∧ Res w0 rr v w' := by
 refine calls_of_W Tryz.func31 rfl rfl ?_
 have hC0 := Ctx.start w0
 unfold M.IsTold at hF
 refine W_seq_reg ?_
 refine WL_boxK (cs := [(.int .i64 a3.1.1), u3, u4]) hC0 rfl rfl rfl (fun b1 w1 hC1 hB1 hN1 => ?_)
 refine WL_assign rfl rfl ?_
 refine WL_nil ?_
 obtain ⟨r1, hr1, hF⟩ := bind_some hF
 refine W_cut (fun l w => ∃ x1 : Bool, x1 = r1 ∧ l = [(6, (.bool x1))] ∧ Below w1.heap.size w1 w ∧ Ctx [] w0 w []) ?_ ?_
 ·refine W_reg ?_
  refine WL_move rfl rfl ?_
  refine WL_move rfl rfl ?_
  refine WL_field Tryz.underlying46 rfl rfl (fun w => ⟨_, Tryz.sizeOf44 w⟩) rfl rfl ?_
  refine WL_load_box_agg [(.int .i64 a3.1.1), u3] hC1 0 rfl rfl rfl Tryz.isAgg44 Tryz.sizeOf44 rfl rfl ?_
  obtain ⟨x2, hr2, hr1⟩ := bind_some hr1
  refine WL_call Tryz.call98 rfl rfl (c_M_IsAccess a1 u1 (g1.now hC1.keep) a2 u2 (g2.now hC1.keep) (a3.1.1, a3.1.2) u3 (g3.now hC1.keep) x2 hr2) ?_
  intro _ w3 hv1
  obtain ⟨rfl, hB3⟩ := res_bool hv1
  have hC3 := hC1.grow hB3
  refine WL_move rfl rfl ?_
  refine WL_fork (fun hc1 => ?_) (fun hc1 => ?_)
  ·replace hr1 := ite_t hr1 hc1
   refine WL_guard rfl rfl ?_
   refine WL_move rfl rfl ?_
   refine WL_guard rfl rfl ?_
   refine WL_field Tryz.underlying46 rfl rfl (fun w => ⟨_, Tryz.sizeOf31 w⟩) rfl rfl ?_
   refine WL_guard rfl rfl ?_
   refine WL_load_box hC3 0 rfl rfl Tryz.isAgg31 rfl rfl ?_
   obtain ⟨x3, hr3, hr1⟩ := bind_some hr1
   refine WL_guard rfl rfl ?_
   refine WL_call Tryz.call99 rfl rfl (c_M_AreFacts a1 u1 (g1.now hC3.keep) a3.2 u4 (g4.now hC3.keep) x3 hr3) ?_
   intro _ w4 hv2
   obtain ⟨rfl, hB4⟩ := res_bool hv2
   have hC4 := hC3.grow hB4
   refine WL_pick_t rfl rfl rfl ?_
   refine WL_assign rfl rfl ?_
   refine WL_nil ?_
   have hq1 := Option.some.inj hr1
   subst hq1
   have hC5 := hC4.h0
   refine nrm_sub (l' := [(6, (.bool x3))]) ⟨rfl, trivial⟩ ?_
   exact ⟨x3, rfl, rfl, ((Keep.of hB3).then hB4).below, hC5⟩
  replace hr1 := ite_f hr1 hc1
  refine WL_guard_skip rfl rfl (by simp) rfl ?_
  refine WL_guard_skip rfl rfl (by simp) rfl ?_
  refine WL_guard_skip rfl rfl (by simp) rfl ?_
  refine WL_guard_skip rfl rfl (by simp) rfl ?_
  refine WL_pick_f rfl rfl rfl ?_
  refine WL_assign rfl rfl ?_
  refine WL_nil ?_
  have hq2 := Option.some.inj hr1
  subst hq2
  have hC6 := hC3.h0
  refine nrm_sub (l' := [(6, (.bool false))]) ⟨rfl, trivial⟩ ?_
  exact ⟨false, rfl, rfl, (Keep.of hB3).below, hC6⟩
 rintro _ w2 ⟨x1, rfl, rfl, hB2, hC2⟩
 try dsimp only at hF
 refine W_ret ?_
 have hq3 := Option.some.inj hF
 subst hq3
 refine fn_ret1 rfl rfl ?_
 exact ⟨_, rfl, bool_res hC2 _⟩

theorem c_M_copyFacts {w0 : World} (a1 : (List (Int × (List Int)))) (u1 : Value) (g1 : RO [] w0 u1 a1) (rr : (List (Int × (List Int)))) (hF : M.copyFacts a1 = some rr) :
 Calls Tryz.prog 145 [u1].toArray w0 fun e w' => ∃ v, e = .returned v ∧ Res w0 rr v w' := by
 refine calls_of_W Tryz.func145 rfl rfl ?_
 have hC0 := Ctx.start w0
 unfold M.copyFacts at hF
 refine W_seq_reg ?_
 refine WL_assign rfl rfl ?_
 refine WL_nil (W_seq_reg ?_)
 refine WL_buildSlice (vs := []) hC0 Tryz.underlying31 ty88 rfl rfl rfl rfl (by simp) rfl rfl (fun b1 w1 hC1 hB1 => ?_)
 have hC2 := hC1.row0 (α := (Int × (List Int)))
 have hC3 := hC2.front 1 rfl
 dsimp only [List.eraseIdx, List.cons_append, List.nil_append, List.append_nil] at hC3
 have hC4 : Ctx [] w0 w1 (Item.own (.slice (some ⟨b1, 0, none⟩) 0 0) (([] : List (Int × (List Int))) : List (Int × (List Int))) :: []) := hC3.rowOwn (by simp [maxLen])
 refine WL_assign rfl rfl ?_
 refine WL_nil (W_seq (W_seq_reg ?_))
 refine WL_move rfl rfl ?_
 refine WL_len Tryz.underlying31 g1 rfl rfl ?_
 refine WL_move rfl rfl ?_
 refine WL_nil ?_
 obtain ⟨r1, hr1, hF⟩ := bind_some hF
 refine W_norm (fun l w => ∃ v2 : Value, ∃ x3 : (List (Int × (List Int))), x3 = r1 ∧ l = [(3, v2)] ∧ Ctx [] w0 w [Item.own v2 (x3 : (List (Int × (List Int))))]) ?_ ?_
 ·refine W_block ?_
  refine W.sub (l' := [(3, (.slice (some ⟨b1, 0, none⟩) 0 0)), (7, u1), (8, (.int .i64 (List.length a1 : Int))), (9, (.int .i64 0))]) ?_ ⟨rfl, rfl, rfl, rfl, trivial⟩
  refine W_loop (fun k l w => ∃ v1 : Value, ∃ x1 : (List (Int × (List Int))), ∃ x2 : Int, l = [(3, v1), (7, u1), (8, (.int .i64 (List.length a1 : Int))), (9, (.int .i64 x2))] ∧ Ctx [] w0 w [Item.own v1 (x1 : (List (Int × (List Int))))] ∧ M.copyFacts_l1 a1 k x1 x2 = some r1) FUEL ⟨(.slice (some ⟨b1, 0, none⟩) 0 0), ([] : List (Int × (List Int))), 0, rfl, hC4, hr1⟩ ?_
  clear hr1
  rintro k1 _ w2 ⟨v1, x1, x2, rfl, hC5, hL1⟩
  cases k1 with
  | zero => rw [M.copyFacts_l1] at hL1; cases hL1
  | succ k1 =>
   rw [M.copyFacts_l1] at hL1
   refine W_seq_reg ?_
   refine WL_lss rfl rfl rfl ?_
   refine WL_nil (W_seq ?_)
   refine W_cond rfl (fun hc1 => ?_) (fun hc1 => ?_)
   ·replace hL1 := ite_t hL1 hc1
    refine W_skip (nrm_normal (W_seq (W_block (W_seq_reg ?_))))
    obtain ⟨x4, hx1, hL1⟩ := bind_some hL1
    refine WL_index Tryz.underlying31 ty88 g1 hx1 rfl rfl rfl (fun b2 o1 h1 => ?_)
    refine WL_load ty88 h1 hC5.keep rfl rfl (fun v3 h2 => ?_)
    obtain ⟨v4, rfl, h3⟩ := ro_st88 h2
    refine WL_allocK hC5 zero88 rfl rfl (fun b3 w3 hC6 hB3 hN1 => ?_)
    refine WL_store_box_aggK (cs' := [(.int .i64 x4.1), v4]) (new := [(.int .i64 x4.1), v4]) hC6 0 rfl rfl (by intro v hv; simp only [List.mem_cons, List.not_mem_nil, or_false] at hv; rcases hv with rfl | rfl; exact rfl; exact (ro_one h3)) rfl Tryz.sizeOf88 rfl rfl (fun w4 hC7 hKp1 => ?_)
    try dsimp only [List.set] at hC7
    have hk1 := Keep.over (Keep.of hB3) hN1 hKp1
    refine WL_nil (W_reg ?_)
    refine WL_move rfl rfl ?_
    refine WL_load_box_agg [(.int .i64 x4.1), v4] hC7 0 rfl rfl rfl Tryz.isAgg88 Tryz.sizeOf88 rfl rfl ?_
    obtain ⟨x5, hr2, hL1⟩ := bind_some hL1
    refine WL_call Tryz.call130 rfl rfl (c_M_copyFact (x4.1, x4.2) v4 (h3.now hC7.keep) x5 hr2) ?_
    rintro v5 w5 ⟨hB4, F1, hv1, hn1, hb1⟩
    have hC8 := hC7.push hB4 (A := Item.own v5 x5) hv1 hn1 hb1
    obtain ⟨v6, rfl, hC9⟩ := st88_own hC8
    refine WL_buildSlice (vs := [(.agg #[(.int .i64 x5.1), v6])]) hC9 Tryz.underlying31 ty88 rfl rfl rfl rfl (by intro v hv; simp only [List.mem_cons, List.not_mem_nil, or_false] at hv; rcases hv with rfl <;> rfl) rfl rfl (fun b4 w6 hC10 hB5 => ?_)
    have hC11 := hC10.row0 (α := (Int × (List Int)))
    have hC13 := hC11.f2
    have hC12 := own_st88 x5.1 v6 x5.2 hC13
    have hC14 := hC12.row1
    have hC15 := hC14.front 1 rfl
    dsimp only [List.eraseIdx, List.cons_append, List.nil_append, List.append_nil] at hC15
    have hC16 : Ctx [] w0 w6 (Item.own (.slice (some ⟨b4, 0, none⟩) 1 1) ([(x5.1, x5.2)] : List (Int × (List Int))) :: [Item.box b3 [(.int .i64 x4.1), v4], Item.own v1 (x1 : (List (Int × (List Int))))]) := hC15.rowOwn (by simp [maxLen])
    obtain ⟨x6, hx2, hL1⟩ := bind_some hL1
    refine WL_append_head hC16 1 rfl Tryz.underlying31 ty88 rfl hx2 rfl rfl rfl (fun v7 w7 hC17 => ?_)
    try dsimp only [List.set] at hC17
    refine WL_assign rfl rfl ?_
    refine WL_nil (blk_normal (nrm_normal (W_reg ?_)))
    refine WL_add rfl rfl rfl ?_
    refine WL_move rfl rfl ?_
    refine WL_nil ?_
    have hC19 := hC17.f1
    have hC20 := hC19.h1
    refine nrm_sub (l' := [(3, v7), (7, u1), (8, (.int .i64 (List.length a1 : Int))), (9, (.int .i64 (w64 (x2 + 1))))]) ⟨rfl, rfl, rfl, rfl, trivial⟩ ?_
    exact ⟨k1, Nat.lt_succ_self _, v7, x6, w64 (x2 + 1), rfl, hC20, hL1⟩
   replace hL1 := ite_f hL1 hc1
   refine W_exit (nrm_exit (nrm_exit (blk_exit ?_)))
   have hq1 := Option.some.inj hL1
   subst hq1
   refine nrm_sub (l' := [(3, v1)]) ⟨rfl, trivial⟩ ?_
   exact ⟨v1, x1, rfl, rfl, hC5⟩
 rintro l2 _ w9 hs2 ⟨v2, x3, rfl, rfl, hC21⟩
 try dsimp only at hF
 refine nrm_sub' hs2 ?_
 clear hs2
 refine W_seq_reg ?_
 refine WL_move rfl rfl ?_
 refine WL_assign rfl rfl ?_
 refine WL_nil (W_ret ?_)
 have hq2 := Option.some.inj hF
 subst hq2
 refine fn_ret1 rfl rfl ?_
 exact ⟨_, rfl, own_res hC21 0 rfl⟩

theorem c_M_matches_c1 {w0 : World} (a1 : (Int × (List Int))) (u1 : Value) (g1 : RO [] w0 u1 a1.2) (pb1 : Nat) (ax1 : (Int × (List Int) × Int × Int × Int)) (g2 : ROAt [] w0 pb1 0 ax1) (pb2 : Nat) (ax2 : (Int × (List Int))) (g3 : ROAt [] w0 pb2 0 ax2) (rr : Bool) (hF : M.matches_c1 a1 ax1 ax2 = some rr) :
 Calls Tryz.prog 146 [(.agg #[(.int .i64 a1.1), u1]), (ptr pb1 0), (ptr pb2 0)].toArray w0 fun e w' => ∃ v, e = .returned v ∧ Res w0 rr v w' := by
 refine calls_of_W Tryz.func146 rfl rfl ?_
 have hC0 := Ctx.start w0
 unfold M.matches_c1 at hF
 refine W_seq_reg ?_
 refine WL_boxK (cs := [(.int .i64 a1.1), u1]) hC0 rfl rfl rfl (fun b1 w1 hC1 hB1 hN1 => ?_)
 refine WL_assign rfl rfl ?_
 refine WL_nil (W_seq (W_seq_reg ?_))
 refine WL_field Tryz.underlying88 rfl rfl (fun w => ⟨_, Tryz.sizeOf3 w⟩) rfl rfl ?_
 refine WL_load_box hC1 0 rfl rfl Tryz.isAgg3 rfl rfl ?_
 refine WL_field Tryz.underlying93 rfl rfl (fun w => ⟨_, Tryz.sizeOf3 w⟩) rfl rfl ?_
 refine WL_load ty3 g2.fst hC1.keep rfl rfl (fun v1 h1 => ?_)
 obtain rfl := ro_int h1
 refine WL_neq rfl rfl rfl ?_
 refine WL_nil ?_
 refine W_cond rfl (fun hc1 => ?_) (fun hc1 => ?_)
 ·replace hF := ite_t hF hc1
  refine W_seq_reg ?_
  refine WL_assign rfl rfl ?_
  refine WL_nil (W_ret (nrm_ret ?_))
  have hq1 := Option.some.inj hF
  subst hq1
  refine fn_ret1 rfl rfl ?_
  exact ⟨_, rfl, bool_res hC1 _⟩
 replace hF := ite_f hF hc1
 refine W_skip (nrm_normal (W_seq (W_seq_reg ?_)))
 refine WL_field Tryz.underlying93 rfl rfl (fun w => ⟨_, Tryz.sizeOf24 w⟩) rfl rfl ?_
 refine WL_load ty24 g2.snd.fst hC1.keep rfl rfl (fun v2 h2 => ?_)
 refine WL_len Tryz.underlying24 h2 rfl rfl ?_
 refine WL_move rfl rfl ?_
 refine WL_nil ?_
 obtain ⟨r1, hr1, hF⟩ := bind_some hF
 refine W_norm (fun l w => .inl () = r1 ∧ l = [] ∧ Below w1.heap.size w1 w ∧ Ctx [] w0 w []) ?_ ?_
 ·refine W_block ?_
  refine W.sub (l' := [(2, (ptr pb2 0)), (3, (ptr b1 0)), (13, v2), (14, (.int .i64 (List.length ax1.2.1 : Int))), (15, (.int .i64 0))]) ?_ ⟨rfl, rfl, rfl, rfl, rfl, trivial⟩
  refine W_loop (fun k l w => ∃ x1 : Int, l = [(2, (ptr pb2 0)), (3, (ptr b1 0)), (13, v2), (14, (.int .i64 (List.length ax1.2.1 : Int))), (15, (.int .i64 x1))] ∧ Below w1.heap.size w1 w ∧ Ctx [] w0 w [Item.box b1 [(.int .i64 a1.1), u1]] ∧ M.matches_c1_l1 ax1 a1 ax2 k x1 = some r1) FUEL ⟨0, rfl, (Below.refl _ _), hC1, hr1⟩ ?_
  clear hr1
  rintro k1 _ w2 ⟨x1, rfl, hB2, hC2, hL1⟩
  cases k1 with
  | zero => rw [M.matches_c1_l1] at hL1; cases hL1
  | succ k1 =>
   rw [M.matches_c1_l1] at hL1
   refine W_seq_reg ?_
   refine WL_lss rfl rfl rfl ?_
   refine WL_nil (W_seq ?_)
   refine W_cond rfl (fun hc2 => ?_) (fun hc2 => ?_)
   ·replace hL1 := ite_t hL1 hc2
    refine W_skip (nrm_normal (W_seq (W_block (W_seq_reg ?_))))
    refine WL_move rfl rfl ?_
    obtain ⟨x2, hx1, hL1⟩ := bind_some hL1
    refine WL_index Tryz.underlying24 ty3 h2 hx1 rfl rfl rfl (fun b2 o1 h3 => ?_)
    refine WL_load ty3 h3 hC2.keep rfl rfl (fun v3 h4 => ?_)
    obtain rfl := ro_int h4
    refine WL_assign rfl rfl ?_
    refine WL_assign rfl rfl ?_
    refine WL_nil (W_seq ?_)
    refine W_drawn 11 rfl hmix (fun w3 hB3 => ?_)
    have hC3 := hC2.grow hB3
    refine WA_tk 0 (by kernel_rfl) rfl rfl (fl_field Tryz.underlying88 rfl rfl (fun w => ⟨_, Tryz.sizeOf24 w⟩) rfl) ?_
    refine WL_field Tryz.underlying88 rfl rfl (fun w => ⟨_, Tryz.sizeOf24 w⟩) rfl rfl ?_
    refine WL_nil ?_
    refine WA_tk 2 (by kernel_rfl) rfl rfl (fl_move rfl) ?_
    refine WL_move rfl rfl ?_
    refine WL_nil ?_
    refine WA_tk 5 (by kernel_rfl) rfl rfl (fl_field Tryz.underlying44 rfl rfl (fun w => ⟨_, Tryz.sizeOf24 w⟩) rfl) ?_
    refine WL_field Tryz.underlying44 rfl rfl (fun w => ⟨_, Tryz.sizeOf24 w⟩) rfl rfl ?_
    refine WL_nil ?_
    refine WA_tk 7 (by kernel_rfl) rfl rfl (fl_move rfl) ?_
    refine WL_move rfl rfl ?_
    refine WL_nil ?_
    obtain ⟨x3, hx2, hL1⟩ := bind_some hL1
    obtain ⟨x4, hx3, hL1⟩ := bind_some hL1
    refine WA.sub (l' := [(2, (ptr pb2 0)), (3, (ptr b1 0)), (5, (.int .i64 x1)), (6, (.int .i64 x2)), (13, v2), (14, (.int .i64 (List.length ax1.2.1 : Int))), (15, (.int .i64 x1)), (16, (.bool (decide (x1 < (List.length ax1.2.1 : Int))))), (17, (.int .i64 x1)), (18, (ptr b2 o1)), (19, (.int .i64 x2)), (20, (ptr b1 1)), (22, (.int .i64 x2)), (25, (ptr pb2 (0 + 1))), (27, (.int .i64 x1))]) ?_ ⟨rfl, rfl, rfl, rfl, rfl, rfl, rfl, rfl, rfl, rfl, rfl, rfl, rfl, rfl, rfl, trivial⟩
    refine WA_postsE [⟨1, [], fun vs => PW.val u1, []⟩, ⟨3, [], fun vs => PW.at [] w0 x3, []⟩, ⟨4, [], fun vs => PW.val (.int .i64 x3), []⟩, ⟨6, [], fun vs => PW.ro [] w0 ax2.2, []⟩, ⟨8, [], fun vs => PW.at [] w0 x4, []⟩, ⟨9, [], fun vs => PW.val (.int .i64 x4), []⟩] [[], [1], [3], [], [6], [8]] 1 rfl (by kernel_rfl) (by kernel_rfl) rfl ?_ ?_
    ·refine StepsE_cons rfl ?_ ?_
     ·intro w4 hB4
      refine DepsE_nil ?_
      refine ⟨_, rfl, ?_⟩
      refine WL_load_box (hC3.grow hB4) 0 rfl rfl Tryz.isAgg24 rfl rfl ?_
      refine WL_nil ?_
      exact FinE_val (Below.refl _ _) rfl rfl ⟨rfl, rfl⟩
     refine StepsE_cons rfl ?_ ?_
     ·intro w4 hB4
      refine DepsE_cons rfl rfl rfl ?_
      rintro _ _ ⟨rfl, rfl⟩ _
      refine DepsE_nil ?_
      refine ⟨_, rfl, ?_⟩
      refine WL_index Tryz.underlying24 ty3 g1 hx2 rfl rfl rfl (fun b3 o2 h5 => ?_)
      refine WL_nil ?_
      exact FinE_val (Below.refl _ _) rfl rfl ⟨rfl, _, _, rfl, h5⟩
     refine StepsE_cons rfl ?_ ?_
     ·intro w4 hB4
      refine DepsE_cons rfl rfl rfl ?_
      rintro _ _ ⟨rfl, b3, o2, rfl, h5⟩ _
      refine DepsE_nil ?_
      refine ⟨_, rfl, ?_⟩
      refine WL_load ty3 h5 (hC3.keep.then hB4) rfl rfl (fun v4 h6 => ?_)
      obtain rfl := ro_int h6
      refine WL_nil ?_
      exact FinE_val (Below.refl _ _) rfl rfl ⟨rfl, rfl⟩
     refine StepsE_cons rfl ?_ ?_
     ·intro w4 hB4
      refine DepsE_nil ?_
      refine ⟨_, rfl, ?_⟩
      refine WL_load ty24 g3.snd (hC3.keep.then hB4) rfl rfl (fun v5 h7 => ?_)
      refine WL_nil ?_
      exact FinE_val (Below.refl _ _) rfl rfl ⟨rfl, h7⟩
     refine StepsE_cons rfl ?_ ?_
     ·intro w4 hB4
      refine DepsE_cons rfl rfl rfl ?_
      rintro v5 _ ⟨rfl, h7⟩ _
      refine DepsE_nil ?_
      refine ⟨_, rfl, ?_⟩
      refine WL_index Tryz.underlying24 ty3 h7 hx3 rfl rfl rfl (fun b4 o3 h8 => ?_)
      refine WL_nil ?_
      exact FinE_val (Below.refl _ _) rfl rfl ⟨rfl, _, _, rfl, h8⟩
     refine StepsE_cons rfl ?_ ?_
     ·intro w4 hB4
      refine DepsE_cons rfl rfl rfl ?_
      rintro _ _ ⟨rfl, b4, o3, rfl, h8⟩ _
      refine DepsE_nil ?_
      refine ⟨_, rfl, ?_⟩
      refine WL_load ty3 h8 (hC3.keep.then hB4) rfl rfl (fun v6 h9 => ?_)
      obtain rfl := ro_int h9
      refine WL_nil ?_
      exact FinE_val (Below.refl _ _) rfl rfl ⟨rfl, rfl⟩
     exact StepsE_nil
    intro w5 hB5
    refine AllE_cons rfl rfl rfl ?_
    rintro _ _ ⟨rfl, rfl⟩
    refine AllE_cons rfl rfl rfl ?_
    rintro _ _ ⟨rfl, b3, o2, rfl, h5⟩
    refine AllE_cons rfl rfl rfl ?_
    rintro _ _ ⟨rfl, rfl⟩
    refine AllE_cons rfl rfl rfl ?_
    rintro v5 _ ⟨rfl, h7⟩
    refine AllE_cons rfl rfl rfl ?_
    rintro _ _ ⟨rfl, b4, o3, rfl, h8⟩
    refine AllE_cons rfl rfl rfl ?_
    rintro _ _ ⟨rfl, rfl⟩
    refine AllE_nil ?_
    intro hn1 hb1
    have hC4 := hC3.grow hB5
    refine WA_tk 10 (by kernel_rfl) rfl rfl (fl_neq rfl rfl) ?_
    refine WL_neq rfl rfl rfl ?_
    refine WL_nil ?_
    refine WA_done (by kernel_rfl) ?_
    refine nrm_normal ?_
    refine W_cond rfl (fun hc3 => ?_) (fun hc3 => ?_)
    ·replace hL1 := ite_t hL1 hc3
     refine W_seq_reg ?_
     refine WL_assign rfl rfl ?_
     refine WL_nil (W_ret (blk_ret (nrm_ret (nrm_ret (blk_ret (nrm_ret (nrm_ret ?_)))))))
     have hq2 := Option.some.inj hL1
     subst hq2
     dsimp only at hF
     have hq3 := Option.some.inj hF
     subst hq3
     refine fn_ret1 rfl rfl ?_
     exact ⟨_, rfl, bool_res hC4 _⟩
    replace hL1 := ite_f hL1 hc3
    refine W_skip (blk_normal (nrm_normal (W_reg ?_)))
    refine WL_add rfl rfl rfl ?_
    refine WL_move rfl rfl ?_
    refine WL_nil ?_
    refine nrm_sub (l' := [(2, (ptr pb2 0)), (3, (ptr b1 0)), (13, v2), (14, (.int .i64 (List.length ax1.2.1 : Int))), (15, (.int .i64 (w64 (x1 + 1))))]) ⟨rfl, rfl, rfl, rfl, rfl, trivial⟩ ?_
    exact ⟨k1, Nat.lt_succ_self _, w64 (x1 + 1), rfl, (((Keep.of hB2).then hB3).then hB5).below, hC4, hL1⟩
   replace hL1 := ite_f hL1 hc2
   refine W_exit (nrm_exit (nrm_exit (blk_exit ?_)))
   have hq4 := Option.some.inj hL1
   subst hq4
   have hC5 := hC2.h0
   refine nrm_sub (l' := []) trivial ?_
   exact ⟨rfl, rfl, (Keep.of hB2).below, hC5⟩
 rintro l2 _ w6 hs2 ⟨rfl, rfl, hB6, hC6⟩
 try dsimp only at hF
 refine nrm_sub' hs2 ?_
 clear hs2
 refine W_seq_reg ?_
 refine WL_assign rfl rfl ?_
 refine WL_nil (W_ret ?_)
 have hq5 := Option.some.inj hF
 subst hq5
 refine fn_ret1 rfl rfl ?_
 exact ⟨_, rfl, bool_res hC6 _⟩

theorem c_Slices_IndexFunc_Limpl_Fact_impl_Fact_M_matches_c1 {w0 : World} (a1 : (List (Int × (List Int)))) (u1 : Value) (g1 : RO [] w0 u1 a1) (pb1 : Nat) (ax1 : (Int × (List Int) × Int × Int × Int)) (g2 : ROAt [] w0 pb1 0 ax1) (pb2 : Nat) (ax2 : (Int × (List Int))) (g3 : ROAt [] w0 pb2 0 ax2) (rr : Int) (hF : Slices.IndexFunc_Limpl_Fact_impl_Fact_M_matches_c1 a1 ax1 ax2 = some rr) :
 Calls Tryz.prog 126 [u1, (.func (.func 146) #[] #[(ptr pb1 0), (ptr pb2 0)])].toArray w0 fun e w' => ∃ v, e = .returned v ∧ Res w0 rr v w' := by
 refine calls_of_W Tryz.func126 rfl rfl ?_
 have hC0 := Ctx.start w0
 unfold Slices.IndexFunc_Limpl_Fact_impl_Fact_M_matches_c1 at hF
 refine W_seq_reg ?_
 refine WL_assign rfl rfl ?_
 refine WL_nil (W_seq (W_seq_reg ?_))
 refine WL_move rfl rfl ?_
 refine WL_len Tryz.underlying31 g1 rfl rfl ?_
 refine WL_move rfl rfl ?_
 refine WL_nil ?_
 obtain ⟨r1, hr1, hF⟩ := bind_some hF
 refine W_norm (fun l w => .inl () = r1 ∧ l = [] ∧ Below w0.heap.size w0 w ∧ Ctx [] w0 w []) ?_ ?_
 ·refine W_block ?_
  refine W.sub (l' := [(0, u1), (1, (.func (.func 146) #[] #[(ptr pb1 0), (ptr pb2 0)])), (7, (.int .i64 (List.length a1 : Int))), (8, (.int .i64 0))]) ?_ ⟨rfl, rfl, rfl, rfl, trivial⟩
  refine W_loop (fun k l w => ∃ x1 : Int, l = [(0, u1), (1, (.func (.func 146) #[] #[(ptr pb1 0), (ptr pb2 0)])), (7, (.int .i64 (List.length a1 : Int))), (8, (.int .i64 x1))] ∧ Below w0.heap.size w0 w ∧ Ctx [] w0 w [] ∧ Slices.IndexFunc_Limpl_Fact_impl_Fact_M_matches_c1_l1 a1 ax1 ax2 k x1 = some r1) FUEL ⟨0, rfl, (Below.refl _ _), hC0, hr1⟩ ?_
  clear hr1
  rintro k1 _ w1 ⟨x1, rfl, hB1, hC1, hL1⟩
  cases k1 with
  | zero => rw [Slices.IndexFunc_Limpl_Fact_impl_Fact_M_matches_c1_l1] at hL1; cases hL1
  | succ k1 =>
   rw [Slices.IndexFunc_Limpl_Fact_impl_Fact_M_matches_c1_l1] at hL1
   refine W_seq_reg ?_
   refine WL_lss rfl rfl rfl ?_
   refine WL_nil (W_seq ?_)
   refine W_cond rfl (fun hc1 => ?_) (fun hc1 => ?_)
   ·replace hL1 := ite_t hL1 hc1
    refine W_skip (nrm_normal (W_seq (W_block (W_seq_reg ?_))))
    refine WL_move rfl rfl ?_
    refine WL_assign rfl rfl ?_
    refine WL_nil (W_seq_reg ?_)
    refine WL_move rfl rfl ?_
    refine WL_move rfl rfl ?_
    refine WL_move rfl rfl ?_
    obtain ⟨x2, hx1, hL1⟩ := bind_some hL1
    refine WL_index Tryz.underlying31 ty88 g1 hx1 rfl rfl rfl (fun b1 o1 h1 => ?_)
    refine WL_load ty88 h1 hC1.keep rfl rfl (fun v1 h2 => ?_)
    obtain ⟨v2, rfl, h3⟩ := ro_st88 h2
    obtain ⟨x3, hr2, hL1⟩ := bind_some hL1
    refine WL_callv (cap := [(ptr pb1 0), (ptr pb2 0)]) Tryz.call146 rfl rfl rfl (c_M_matches_c1 x2 v2 (h3.now hC1.keep) pb1 ax1 (g2.now hC1.keep) pb2 ax2 (g3.now hC1.keep) x3 hr2) ?_
    intro _ w2 hv1
    obtain ⟨rfl, hB2⟩ := res_bool hv1
    have hC2 := hC1.grow hB2
    refine WL_nil ?_
    refine W_cond rfl (fun hc2 => ?_) (fun hc2 => ?_)
    ·replace hL1 := ite_t hL1 hc2
     refine W_seq_reg ?_
     refine WL_move rfl rfl ?_
     refine WL_assign rfl rfl ?_
     refine WL_nil (W_ret (blk_ret (nrm_ret (nrm_ret (blk_ret (nrm_ret (nrm_ret ?_)))))))
     have hq1 := Option.some.inj hL1
     subst hq1
     dsimp only at hF
     have hq2 := Option.some.inj hF
     subst hq2
     refine fn_ret1 rfl rfl ?_
     exact ⟨_, rfl, int_res hC2 _⟩
    replace hL1 := ite_f hL1 hc2
    refine W_skip (blk_normal (nrm_normal (W_reg ?_)))
    refine WL_add rfl rfl rfl ?_
    refine WL_move rfl rfl ?_
    refine WL_nil ?_
    refine nrm_sub (l' := [(0, u1), (1, (.func (.func 146) #[] #[(ptr pb1 0), (ptr pb2 0)])), (7, (.int .i64 (List.length a1 : Int))), (8, (.int .i64 (w64 (x1 + 1))))]) ⟨rfl, rfl, rfl, rfl, trivial⟩ ?_
    exact ⟨k1, Nat.lt_succ_self _, w64 (x1 + 1), rfl, ((Keep.of hB1).then hB2).below, hC2, hL1⟩
   replace hL1 := ite_f hL1 hc1
   refine W_exit (nrm_exit (nrm_exit (blk_exit ?_)))
   have hq3 := Option.some.inj hL1
   subst hq3
   refine nrm_sub (l' := []) trivial ?_
   exact ⟨rfl, rfl, (Keep.of hB1).below, hC1⟩
 rintro l2 _ w3 hs2 ⟨rfl, rfl, hB3, hC3⟩
 try dsimp only at hF
 refine nrm_sub' hs2 ?_
 clear hs2
 refine W_seq_reg ?_
 refine WL_assign rfl rfl ?_
 refine WL_nil (W_ret ?_)
 have hq4 := Option.some.inj hF
 subst hq4
 refine fn_ret1 rfl rfl ?_
 exact ⟨_, rfl, int_res hC3 _⟩

theorem c_Slices_DeleteFunc_Limpl_Fact_impl_Fact_M_matches_c1 {Fs : List (List Nat)} {w0 : World} (a1 : (List (Int × (List Int)))) (u1 : Value) (pb1 : Nat) (ax1 : (Int × (List Int) × Int × Int × Int)) (g1 : ROAt Fs.flatten w0 pb1 0 ax1) (pb2 : Nat) (ax2 : (Int × (List Int))) (g2 : ROAt Fs.flatten w0 pb2 0 ax2) (hH : Hold [Item.own u1 (a1 : (List (Int × (List Int))))] w0 Fs) (hn : Fs.flatten.Nodup) (rr : (List (Int × (List Int)))) (hF : Slices.DeleteFunc_Limpl_Fact_impl_Fact_M_matches_c1 a1 ax1 ax2 = some rr) :
 Calls Tryz.prog 84 [u1, (.func (.func 146) #[] #[(ptr pb1 0), (ptr pb2 0)])].toArray w0 fun e w' => ∃ v, e = .returned v ∧ ∃ q0 : Value, v = q0 ∧ Ctx Fs.flatten w0 w' [Item.own q0 (rr : (List (Int × (List Int))))] := by
 refine calls_of_W Tryz.func84 rfl rfl ?_
 have hC0 := Ctx.startIn hH hn
 unfold Slices.DeleteFunc_Limpl_Fact_impl_Fact_M_matches_c1 at hF
 obtain ⟨x, hx, hF⟩ := bind_some hF
 refine W_seq_reg ?_
 refine WL_assign rfl rfl ?_
 refine WL_nil (W_seq_reg ?_)
 refine WL_move rfl rfl ?_
 refine WL_move rfl rfl ?_
 refine WL_call Tryz.call126 rfl rfl (c_Slices_IndexFunc_Limpl_Fact_impl_Fact_M_matches_c1 a1 u1 (hC0.ro 0 rfl) pb1 ax1 (g1.now (Keep.refl _ _)) pb2 ax2 (g2.now (Keep.refl _ _)) x hx) ?_
 intro _ w1 hv1
 obtain ⟨rfl, hB1⟩ := res_int hv1
 have hC1 := hC0.grow hB1
 refine WL_assign rfl rfl ?_
 refine WL_nil (W_seq (W_seq_reg ?_))
 refine WL_move rfl rfl ?_
 refine WL_eql rfl rfl rfl ?_
 by_cases hx1 : x = -1
 ·rw [if_pos hx1] at hF
  obtain rfl := Option.some.inj hF
  rw [decide_eq_true hx1]
  refine WL_nil ?_
  refine W_cond_t rfl ?_
  refine W_seq_reg ?_
  refine WL_move rfl rfl ?_
  refine WL_assign rfl rfl ?_
  refine WL_nil (W_ret (nrm_ret ?_))
  refine fn_ret1 rfl rfl ?_
  exact ⟨_, rfl, _, rfl, hC1⟩
 rw [if_neg hx1] at hF
 have hr : 0 ≤ x ∧ x < (a1.length : Int) := Classical.byContradiction fun h => by rw [if_neg h] at hF; cases hF
 rw [if_pos hr] at hF
 obtain ⟨m, rfl⟩ : ∃ m : Nat, x = m := ⟨x.toNat, by omega⟩
 have hm : m < a1.length := by omega
 have hlim := (hC0.ro 0 rfl).lt
 simp only [maxLen] at hlim
 rw [Int.toNat_natCast] at hF
 rw [decide_eq_false hx1]
 refine WL_nil ?_
 refine W_cond_f rfl ?_
 refine W_skip (nrm_normal (W_seq (W_seq_reg ?_)))
 refine WL_move rfl rfl ?_
 refine WL_add rfl rfl rfl ?_
 rw [show w64 ((m : Int) + 1) = ((m + 1 : Nat) : Int) by rw [w64_id (by omega) (by omega)]; omega]
 refine WL_assign rfl rfl ?_
 refine WL_nil ?_
 obtain ⟨b, c, rfl, hc1, hc2, hD0⟩ := hC1.del_open hm
 have hml : (a1.take m).length = m := by rw [List.length_take]; omega
 refine W_norm (fun l w => ∃ kept : List (Int × (List Int)), ∃ g : Nat, l = [(0, .slice (some ⟨b, 0, none⟩) a1.length c), (5, .int .i64 (kept.length : Int))] ∧ 0 < g ∧ kept.length + g = a1.length ∧ kept = rr ∧ Ctx Fs.flatten w0 w [Item.del b c kept g ([] : List (Int × (List Int)))]) ?_ ?_
 ·refine W_block ?_
  refine W.sub (l' := [(0, .slice (some ⟨b, 0, none⟩) a1.length c), (1, (.func (.func 146) #[] #[(ptr pb1 0), (ptr pb2 0)])), (5, .int .i64 (m : Int)), (6, .int .i64 ((m + 1 : Nat) : Int))]) ?_ ⟨rfl, rfl, rfl, rfl, trivial⟩
  refine W_loop (fun k l w => ∃ kept : List (Int × (List Int)), ∃ g : Nat, ∃ rest : List (Int × (List Int)), l = [(0, .slice (some ⟨b, 0, none⟩) a1.length c), (1, (.func (.func 146) #[] #[(ptr pb1 0), (ptr pb2 0)])), (5, .int .i64 (kept.length : Int)), (6, .int .i64 ((kept.length + g : Nat) : Int))] ∧ 0 < g ∧ kept.length + g + rest.length = a1.length ∧ dfl (fun e => M.matches_c1 e ax1 ax2) kept rest = some rr ∧ k = rest.length ∧ Ctx Fs.flatten w0 w [Item.del b c kept g rest]) (a1.drop (m + 1)).length ⟨a1.take m, 1, a1.drop (m + 1), by rw [hml], by omega, by rw [hml, List.length_drop]; omega, hF, rfl, hD0⟩ ?_
  clear hF hD0
  rintro k1 _ w2 ⟨kept, g, rest, rfl, hg, hlen, hL, hk, hD⟩
  refine W_seq (W_seq_reg ?_)
  refine WL_move rfl rfl ?_
  refine WL_move rfl rfl ?_
  refine WL_len_raw Tryz.underlying31 rfl rfl ?_
  refine WL_lss rfl rfl rfl ?_
  cases rest with
  | nil =>
   have hq := Option.some.inj hL
   simp only [List.length_nil, Nat.add_zero] at hlen
   rw [decide_eq_false (show ¬ ((kept.length + g : Nat) : Int) < (a1.length : Int) by omega)]
   refine WL_nil ?_
   refine W_cond_f rfl ?_
   refine W_exit (nrm_exit (nrm_exit (blk_exit ?_)))
   refine nrm_sub (l' := [(0, .slice (some ⟨b, 0, none⟩) a1.length c), (5, .int .i64 (kept.length : Int))]) ⟨rfl, rfl, trivial⟩ ?_
   exact ⟨kept, g, rfl, hg, hlen, hq, hD⟩
  | cons x rest =>
   simp only [List.length_cons] at hlen hk
   rw [decide_eq_true (show ((kept.length + g : Nat) : Int) < (a1.length : Int) by omega)]
   refine WL_nil ?_
   refine W_cond_t rfl ?_
   refine W_skip (nrm_normal (W_seq (W_block (W_seq_reg ?_))))
   refine WL_move rfl rfl ?_
   refine WL_move rfl rfl ?_
   refine WL_index_raw Tryz.underlying31 ty88 (show kept.length + g < a1.length by omega) rfl rfl rfl ?_
   obtain ⟨cs, hcs, hD1⟩ := hD.del_head
   obtain ⟨hro, row, T, hh, hrow⟩ := hD1.delh_row
   refine WL_load_raw ty88 hh (by rw [Nat.zero_add]; exact hrow) hcs rfl rfl ?_
   obtain ⟨e1, hce, _⟩ := ro_st88 hro
   obtain rfl := cells_of_agg (cs' := [(.int .i64 x.1), e1]) hce
   rw [show mkv (Rep.agg (Int × (List Int))) [(.int .i64 x.1), e1] = (.agg #[(.int .i64 x.1), e1]) from rfl]
   refine WL_alloc hD1 zero88 rfl rfl (fun b7 w3 hD2 hB2 => ?_)
   have phr := hD2.delh_ro (α := (Int × (List Int))) 1 rfl
   obtain ⟨pf0, phe, pg0⟩ := ro_st88 phr
   replace phe := cells_of_agg (cs := [(.int .i64 x.1), e1]) (cs' := [(.int .i64 x.1), pf0]) phe
   simp only [List.cons.injEq, and_true, true_and] at phe
   obtain rfl := phe
   refine WL_store_box_agg (cs' := [(.int .i64 x.1), e1]) (new := [(.int .i64 x.1), e1]) hD2 0 rfl rfl (by intro v hv; simp only [List.mem_cons, List.not_mem_nil, or_false] at hv; rcases hv with rfl | rfl; exact rfl; exact (ro_one pg0)) rfl Tryz.sizeOf88 rfl rfl (fun w4 hD3 => ?_)
   try dsimp only [List.set] at hD3
   refine WL_nil (W_seq_reg ?_)
   refine WL_move rfl rfl ?_
   refine WL_load_box_agg [(.int .i64 x.1), e1] hD3 0 rfl rfl rfl Tryz.isAgg88 Tryz.sizeOf88 rfl rfl ?_
   have qhr := hD3.delh_ro (α := (Int × (List Int))) 1 rfl
   obtain ⟨qf0, qhe, qg0⟩ := ro_st88 qhr
   replace qhe := cells_of_agg (cs := [(.int .i64 x.1), e1]) (cs' := [(.int .i64 x.1), qf0]) qhe
   simp only [List.cons.injEq, and_true, true_and] at qhe
   obtain rfl := qhe
   obtain ⟨q, hq, hL⟩ := bind_some (show (M.matches_c1 x ax1 ax2).bind (fun b => dfl (fun e => M.matches_c1 e ax1 ax2) (if b then kept else kept ++ [x]) rest) = some rr from hL)
   refine WL_callv (cap := [(ptr pb1 0), (ptr pb2 0)]) Tryz.call146 rfl rfl rfl (c_M_matches_c1 x e1 qg0 pb1 ax1 (g1.now hD3.keep) pb2 ax2 (g2.now hD3.keep) q hq) ?_
   intro _ w5 hv2
   obtain ⟨rfl, hB5⟩ := res_bool hv2
   have hD4 := hD3.grow hB5
   refine WL_not rfl rfl ?_
   refine WL_nil ?_
   refine W_cond rfl (fun hq1 => ?_) (fun hq1 => ?_)
   ·have hqf : q = false := by simpa using hq1
    rw [hqf] at hL
    rw [if_neg (by simp)] at hL
    refine W_seq_reg ?_
    refine WL_move rfl rfl ?_
    refine WL_move rfl rfl ?_
    refine WL_load_box_agg [(.int .i64 x.1), e1] hD4 0 rfl rfl rfl Tryz.isAgg88 Tryz.sizeOf88 rfl rfl ?_
    refine WL_index_raw Tryz.underlying31 ty88 (show kept.length < a1.length by omega) rfl rfl rfl ?_
    refine WL_store_del hD4.swap hg ty88 rfl rfl rfl (fun w6 hD5 => ?_)
    refine WL_nil (W_reg ?_)
    refine WL_move rfl rfl ?_
    refine WL_add rfl rfl rfl ?_
    rw [show w64 ((kept.length : Int) + 1) = ((kept ++ [x]).length : Int) by rw [w64_id (by omega) (by omega), List.length_append]; rfl]
    refine WL_assign rfl rfl ?_
    refine WL_nil (blk_normal (nrm_normal (W_reg ?_)))
    refine WL_move rfl rfl ?_
    refine WL_add rfl rfl rfl ?_
    rw [show w64 (((kept.length + g : Nat) : Int) + 1) = (((kept ++ [x]).length + g : Nat) : Int) by rw [w64_id (by omega) (by omega), List.length_append]; simp only [List.length_cons, List.length_nil]; omega]
    refine WL_assign rfl rfl ?_
    refine WL_nil ?_
    refine nrm_sub (l' := [(0, .slice (some ⟨b, 0, none⟩) a1.length c), (1, (.func (.func 146) #[] #[(ptr pb1 0), (ptr pb2 0)])), (5, .int .i64 ((kept ++ [x]).length : Int)), (6, .int .i64 (((kept ++ [x]).length + g : Nat) : Int))]) ⟨rfl, rfl, rfl, rfl, trivial⟩ ?_
    exact ⟨rest.length, by omega, kept ++ [x], g, rest, rfl, hg, by rw [List.length_append]; simp only [List.length_cons, List.length_nil]; omega, hL, rfl, hD5.headN 1⟩
   have hqt : q = true := by simpa using hq1
   rw [hqt] at hL
   rw [if_pos rfl] at hL
   refine W_skip (blk_normal (nrm_normal (W_reg ?_)))
   refine WL_move rfl rfl ?_
   refine WL_add rfl rfl rfl ?_
   rw [show w64 (((kept.length + g : Nat) : Int) + 1) = ((kept.length + (g + 1) : Nat) : Int) by rw [w64_id (by omega) (by omega)]; omega]
   refine WL_assign rfl rfl ?_
   refine WL_nil ?_
   refine nrm_sub (l' := [(0, .slice (some ⟨b, 0, none⟩) a1.length c), (1, (.func (.func 146) #[] #[(ptr pb1 0), (ptr pb2 0)])), (5, .int .i64 (kept.length : Int)), (6, .int .i64 ((kept.length + (g + 1) : Nat) : Int))]) ⟨rfl, rfl, rfl, rfl, trivial⟩ ?_
   have hD5 := (hD4.swap.headN 1).del_skip
   exact ⟨rest.length, by omega, kept, g + 1, rest, rfl, by omega, by omega, hL, rfl, hD5⟩
 rintro l2 _ w8 hs2 ⟨kept, g, rfl, hg, hlen, rfl, hD⟩
 refine nrm_sub' hs2 ?_
 clear hs2
 refine W_seq_reg ?_
 refine WL_move rfl rfl ?_
 refine WL_move rfl rfl ?_
 refine WL_sl_l Tryz.underlying31 ty88 (show kept.length < c by omega) (show kept.length ≤ a1.length by omega) hc1 rfl rfl rfl ?_
 refine WL_clear_del hD Tryz.underlying31 ty88 zc88 (by intro v hv; simp only [List.mem_cons, List.not_mem_nil, or_false] at hv; rcases hv with rfl | rfl <;> rfl) hlen.symm rfl hg (fun w9 hD9 => ?_)
 refine WL_nil (W_seq_reg ?_)
 refine WL_move rfl rfl ?_
 refine WL_move rfl rfl ?_
 refine WL_sl_h Tryz.underlying31 ty88 (hi := kept.length) (by omega) (by omega) rfl rfl rfl ?_
 refine WL_assign rfl rfl ?_
 refine WL_nil (W_ret ?_)
 refine fn_ret1 rfl rfl ?_
 exact ⟨_, rfl, _, rfl, hD9⟩

theorem c_M_matches {w0 : World} (a1 : (List (Int × (List Int) × Int × Int × Int))) (u1 : Value) (g1 : RO [] w0 u1 a1) (a2 : (List (Int × (List Int)))) (u2 : Value) (g2 : RO [] w0 u2 a2) (a3 : (Int × (List Int))) (u3 : Value) (g3 : RO [] w0 u3 a3.2) (rr : (List (Int × (List Int)))) (hF : M.matches a1 a2 a3 = some rr) :
 Calls Tryz.prog 97 [u1, u2, (.agg #[(.int .i64 a3.1), u3])].toArray w0 fun e w' => ∃ v, e = .returned v ∧ Res w0 rr v w' := by
 refine calls_of_W Tryz.func97 rfl rfl ?_
 have hC0 := Ctx.start w0
 unfold M.matches at hF
 refine W_seq_reg ?_
 refine WL_boxK (cs := [(.int .i64 a3.1), u3]) hC0 rfl rfl rfl (fun b1 w1 hC1 hB1 hN1 => ?_)
 refine WL_assign rfl rfl ?_
 refine WL_nil (W_seq_reg ?_)
 refine WL_move rfl rfl ?_
 refine WL_field Tryz.underlying44 rfl rfl (fun w => ⟨_, Tryz.sizeOf3 w⟩) rfl rfl ?_
 refine WL_load_box hC1 0 rfl rfl Tryz.isAgg3 rfl rfl ?_
 obtain ⟨x1, hx1, hF⟩ := bind_some hF
 refine WL_index Tryz.underlying25 ty93 g1 hx1 rfl rfl rfl (fun b2 o1 h1 => ?_)
 refine WL_load ty93 h1 hC1.keep rfl rfl (fun v1 h2 => ?_)
 obtain ⟨v2, rfl, h3⟩ := ro_st93 h2
 refine WL_allocK hC1 zero93 rfl rfl (fun b3 w2 hC2 hB2 hN2 => ?_)
 refine WL_store_box_aggK (cs' := [(.int .i64 x1.1), v2, (.int .i64 x1.2.2.1), (.int .i64 x1.2.2.2.1), (.int .i64 x1.2.2.2.2)]) (new := [(.int .i64 x1.1), v2, (.int .i64 x1.2.2.1), (.int .i64 x1.2.2.2.1), (.int .i64 x1.2.2.2.2)]) hC2 0 rfl rfl (by intro v hv; simp only [List.mem_cons, List.not_mem_nil, or_false] at hv; rcases hv with rfl | rfl | rfl | rfl | rfl; exact rfl; exact (ro_one h3); exact rfl; exact rfl; exact rfl) rfl Tryz.sizeOf93 rfl rfl (fun w3 hC3 hKp1 => ?_)
 try dsimp only [List.set] at hC3
 have hk1 := Keep.over ((Keep.of hB1).then hB2) (Nat.le_trans (Keep.of hB1).size hN2) hKp1
 have hk2 := Keep.over (Keep.of hB2) hN2 hKp1
 refine WL_nil (W_seq_reg ?_)
 refine WL_move rfl rfl ?_
 obtain ⟨x2, hr1, hF⟩ := bind_some hF
 refine WL_call Tryz.call145 rfl rfl (c_M_copyFacts a2 u2 (g2.now hC3.keep) x2 hr1) ?_
 rintro v3 w4 ⟨hB3, F1, hv1, hn1, hb1⟩
 have hC4 := hC3.push hB3 (A := Item.own v3 x2) hv1 hn1 hb1
 refine WL_makeFunc rfl rfl ?_
 obtain ⟨x3, hr2, hF⟩ := bind_some hF
 obtain ⟨Fs1, hH1, hn2, hF1, hO1, hX1, hb2⟩ := Ctx.lend3 (As := [Item.box b3 [(.int .i64 x1.1), v2, (.int .i64 x1.2.2.1), (.int .i64 x1.2.2.2.1), (.int .i64 x1.2.2.2.2)], Item.box b1 [(.int .i64 a3.1), u3]]) [Item.own v3 (x2 : (List (Int × (List Int))))] hC4
 refine WL_call Tryz.call84 rfl rfl (c_Slices_DeleteFunc_Limpl_Fact_impl_Fact_M_matches_c1 x2 v3 b3 (x1.1, x1.2.1, x1.2.2.1, x1.2.2.2.1, x1.2.2.2.2) (roat_box (hX1 0 _ _ rfl) (repd_pair repd_int (repd_pair (repd_slice (RO.lent h3 hC4.keep hF1)) (repd_pair repd_int (repd_pair repd_int repd_int))))) b1 (a3.1, a3.2) (roat_box (hX1 1 _ _ rfl) (repd_pair repd_int (repd_slice (RO.lent g3 hC4.keep hF1)))) hH1 hn2 x3 hr2) ?_
 rintro v4 w5 ⟨_, rfl, hq1⟩
 have hC6 : Ctx [] w0 w5 [Item.own v4 (x3 : (List (Int × (List Int)))), Item.box b3 [(.int .i64 x1.1), v2, (.int .i64 x1.2.2.1), (.int .i64 x1.2.2.2.1), (.int .i64 x1.2.2.2.2)], Item.box b1 [(.int .i64 a3.1), u3]] := hb2 _ _ hq1
 refine WL_assign rfl rfl ?_
 refine WL_nil (W_ret ?_)
 have hq2 := Option.some.inj hF
 subst hq2
 refine fn_ret1 rfl rfl ?_
 exact ⟨_, rfl, own_res hC6 0 rfl⟩

theorem c_M_FitsSelf {w0 : World} (a1 : (List Int)) (u1 : Value) (g1 : RO [] w0 u1 a1) (a2 : (List (Int × (List Int) × Int × Int × Int))) (u2 : Value) (g2 : RO [] w0 u2 a2) (a3 : ((Int × (List Int)) × (List (Int × (List Int))))) (u3 : Value) (g3 : RO [] w0 u3 a3.1.2) (u4 : Value) (g4 : RO [] w0 u4 a3.2) (rr : Bool) (hF : M.FitsSelf a1 a2 a3 = some rr) :
 Calls Tryz.prog 29 [u1, u2, (.agg #[(.int .i64 a3.1.1), u3, u4])].toArray w0 fun e w' => ∃ v, e = .returned v ∧ Res w0 rr v w' := by
 refine calls_of_W Tryz.func29 rfl rfl ?_
 have hC0 := Ctx.start w0
 unfold M.FitsSelf at hF
 refine W_seq_reg ?_
 refine WL_boxK (cs := [(.int .i64 a3.1.1), u3, u4]) hC0 rfl rfl rfl (fun b1 w1 hC1 hB1 hN1 => ?_)
 refine WL_assign rfl rfl ?_
 refine WL_nil (W_seq (W_seq_reg ?_))
 refine WL_move rfl rfl ?_
 refine WL_move rfl rfl ?_
 refine WL_load_box_agg [(.int .i64 a3.1.1), u3, u4] hC1 0 rfl rfl rfl Tryz.isAgg46 Tryz.sizeOf46 rfl rfl ?_
 obtain ⟨x1, hr1, hF⟩ := bind_some hF
 refine WL_call Tryz.call31 rfl rfl (c_M_IsTold a1 u1 (g1.now hC1.keep) a2 u2 (g2.now hC1.keep) ((a3.1.1, a3.1.2), a3.2) u3 (g3.now hC1.keep) u4 (g4.now hC1.keep) x1 hr1) ?_
 intro _ w2 hv1
 obtain ⟨rfl, hB2⟩ := res_bool hv1
 have hC2 := hC1.grow hB2
 refine WL_not rfl rfl ?_
 refine WL_nil ?_
 refine W_cond rfl (fun hc1 => ?_) (fun hc1 => ?_)
 ·replace hF := ite_t hF hc1
  refine W_seq_reg ?_
  refine WL_assign rfl rfl ?_
  refine WL_nil (W_ret (nrm_ret ?_))
  have hq1 := Option.some.inj hF
  subst hq1
  refine fn_ret1 rfl rfl ?_
  exact ⟨_, rfl, bool_res hC2 _⟩
 replace hF := ite_f hF hc1
 refine W_skip (nrm_normal (W_seq_reg ?_))
 refine WL_move rfl rfl ?_
 refine WL_field Tryz.underlying46 rfl rfl (fun w => ⟨_, Tryz.sizeOf44 w⟩) rfl rfl ?_
 refine WL_field Tryz.underlying44 rfl rfl (fun w => ⟨_, Tryz.sizeOf3 w⟩) rfl rfl ?_
 refine WL_load_box hC2 0 rfl rfl Tryz.isAgg3 rfl rfl ?_
 obtain ⟨x2, hx1, hF⟩ := bind_some hF
 refine WL_index Tryz.underlying25 ty93 g2 hx1 rfl rfl rfl (fun b2 o1 h1 => ?_)
 refine WL_field Tryz.underlying93 rfl rfl (fun w => ⟨_, Tryz.sizeOf3 w⟩) rfl rfl ?_
 refine WL_load ty3 h1.snd.snd.fst hC2.keep rfl rfl (fun v1 h2 => ?_)
 obtain rfl := ro_int h2
 refine WL_assign rfl rfl ?_
 refine WL_nil ?_
 obtain ⟨r1, hr2, hF⟩ := bind_some hF
 refine W_cut (fun l w => ∃ x3 : Bool, x3 = r1 ∧ l = [(6, (.bool x3))] ∧ Below w2.heap.size w2 w ∧ Ctx [] w0 w []) ?_ ?_
 ·refine W_drawn 23 rfl hmix (fun w4 hB4 => ?_)
  have hC4 := hC2.grow hB4
  refine WA_tk 0 (by kernel_rfl) rfl rfl (fl_move rfl) ?_
  refine WL_move rfl rfl ?_
  refine WL_nil ?_
  refine WA_tk 1 (by kernel_rfl) rfl rfl (fl_field Tryz.underlying46 rfl rfl (fun w => ⟨_, Tryz.sizeOf31 w⟩) rfl) ?_
  refine WL_field Tryz.underlying46 rfl rfl (fun w => ⟨_, Tryz.sizeOf31 w⟩) rfl rfl ?_
  refine WL_nil ?_
  refine WA_tk 3 (by kernel_rfl) rfl rfl (fl_field Tryz.underlying46 rfl rfl (fun w => ⟨_, Tryz.sizeOf44 w⟩) rfl) ?_
  refine WL_field Tryz.underlying46 rfl rfl (fun w => ⟨_, Tryz.sizeOf44 w⟩) rfl rfl ?_
  refine WL_nil ?_
  refine WA_tk 7 (by kernel_rfl) rfl rfl (fl_field Tryz.underlying46 rfl rfl (fun w => ⟨_, Tryz.sizeOf31 w⟩) rfl) ?_
  refine WL_field Tryz.underlying46 rfl rfl (fun w => ⟨_, Tryz.sizeOf31 w⟩) rfl rfl ?_
  refine WL_nil ?_
  obtain ⟨x4, hr3, hr2⟩ := bind_some hr2
  refine WA.sub (l' := [(0, u1), (1, u2), (2, (.agg #[(.int .i64 a3.1.1), u3, u4])), (5, (ptr b1 0)), (6, (.bool false)), (7, (.int .i64 x2.2.2.1)), (8, u1), (9, u2), (10, (.agg #[(.int .i64 a3.1.1), u3, u4])), (11, (.bool x1)), (12, (.bool (!x1))), (13, u2), (14, (ptr b1 0)), (15, (ptr b1 0)), (16, (.int .i64 a3.1.1)), (17, (ptr b2 o1)), (18, (ptr b2 (o1 + 2))), (19, (.int .i64 x2.2.2.1)), (20, u2), (21, (ptr b1 2)), (23, (ptr b1 0)), (27, (ptr b1 2))]) ?_ ⟨rfl, rfl, rfl, rfl, rfl, rfl, rfl, rfl, rfl, rfl, rfl, rfl, rfl, rfl, rfl, rfl, rfl, rfl, rfl, rfl, rfl, rfl, trivial⟩
  refine WA_postsE [⟨2, [], fun vs => PW.val u4, []⟩, ⟨4, [], fun vs => PW.val (.agg #[(.int .i64 a3.1.1), u3]), []⟩, ⟨5, [], fun vs => PW.own x4, []⟩, ⟨6, [], fun vs => PW.val (.int .i64 (List.length x4 : Int)), []⟩, ⟨8, [], fun vs => PW.val u4, []⟩, ⟨9, [], fun vs => PW.val (.int .i64 (List.length a3.2 : Int)), []⟩] [[], [], [2, 4], [5], [], [8]] 13 rfl (by kernel_rfl) (by kernel_rfl) rfl ?_ ?_
  ·refine StepsE_cons rfl ?_ ?_
   ·intro w6 hB6
    refine DepsE_nil ?_
    refine ⟨_, rfl, ?_⟩
    refine WL_load_box (hC4.grow hB6) 0 rfl rfl Tryz.isAgg31 rfl rfl ?_
    refine WL_nil ?_
    exact FinE_val (Below.refl _ _) rfl rfl ⟨rfl, rfl⟩
   refine StepsE_cons rfl ?_ ?_
   ·intro w6 hB6
    refine DepsE_nil ?_
    refine ⟨_, rfl, ?_⟩
    refine WL_load_box_agg [(.int .i64 a3.1.1), u3] (hC4.grow hB6) 0 rfl rfl rfl Tryz.isAgg44 Tryz.sizeOf44 rfl rfl ?_
    refine WL_nil ?_
    exact FinE_val (Below.refl _ _) rfl rfl ⟨rfl, rfl⟩
   refine StepsE_cons rfl ?_ ?_
   ·intro w6 hB6
    refine DepsE_cons rfl rfl rfl ?_
    rintro _ _ ⟨rfl, rfl⟩ _
    refine DepsE_cons rfl rfl rfl ?_
    rintro _ _ ⟨rfl, rfl⟩ _
    refine DepsE_nil ?_
    refine ⟨_, rfl, ?_⟩
    refine WL_call Tryz.call97 rfl rfl (c_M_matches a2 u2 (g2.now (hC4.keep.then hB6)) a3.2 u4 (g4.now (hC4.keep.then hB6)) (a3.1.1, a3.1.2) u3 (g3.now (hC4.keep.then hB6)) x4 hr3) ?_
    rintro v2 w5 ⟨hB5, F1, hv2, hn1, hb1⟩
    refine WL_nil ?_
    exact FinE_own hB5 rfl rfl hv2 hn1 hb1 (Val.inh hv2)
   refine StepsE_cons rfl ?_ ?_
   ·intro w6 hB6
    refine DepsE_cons rfl rfl rfl ?_
    intro v2 F1 hv2 _
    refine DepsE_nil ?_
    refine ⟨_, rfl, ?_⟩
    refine WL_len Tryz.underlying31 (ro_of_own hv2) rfl rfl ?_
    refine WL_nil ?_
    exact FinE_val (Below.refl _ _) rfl rfl ⟨rfl, rfl⟩
   refine StepsE_cons rfl ?_ ?_
   ·intro w6 hB6
    refine DepsE_nil ?_
    refine ⟨_, rfl, ?_⟩
    refine WL_load_box (hC4.grow hB6) 0 rfl rfl Tryz.isAgg31 rfl rfl ?_
    refine WL_nil ?_
    exact FinE_val (Below.refl _ _) rfl rfl ⟨rfl, rfl⟩
   refine StepsE_cons rfl ?_ ?_
   ·intro w6 hB6
    refine DepsE_cons rfl rfl rfl ?_
    rintro _ _ ⟨rfl, rfl⟩ _
    refine DepsE_nil ?_
    refine ⟨_, rfl, ?_⟩
    refine WL_len Tryz.underlying31 g4 rfl rfl ?_
    refine WL_nil ?_
    exact FinE_val (Below.refl _ _) rfl rfl ⟨rfl, rfl⟩
   exact StepsE_nil
  intro w7 hB7
  refine AllE_cons rfl rfl rfl ?_
  rintro _ _ ⟨rfl, rfl⟩
  refine AllE_cons rfl rfl rfl ?_
  rintro _ _ ⟨rfl, rfl⟩
  refine AllE_cons rfl rfl rfl ?_
  intro v2 F1 hv2
  refine AllE_cons rfl rfl rfl ?_
  rintro _ _ ⟨rfl, rfl⟩
  refine AllE_cons rfl rfl rfl ?_
  rintro _ _ ⟨rfl, rfl⟩
  refine AllE_cons rfl rfl rfl ?_
  rintro _ _ ⟨rfl, rfl⟩
  refine AllE_nil ?_
  intro hn2 hb2
  have hC5 := hC4.pushL hB7 (Bs := [Item.own v2 (x4 : (List (Int × (List Int))))]) (Fs := [F1]) ⟨F1, _, rfl, hv2, rfl⟩ (by simpa using hn2) (fun b h => (hb2 b (by simpa using h)).1)
  refine WA_tk 10 (by kernel_rfl) rfl rfl (fl_eql rfl rfl) ?_
  refine WL_eql rfl rfl rfl ?_
  refine WL_nil ?_
  refine WA_tk 11 (by kernel_rfl) rfl rfl (fl_move rfl) ?_
  refine WL_move rfl rfl ?_
  refine WL_nil ?_
  refine WA_fork (fun hc2 => ?_) (fun hc2 => ?_)
  ·replace hr2 := ite_t hr2 hc2
   refine WA_takeG 12 rfl (by kernel_rfl) (by kernel_rfl) (by kernel_rfl) rfl rfl rfl (fl_move rfl) ?_
   refine WL_guard rfl rfl ?_
   refine WL_move rfl rfl ?_
   refine WL_nil ?_
   refine WA_takeG 13 rfl (by kernel_rfl) (by kernel_rfl) (by kernel_rfl) rfl rfl rfl (fl_eql rfl rfl) ?_
   refine WL_guard rfl rfl ?_
   refine WL_eql rfl rfl rfl ?_
   refine WL_nil ?_
   refine WA_takeG 14 rfl (by kernel_rfl) (by kernel_rfl) (by kernel_rfl) rfl rfl rfl (fl_move rfl) ?_
   refine WL_guard rfl rfl ?_
   refine WL_move rfl rfl ?_
   refine WL_nil ?_
   refine WA_fork (fun hc3 => ?_) (fun hc3 => ?_)
   ·replace hr2 := ite_t hr2 hc3
    refine WA_sk 15 (by kernel_rfl) rfl rfl rfl rfl (by simp) rfl rfl ?_
    refine WA_sk 16 (by kernel_rfl) rfl rfl rfl rfl (by simp) rfl rfl ?_
    refine WA_sk 17 (by kernel_rfl) rfl rfl rfl rfl (by simp) rfl rfl ?_
    refine WA_sk 18 (by kernel_rfl) rfl rfl rfl rfl (by simp) rfl rfl ?_
    refine WA_sk 19 (by kernel_rfl) rfl rfl rfl rfl (by simp) rfl rfl ?_
    refine WA_takeG 20 rfl (by kernel_rfl) (by kernel_rfl) (by kernel_rfl) rfl rfl rfl (fl_pick_t rfl rfl) ?_
    refine WL_guard rfl rfl ?_
    refine WL_pick_t rfl rfl rfl ?_
    refine WL_nil ?_
    refine WA_tk 21 (by kernel_rfl) rfl rfl (fl_pick_t rfl rfl) ?_
    refine WL_pick_t rfl rfl rfl ?_
    refine WL_nil ?_
    refine WA_tk 22 (by kernel_rfl) rfl rfl (fl_assign rfl) ?_
    refine WL_assign rfl rfl ?_
    refine WL_nil ?_
    refine WA_done (by kernel_rfl) ?_
    have hq2 := Option.some.inj hr2
    subst hq2
    have hC6 := hC5.h0
    refine nrm_sub (l' := [(6, (.bool true))]) ⟨rfl, trivial⟩ ?_
    exact ⟨true, rfl, rfl, ((Keep.of hB4).then hB7).below, hC6⟩
   replace hr2 := ite_f hr2 hc3
   refine WA_takeG 15 rfl (by kernel_rfl) (by kernel_rfl) (by kernel_rfl) rfl rfl rfl (fl_field Tryz.underlying46 rfl rfl (fun w => ⟨_, Tryz.sizeOf31 w⟩) rfl) ?_
   refine WL_guard rfl rfl ?_
   refine WL_field Tryz.underlying46 rfl rfl (fun w => ⟨_, Tryz.sizeOf31 w⟩) rfl rfl ?_
   refine WL_nil ?_
   refine WA_takeG 18 rfl (by kernel_rfl) (by kernel_rfl) (by kernel_rfl) rfl rfl rfl (fl_move rfl) ?_
   refine WL_guard rfl rfl ?_
   refine WL_move rfl rfl ?_
   refine WL_nil ?_
   refine WA_one 16 (by kernel_rfl) rfl ?_
   refine WL_guard rfl rfl ?_
   refine WL_load_box hC5 1 rfl rfl Tryz.isAgg31 rfl rfl ?_
   refine WL_nil ?_
   refine WA_takeG 17 rfl (by kernel_rfl) (by kernel_rfl) (by kernel_rfl) rfl rfl rfl (fl_len Tryz.underlying31 g4 rfl) ?_
   refine WL_guard rfl rfl ?_
   refine WL_len Tryz.underlying31 g4 rfl rfl ?_
   refine WL_nil ?_
   refine WA_takeG 19 rfl (by kernel_rfl) (by kernel_rfl) (by kernel_rfl) rfl rfl rfl (fl_leq rfl rfl) ?_
   refine WL_guard rfl rfl ?_
   refine WL_leq rfl rfl rfl ?_
   refine WL_nil ?_
   refine WA_takeG 20 rfl (by kernel_rfl) (by kernel_rfl) (by kernel_rfl) rfl rfl rfl (fl_pick_f rfl rfl) ?_
   refine WL_guard rfl rfl ?_
   refine WL_pick_f rfl rfl rfl ?_
   refine WL_nil ?_
   refine WA_tk 21 (by kernel_rfl) rfl rfl (fl_pick_t rfl rfl) ?_
   refine WL_pick_t rfl rfl rfl ?_
   refine WL_nil ?_
   refine WA_tk 22 (by kernel_rfl) rfl rfl (fl_assign rfl) ?_
   refine WL_assign rfl rfl ?_
   refine WL_nil ?_
   refine WA_done (by kernel_rfl) ?_
   have hq3 := Option.some.inj hr2
   subst hq3
   have hC7 := hC5.h0
   refine nrm_sub (l' := [(6, (.bool (decide ((List.length a3.2 : Int) ≤ x2.2.2.1))))]) ⟨rfl, trivial⟩ ?_
   exact ⟨(decide ((List.length a3.2 : Int) ≤ x2.2.2.1)), rfl, rfl, ((Keep.of hB4).then hB7).below, hC7⟩
  replace hr2 := ite_f hr2 hc2
  refine WA_sk 12 (by kernel_rfl) rfl rfl rfl rfl (by simp) rfl rfl ?_
  refine WA_sk 13 (by kernel_rfl) rfl rfl rfl rfl (by simp) rfl rfl ?_
  refine WA_sk 14 (by kernel_rfl) rfl rfl rfl rfl (by simp) rfl rfl ?_
  refine WA_sk 15 (by kernel_rfl) rfl rfl rfl rfl (by simp [undef]) rfl rfl ?_
  refine WA_sk 16 (by kernel_rfl) rfl rfl rfl rfl (by simp [undef]) rfl rfl ?_
  refine WA_sk 17 (by kernel_rfl) rfl rfl rfl rfl (by simp [undef]) rfl rfl ?_
  refine WA_sk 18 (by kernel_rfl) rfl rfl rfl rfl (by simp [undef]) rfl rfl ?_
  refine WA_sk 19 (by kernel_rfl) rfl rfl rfl rfl (by simp [undef]) rfl rfl ?_
  refine WA_sk 20 (by kernel_rfl) rfl rfl rfl rfl (by simp) rfl rfl ?_
  refine WA_tk 21 (by kernel_rfl) rfl rfl (fl_pick_f rfl rfl) ?_
  refine WL_pick_f rfl rfl rfl ?_
  refine WL_nil ?_
  refine WA_tk 22 (by kernel_rfl) rfl rfl (fl_assign rfl) ?_
  refine WL_assign rfl rfl ?_
  refine WL_nil ?_
  refine WA_done (by kernel_rfl) ?_
  have hq4 := Option.some.inj hr2
  subst hq4
  have hC8 := hC5.h0
  refine nrm_sub (l' := [(6, (.bool false))]) ⟨rfl, trivial⟩ ?_
  exact ⟨false, rfl, rfl, ((Keep.of hB4).then hB7).below, hC8⟩
 rintro _ w3 ⟨x3, rfl, rfl, hB3, hC3⟩
 try dsimp only at hF
 refine W_ret ?_
 have hq5 := Option.some.inj hF
 subst hq5
 refine fn_ret1 rfl rfl ?_
 exact ⟨_, rfl, bool_res hC3 _⟩

theorem c_M_Told_denies {w0 : World} (a1 : ((Int × (List Int)) × (List (Int × (List Int))))) (u1 : Value) (g1 : RO [] w0 u1 a1.1.2) (u2 : Value) (g2 : RO [] w0 u2 a1.2) (a2 : (List (Int × (List Int) × Int × Int × Int))) (u3 : Value) (g3 : RO [] w0 u3 a2) (a3 : (Int × (List Int))) (u4 : Value) (g4 : RO [] w0 u4 a3.2) (rr : Bool) (hF : M.Told_denies a1 a2 a3 = some rr) :
 Calls Tryz.prog 88 [(.agg #[(.int .i64 a1.1.1), u1, u2]), u3, (.agg #[(.int .i64 a3.1), u4])].toArray w0 fun e w' => ∃ v, e = .returned v ∧ Res w0 rr v w' := by
 refine calls_of_W Tryz.func88 rfl rfl ?_
 have hC0 := Ctx.start w0
 unfold M.Told_denies at hF
 refine W_seq_reg ?_
 refine WL_boxK (cs := [(.int .i64 a1.1.1), u1, u2]) hC0 rfl rfl rfl (fun b1 w1 hC1 hB1 hN1 => ?_)
 refine WL_boxK (cs := [(.int .i64 a3.1), u4]) hC1 rfl rfl rfl (fun b2 w2 hC2 hB2 hN2 => ?_)
 refine WL_assign rfl rfl ?_
 refine WL_nil (W_seq_reg ?_)
 refine WL_move rfl rfl ?_
 refine WL_field Tryz.underlying46 rfl rfl (fun w => ⟨_, Tryz.sizeOf44 w⟩) rfl rfl ?_
 refine WL_field Tryz.underlying44 rfl rfl (fun w => ⟨_, Tryz.sizeOf3 w⟩) rfl rfl ?_
 refine WL_load_box hC2 1 rfl rfl Tryz.isAgg3 rfl rfl ?_
 obtain ⟨x1, hx1, hF⟩ := bind_some hF
 refine WL_index Tryz.underlying25 ty93 g3 hx1 rfl rfl rfl (fun b3 o1 h1 => ?_)
 refine WL_field Tryz.underlying93 rfl rfl (fun w => ⟨_, Tryz.sizeOf3 w⟩) rfl rfl ?_
 refine WL_load ty3 h1.snd.snd.fst hC2.keep rfl rfl (fun v1 h2 => ?_)
 obtain rfl := ro_int h2
 refine WL_assign rfl rfl ?_
 refine WL_nil ?_
 obtain ⟨r1, hr1, hF⟩ := bind_some hF
 refine W_cut (fun l w => ∃ x2 : Bool, x2 = r1 ∧ l = [(6, (.bool x2))] ∧ Below w2.heap.size w2 w ∧ Ctx [] w0 w []) ?_ ?_
 ·refine W_reg ?_
  refine WL_move rfl rfl ?_
  refine WL_load_box_agg [(.int .i64 a3.1), u4] hC2 0 rfl rfl rfl Tryz.isAgg88 Tryz.sizeOf88 rfl rfl ?_
  refine WL_buildSlice (vs := [(.agg #[(.int .i64 a3.1), u4])]) hC2 Tryz.underlying31 ty88 rfl rfl rfl rfl (by intro v hv; simp only [List.mem_cons, List.not_mem_nil, or_false] at hv; rcases hv with rfl <;> rfl) rfl rfl (fun b4 w4 hC4 hB4 => ?_)
  refine WL_field Tryz.underlying46 rfl rfl (fun w => ⟨_, Tryz.sizeOf44 w⟩) rfl rfl ?_
  refine WL_load_box_agg [(.int .i64 a1.1.1), u1] hC4 2 rfl rfl rfl Tryz.isAgg44 Tryz.sizeOf44 rfl rfl ?_
  obtain ⟨x3, hr2, hr1⟩ := bind_some hr1
  refine WL_call Tryz.call97 rfl rfl (c_M_matches a2 u3 (g3.now hC4.keep) ([(a3.1, a3.2)] : List (Int × (List Int))) (.slice (some ⟨b4, 0, none⟩) 1 1) ((hC4.litRO (m := 1) 0 rfl (rowro_cons (repw_pair repw_int (repw_slice (g4.now hC4.keep))) rowro_nil) rfl (by simp [maxLen]) (by decide)).now (Keep.refl _ _)) (a1.1.1, a1.1.2) u1 (g1.now hC4.keep) x3 hr2) ?_
  rintro v2 w5 ⟨hB5, F1, hv1, hn1, hb1⟩
  have hC5 := hC4.push hB5 (A := Item.own v2 x3) hv1 hn1 hb1
  refine WL_len Tryz.underlying31 (hC5.ro 0 rfl) rfl rfl ?_
  refine WL_gtr rfl rfl rfl ?_
  refine WL_move rfl rfl ?_
  refine WL_fork (fun hc1 => ?_) (fun hc1 => ?_)
  ·replace hr1 := ite_t hr1 hc1
   refine WL_guard rfl rfl ?_
   refine WL_field Tryz.underlying46 rfl rfl (fun w => ⟨_, Tryz.sizeOf31 w⟩) rfl rfl ?_
   refine WL_guard rfl rfl ?_
   refine WL_load_box hC5 3 rfl rfl Tryz.isAgg31 rfl rfl ?_
   refine WL_guard rfl rfl ?_
   refine WL_load_box_agg [(.int .i64 a3.1), u4] hC5 2 rfl rfl rfl Tryz.isAgg88 Tryz.sizeOf88 rfl rfl ?_
   obtain ⟨x4, hr3, hr1⟩ := bind_some hr1
   refine WL_guard rfl rfl ?_
   refine WL_call Tryz.call125 rfl rfl (c_M_HasFact a1.2 u2 (g2.now hC5.keep) (a3.1, a3.2) u4 (g4.now hC5.keep) x4 hr3) ?_
   intro _ w6 hv2
   obtain ⟨rfl, hB6⟩ := res_bool hv2
   have hC6 := hC5.grow hB6
   refine WL_guard rfl rfl ?_
   refine WL_not rfl rfl ?_
   refine WL_pick_t rfl rfl rfl ?_
   refine WL_move rfl rfl ?_
   refine WL_fork (fun hc2 => ?_) (fun hc2 => ?_)
   ·replace hr1 := ite_t hr1 hc2
    refine WL_guard rfl rfl ?_
    refine WL_move rfl rfl ?_
    refine WL_guard rfl rfl ?_
    refine WL_eql rfl rfl rfl ?_
    refine WL_guard rfl rfl ?_
    refine WL_move rfl rfl ?_
    refine WL_fork (fun hc3 => ?_) (fun hc3 => ?_)
    ·replace hr1 := ite_t hr1 hc3
     refine WL_guard_skip rfl rfl (by simp) rfl ?_
     refine WL_guard_skip rfl rfl (by simp) rfl ?_
     refine WL_guard_skip rfl rfl (by simp) rfl ?_
     refine WL_guard_skip rfl rfl (by simp) rfl ?_
     refine WL_guard_skip rfl rfl (by simp) rfl ?_
     refine WL_guard rfl rfl ?_
     refine WL_pick_t rfl rfl rfl ?_
     refine WL_pick_t rfl rfl rfl ?_
     refine WL_assign rfl rfl ?_
     refine WL_nil ?_
     have hq1 := Option.some.inj hr1
     subst hq1
     have hC7 := hC6.h0
     refine nrm_sub (l' := [(6, (.bool true))]) ⟨rfl, trivial⟩ ?_
     exact ⟨true, rfl, rfl, (((Keep.of hB4).then hB5).then hB6).below, hC7⟩
    replace hr1 := ite_f hr1 hc3
    refine WL_guard rfl rfl ?_
    refine WL_field Tryz.underlying46 rfl rfl (fun w => ⟨_, Tryz.sizeOf31 w⟩) rfl rfl ?_
    refine WL_guard rfl rfl ?_
    refine WL_load_box hC6 3 rfl rfl Tryz.isAgg31 rfl rfl ?_
    refine WL_guard rfl rfl ?_
    refine WL_len Tryz.underlying31 g2 rfl rfl ?_
    refine WL_guard rfl rfl ?_
    refine WL_move rfl rfl ?_
    refine WL_guard rfl rfl ?_
    refine WL_lss rfl rfl rfl ?_
    refine WL_guard rfl rfl ?_
    refine WL_pick_f rfl rfl rfl ?_
    refine WL_pick_t rfl rfl rfl ?_
    refine WL_assign rfl rfl ?_
    refine WL_nil ?_
    have hq2 := Option.some.inj hr1
    subst hq2
    have hC8 := hC6.h0
    refine nrm_sub (l' := [(6, (.bool (decide ((List.length a1.2 : Int) < x1.2.2.1))))]) ⟨rfl, trivial⟩ ?_
    exact ⟨(decide ((List.length a1.2 : Int) < x1.2.2.1)), rfl, rfl, (((Keep.of hB4).then hB5).then hB6).below, hC8⟩
   replace hr1 := ite_f hr1 hc2
   refine WL_guard_skip rfl rfl (by simp) rfl ?_
   refine WL_guard_skip rfl rfl (by simp) rfl ?_
   refine WL_guard_skip rfl rfl (by simp) rfl ?_
   refine WL_guard_skip rfl rfl (by simp [undef]) rfl ?_
   refine WL_guard_skip rfl rfl (by simp [undef]) rfl ?_
   refine WL_guard_skip rfl rfl (by simp [undef]) rfl ?_
   refine WL_guard_skip rfl rfl (by simp [undef]) rfl ?_
   refine WL_guard_skip rfl rfl (by simp [undef]) rfl ?_
   refine WL_guard_skip rfl rfl (by simp) rfl ?_
   refine WL_pick_f rfl rfl rfl ?_
   refine WL_assign rfl rfl ?_
   refine WL_nil ?_
   have hq3 := Option.some.inj hr1
   subst hq3
   have hC9 := hC6.h0
   refine nrm_sub (l' := [(6, (.bool false))]) ⟨rfl, trivial⟩ ?_
   exact ⟨false, rfl, rfl, (((Keep.of hB4).then hB5).then hB6).below, hC9⟩
  replace hr1 := ite_f hr1 hc1
  refine WL_guard_skip rfl rfl (by simp) rfl ?_
  refine WL_guard_skip rfl rfl (by simp) rfl ?_
  refine WL_guard_skip rfl rfl (by simp) rfl ?_
  refine WL_guard_skip rfl rfl (by simp) rfl ?_
  refine WL_guard_skip rfl rfl (by simp) rfl ?_
  refine WL_pick_f rfl rfl rfl ?_
  refine WL_move rfl rfl ?_
  refine WL_guard_skip rfl rfl (by simp) rfl ?_
  refine WL_guard_skip rfl rfl (by simp) rfl ?_
  refine WL_guard_skip rfl rfl (by simp) rfl ?_
  refine WL_guard_skip rfl rfl (by simp [undef]) rfl ?_
  refine WL_guard_skip rfl rfl (by simp [undef]) rfl ?_
  refine WL_guard_skip rfl rfl (by simp [undef]) rfl ?_
  refine WL_guard_skip rfl rfl (by simp [undef]) rfl ?_
  refine WL_guard_skip rfl rfl (by simp [undef]) rfl ?_
  refine WL_guard_skip rfl rfl (by simp) rfl ?_
  refine WL_pick_f rfl rfl rfl ?_
  refine WL_assign rfl rfl ?_
  refine WL_nil ?_
  have hq4 := Option.some.inj hr1
  subst hq4
  have hC10 := hC5.h0
  refine nrm_sub (l' := [(6, (.bool false))]) ⟨rfl, trivial⟩ ?_
  exact ⟨false, rfl, rfl, ((Keep.of hB4).then hB5).below, hC10⟩
 rintro _ w3 ⟨x2, rfl, rfl, hB3, hC3⟩
 try dsimp only at hF
 refine W_ret ?_
 have hq5 := Option.some.inj hF
 subst hq5
 refine fn_ret1 rfl rfl ?_
 exact ⟨_, rfl, bool_res hC3 _⟩

theorem c_M_Disagree_c1 {w0 : World} (a1 : (Int × (List Int))) (u1 : Value) (g1 : RO [] w0 u1 a1.2) (pb1 : Nat) (ax1 : ((Int × (List Int)) × (List (Int × (List Int))))) (g2 : ROAt [] w0 pb1 0 ax1) (pb2 : Nat) (ax2 : (List (Int × (List Int) × Int × Int × Int))) (g3 : ROAt [] w0 pb2 0 ax2) (rr : Bool) (hF : M.Disagree_c1 a1 ax1 ax2 = some rr) :
 Calls Tryz.prog 94 [(.agg #[(.int .i64 a1.1), u1]), (ptr pb1 0), (ptr pb2 0)].toArray w0 fun e w' => ∃ v, e = .returned v ∧ Res w0 rr v w' := by
 refine calls_of_W Tryz.func94 rfl rfl ?_
 have hC0 := Ctx.start w0
 unfold M.Disagree_c1 at hF
 refine W_seq_reg ?_
 refine WL_boxK (cs := [(.int .i64 a1.1), u1]) hC0 rfl rfl rfl (fun b1 w1 hC1 hB1 hN1 => ?_)
 refine WL_assign rfl rfl ?_
 refine WL_nil (W_seq_reg ?_)
 refine WL_load ty46 g2 hC1.keep rfl rfl (fun v1 h1 => ?_)
 obtain ⟨v2, v3, rfl, h2, h3⟩ := ro_st46 h1
 refine WL_load ty25 g3 hC1.keep rfl rfl (fun v4 h4 => ?_)
 refine WL_load_box_agg [(.int .i64 a1.1), u1] hC1 0 rfl rfl rfl Tryz.isAgg88 Tryz.sizeOf88 rfl rfl ?_
 obtain ⟨x1, hr1, hF⟩ := bind_some hF
 refine WL_call Tryz.call88 rfl rfl (c_M_Told_denies ax1 v2 (h2.now hC1.keep) v3 (h3.now hC1.keep) ax2 v4 (h4.now hC1.keep) (a1.1, a1.2) u1 (g1.now hC1.keep) x1 hr1) ?_
 intro _ w2 hv1
 obtain ⟨rfl, hB2⟩ := res_bool hv1
 have hC2 := hC1.grow hB2
 refine WL_assign rfl rfl ?_
 refine WL_nil (W_ret ?_)
 have hq1 := Option.some.inj hF
 subst hq1
 refine fn_ret1 rfl rfl ?_
 exact ⟨_, rfl, bool_res hC2 _⟩

theorem c_M_Disagree_c2 {w0 : World} (a1 : (Int × (List Int))) (u1 : Value) (g1 : RO [] w0 u1 a1.2) (pb1 : Nat) (ax1 : ((Int × (List Int)) × (List (Int × (List Int))))) (g2 : ROAt [] w0 pb1 0 ax1) (pb2 : Nat) (ax2 : (List (Int × (List Int) × Int × Int × Int))) (g3 : ROAt [] w0 pb2 0 ax2) (rr : Bool) (hF : M.Disagree_c2 a1 ax1 ax2 = some rr) :
 Calls Tryz.prog 95 [(.agg #[(.int .i64 a1.1), u1]), (ptr pb1 0), (ptr pb2 0)].toArray w0 fun e w' => ∃ v, e = .returned v ∧ Res w0 rr v w' := by
 refine calls_of_W Tryz.func95 rfl rfl ?_
 have hC0 := Ctx.start w0
 unfold M.Disagree_c2 at hF
 refine W_seq_reg ?_
 refine WL_boxK (cs := [(.int .i64 a1.1), u1]) hC0 rfl rfl rfl (fun b1 w1 hC1 hB1 hN1 => ?_)
 refine WL_assign rfl rfl ?_
 refine WL_nil (W_seq_reg ?_)
 refine WL_load ty46 g2 hC1.keep rfl rfl (fun v1 h1 => ?_)
 obtain ⟨v2, v3, rfl, h2, h3⟩ := ro_st46 h1
 refine WL_load ty25 g3 hC1.keep rfl rfl (fun v4 h4 => ?_)
 refine WL_load_box_agg [(.int .i64 a1.1), u1] hC1 0 rfl rfl rfl Tryz.isAgg88 Tryz.sizeOf88 rfl rfl ?_
 obtain ⟨x1, hr1, hF⟩ := bind_some hF
 refine WL_call Tryz.call88 rfl rfl (c_M_Told_denies ax1 v2 (h2.now hC1.keep) v3 (h3.now hC1.keep) ax2 v4 (h4.now hC1.keep) (a1.1, a1.2) u1 (g1.now hC1.keep) x1 hr1) ?_
 intro _ w2 hv1
 obtain ⟨rfl, hB2⟩ := res_bool hv1
 have hC2 := hC1.grow hB2
 refine WL_assign rfl rfl ?_
 refine WL_nil (W_ret ?_)
 have hq1 := Option.some.inj hF
 subst hq1
 refine fn_ret1 rfl rfl ?_
 exact ⟨_, rfl, bool_res hC2 _⟩

theorem c_Slices_IndexFunc_Limpl_Fact_impl_Fact_M_Disagree_c1 {w0 : World} (a1 : (List (Int × (List Int)))) (u1 : Value) (g1 : RO [] w0 u1 a1) (pb1 : Nat) (ax1 : ((Int × (List Int)) × (List (Int × (List Int))))) (g2 : ROAt [] w0 pb1 0 ax1) (pb2 : Nat) (ax2 : (List (Int × (List Int) × Int × Int × Int))) (g3 : ROAt [] w0 pb2 0 ax2) (rr : Int) (hF : Slices.IndexFunc_Limpl_Fact_impl_Fact_M_Disagree_c1 a1 ax1 ax2 = some rr) :
 Calls Tryz.prog 126 [u1, (.func (.func 94) #[] #[(ptr pb1 0), (ptr pb2 0)])].toArray w0 fun e w' => ∃ v, e = .returned v ∧ Res w0 rr v w' := by
 refine calls_of_W Tryz.func126 rfl rfl ?_
 have hC0 := Ctx.start w0
 unfold Slices.IndexFunc_Limpl_Fact_impl_Fact_M_Disagree_c1 at hF
 refine W_seq_reg ?_
 refine WL_assign rfl rfl ?_
 refine WL_nil (W_seq (W_seq_reg ?_))
 refine WL_move rfl rfl ?_
 refine WL_len Tryz.underlying31 g1 rfl rfl ?_
 refine WL_move rfl rfl ?_
 refine WL_nil ?_
 obtain ⟨r1, hr1, hF⟩ := bind_some hF
 refine W_norm (fun l w => .inl () = r1 ∧ l = [] ∧ Below w0.heap.size w0 w ∧ Ctx [] w0 w []) ?_ ?_
 ·refine W_block ?_
  refine W.sub (l' := [(0, u1), (1, (.func (.func 94) #[] #[(ptr pb1 0), (ptr pb2 0)])), (7, (.int .i64 (List.length a1 : Int))), (8, (.int .i64 0))]) ?_ ⟨rfl, rfl, rfl, rfl, trivial⟩
  refine W_loop (fun k l w => ∃ x1 : Int, l = [(0, u1), (1, (.func (.func 94) #[] #[(ptr pb1 0), (ptr pb2 0)])), (7, (.int .i64 (List.length a1 : Int))), (8, (.int .i64 x1))] ∧ Below w0.heap.size w0 w ∧ Ctx [] w0 w [] ∧ Slices.IndexFunc_Limpl_Fact_impl_Fact_M_Disagree_c1_l1 a1 ax1 ax2 k x1 = some r1) FUEL ⟨0, rfl, (Below.refl _ _), hC0, hr1⟩ ?_
  clear hr1
  rintro k1 _ w1 ⟨x1, rfl, hB1, hC1, hL1⟩
  cases k1 with
  | zero => rw [Slices.IndexFunc_Limpl_Fact_impl_Fact_M_Disagree_c1_l1] at hL1; cases hL1
  | succ k1 =>
   rw [Slices.IndexFunc_Limpl_Fact_impl_Fact_M_Disagree_c1_l1] at hL1
   refine W_seq_reg ?_
   refine WL_lss rfl rfl rfl ?_
   refine WL_nil (W_seq ?_)
   refine W_cond rfl (fun hc1 => ?_) (fun hc1 => ?_)
   ·replace hL1 := ite_t hL1 hc1
    refine W_skip (nrm_normal (W_seq (W_block (W_seq_reg ?_))))
    refine WL_move rfl rfl ?_
    refine WL_assign rfl rfl ?_
    refine WL_nil (W_seq_reg ?_)
    refine WL_move rfl rfl ?_
    refine WL_move rfl rfl ?_
    refine WL_move rfl rfl ?_
    obtain ⟨x2, hx1, hL1⟩ := bind_some hL1
    refine WL_index Tryz.underlying31 ty88 g1 hx1 rfl rfl rfl (fun b1 o1 h1 => ?_)
    refine WL_load ty88 h1 hC1.keep rfl rfl (fun v1 h2 => ?_)
    obtain ⟨v2, rfl, h3⟩ := ro_st88 h2
    obtain ⟨x3, hr2, hL1⟩ := bind_some hL1
    refine WL_callv (cap := [(ptr pb1 0), (ptr pb2 0)]) Tryz.call94 rfl rfl rfl (c_M_Disagree_c1 x2 v2 (h3.now hC1.keep) pb1 ax1 (g2.now hC1.keep) pb2 ax2 (g3.now hC1.keep) x3 hr2) ?_
    intro _ w2 hv1
    obtain ⟨rfl, hB2⟩ := res_bool hv1
    have hC2 := hC1.grow hB2
    refine WL_nil ?_
    refine W_cond rfl (fun hc2 => ?_) (fun hc2 => ?_)
    ·replace hL1 := ite_t hL1 hc2
     refine W_seq_reg ?_
     refine WL_move rfl rfl ?_
     refine WL_assign rfl rfl ?_
     refine WL_nil (W_ret (blk_ret (nrm_ret (nrm_ret (blk_ret (nrm_ret (nrm_ret ?_)))))))
     have hq1 := Option.some.inj hL1
     subst hq1
     dsimp only at hF
     have hq2 := Option.some.inj hF
     subst hq2
     refine fn_ret1 rfl rfl ?_
     exact ⟨_, rfl, int_res hC2 _⟩
    replace hL1 := ite_f hL1 hc2
    refine W_skip (blk_normal (nrm_normal (W_reg ?_)))
    refine WL_add rfl rfl rfl ?_
    refine WL_move rfl rfl ?_
    refine WL_nil ?_
    refine nrm_sub (l' := [(0, u1), (1, (.func (.func 94) #[] #[(ptr pb1 0), (ptr pb2 0)])), (7, (.int .i64 (List.length a1 : Int))), (8, (.int .i64 (w64 (x1 + 1))))]) ⟨rfl, rfl, rfl, rfl, trivial⟩ ?_
    exact ⟨k1, Nat.lt_succ_self _, w64 (x1 + 1), rfl, ((Keep.of hB1).then hB2).below, hC2, hL1⟩
   replace hL1 := ite_f hL1 hc1
   refine W_exit (nrm_exit (nrm_exit (blk_exit ?_)))
   have hq3 := Option.some.inj hL1
   subst hq3
   refine nrm_sub (l' := []) trivial ?_
   exact ⟨rfl, rfl, (Keep.of hB1).below, hC1⟩
 rintro l2 _ w3 hs2 ⟨rfl, rfl, hB3, hC3⟩
 try dsimp only at hF
 refine nrm_sub' hs2 ?_
 clear hs2
 refine W_seq_reg ?_
 refine WL_assign rfl rfl ?_
 refine WL_nil (W_ret ?_)
 have hq4 := Option.some.inj hF
 subst hq4
 refine fn_ret1 rfl rfl ?_
 exact ⟨_, rfl, int_res hC3 _⟩

theorem c_Slices_ContainsFunc_Limpl_Fact_impl_Fact_M_Disagree_c1 {w0 : World} (a1 : (List (Int × (List Int)))) (u1 : Value) (g1 : RO [] w0 u1 a1) (pb1 : Nat) (ax1 : ((Int × (List Int)) × (List (Int × (List Int))))) (g2 : ROAt [] w0 pb1 0 ax1) (pb2 : Nat) (ax2 : (List (Int × (List Int) × Int × Int × Int))) (g3 : ROAt [] w0 pb2 0 ax2) (rr : Bool) (hF : Slices.ContainsFunc_Limpl_Fact_impl_Fact_M_Disagree_c1 a1 ax1 ax2 = some rr) :
 Calls Tryz.prog 93 [u1, (.func (.func 94) #[] #[(ptr pb1 0), (ptr pb2 0)])].toArray w0 fun e w' => ∃ v, e = .returned v ∧ Res w0 rr v w' := by
 refine calls_of_W Tryz.func93 rfl rfl ?_
 have hC0 := Ctx.start w0
 unfold Slices.ContainsFunc_Limpl_Fact_impl_Fact_M_Disagree_c1 at hF
 refine W_seq_reg ?_
 refine WL_assign rfl rfl ?_
 refine WL_nil (W_seq_reg ?_)
 refine WL_move rfl rfl ?_
 refine WL_move rfl rfl ?_
 obtain ⟨x1, hr1, hF⟩ := bind_some hF
 refine WL_call Tryz.call126 rfl rfl (c_Slices_IndexFunc_Limpl_Fact_impl_Fact_M_Disagree_c1 a1 u1 (g1.now hC0.keep) pb1 ax1 (g2.now hC0.keep) pb2 ax2 (g3.now hC0.keep) x1 hr1) ?_
 intro _ w1 hv1
 obtain ⟨rfl, hB1⟩ := res_int hv1
 have hC1 := hC0.grow hB1
 refine WL_geq rfl rfl rfl ?_
 refine WL_assign rfl rfl ?_
 refine WL_nil (W_ret ?_)
 have hq1 := Option.some.inj hF
 subst hq1
 refine fn_ret1 rfl rfl ?_
 exact ⟨_, rfl, bool_res hC1 _⟩

theorem c_Slices_IndexFunc_Limpl_Fact_impl_Fact_M_Disagree_c2 {w0 : World} (a1 : (List (Int × (List Int)))) (u1 : Value) (g1 : RO [] w0 u1 a1) (pb1 : Nat) (ax1 : ((Int × (List Int)) × (List (Int × (List Int))))) (g2 : ROAt [] w0 pb1 0 ax1) (pb2 : Nat) (ax2 : (List (Int × (List Int) × Int × Int × Int))) (g3 : ROAt [] w0 pb2 0 ax2) (rr : Int) (hF : Slices.IndexFunc_Limpl_Fact_impl_Fact_M_Disagree_c2 a1 ax1 ax2 = some rr) :
 Calls Tryz.prog 126 [u1, (.func (.func 95) #[] #[(ptr pb1 0), (ptr pb2 0)])].toArray w0 fun e w' => ∃ v, e = .returned v ∧ Res w0 rr v w' := by
 refine calls_of_W Tryz.func126 rfl rfl ?_
 have hC0 := Ctx.start w0
 unfold Slices.IndexFunc_Limpl_Fact_impl_Fact_M_Disagree_c2 at hF
 refine W_seq_reg ?_
 refine WL_assign rfl rfl ?_
 refine WL_nil (W_seq (W_seq_reg ?_))
 refine WL_move rfl rfl ?_
 refine WL_len Tryz.underlying31 g1 rfl rfl ?_
 refine WL_move rfl rfl ?_
 refine WL_nil ?_
 obtain ⟨r1, hr1, hF⟩ := bind_some hF
 refine W_norm (fun l w => .inl () = r1 ∧ l = [] ∧ Below w0.heap.size w0 w ∧ Ctx [] w0 w []) ?_ ?_
 ·refine W_block ?_
  refine W.sub (l' := [(0, u1), (1, (.func (.func 95) #[] #[(ptr pb1 0), (ptr pb2 0)])), (7, (.int .i64 (List.length a1 : Int))), (8, (.int .i64 0))]) ?_ ⟨rfl, rfl, rfl, rfl, trivial⟩
  refine W_loop (fun k l w => ∃ x1 : Int, l = [(0, u1), (1, (.func (.func 95) #[] #[(ptr pb1 0), (ptr pb2 0)])), (7, (.int .i64 (List.length a1 : Int))), (8, (.int .i64 x1))] ∧ Below w0.heap.size w0 w ∧ Ctx [] w0 w [] ∧ Slices.IndexFunc_Limpl_Fact_impl_Fact_M_Disagree_c2_l1 a1 ax1 ax2 k x1 = some r1) FUEL ⟨0, rfl, (Below.refl _ _), hC0, hr1⟩ ?_
  clear hr1
  rintro k1 _ w1 ⟨x1, rfl, hB1, hC1, hL1⟩
  cases k1 with
  | zero => rw [Slices.IndexFunc_Limpl_Fact_impl_Fact_M_Disagree_c2_l1] at hL1; cases hL1
  | succ k1 =>
   rw [Slices.IndexFunc_Limpl_Fact_impl_Fact_M_Disagree_c2_l1] at hL1
   refine W_seq_reg ?_
   refine WL_lss rfl rfl rfl ?_
   refine WL_nil (W_seq ?_)
   refine W_cond rfl (fun hc1 => ?_) (fun hc1 => ?_)
   ·replace hL1 := ite_t hL1 hc1
    refine W_skip (nrm_normal (W_seq (W_block (W_seq_reg ?_))))
    refine WL_move rfl rfl ?_
    refine WL_assign rfl rfl ?_
    refine WL_nil (W_seq_reg ?_)
    refine WL_move rfl rfl ?_
    refine WL_move rfl rfl ?_
    refine WL_move rfl rfl ?_
    obtain ⟨x2, hx1, hL1⟩ := bind_some hL1
    refine WL_index Tryz.underlying31 ty88 g1 hx1 rfl rfl rfl (fun b1 o1 h1 => ?_)
    refine WL_load ty88 h1 hC1.keep rfl rfl (fun v1 h2 => ?_)
    obtain ⟨v2, rfl, h3⟩ := ro_st88 h2
    obtain ⟨x3, hr2, hL1⟩ := bind_some hL1
    refine WL_callv (cap := [(ptr pb1 0), (ptr pb2 0)]) Tryz.call95 rfl rfl rfl (c_M_Disagree_c2 x2 v2 (h3.now hC1.keep) pb1 ax1 (g2.now hC1.keep) pb2 ax2 (g3.now hC1.keep) x3 hr2) ?_
    intro _ w2 hv1
    obtain ⟨rfl, hB2⟩ := res_bool hv1
    have hC2 := hC1.grow hB2
    refine WL_nil ?_
    refine W_cond rfl (fun hc2 => ?_) (fun hc2 => ?_)
    ·replace hL1 := ite_t hL1 hc2
     refine W_seq_reg ?_
     refine WL_move rfl rfl ?_
     refine WL_assign rfl rfl ?_
     refine WL_nil (W_ret (blk_ret (nrm_ret (nrm_ret (blk_ret (nrm_ret (nrm_ret ?_)))))))
     have hq1 := Option.some.inj hL1
     subst hq1
     dsimp only at hF
     have hq2 := Option.some.inj hF
     subst hq2
     refine fn_ret1 rfl rfl ?_
     exact ⟨_, rfl, int_res hC2 _⟩
    replace hL1 := ite_f hL1 hc2
    refine W_skip (blk_normal (nrm_normal (W_reg ?_)))
    refine WL_add rfl rfl rfl ?_
    refine WL_move rfl rfl ?_
    refine WL_nil ?_
    refine nrm_sub (l' := [(0, u1), (1, (.func (.func 95) #[] #[(ptr pb1 0), (ptr pb2 0)])), (7, (.int .i64 (List.length a1 : Int))), (8, (.int .i64 (w64 (x1 + 1))))]) ⟨rfl, rfl, rfl, rfl, trivial⟩ ?_
    exact ⟨k1, Nat.lt_succ_self _, w64 (x1 + 1), rfl, ((Keep.of hB1).then hB2).below, hC2, hL1⟩
   replace hL1 := ite_f hL1 hc1
   refine W_exit (nrm_exit (nrm_exit (blk_exit ?_)))
   have hq3 := Option.some.inj hL1
   subst hq3
   refine nrm_sub (l' := []) trivial ?_
   exact ⟨rfl, rfl, (Keep.of hB1).below, hC1⟩
 rintro l2 _ w3 hs2 ⟨rfl, rfl, hB3, hC3⟩
 try dsimp only at hF
 refine nrm_sub' hs2 ?_
 clear hs2
 refine W_seq_reg ?_
 refine WL_assign rfl rfl ?_
 refine WL_nil (W_ret ?_)
 have hq4 := Option.some.inj hF
 subst hq4
 refine fn_ret1 rfl rfl ?_
 exact ⟨_, rfl, int_res hC3 _⟩

theorem c_Slices_ContainsFunc_Limpl_Fact_impl_Fact_M_Disagree_c2 {w0 : World} (a1 : (List (Int × (List Int)))) (u1 : Value) (g1 : RO [] w0 u1 a1) (pb1 : Nat) (ax1 : ((Int × (List Int)) × (List (Int × (List Int))))) (g2 : ROAt [] w0 pb1 0 ax1) (pb2 : Nat) (ax2 : (List (Int × (List Int) × Int × Int × Int))) (g3 : ROAt [] w0 pb2 0 ax2) (rr : Bool) (hF : Slices.ContainsFunc_Limpl_Fact_impl_Fact_M_Disagree_c2 a1 ax1 ax2 = some rr) :
 Calls Tryz.prog 93 [u1, (.func (.func 95) #[] #[(ptr pb1 0), (ptr pb2 0)])].toArray w0 fun e w' => ∃ v, e = .returned v ∧ Res w0 rr v w' := by
 refine calls_of_W Tryz.func93 rfl rfl ?_
 have hC0 := Ctx.start w0
 unfold Slices.ContainsFunc_Limpl_Fact_impl_Fact_M_Disagree_c2 at hF
 refine W_seq_reg ?_
 refine WL_assign rfl rfl ?_
 refine WL_nil (W_seq_reg ?_)
 refine WL_move rfl rfl ?_
 refine WL_move rfl rfl ?_
 obtain ⟨x1, hr1, hF⟩ := bind_some hF
 refine WL_call Tryz.call126 rfl rfl (c_Slices_IndexFunc_Limpl_Fact_impl_Fact_M_Disagree_c2 a1 u1 (g1.now hC0.keep) pb1 ax1 (g2.now hC0.keep) pb2 ax2 (g3.now hC0.keep) x1 hr1) ?_
 intro _ w1 hv1
 obtain ⟨rfl, hB1⟩ := res_int hv1
 have hC1 := hC0.grow hB1
 refine WL_geq rfl rfl rfl ?_
 refine WL_assign rfl rfl ?_
 refine WL_nil (W_ret ?_)
 have hq1 := Option.some.inj hF
 subst hq1
 refine fn_ret1 rfl rfl ?_
 exact ⟨_, rfl, bool_res hC1 _⟩

theorem c_M_Disagree {w0 : World} (a1 : (List Int)) (u1 : Value) (g1 : RO [] w0 u1 a1) (a2 : (List (Int × (List Int) × Int × Int × Int))) (u2 : Value) (g2 : RO [] w0 u2 a2) (a3 : ((Int × (List Int)) × (List (Int × (List Int))))) (u3 : Value) (g3 : RO [] w0 u3 a3.1.2) (u4 : Value) (g4 : RO [] w0 u4 a3.2) (a4 : ((Int × (List Int)) × (List (Int × (List Int))))) (u5 : Value) (g5 : RO [] w0 u5 a4.1.2) (u6 : Value) (g6 : RO [] w0 u6 a4.2) (rr : Bool) (hF : M.Disagree a1 a2 a3 a4 = some rr) :
 Calls Tryz.prog 27 [u1, u2, (.agg #[(.int .i64 a3.1.1), u3, u4]), (.agg #[(.int .i64 a4.1.1), u5, u6])].toArray w0 fun e w' => ∃ v, e = .returned v ∧ Res w0 rr v w' := by
 refine calls_of_W Tryz.func27 rfl rfl ?_
 have hC0 := Ctx.start w0
 unfold M.Disagree at hF
 refine W_seq_reg ?_
 refine WL_boxK (cs := [u2]) hC0 (ro_cells g2) rfl rfl (fun b1 w1 hC1 hB1 hN1 => ?_)
 refine WL_boxK (cs := [(.int .i64 a3.1.1), u3, u4]) hC1 rfl rfl rfl (fun b2 w2 hC2 hB2 hN2 => ?_)
 refine WL_boxK (cs := [(.int .i64 a4.1.1), u5, u6]) hC2 rfl rfl rfl (fun b3 w3 hC3 hB3 hN3 => ?_)
 refine WL_assign rfl rfl ?_
 refine WL_nil ?_
 obtain ⟨r1, hr1, hF⟩ := bind_some hF
 refine W_cut (fun l w => ∃ x1 : Bool, x1 = r1 ∧ l = [(8, (.bool x1))] ∧ Below w3.heap.size w3 w ∧ Ctx [] w0 w []) ?_ ?_
 ·refine W_reg ?_
  refine WL_move rfl rfl ?_
  refine WL_load_box hC3 2 rfl rfl Tryz.isAgg25 rfl rfl ?_
  refine WL_load_box_agg [(.int .i64 a3.1.1), u3, u4] hC3 1 rfl rfl rfl Tryz.isAgg46 Tryz.sizeOf46 rfl rfl ?_
  obtain ⟨x2, hr2, hr1⟩ := bind_some hr1
  refine WL_call Tryz.call29 rfl rfl (c_M_FitsSelf a1 u1 (g1.now hC3.keep) a2 u2 (g2.now hC3.keep) ((a3.1.1, a3.1.2), a3.2) u3 (g3.now hC3.keep) u4 (g4.now hC3.keep) x2 hr2) ?_
  intro _ w5 hv1
  obtain ⟨rfl, hB5⟩ := res_bool hv1
  have hC5 := hC3.grow hB5
  refine WL_move rfl rfl ?_
  refine WL_fork (fun hc1 => ?_) (fun hc1 => ?_)
  ·replace hr1 := ite_t hr1 hc1
   refine WL_guard rfl rfl ?_
   refine WL_move rfl rfl ?_
   refine WL_guard rfl rfl ?_
   refine WL_load_box hC5 2 rfl rfl Tryz.isAgg25 rfl rfl ?_
   refine WL_guard rfl rfl ?_
   refine WL_load_box_agg [(.int .i64 a4.1.1), u5, u6] hC5 0 rfl rfl rfl Tryz.isAgg46 Tryz.sizeOf46 rfl rfl ?_
   obtain ⟨x3, hr3, hr1⟩ := bind_some hr1
   refine WL_guard rfl rfl ?_
   refine WL_call Tryz.call29 rfl rfl (c_M_FitsSelf a1 u1 (g1.now hC5.keep) a2 u2 (g2.now hC5.keep) ((a4.1.1, a4.1.2), a4.2) u5 (g5.now hC5.keep) u6 (g6.now hC5.keep) x3 hr3) ?_
   intro _ w6 hv2
   obtain ⟨rfl, hB6⟩ := res_bool hv2
   have hC6 := hC5.grow hB6
   refine WL_pick_t rfl rfl rfl ?_
   refine WL_move rfl rfl ?_
   refine WL_fork (fun hc2 => ?_) (fun hc2 => ?_)
   ·replace hr1 := ite_t hr1 hc2
    refine WL_guard rfl rfl ?_
    refine WL_field Tryz.underlying46 rfl rfl (fun w => ⟨_, Tryz.sizeOf31 w⟩) rfl rfl ?_
    refine WL_guard rfl rfl ?_
    refine WL_load_box hC6 1 rfl rfl Tryz.isAgg31 rfl rfl ?_
    refine WL_guard rfl rfl ?_
    refine WL_makeFunc rfl rfl ?_
    obtain ⟨x4, hr4, hr1⟩ := bind_some hr1
    refine WL_guard rfl rfl ?_
    refine WL_call Tryz.call93 rfl rfl (c_Slices_ContainsFunc_Limpl_Fact_impl_Fact_M_Disagree_c1 a3.2 u4 (g4.now hC6.keep) b3 ((a4.1.1, a4.1.2), a4.2) (hC6.boxAt 0 rfl (repw_pair (repw_pair repw_int (repw_slice (g5.now hC6.keep))) (repw_slice (g6.now hC6.keep)))) b1 a2 (hC6.boxAt 2 rfl (repw_slice (g2.now hC6.keep))) x4 hr4) ?_
    intro _ w7 hv3
    obtain ⟨rfl, hB7⟩ := res_bool hv3
    have hC7 := hC6.grow hB7
    refine WL_guard rfl rfl ?_
    refine WL_move rfl rfl ?_
    refine WL_fork (fun hc3 => ?_) (fun hc3 => ?_)
    ·replace hr1 := ite_t hr1 hc3
     refine WL_guard_skip rfl rfl (by simp) rfl ?_
     refine WL_guard_skip rfl rfl (by simp) rfl ?_
     refine WL_guard_skip rfl rfl (by simp) rfl ?_
     refine WL_guard_skip rfl rfl (by simp) rfl ?_
     refine WL_guard rfl rfl ?_
     refine WL_pick_t rfl rfl rfl ?_
     refine WL_pick_t rfl rfl rfl ?_
     refine WL_assign rfl rfl ?_
     refine WL_nil ?_
     have hq1 := Option.some.inj hr1
     subst hq1
     have hC8 := hC7.h0
     refine nrm_sub (l' := [(8, (.bool true))]) ⟨rfl, trivial⟩ ?_
     exact ⟨true, rfl, rfl, (((Keep.of hB5).then hB6).then hB7).below, hC8⟩
    replace hr1 := ite_f hr1 hc3
    refine WL_guard rfl rfl ?_
    refine WL_field Tryz.underlying46 rfl rfl (fun w => ⟨_, Tryz.sizeOf31 w⟩) rfl rfl ?_
    refine WL_guard rfl rfl ?_
    refine WL_load_box hC7 0 rfl rfl Tryz.isAgg31 rfl rfl ?_
    refine WL_guard rfl rfl ?_
    refine WL_makeFunc rfl rfl ?_
    obtain ⟨x5, hr5, hr1⟩ := bind_some hr1
    refine WL_guard rfl rfl ?_
    refine WL_call Tryz.call93 rfl rfl (c_Slices_ContainsFunc_Limpl_Fact_impl_Fact_M_Disagree_c2 a4.2 u6 (g6.now hC7.keep) b2 ((a3.1.1, a3.1.2), a3.2) (hC7.boxAt 1 rfl (repw_pair (repw_pair repw_int (repw_slice (g3.now hC7.keep))) (repw_slice (g4.now hC7.keep)))) b1 a2 (hC7.boxAt 2 rfl (repw_slice (g2.now hC7.keep))) x5 hr5) ?_
    intro _ w9 hv4
    obtain ⟨rfl, hB8⟩ := res_bool hv4
    have hC9 := hC7.grow hB8
    refine WL_guard rfl rfl ?_
    refine WL_pick_f rfl rfl rfl ?_
    refine WL_pick_t rfl rfl rfl ?_
    refine WL_assign rfl rfl ?_
    refine WL_nil ?_
    have hq2 := Option.some.inj hr1
    subst hq2
    have hC10 := hC9.h0
    refine nrm_sub (l' := [(8, (.bool x5))]) ⟨rfl, trivial⟩ ?_
    exact ⟨x5, rfl, rfl, ((((Keep.of hB5).then hB6).then hB7).then hB8).below, hC10⟩
   replace hr1 := ite_f hr1 hc2
   refine WL_guard_skip rfl rfl (by simp) rfl ?_
   refine WL_guard_skip rfl rfl (by simp) rfl ?_
   refine WL_guard_skip rfl rfl (by simp) rfl ?_
   refine WL_guard_skip rfl rfl (by simp) rfl ?_
   refine WL_guard_skip rfl rfl (by simp) rfl ?_
   refine WL_guard_skip rfl rfl (by simp [undef]) rfl ?_
   refine WL_guard_skip rfl rfl (by simp [undef]) rfl ?_
   refine WL_guard_skip rfl rfl (by simp [undef]) rfl ?_
   refine WL_guard_skip rfl rfl (by simp [undef]) rfl ?_
   refine WL_guard_skip rfl rfl (by simp) rfl ?_
   refine WL_pick_f rfl rfl rfl ?_
   refine WL_assign rfl rfl ?_
   refine WL_nil ?_
   have hq3 := Option.some.inj hr1
   subst hq3
   have hC11 := hC6.h0
   refine nrm_sub (l' := [(8, (.bool false))]) ⟨rfl, trivial⟩ ?_
   exact ⟨false, rfl, rfl, ((Keep.of hB5).then hB6).below, hC11⟩
  replace hr1 := ite_f hr1 hc1
  refine WL_guard_skip rfl rfl (by simp) rfl ?_
  refine WL_guard_skip rfl rfl (by simp) rfl ?_
  refine WL_guard_skip rfl rfl (by simp) rfl ?_
  refine WL_guard_skip rfl rfl (by simp) rfl ?_
  refine WL_pick_f rfl rfl rfl ?_
  refine WL_move rfl rfl ?_
  refine WL_guard_skip rfl rfl (by simp) rfl ?_
  refine WL_guard_skip rfl rfl (by simp) rfl ?_
  refine WL_guard_skip rfl rfl (by simp) rfl ?_
  refine WL_guard_skip rfl rfl (by simp) rfl ?_
  refine WL_guard_skip rfl rfl (by simp) rfl ?_
  refine WL_guard_skip rfl rfl (by simp [undef]) rfl ?_
  refine WL_guard_skip rfl rfl (by simp [undef]) rfl ?_
  refine WL_guard_skip rfl rfl (by simp [undef]) rfl ?_
  refine WL_guard_skip rfl rfl (by simp [undef]) rfl ?_
  refine WL_guard_skip rfl rfl (by simp) rfl ?_
  refine WL_pick_f rfl rfl rfl ?_
  refine WL_assign rfl rfl ?_
  refine WL_nil ?_
  have hq4 := Option.some.inj hr1
  subst hq4
  have hC12 := hC5.h0
  refine nrm_sub (l' := [(8, (.bool false))]) ⟨rfl, trivial⟩ ?_
  exact ⟨false, rfl, rfl, (Keep.of hB5).below, hC12⟩
 rintro _ w4 ⟨x1, rfl, rfl, hB4, hC4⟩
 try dsimp only at hF
 refine W_ret ?_
 have hq5 := Option.some.inj hF
 subst hq5
 refine fn_ret1 rfl rfl ?_
 exact ⟨_, rfl, bool_res hC4 _⟩

theorem c_M_FirstConflict_c1 {w0 : World} (a1 : ((Int × (List Int)) × (List (Int × (List Int))))) (u1 : Value) (g1 : RO [] w0 u1 a1.1.2) (u2 : Value) (g2 : RO [] w0 u2 a1.2) (pb1 : Nat) (ax1 : (List Int)) (g3 : ROAt [] w0 pb1 0 ax1) (pb2 : Nat) (ax2 : (List (Int × (List Int) × Int × Int × Int))) (g4 : ROAt [] w0 pb2 0 ax2) (pb3 : Nat) (ax3 : ((Int × (List Int)) × (List (Int × (List Int))))) (g5 : ROAt [] w0 pb3 0 ax3) (rr : Bool) (hF : M.FirstConflict_c1 a1 ax1 ax2 ax3 = some rr) :
 Calls Tryz.prog 67 [(.agg #[(.int .i64 a1.1.1), u1, u2]), (ptr pb1 0), (ptr pb2 0), (ptr pb3 0)].toArray w0 fun e w' => ∃ v, e = .returned v ∧ Res w0 rr v w' := by
 refine calls_of_W Tryz.func67 rfl rfl ?_
 have hC0 := Ctx.start w0
 unfold M.FirstConflict_c1 at hF
 refine W_seq_reg ?_
 refine WL_boxK (cs := [(.int .i64 a1.1.1), u1, u2]) hC0 rfl rfl rfl (fun b1 w1 hC1 hB1 hN1 => ?_)
 refine WL_assign rfl rfl ?_
 refine WL_nil (W_seq_reg ?_)
 refine WL_load ty24 g3 hC1.keep rfl rfl (fun v1 h1 => ?_)
 refine WL_load ty25 g4 hC1.keep rfl rfl (fun v2 h2 => ?_)
 refine WL_load_box_agg [(.int .i64 a1.1.1), u1, u2] hC1 0 rfl rfl rfl Tryz.isAgg46 Tryz.sizeOf46 rfl rfl ?_
 refine WL_load ty46 g5 hC1.keep rfl rfl (fun v3 h3 => ?_)
 obtain ⟨v4, v5, rfl, h4, h5⟩ := ro_st46 h3
 obtain ⟨x1, hr1, hF⟩ := bind_some hF
 refine WL_call Tryz.call27 rfl rfl (c_M_Disagree ax1 v1 (h1.now hC1.keep) ax2 v2 (h2.now hC1.keep) ((a1.1.1, a1.1.2), a1.2) u1 (g1.now hC1.keep) u2 (g2.now hC1.keep) ax3 v4 (h4.now hC1.keep) v5 (h5.now hC1.keep) x1 hr1) ?_
 intro _ w2 hv1
 obtain ⟨rfl, hB2⟩ := res_bool hv1
 have hC2 := hC1.grow hB2
 refine WL_assign rfl rfl ?_
 refine WL_nil (W_ret ?_)
 have hq1 := Option.some.inj hF
 subst hq1
 refine fn_ret1 rfl rfl ?_
 exact ⟨_, rfl, bool_res hC2 _⟩

theorem c_Slices_IndexFunc_Limpl_Told_impl_Told_M_FirstConflict_c1 {w0 : World} (a1 : (List ((Int × (List Int)) × (List (Int × (List Int)))))) (u1 : Value) (g1 : RO [] w0 u1 a1) (pb1 : Nat) (ax1 : (List Int)) (g2 : ROAt [] w0 pb1 0 ax1) (pb2 : Nat) (ax2 : (List (Int × (List Int) × Int × Int × Int))) (g3 : ROAt [] w0 pb2 0 ax2) (pb3 : Nat) (ax3 : ((Int × (List Int)) × (List (Int × (List Int))))) (g4 : ROAt [] w0 pb3 0 ax3) (rr : Int) (hF : Slices.IndexFunc_Limpl_Told_impl_Told_M_FirstConflict_c1 a1 ax1 ax2 ax3 = some rr) :
 Calls Tryz.prog 66 [u1, (.func (.func 67) #[] #[(ptr pb1 0), (ptr pb2 0), (ptr pb3 0)])].toArray w0 fun e w' => ∃ v, e = .returned v ∧ Res w0 rr v w' := by
 refine calls_of_W Tryz.func66 rfl rfl ?_
 have hC0 := Ctx.start w0
 unfold Slices.IndexFunc_Limpl_Told_impl_Told_M_FirstConflict_c1 at hF
 refine W_seq_reg ?_
 refine WL_assign rfl rfl ?_
 refine WL_nil (W_seq (W_seq_reg ?_))
 refine WL_move rfl rfl ?_
 refine WL_len Tryz.underlying26 g1 rfl rfl ?_
 refine WL_move rfl rfl ?_
 refine WL_nil ?_
 obtain ⟨r1, hr1, hF⟩ := bind_some hF
 refine W_norm (fun l w => .inl () = r1 ∧ l = [] ∧ Below w0.heap.size w0 w ∧ Ctx [] w0 w []) ?_ ?_
 ·refine W_block ?_
  refine W.sub (l' := [(0, u1), (1, (.func (.func 67) #[] #[(ptr pb1 0), (ptr pb2 0), (ptr pb3 0)])), (7, (.int .i64 (List.length a1 : Int))), (8, (.int .i64 0))]) ?_ ⟨rfl, rfl, rfl, rfl, trivial⟩
  refine W_loop (fun k l w => ∃ x1 : Int, l = [(0, u1), (1, (.func (.func 67) #[] #[(ptr pb1 0), (ptr pb2 0), (ptr pb3 0)])), (7, (.int .i64 (List.length a1 : Int))), (8, (.int .i64 x1))] ∧ Below w0.heap.size w0 w ∧ Ctx [] w0 w [] ∧ Slices.IndexFunc_Limpl_Told_impl_Told_M_FirstConflict_c1_l1 a1 ax1 ax2 ax3 k x1 = some r1) FUEL ⟨0, rfl, (Below.refl _ _), hC0, hr1⟩ ?_
  clear hr1
  rintro k1 _ w1 ⟨x1, rfl, hB1, hC1, hL1⟩
  cases k1 with
  | zero => rw [Slices.IndexFunc_Limpl_Told_impl_Told_M_FirstConflict_c1_l1] at hL1; cases hL1
  | succ k1 =>
   rw [Slices.IndexFunc_Limpl_Told_impl_Told_M_FirstConflict_c1_l1] at hL1
   refine W_seq_reg ?_
   refine WL_lss rfl rfl rfl ?_
   refine WL_nil (W_seq ?_)
   refine W_cond rfl (fun hc1 => ?_) (fun hc1 => ?_)
   ·replace hL1 := ite_t hL1 hc1
    refine W_skip (nrm_normal (W_seq (W_block (W_seq_reg ?_))))
    refine WL_move rfl rfl ?_
    refine WL_assign rfl rfl ?_
    refine WL_nil (W_seq_reg ?_)
    refine WL_move rfl rfl ?_
    refine WL_move rfl rfl ?_
    refine WL_move rfl rfl ?_
    obtain ⟨x2, hx1, hL1⟩ := bind_some hL1
    refine WL_index Tryz.underlying26 ty46 g1 hx1 rfl rfl rfl (fun b1 o1 h1 => ?_)
    refine WL_load ty46 h1 hC1.keep rfl rfl (fun v1 h2 => ?_)
    obtain ⟨v2, v3, rfl, h3, h4⟩ := ro_st46 h2
    obtain ⟨x3, hr2, hL1⟩ := bind_some hL1
    refine WL_callv (cap := [(ptr pb1 0), (ptr pb2 0), (ptr pb3 0)]) Tryz.call67 rfl rfl rfl (c_M_FirstConflict_c1 x2 v2 (h3.now hC1.keep) v3 (h4.now hC1.keep) pb1 ax1 (g2.now hC1.keep) pb2 ax2 (g3.now hC1.keep) pb3 ax3 (g4.now hC1.keep) x3 hr2) ?_
    intro _ w2 hv1
    obtain ⟨rfl, hB2⟩ := res_bool hv1
    have hC2 := hC1.grow hB2
    refine WL_nil ?_
    refine W_cond rfl (fun hc2 => ?_) (fun hc2 => ?_)
    ·replace hL1 := ite_t hL1 hc2
     refine W_seq_reg ?_
     refine WL_move rfl rfl ?_
     refine WL_assign rfl rfl ?_
     refine WL_nil (W_ret (blk_ret (nrm_ret (nrm_ret (blk_ret (nrm_ret (nrm_ret ?_)))))))
     have hq1 := Option.some.inj hL1
     subst hq1
     dsimp only at hF
     have hq2 := Option.some.inj hF
     subst hq2
     refine fn_ret1 rfl rfl ?_
     exact ⟨_, rfl, int_res hC2 _⟩
    replace hL1 := ite_f hL1 hc2
    refine W_skip (blk_normal (nrm_normal (W_reg ?_)))
    refine WL_add rfl rfl rfl ?_
    refine WL_move rfl rfl ?_
    refine WL_nil ?_
    refine nrm_sub (l' := [(0, u1), (1, (.func (.func 67) #[] #[(ptr pb1 0), (ptr pb2 0), (ptr pb3 0)])), (7, (.int .i64 (List.length a1 : Int))), (8, (.int .i64 (w64 (x1 + 1))))]) ⟨rfl, rfl, rfl, rfl, trivial⟩ ?_
    exact ⟨k1, Nat.lt_succ_self _, w64 (x1 + 1), rfl, ((Keep.of hB1).then hB2).below, hC2, hL1⟩
   replace hL1 := ite_f hL1 hc1
   refine W_exit (nrm_exit (nrm_exit (blk_exit ?_)))
   have hq3 := Option.some.inj hL1
   subst hq3
   refine nrm_sub (l' := []) trivial ?_
   exact ⟨rfl, rfl, (Keep.of hB1).below, hC1⟩
 rintro l2 _ w3 hs2 ⟨rfl, rfl, hB3, hC3⟩
 try dsimp only at hF
 refine nrm_sub' hs2 ?_
 clear hs2
 refine W_seq_reg ?_
 refine WL_assign rfl rfl ?_
 refine WL_nil (W_ret ?_)
 have hq4 := Option.some.inj hF
 subst hq4
 refine fn_ret1 rfl rfl ?_
 exact ⟨_, rfl, int_res hC3 _⟩

theorem c_M_FirstConflict {w0 : World} (a1 : (List Int)) (u1 : Value) (g1 : RO [] w0 u1 a1) (a2 : (List (Int × (List Int) × Int × Int × Int))) (u2 : Value) (g2 : RO [] w0 u2 a2) (a3 : (List ((Int × (List Int)) × (List (Int × (List Int)))))) (u3 : Value) (g3 : RO [] w0 u3 a3) (rr : (Int × Int × Bool)) (hF : M.FirstConflict a1 a2 a3 = some rr) :
 Calls Tryz.prog 11 [u1, u2, u3].toArray w0 fun e w' => ∃ v, e = .returned v ∧ Res3 w0 rr.1 rr.2.1 rr.2.2 v w' := by
 refine calls_of_W Tryz.func11 rfl rfl ?_
 have hC0 := Ctx.start w0
 unfold M.FirstConflict at hF
 refine W_seq_reg ?_
 refine WL_boxK (cs := [u1]) hC0 (ro_cells g1) rfl rfl (fun b1 w1 hC1 hB1 hN1 => ?_)
 refine WL_boxK (cs := [u2]) hC1 (ro_cells g2) rfl rfl (fun b2 w2 hC2 hB2 hN2 => ?_)
 refine WL_assign rfl rfl ?_
 refine WL_assign rfl rfl ?_
 refine WL_assign rfl rfl ?_
 refine WL_nil (W_seq (W_seq_reg ?_))
 refine WL_move rfl rfl ?_
 refine WL_len Tryz.underlying26 g3 rfl rfl ?_
 refine WL_move rfl rfl ?_
 refine WL_nil ?_
 obtain ⟨r1, hr1, hF⟩ := bind_some hF
 refine W_norm (fun l w => .inl () = r1 ∧ l = [] ∧ Ctx [] w0 w []) ?_ ?_
 ·refine W_block ?_
  refine W.sub (l' := [(2, u3), (3, (ptr b1 0)), (4, (ptr b2 0)), (12, u3), (13, (.int .i64 (List.length a3 : Int))), (14, (.int .i64 0))]) ?_ ⟨rfl, rfl, rfl, rfl, rfl, rfl, trivial⟩
  refine W_loop (fun k l w => ∃ x1 : Int, l = [(2, u3), (3, (ptr b1 0)), (4, (ptr b2 0)), (12, u3), (13, (.int .i64 (List.length a3 : Int))), (14, (.int .i64 x1))] ∧ Ctx [] w0 w [Item.box b2 [u2], Item.box b1 [u1]] ∧ M.FirstConflict_l1 a3 a1 a2 k x1 = some r1) FUEL ⟨0, rfl, hC2, hr1⟩ ?_
  clear hr1
  rintro k1 _ w3 ⟨x1, rfl, hC3, hL1⟩
  cases k1 with
  | zero => rw [M.FirstConflict_l1] at hL1; cases hL1
  | succ k1 =>
   rw [M.FirstConflict_l1] at hL1
   refine W_seq_reg ?_
   refine WL_lss rfl rfl rfl ?_
   refine WL_nil (W_seq ?_)
   refine W_cond rfl (fun hc1 => ?_) (fun hc1 => ?_)
   ·replace hL1 := ite_t hL1 hc1
    refine W_skip (nrm_normal (W_seq (W_block (W_seq_reg ?_))))
    refine WL_move rfl rfl ?_
    obtain ⟨x2, hx1, hL1⟩ := bind_some hL1
    refine WL_index Tryz.underlying26 ty46 g3 hx1 rfl rfl rfl (fun b3 o1 h1 => ?_)
    refine WL_load ty46 h1 hC3.keep rfl rfl (fun v1 h2 => ?_)
    obtain ⟨v2, v3, rfl, h3, h4⟩ := ro_st46 h2
    refine WL_allocK hC3 zero46 rfl rfl (fun b4 w4 hC4 hB4 hN3 => ?_)
    refine WL_assign rfl rfl ?_
    refine WL_store_box_aggK (cs' := [(.int .i64 x2.1.1), v2, v3]) (new := [(.int .i64 x2.1.1), v2, v3]) hC4 0 rfl rfl (by intro v hv; simp only [List.mem_cons, List.not_mem_nil, or_false] at hv; rcases hv with rfl | rfl | rfl; exact rfl; exact (ro_one h3); exact (ro_one h4)) rfl Tryz.sizeOf46 rfl rfl (fun w5 hC5 hKp1 => ?_)
    try dsimp only [List.set] at hC5
    have hk1 := Keep.over (Keep.of hB4) hN3 hKp1
    refine WL_nil (W_seq (W_seq_reg ?_))
    refine WL_load_box hC5 2 rfl rfl Tryz.isAgg24 rfl rfl ?_
    refine WL_load_box hC5 1 rfl rfl Tryz.isAgg25 rfl rfl ?_
    refine WL_load_box_agg [(.int .i64 x2.1.1), v2, v3] hC5 0 rfl rfl rfl Tryz.isAgg46 Tryz.sizeOf46 rfl rfl ?_
    obtain ⟨x3, hr2, hL1⟩ := bind_some hL1
    refine WL_call Tryz.call29 rfl rfl (c_M_FitsSelf a1 u1 (g1.now hC5.keep) a2 u2 (g2.now hC5.keep) ((x2.1.1, x2.1.2), x2.2) v2 (h3.now hC5.keep) v3 (h4.now hC5.keep) x3 hr2) ?_
    intro _ w6 hv1
    obtain ⟨rfl, hB5⟩ := res_bool hv1
    have hC6 := hC5.grow hB5
    refine WL_not rfl rfl ?_
    refine WL_nil ?_
    refine W_cond rfl (fun hc2 => ?_) (fun hc2 => ?_)
    ·replace hL1 := ite_t hL1 hc2
     refine W_seq_reg ?_
     refine WL_move rfl rfl ?_
     refine WL_move rfl rfl ?_
     refine WL_assign rfl rfl ?_
     refine WL_assign rfl rfl ?_
     refine WL_assign rfl rfl ?_
     refine WL_nil (W_ret (nrm_ret (blk_ret (nrm_ret (nrm_ret (blk_ret (nrm_ret (nrm_ret ?_))))))))
     have hq1 := Option.some.inj hL1
     subst hq1
     dsimp only at hF
     have hq2 := Option.some.inj hF
     subst hq2
     refine fn_ret3 rfl rfl rfl rfl ?_
     have hC7 := hC6.triv (bool_val (true))
     have hC8 := hC7.triv (int_val (x1))
     have hC9 := hC8.triv (int_val (x1))
     exact ⟨_, rfl, res3_of hC9⟩
    replace hL1 := ite_f hL1 hc2
    refine W_skip (nrm_normal (W_seq_reg ?_))
    refine WL_move rfl rfl ?_
    refine WL_move rfl rfl ?_
    obtain ⟨x4, hx2, hL1⟩ := bind_some hL1
    refine WL_slice_h Tryz.underlying26 ty46 g3 hx2 rfl rfl rfl (fun v4 h5 => ?_)
    refine WL_makeFunc rfl rfl ?_
    obtain ⟨x5, hr3, hL1⟩ := bind_some hL1
    refine WL_call Tryz.call66 rfl rfl (c_Slices_IndexFunc_Limpl_Told_impl_Told_M_FirstConflict_c1 x4 v4 (h5.now hC6.keep) b1 a1 (hC6.boxAt 2 rfl (repw_slice (g1.now hC6.keep))) b2 a2 (hC6.boxAt 1 rfl (repw_slice (g2.now hC6.keep))) b4 ((x2.1.1, x2.1.2), x2.2) (hC6.boxAt 0 rfl (repw_pair (repw_pair repw_int (repw_slice (h3.now hC6.keep))) (repw_slice (h4.now hC6.keep)))) x5 hr3) ?_
    intro _ w7 hv2
    obtain ⟨rfl, hB6⟩ := res_int hv2
    have hC10 := hC6.grow hB6
    refine WL_assign rfl rfl ?_
    refine WL_nil (W_seq_reg ?_)
    refine WL_move rfl rfl ?_
    refine WL_geq rfl rfl rfl ?_
    refine WL_nil ?_
    refine W_cond rfl (fun hc3 => ?_) (fun hc3 => ?_)
    ·replace hL1 := ite_t hL1 hc3
     refine W_seq_reg ?_
     refine WL_move rfl rfl ?_
     refine WL_move rfl rfl ?_
     refine WL_assign rfl rfl ?_
     refine WL_assign rfl rfl ?_
     refine WL_assign rfl rfl ?_
     refine WL_nil (W_ret (blk_ret (nrm_ret (nrm_ret (blk_ret (nrm_ret (nrm_ret ?_)))))))
     have hq3 := Option.some.inj hL1
     subst hq3
     dsimp only at hF
     have hq4 := Option.some.inj hF
     subst hq4
     refine fn_ret3 rfl rfl rfl rfl ?_
     have hC11 := hC10.triv (bool_val (true))
     have hC12 := hC11.triv (int_val (x1))
     have hC13 := hC12.triv (int_val (x5))
     exact ⟨_, rfl, res3_of hC13⟩
    replace hL1 := ite_f hL1 hc3
    refine W_skip (blk_normal (nrm_normal (W_reg ?_)))
    refine WL_add rfl rfl rfl ?_
    refine WL_move rfl rfl ?_
    refine WL_nil ?_
    have hC14 := hC10.f2
    have hC15 := hC14.f2
    have hC16 := hC15.h2
    refine nrm_sub (l' := [(2, u3), (3, (ptr b1 0)), (4, (ptr b2 0)), (12, u3), (13, (.int .i64 (List.length a3 : Int))), (14, (.int .i64 (w64 (x1 + 1))))]) ⟨rfl, rfl, rfl, rfl, rfl, rfl, trivial⟩ ?_
    exact ⟨k1, Nat.lt_succ_self _, w64 (x1 + 1), rfl, hC16, hL1⟩
   replace hL1 := ite_f hL1 hc1
   refine W_exit (nrm_exit (nrm_exit (blk_exit ?_)))
   have hq5 := Option.some.inj hL1
   subst hq5
   have hC17 := hC3.h0
   refine nrm_sub (l' := []) trivial ?_
   exact ⟨rfl, rfl, hC17⟩
 rintro l2 _ w9 hs2 ⟨rfl, rfl, hC18⟩
 try dsimp only at hF
 refine nrm_sub' hs2 ?_
 clear hs2
 refine W_seq_reg ?_
 refine WL_assign rfl rfl ?_
 refine WL_assign rfl rfl ?_
 refine WL_assign rfl rfl ?_
 refine WL_nil (W_ret ?_)
 have hq6 := Option.some.inj hF
 subst hq6
 refine fn_ret3 rfl rfl rfl rfl ?_
 have hC19 := hC18.triv (bool_val (false))
 have hC20 := hC19.triv (int_val ((-1)))
 have hC21 := hC20.triv (int_val ((-1)))
 exact ⟨_, rfl, res3_of hC21⟩

theorem c_M_IsConsistent {w0 : World} (a1 : (List Int)) (u1 : Value) (g1 : RO [] w0 u1 a1) (a2 : (List (Int × (List Int) × Int × Int × Int))) (u2 : Value) (g2 : RO [] w0 u2 a2) (a3 : (List ((Int × (List Int)) × (List (Int × (List Int)))))) (u3 : Value) (g3 : RO [] w0 u3 a3) (rr : Bool) (hF : M.IsConsistent a1 a2 a3 = some rr) :
 Calls Tryz.prog 16 [u1, u2, u3].toArray w0 fun e w' => ∃ v, e = .returned v ∧ Res w0 rr v w' := by
 refine calls_of_W Tryz.func16 rfl rfl ?_
 have hC0 := Ctx.start w0
 unfold M.IsConsistent at hF
 refine W_seq_reg ?_
 refine WL_assign rfl rfl ?_
 refine WL_nil (W_seq_reg ?_)
 refine WL_move rfl rfl ?_
 refine WL_move rfl rfl ?_
 refine WL_move rfl rfl ?_
 obtain ⟨x1, hr1, hF⟩ := bind_some hF
 refine WL_call Tryz.call11 rfl rfl (c_M_FirstConflict a1 u1 (g1.now hC0.keep) a2 u2 (g2.now hC0.keep) a3 u3 (g3.now hC0.keep) x1 hr1) ?_
 rintro _ w1 ⟨hB1, v1, v2, v3, F1, F2, F3, rfl, hv1, hv2, hv3, hn1, hb1⟩
 obtain ⟨rfl, rfl⟩ := val_int hv1
 obtain ⟨rfl, rfl⟩ := val_int hv2
 obtain ⟨rfl, rfl⟩ := val_bool hv3
 have hC1 := hC0.grow hB1
 refine WL_move rfl rfl ?_
 refine WL_extract rfl rfl rfl ?_
 refine WL_extract rfl rfl rfl ?_
 refine WL_extract rfl rfl rfl ?_
 refine WL_assign rfl rfl ?_
 refine WL_assign rfl rfl ?_
 refine WL_assign rfl rfl ?_
 refine WL_nil ?_
 obtain ⟨r1, hr2, hF⟩ := bind_some hF
 refine W_cut (fun l w => ∃ x2 : Bool, x2 = r1 ∧ l = [(6, (.bool x2))] ∧ Below w1.heap.size w1 w ∧ Ctx [] w0 w []) ?_ ?_
 ·refine W_reg ?_
  refine WL_move rfl rfl ?_
  refine WL_move rfl rfl ?_
  obtain ⟨x3, hr3, hr2⟩ := bind_some hr2
  refine WL_call Tryz.call71 rfl rfl (c_M_AreMethods a1 u1 (g1.now hC1.keep) a2 u2 (g2.now hC1.keep) x3 hr3) ?_
  intro _ w3 hv4
  obtain ⟨rfl, hB3⟩ := res_bool hv4
  have hC3 := hC1.grow hB3
  refine WL_move rfl rfl ?_
  refine WL_fork (fun hc1 => ?_) (fun hc1 => ?_)
  ·replace hr2 := ite_t hr2 hc1
   refine WL_guard rfl rfl ?_
   refine WL_move rfl rfl ?_
   refine WL_guard rfl rfl ?_
   refine WL_not rfl rfl ?_
   refine WL_pick_t rfl rfl rfl ?_
   refine WL_assign rfl rfl ?_
   refine WL_nil ?_
   have hq1 := Option.some.inj hr2
   subst hq1
   refine nrm_sub (l' := [(6, (.bool (!x1.2.2)))]) ⟨rfl, trivial⟩ ?_
   exact ⟨(!x1.2.2), rfl, rfl, (Keep.of hB3).below, hC3⟩
  replace hr2 := ite_f hr2 hc1
  refine WL_guard_skip rfl rfl (by simp) rfl ?_
  refine WL_guard_skip rfl rfl (by simp) rfl ?_
  refine WL_pick_f rfl rfl rfl ?_
  refine WL_assign rfl rfl ?_
  refine WL_nil ?_
  have hq2 := Option.some.inj hr2
  subst hq2
  refine nrm_sub (l' := [(6, (.bool false))]) ⟨rfl, trivial⟩ ?_
  exact ⟨false, rfl, rfl, (Keep.of hB3).below, hC3⟩
 rintro _ w2 ⟨x2, rfl, rfl, hB2, hC2⟩
 try dsimp only at hF
 refine W_ret ?_
 have hq3 := Option.some.inj hF
 subst hq3
 refine fn_ret1 rfl rfl ?_
 exact ⟨_, rfl, bool_res hC2 _⟩

theorem c_Slices_Index_Lint_int {w0 : World} (a1 : (List Int)) (u1 : Value) (g1 : RO [] w0 u1 a1) (a2 : Int) (rr : Int) (hF : Slices.Index_Lint_int a1 a2 = some rr) :
 Calls Tryz.prog 210 [u1, (.int .i64 a2)].toArray w0 fun e w' => ∃ v, e = .returned v ∧ Res w0 rr v w' := by
 refine calls_of_W Tryz.func210 rfl rfl ?_
 have hC0 := Ctx.start w0
 unfold Slices.Index_Lint_int at hF
 refine W_seq_reg ?_
 refine WL_assign rfl rfl ?_
 refine WL_nil (W_seq (W_seq_reg ?_))
 refine WL_move rfl rfl ?_
 refine WL_len Tryz.underlying24 g1 rfl rfl ?_
 refine WL_move rfl rfl ?_
 refine WL_nil ?_
 obtain ⟨r1, hr1, hF⟩ := bind_some hF
 refine W_norm (fun l w => .inl () = r1 ∧ l = [] ∧ Below w0.heap.size w0 w ∧ Ctx [] w0 w []) ?_ ?_
 ·refine W_block ?_
  refine W.sub (l' := [(0, u1), (1, (.int .i64 a2)), (7, (.int .i64 (List.length a1 : Int))), (8, (.int .i64 0))]) ?_ ⟨rfl, rfl, rfl, rfl, trivial⟩
  refine W_loop (fun k l w => ∃ x1 : Int, l = [(0, u1), (1, (.int .i64 a2)), (7, (.int .i64 (List.length a1 : Int))), (8, (.int .i64 x1))] ∧ Below w0.heap.size w0 w ∧ Ctx [] w0 w [] ∧ Slices.Index_Lint_int_l1 a1 a2 k x1 = some r1) FUEL ⟨0, rfl, (Below.refl _ _), hC0, hr1⟩ ?_
  clear hr1
  rintro k1 _ w1 ⟨x1, rfl, hB1, hC1, hL1⟩
  cases k1 with
  | zero => rw [Slices.Index_Lint_int_l1] at hL1; cases hL1
  | succ k1 =>
   rw [Slices.Index_Lint_int_l1] at hL1
   refine W_seq_reg ?_
   refine WL_lss rfl rfl rfl ?_
   refine WL_nil (W_seq ?_)
   refine W_cond rfl (fun hc1 => ?_) (fun hc1 => ?_)
   ·replace hL1 := ite_t hL1 hc1
    refine W_skip (nrm_normal (W_seq (W_block (W_seq_reg ?_))))
    refine WL_move rfl rfl ?_
    refine WL_assign rfl rfl ?_
    refine WL_nil (W_seq_reg ?_)
    refine WL_move rfl rfl ?_
    refine WL_move rfl rfl ?_
    refine WL_move rfl rfl ?_
    obtain ⟨x2, hx1, hL1⟩ := bind_some hL1
    refine WL_index Tryz.underlying24 ty3 g1 hx1 rfl rfl rfl (fun b1 o1 h1 => ?_)
    refine WL_load ty3 h1 hC1.keep rfl rfl (fun v1 h2 => ?_)
    obtain rfl := ro_int h2
    refine WL_eql rfl rfl rfl ?_
    refine WL_nil ?_
    refine W_cond rfl (fun hc2 => ?_) (fun hc2 => ?_)
    ·replace hL1 := ite_t hL1 hc2
     refine W_seq_reg ?_
     refine WL_move rfl rfl ?_
     refine WL_assign rfl rfl ?_
     refine WL_nil (W_ret (blk_ret (nrm_ret (nrm_ret (blk_ret (nrm_ret (nrm_ret ?_)))))))
     have hq1 := Option.some.inj hL1
     subst hq1
     dsimp only at hF
     have hq2 := Option.some.inj hF
     subst hq2
     refine fn_ret1 rfl rfl ?_
     exact ⟨_, rfl, int_res hC1 _⟩
    replace hL1 := ite_f hL1 hc2
    refine W_skip (blk_normal (nrm_normal (W_reg ?_)))
    refine WL_add rfl rfl rfl ?_
    refine WL_move rfl rfl ?_
    refine WL_nil ?_
    refine nrm_sub (l' := [(0, u1), (1, (.int .i64 a2)), (7, (.int .i64 (List.length a1 : Int))), (8, (.int .i64 (w64 (x1 + 1))))]) ⟨rfl, rfl, rfl, rfl, trivial⟩ ?_
    exact ⟨k1, Nat.lt_succ_self _, w64 (x1 + 1), rfl, (Keep.of hB1).below, hC1, hL1⟩
   replace hL1 := ite_f hL1 hc1
   refine W_exit (nrm_exit (nrm_exit (blk_exit ?_)))
   have hq3 := Option.some.inj hL1
   subst hq3
   refine nrm_sub (l' := []) trivial ?_
   exact ⟨rfl, rfl, (Keep.of hB1).below, hC1⟩
 rintro l2 _ w2 hs2 ⟨rfl, rfl, hB2, hC2⟩
 try dsimp only at hF
 refine nrm_sub' hs2 ?_
 clear hs2
 refine W_seq_reg ?_
 refine WL_assign rfl rfl ?_
 refine WL_nil (W_ret ?_)
 have hq4 := Option.some.inj hF
 subst hq4
 refine fn_ret1 rfl rfl ?_
 exact ⟨_, rfl, int_res hC2 _⟩

theorem c_Slices_Contains_Lint_int {w0 : World} (a1 : (List Int)) (u1 : Value) (g1 : RO [] w0 u1 a1) (a2 : Int) (rr : Bool) (hF : Slices.Contains_Lint_int a1 a2 = some rr) :
 Calls Tryz.prog 195 [u1, (.int .i64 a2)].toArray w0 fun e w' => ∃ v, e = .returned v ∧ Res w0 rr v w' := by
 refine calls_of_W Tryz.func195 rfl rfl ?_
 have hC0 := Ctx.start w0
 unfold Slices.Contains_Lint_int at hF
 refine W_seq_reg ?_
 refine WL_assign rfl rfl ?_
 refine WL_nil (W_seq_reg ?_)
 refine WL_move rfl rfl ?_
 refine WL_move rfl rfl ?_
 obtain ⟨x1, hr1, hF⟩ := bind_some hF
 refine WL_call Tryz.call210 rfl rfl (c_Slices_Index_Lint_int a1 u1 (g1.now hC0.keep) a2 x1 hr1) ?_
 intro _ w1 hv1
 obtain ⟨rfl, hB1⟩ := res_int hv1
 have hC1 := hC0.grow hB1
 refine WL_geq rfl rfl rfl ?_
 refine WL_assign rfl rfl ?_
 refine WL_nil (W_ret ?_)
 have hq1 := Option.some.inj hF
 subst hq1
 refine fn_ret1 rfl rfl ?_
 exact ⟨_, rfl, bool_res hC1 _⟩

theorem c_M_copyAccess {w0 : World} (a1 : (Int × (List Int))) (u1 : Value) (g1 : RO [] w0 u1 a1.2) (rr : (Int × (List Int))) (hF : M.copyAccess a1 = some rr) :
 Calls Tryz.prog 211 [(.agg #[(.int .i64 a1.1), u1])].toArray w0 fun e w' => ∃ v, e = .returned v ∧ Res w0 rr v w' := by
 refine calls_of_W Tryz.func211 rfl rfl ?_
 have hC0 := Ctx.start w0
 unfold M.copyAccess at hF
 refine W_seq_reg ?_
 refine WL_boxK (cs := [(.int .i64 a1.1), u1]) hC0 rfl rfl rfl (fun b1 w1 hC1 hB1 hN1 => ?_)
 refine WL_allocK hC1 zero44 rfl rfl (fun b2 w2 hC2 hB2 hN2 => ?_)
 refine WL_nil (W_seq ?_)
 refine W_drawn 7 rfl hmix (fun w3 hB3 => ?_)
 have hC3 := hC2.grow hB3
 refine WA_tk 0 (by kernel_rfl) rfl rfl (fl_field Tryz.underlying44 rfl rfl (fun w => ⟨_, Tryz.sizeOf3 w⟩) rfl) ?_
 refine WL_field Tryz.underlying44 rfl rfl (fun w => ⟨_, Tryz.sizeOf3 w⟩) rfl rfl ?_
 refine WL_nil ?_
 refine WA_tk 2 (by kernel_rfl) rfl rfl (fl_field Tryz.underlying44 rfl rfl (fun w => ⟨_, Tryz.sizeOf24 w⟩) rfl) ?_
 refine WL_field Tryz.underlying44 rfl rfl (fun w => ⟨_, Tryz.sizeOf24 w⟩) rfl rfl ?_
 refine WL_nil ?_
 obtain ⟨x1, hr1, hF⟩ := bind_some hF
 refine WA.sub (l' := [(0, (.agg #[(.int .i64 a1.1), u1])), (1, (ptr b1 0)), (2, (ptr b2 0)), (3, (ptr b1 0)), (5, (ptr b1 1))]) ?_ ⟨rfl, rfl, rfl, rfl, rfl, trivial⟩
 refine WA_postsE [⟨1, [], fun vs => PW.val (.int .i64 a1.1), []⟩, ⟨3, [], fun vs => PW.val u1, []⟩, ⟨4, [], fun vs => PW.own x1, []⟩] [[], [], [3]] 2 rfl (by kernel_rfl) (by kernel_rfl) rfl ?_ ?_
 ·refine StepsE_cons rfl ?_ ?_
  ·intro w5 hB5
   refine DepsE_nil ?_
   refine ⟨_, rfl, ?_⟩
   refine WL_load_box (hC3.grow hB5) 1 rfl rfl Tryz.isAgg3 rfl rfl ?_
   refine WL_nil ?_
   exact FinE_val (Below.refl _ _) rfl rfl ⟨rfl, rfl⟩
  refine StepsE_cons rfl ?_ ?_
  ·intro w5 hB5
   refine DepsE_nil ?_
   refine ⟨_, rfl, ?_⟩
   refine WL_load_box (hC3.grow hB5) 1 rfl rfl Tryz.isAgg24 rfl rfl ?_
   refine WL_nil ?_
   exact FinE_val (Below.refl _ _) rfl rfl ⟨rfl, rfl⟩
  refine StepsE_cons rfl ?_ ?_
  ·intro w5 hB5
   refine DepsE_cons rfl rfl rfl ?_
   rintro _ _ ⟨rfl, rfl⟩ _
   refine DepsE_nil ?_
   refine ⟨_, rfl, ?_⟩
   refine WL_call Tryz.call181 rfl rfl (c_Slices_Clone_Lint_int a1.2 u1 (g1.now (hC3.keep.then hB5)) x1 hr1) ?_
   rintro v1 w4 ⟨hB4, F1, hv1, hn1, hb1⟩
   refine WL_nil ?_
   exact FinE_own hB4 rfl rfl hv1 hn1 hb1 (Val.inh hv1)
  exact StepsE_nil
 intro w6 hB6
 refine AllE_cons rfl rfl rfl ?_
 rintro _ _ ⟨rfl, rfl⟩
 refine AllE_cons rfl rfl rfl ?_
 rintro _ _ ⟨rfl, rfl⟩
 refine AllE_cons rfl rfl rfl ?_
 intro v1 F1 hv1
 refine AllE_nil ?_
 intro hn2 hb2
 have hC4 := hC3.pushL hB6 (Bs := [Item.own v1 (x1 : (List Int))]) (Fs := [F1]) ⟨F1, _, rfl, hv1, rfl⟩ (by simpa using hn2) (fun b h => (hb2 b (by simpa using h)).1)
 refine WA_tk 5 (by kernel_rfl) rfl rfl (fl_build (vs := [(0, (.int .i64 a1.1)), (1, v1)]) rfl rfl (built44_0_1 rfl (ro_cells (hC4.ro 0 rfl)))) ?_
 refine WL_build (vs := [(0, (.int .i64 a1.1)), (1, v1)]) rfl rfl rfl (built44_0_1 rfl (ro_cells (hC4.ro 0 rfl))) ?_
 refine WL_nil ?_
 refine WA_one 6 (by kernel_rfl) rfl ?_
 refine WL_store_box_aggK (cs' := [(.int .i64 a1.1), v1]) (new := [(.int .i64 a1.1), v1]) hC4 1 rfl rfl (by intro v hv; simp only [List.mem_cons, List.not_mem_nil, or_false] at hv; rcases hv with rfl | rfl; exact rfl; exact (ro_one (hC4.ro 0 rfl))) rfl Tryz.sizeOf44 rfl rfl (fun w7 hC5 hKp1 => ?_)
 try dsimp only [List.set] at hC5
 have hk1 := Keep.over ((((Keep.of hB1).then hB2).then hB3).then hB6) (Nat.le_trans (Keep.of hB1).size hN2) hKp1
 have hk2 := Keep.over (((Keep.of hB2).then hB3).then hB6) hN2 hKp1
 refine WL_nil ?_
 refine WA_done (by kernel_rfl) ?_
 refine nrm_normal (W_ret ?_)
 have hq1 := Option.some.inj hF
 subst hq1
 refine fn_retG1 rfl (rv_cell_agg (cs' := [(.int .i64 a1.1), v1]) hC5 (i := 1) rfl rfl rfl Tryz.isAgg44 Tryz.sizeOf44 rfl) ?_
 have hC6 := own_st44 a1.1 v1 x1 hC5
 exact ⟨_, rfl, own_res hC6 0 rfl⟩

theorem c_M_copyTold {w0 : World} (a1 : ((Int × (List Int)) × (List (Int × (List Int))))) (u1 : Value) (g1 : RO [] w0 u1 a1.1.2) (u2 : Value) (g2 : RO [] w0 u2 a1.2) (rr : ((Int × (List Int)) × (List (Int × (List Int))))) (hF : M.copyTold a1 = some rr) :
 Calls Tryz.prog 196 [(.agg #[(.int .i64 a1.1.1), u1, u2])].toArray w0 fun e w' => ∃ v, e = .returned v ∧ Res w0 rr v w' := by
 refine calls_of_W Tryz.func196 rfl rfl ?_
 have hC0 := Ctx.start w0
 unfold M.copyTold at hF
 refine W_seq_reg ?_
 refine WL_boxK (cs := [(.int .i64 a1.1.1), u1, u2]) hC0 rfl rfl rfl (fun b1 w1 hC1 hB1 hN1 => ?_)
 refine WL_allocK hC1 zero46 rfl rfl (fun b2 w2 hC2 hB2 hN2 => ?_)
 refine WL_nil (W_seq ?_)
 refine W_drawn 8 rfl hmix (fun w3 hB3 => ?_)
 have hC3 := hC2.grow hB3
 refine WA_tk 0 (by kernel_rfl) rfl rfl (fl_field Tryz.underlying46 rfl rfl (fun w => ⟨_, Tryz.sizeOf44 w⟩) rfl) ?_
 refine WL_field Tryz.underlying46 rfl rfl (fun w => ⟨_, Tryz.sizeOf44 w⟩) rfl rfl ?_
 refine WL_nil ?_
 refine WA_tk 3 (by kernel_rfl) rfl rfl (fl_field Tryz.underlying46 rfl rfl (fun w => ⟨_, Tryz.sizeOf31 w⟩) rfl) ?_
 refine WL_field Tryz.underlying46 rfl rfl (fun w => ⟨_, Tryz.sizeOf31 w⟩) rfl rfl ?_
 refine WL_nil ?_
 obtain ⟨x1, hr1, hF⟩ := bind_some hF
 refine WA.sub (l' := [(0, (.agg #[(.int .i64 a1.1.1), u1, u2])), (1, (ptr b1 0)), (2, (ptr b2 0)), (3, (ptr b1 0)), (6, (ptr b1 2))]) ?_ ⟨rfl, rfl, rfl, rfl, rfl, trivial⟩
 refine WA_postsE [⟨1, [], fun vs => PW.val (.agg #[(.int .i64 a1.1.1), u1]), []⟩, ⟨2, [], fun vs => PW.own x1, []⟩, ⟨4, [], fun vs => PW.val u2, []⟩] [[], [1], []] 3 rfl (by kernel_rfl) (by kernel_rfl) rfl ?_ ?_
 ·refine StepsE_cons rfl ?_ ?_
  ·intro w5 hB5
   refine DepsE_nil ?_
   refine ⟨_, rfl, ?_⟩
   refine WL_load_box_agg [(.int .i64 a1.1.1), u1] (hC3.grow hB5) 1 rfl rfl rfl Tryz.isAgg44 Tryz.sizeOf44 rfl rfl ?_
   refine WL_nil ?_
   exact FinE_val (Below.refl _ _) rfl rfl ⟨rfl, rfl⟩
  refine StepsE_cons rfl ?_ ?_
  ·intro w5 hB5
   refine DepsE_cons rfl rfl rfl ?_
   rintro _ _ ⟨rfl, rfl⟩ _
   refine DepsE_nil ?_
   refine ⟨_, rfl, ?_⟩
   refine WL_call Tryz.call211 rfl rfl (c_M_copyAccess (a1.1.1, a1.1.2) u1 (g1.now (hC3.keep.then hB5)) x1 hr1) ?_
   rintro v1 w4 ⟨hB4, F1, hv1, hn1, hb1⟩
   refine WL_nil ?_
   exact FinE_own hB4 rfl rfl hv1 hn1 hb1 (Val.inh hv1)
  refine StepsE_cons rfl ?_ ?_
  ·intro w5 hB5
   refine DepsE_nil ?_
   refine ⟨_, rfl, ?_⟩
   refine WL_load_box (hC3.grow hB5) 1 rfl rfl Tryz.isAgg31 rfl rfl ?_
   refine WL_nil ?_
   exact FinE_val (Below.refl _ _) rfl rfl ⟨rfl, rfl⟩
  exact StepsE_nil
 intro w6 hB6
 refine AllE_cons rfl rfl rfl ?_
 rintro _ _ ⟨rfl, rfl⟩
 refine AllE_cons rfl rfl rfl ?_
 intro v1 F1 hv1
 refine AllE_cons rfl rfl rfl ?_
 rintro _ _ ⟨rfl, rfl⟩
 refine AllE_nil ?_
 intro hn2 hb2
 have hC4 := hC3.pushL hB6 (Bs := [Item.own v1 (x1 : (Int × (List Int)))]) (Fs := [F1]) ⟨F1, _, rfl, hv1, rfl⟩ (by simpa using hn2) (fun b h => (hb2 b (by simpa using h)).1)
 obtain ⟨v3, rfl, hC5⟩ := st44_own hC4
 obtain ⟨x2, hr2, hF⟩ := bind_some hF
 refine WA_one 5 (by kernel_rfl) rfl ?_
 refine WL_call Tryz.call145 rfl rfl (c_M_copyFacts a1.2 u2 (g2.now hC5.keep) x2 hr2) ?_
 rintro v4 w7 ⟨hB7, F2, hv2, hn3, hb3⟩
 have hC6 := hC5.push hB7 (A := Item.own v4 x2) hv2 hn3 hb3
 refine WL_nil ?_
 refine WA_tk 6 (by kernel_rfl) rfl rfl (fl_build (vs := [(0, (.agg #[(.int .i64 x1.1), v3])), (1, v4)]) rfl rfl (built46_0_1 rfl (ro_cells (hC6.ro 0 rfl)))) ?_
 refine WL_build (vs := [(0, (.agg #[(.int .i64 x1.1), v3])), (1, v4)]) rfl rfl rfl (built46_0_1 rfl (ro_cells (hC6.ro 0 rfl))) ?_
 refine WL_nil ?_
 refine WA_one 7 (by kernel_rfl) rfl ?_
 refine WL_store_box_aggK (cs' := [(.int .i64 x1.1), v3, v4]) (new := [(.int .i64 x1.1), v3, v4]) hC6 2 rfl rfl (by intro v hv; simp only [List.mem_cons, List.not_mem_nil, or_false] at hv; rcases hv with rfl | rfl | rfl; exact rfl; exact (ro_one (hC6.ro 1 rfl)); exact (ro_one (hC6.ro 0 rfl))) rfl Tryz.sizeOf46 rfl rfl (fun w9 hC7 hKp1 => ?_)
 try dsimp only [List.set] at hC7
 have hk1 := Keep.over (((((Keep.of hB1).then hB2).then hB3).then hB6).then hB7) (Nat.le_trans (Keep.of hB1).size hN2) hKp1
 have hk2 := Keep.over ((((Keep.of hB2).then hB3).then hB6).then hB7) hN2 hKp1
 refine WL_nil ?_
 refine WA_done (by kernel_rfl) ?_
 refine nrm_normal (W_ret ?_)
 have hq1 := Option.some.inj hF
 subst hq1
 refine fn_retG1 rfl (rv_cell_agg (cs' := [(.int .i64 x1.1), v3, v4]) hC7 (i := 2) rfl rfl rfl Tryz.isAgg46 Tryz.sizeOf46 rfl) ?_
 have hC10 := hC7.f1
 have hC8 := own_st46 x1.1 v3 x1.2 v4 x2 hC10
 exact ⟨_, rfl, own_res hC8 0 rfl⟩

theorem c_M_Without {w0 : World} (a1 : (List ((Int × (List Int)) × (List (Int × (List Int)))))) (u1 : Value) (g1 : RO [] w0 u1 a1) (a2 : (List Int)) (u2 : Value) (g2 : RO [] w0 u2 a2) (rr : (List ((Int × (List Int)) × (List (Int × (List Int)))))) (hF : M.Without a1 a2 = some rr) :
 Calls Tryz.prog 159 [u1, u2].toArray w0 fun e w' => ∃ v, e = .returned v ∧ Res w0 rr v w' := by
 refine calls_of_W Tryz.func159 rfl rfl ?_
 have hC0 := Ctx.start w0
 unfold M.Without at hF
 refine W_seq_reg ?_
 refine WL_assign rfl rfl ?_
 refine WL_nil (W_seq_reg ?_)
 refine WL_buildSlice (vs := []) hC0 Tryz.underlying26 ty46 rfl rfl rfl rfl (by simp) rfl rfl (fun b1 w1 hC1 hB1 => ?_)
 have hC2 := hC1.row0 (α := ((Int × (List Int)) × (List (Int × (List Int)))))
 have hC3 := hC2.front 1 rfl
 dsimp only [List.eraseIdx, List.cons_append, List.nil_append, List.append_nil] at hC3
 have hC4 : Ctx [] w0 w1 (Item.own (.slice (some ⟨b1, 0, none⟩) 0 0) (([] : List ((Int × (List Int)) × (List (Int × (List Int))))) : List ((Int × (List Int)) × (List (Int × (List Int))))) :: []) := hC3.rowOwn (by simp [maxLen])
 refine WL_assign rfl rfl ?_
 refine WL_nil (W_seq (W_seq_reg ?_))
 refine WL_move rfl rfl ?_
 refine WL_len Tryz.underlying26 g1 rfl rfl ?_
 refine WL_move rfl rfl ?_
 refine WL_nil ?_
 obtain ⟨r1, hr1, hF⟩ := bind_some hF
 refine W_norm (fun l w => ∃ v2 : Value, ∃ x3 : (List ((Int × (List Int)) × (List (Int × (List Int))))), x3 = r1 ∧ l = [(5, v2)] ∧ Ctx [] w0 w [Item.own v2 (x3 : (List ((Int × (List Int)) × (List (Int × (List Int))))))]) ?_ ?_
 ·refine W_block ?_
  refine W.sub (l' := [(1, u2), (5, (.slice (some ⟨b1, 0, none⟩) 0 0)), (9, u1), (10, (.int .i64 (List.length a1 : Int))), (11, (.int .i64 0))]) ?_ ⟨rfl, rfl, rfl, rfl, rfl, trivial⟩
  refine W_loop (fun k l w => ∃ v1 : Value, ∃ x1 : (List ((Int × (List Int)) × (List (Int × (List Int))))), ∃ x2 : Int, l = [(1, u2), (5, v1), (9, u1), (10, (.int .i64 (List.length a1 : Int))), (11, (.int .i64 x2))] ∧ Ctx [] w0 w [Item.own v1 (x1 : (List ((Int × (List Int)) × (List (Int × (List Int))))))] ∧ M.Without_l1 a1 a2 k x1 x2 = some r1) FUEL ⟨(.slice (some ⟨b1, 0, none⟩) 0 0), ([] : List ((Int × (List Int)) × (List (Int × (List Int))))), 0, rfl, hC4, hr1⟩ ?_
  clear hr1
  rintro k1 _ w2 ⟨v1, x1, x2, rfl, hC5, hL1⟩
  cases k1 with
  | zero => rw [M.Without_l1] at hL1; cases hL1
  | succ k1 =>
   rw [M.Without_l1] at hL1
   refine W_seq_reg ?_
   refine WL_lss rfl rfl rfl ?_
   refine WL_nil (W_seq ?_)
   refine W_cond rfl (fun hc1 => ?_) (fun hc1 => ?_)
   ·replace hL1 := ite_t hL1 hc1
    refine W_skip (nrm_normal (W_seq (W_block (W_seq_reg ?_))))
    refine WL_move rfl rfl ?_
    obtain ⟨x4, hx1, hL1⟩ := bind_some hL1
    refine WL_index Tryz.underlying26 ty46 g1 hx1 rfl rfl rfl (fun b2 o1 h1 => ?_)
    refine WL_load ty46 h1 hC5.keep rfl rfl (fun v3 h2 => ?_)
    obtain ⟨v4, v5, rfl, h3, h4⟩ := ro_st46 h2
    refine WL_allocK hC5 zero46 rfl rfl (fun b3 w3 hC6 hB3 hN1 => ?_)
    refine WL_assign rfl rfl ?_
    refine WL_store_box_aggK (cs' := [(.int .i64 x4.1.1), v4, v5]) (new := [(.int .i64 x4.1.1), v4, v5]) hC6 0 rfl rfl (by intro v hv; simp only [List.mem_cons, List.not_mem_nil, or_false] at hv; rcases hv with rfl | rfl | rfl; exact rfl; exact (ro_one h3); exact (ro_one h4)) rfl Tryz.sizeOf46 rfl rfl (fun w4 hC7 hKp1 => ?_)
    try dsimp only [List.set] at hC7
    have hk1 := Keep.over (Keep.of hB3) hN1 hKp1
    refine WL_nil (W_seq_reg ?_)
    refine WL_move rfl rfl ?_
    refine WL_move rfl rfl ?_
    obtain ⟨x5, hr2, hL1⟩ := bind_some hL1
    refine WL_call Tryz.call195 rfl rfl (c_Slices_Contains_Lint_int a2 u2 (g2.now hC7.keep) x2 x5 hr2) ?_
    intro _ w5 hv1
    obtain ⟨rfl, hB4⟩ := res_bool hv1
    have hC8 := hC7.grow hB4
    refine WL_not rfl rfl ?_
    refine WL_nil ?_
    obtain ⟨r2, hr3, hL1⟩ := bind_some hL1
    refine W_norm (fun l w => ∃ v6 : Value, ∃ x6 : (List ((Int × (List Int)) × (List (Int × (List Int))))), x6 = r2 ∧ l = [(1, u2), (5, v6), (9, u1), (10, (.int .i64 (List.length a1 : Int))), (11, (.int .i64 x2))] ∧ Ctx [] w0 w [Item.own v6 (x6 : (List ((Int × (List Int)) × (List (Int × (List Int))))))]) ?_ ?_
    ·refine W_cond rfl (fun hc2 => ?_) (fun hc2 => ?_)
     ·replace hr3 := ite_t hr3 hc2
      refine W_reg ?_
      refine WL_move rfl rfl ?_
      refine WL_load_box_agg [(.int .i64 x4.1.1), v4, v5] hC8 0 rfl rfl rfl Tryz.isAgg46 Tryz.sizeOf46 rfl rfl ?_
      obtain ⟨x7, hr4, hr3⟩ := bind_some hr3
      refine WL_call Tryz.call196 rfl rfl (c_M_copyTold ((x4.1.1, x4.1.2), x4.2) v4 (h3.now hC8.keep) v5 (h4.now hC8.keep) x7 hr4) ?_
      rintro v7 w7 ⟨hB6, F1, hv2, hn1, hb1⟩
      have hC10 := hC8.push hB6 (A := Item.own v7 x7) hv2 hn1 hb1
      obtain ⟨v8, v9, rfl, hC11⟩ := st46_own hC10
      refine WL_buildSlice (vs := [(.agg #[(.int .i64 x7.1.1), v8, v9])]) hC11 Tryz.underlying26 ty46 rfl rfl rfl rfl (by intro v hv; simp only [List.mem_cons, List.not_mem_nil, or_false] at hv; rcases hv with rfl <;> rfl) rfl rfl (fun b4 w9 hC12 hB7 => ?_)
      have hC13 := hC12.row0 (α := ((Int × (List Int)) × (List (Int × (List Int)))))
      have hC15 := hC13.f3
      have hC16 := hC15.f3
      have hC14 := own_st46 x7.1.1 v8 x7.1.2 v9 x7.2 hC16
      have hC17 := hC14.row1
      have hC18 := hC17.front 1 rfl
      dsimp only [List.eraseIdx, List.cons_append, List.nil_append, List.append_nil] at hC18
      have hC19 : Ctx [] w0 w9 (Item.own (.slice (some ⟨b4, 0, none⟩) 1 1) ([((x7.1.1, x7.1.2), x7.2)] : List ((Int × (List Int)) × (List (Int × (List Int))))) :: [Item.box b3 [(.int .i64 x4.1.1), v4, v5], Item.own v1 (x1 : (List ((Int × (List Int)) × (List (Int × (List Int))))))]) := hC18.rowOwn (by simp [maxLen])
      obtain ⟨x8, hx2, hr3⟩ := bind_some hr3
      refine WL_append_head hC19 1 rfl Tryz.underlying26 ty46 rfl hx2 rfl rfl rfl (fun v10 w10 hC20 => ?_)
      try dsimp only [List.set] at hC20
      refine WL_assign rfl rfl ?_
      refine WL_nil ?_
      have hq1 := Option.some.inj hr3
      subst hq1
      have hC22 := hC20.f1
      have hC23 := hC22.h1
      refine nrm_sub (l' := [(1, u2), (5, v10), (9, u1), (10, (.int .i64 (List.length a1 : Int))), (11, (.int .i64 x2))]) ⟨rfl, rfl, rfl, rfl, rfl, trivial⟩ ?_
      exact ⟨v10, x8, rfl, rfl, hC23⟩
     replace hr3 := ite_f hr3 hc2
     refine W_skip ?_
     have hq2 := Option.some.inj hr3
     subst hq2
     have hC24 := hC8.f1
     have hC25 := hC24.h1
     refine nrm_sub (l' := [(1, u2), (5, v1), (9, u1), (10, (.int .i64 (List.length a1 : Int))), (11, (.int .i64 x2))]) ⟨rfl, rfl, rfl, rfl, rfl, trivial⟩ ?_
     exact ⟨v1, x1, rfl, rfl, hC25⟩
    rintro l2 _ w6 hs2 ⟨v6, x6, rfl, rfl, hC9⟩
    try dsimp only at hL1
    refine blk_normal ?_
    refine nrm_sub' hs2 ?_
    clear hs2
    refine W_reg ?_
    refine WL_add rfl rfl rfl ?_
    refine WL_move rfl rfl ?_
    refine WL_nil ?_
    refine nrm_sub (l' := [(1, u2), (5, v6), (9, u1), (10, (.int .i64 (List.length a1 : Int))), (11, (.int .i64 (w64 (x2 + 1))))]) ⟨rfl, rfl, rfl, rfl, rfl, trivial⟩ ?_
    exact ⟨k1, Nat.lt_succ_self _, v6, x6, w64 (x2 + 1), rfl, hC9, hL1⟩
   replace hL1 := ite_f hL1 hc1
   refine W_exit (nrm_exit (nrm_exit (blk_exit ?_)))
   have hq3 := Option.some.inj hL1
   subst hq3
   refine nrm_sub (l' := [(5, v1)]) ⟨rfl, trivial⟩ ?_
   exact ⟨v1, x1, rfl, rfl, hC5⟩
 rintro l3 _ w11 hs3 ⟨v2, x3, rfl, rfl, hC26⟩
 try dsimp only at hF
 refine nrm_sub' hs3 ?_
 clear hs3
 refine W_seq_reg ?_
 refine WL_move rfl rfl ?_
 refine WL_assign rfl rfl ?_
 refine WL_nil (W_ret ?_)
 have hq4 := Option.some.inj hF
 subst hq4
 refine fn_ret1 rfl rfl ?_
 exact ⟨_, rfl, own_res hC26 0 rfl⟩

theorem c_M_removals_c1 {w0 : World} (a1 : (List Int)) (u1 : Value) (g1 : RO [] w0 u1 a1) (pb1 : Nat) (ax1 : (List Int)) (g2 : ROAt [] w0 pb1 0 ax1) (pb2 : Nat) (ax2 : (List (Int × (List Int) × Int × Int × Int))) (g3 : ROAt [] w0 pb2 0 ax2) (pb3 : Nat) (ax3 : (List ((Int × (List Int)) × (List (Int × (List Int)))))) (g4 : ROAt [] w0 pb3 0 ax3) (rr : Bool) (hF : M.removals_c1 a1 ax1 ax2 ax3 = some rr) :
 Calls Tryz.prog 158 [u1, (ptr pb1 0), (ptr pb2 0), (ptr pb3 0)].toArray w0 fun e w' => ∃ v, e = .returned v ∧ Res w0 rr v w' := by
 refine calls_of_W Tryz.func158 rfl rfl ?_
 have hC0 := Ctx.start w0
 unfold M.removals_c1 at hF
 refine W_seq_reg ?_
 refine WL_assign rfl rfl ?_
 refine WL_nil (W_seq ?_)
 refine W_drawn 7 rfl hmix (fun w1 hB1 => ?_)
 have hC1 := hC0.grow hB1
 refine WA_tk 3 (by kernel_rfl) rfl rfl (fl_move rfl) ?_
 refine WL_move rfl rfl ?_
 refine WL_nil ?_
 obtain ⟨x1, hr1, hF⟩ := bind_some hF
 refine WA.sub (l' := [(0, u1), (1, (ptr pb1 0)), (2, (ptr pb2 0)), (3, (ptr pb3 0)), (5, (.bool false)), (9, u1)]) ?_ ⟨rfl, rfl, rfl, rfl, rfl, rfl, trivial⟩
 refine WA_postsE [⟨0, [], fun vs => PW.ro [] w0 ax1, []⟩, ⟨1, [], fun vs => PW.ro [] w0 ax2, []⟩, ⟨2, [], fun vs => PW.ro [] w0 ax3, []⟩, ⟨4, [], fun vs => PW.own x1, []⟩] [[], [], [], [2]] 2 rfl (by kernel_rfl) (by kernel_rfl) rfl ?_ ?_
 ·refine StepsE_cons rfl ?_ ?_
  ·intro w3 hB3
   refine DepsE_nil ?_
   refine ⟨_, rfl, ?_⟩
   refine WL_load ty24 g2 (hC1.keep.then hB3) rfl rfl (fun v1 h1 => ?_)
   refine WL_nil ?_
   exact FinE_val (Below.refl _ _) rfl rfl ⟨rfl, h1⟩
  refine StepsE_cons rfl ?_ ?_
  ·intro w3 hB3
   refine DepsE_nil ?_
   refine ⟨_, rfl, ?_⟩
   refine WL_load ty25 g3 (hC1.keep.then hB3) rfl rfl (fun v2 h2 => ?_)
   refine WL_nil ?_
   exact FinE_val (Below.refl _ _) rfl rfl ⟨rfl, h2⟩
  refine StepsE_cons rfl ?_ ?_
  ·intro w3 hB3
   refine DepsE_nil ?_
   refine ⟨_, rfl, ?_⟩
   refine WL_load ty26 g4 (hC1.keep.then hB3) rfl rfl (fun v3 h3 => ?_)
   refine WL_nil ?_
   exact FinE_val (Below.refl _ _) rfl rfl ⟨rfl, h3⟩
  refine StepsE_cons rfl ?_ ?_
  ·intro w3 hB3
   refine DepsE_cons rfl rfl rfl ?_
   rintro v3 _ ⟨rfl, h3⟩ _
   refine DepsE_nil ?_
   refine ⟨_, rfl, ?_⟩
   refine WL_call Tryz.call159 rfl rfl (c_M_Without ax3 v3 (h3.now (hC1.keep.then hB3)) a1 u1 (g1.now (hC1.keep.then hB3)) x1 hr1) ?_
   rintro v4 w2 ⟨hB2, F1, hv1, hn1, hb1⟩
   refine WL_nil ?_
   exact FinE_own hB2 rfl rfl hv1 hn1 hb1 (Val.inh hv1)
  exact StepsE_nil
 intro w4 hB4
 refine AllE_cons rfl rfl rfl ?_
 rintro v1 _ ⟨rfl, h1⟩
 refine AllE_cons rfl rfl rfl ?_
 rintro v2 _ ⟨rfl, h2⟩
 refine AllE_cons rfl rfl rfl ?_
 rintro v3 _ ⟨rfl, h3⟩
 refine AllE_cons rfl rfl rfl ?_
 intro v4 F1 hv1
 refine AllE_nil ?_
 intro hn2 hb2
 have hC2 := hC1.pushL hB4 (Bs := [Item.own v4 (x1 : (List ((Int × (List Int)) × (List (Int × (List Int))))))]) (Fs := [F1]) ⟨F1, _, rfl, hv1, rfl⟩ (by simpa using hn2) (fun b h => (hb2 b (by simpa using h)).1)
 obtain ⟨x2, hr2, hF⟩ := bind_some hF
 refine WA_one 5 (by kernel_rfl) rfl ?_
 refine WL_call Tryz.call16 rfl rfl (c_M_IsConsistent ax1 v1 (h1.now hC2.keep) ax2 v2 (h2.now hC2.keep) x1 v4 ((hC2.ro 0 rfl).now (Keep.refl _ _)) x2 hr2) ?_
 intro _ w5 hv2
 obtain ⟨rfl, hB5⟩ := res_bool hv2
 have hC3 := hC2.grow hB5
 refine WL_nil ?_
 refine WA_tk 6 (by kernel_rfl) rfl rfl (fl_assign rfl) ?_
 refine WL_assign rfl rfl ?_
 refine WL_nil ?_
 refine WA_done (by kernel_rfl) ?_
 refine nrm_normal (W_ret ?_)
 have hq1 := Option.some.inj hF
 subst hq1
 refine fn_ret1 rfl rfl ?_
 exact ⟨_, rfl, bool_res hC3 _⟩

theorem c_Slices_Equal_Lint_int {w0 : World} (a1 : (List Int)) (u1 : Value) (g1 : RO [] w0 u1 a1) (a2 : (List Int)) (u2 : Value) (g2 : RO [] w0 u2 a2) (rr : Bool) (hF : Slices.Equal_Lint_int a1 a2 = some rr) :
 Calls Tryz.prog 213 [u1, u2].toArray w0 fun e w' => ∃ v, e = .returned v ∧ Res w0 rr v w' := by
 refine calls_of_W Tryz.func213 rfl rfl ?_
 have hC0 := Ctx.start w0
 unfold Slices.Equal_Lint_int at hF
 refine W_seq_reg ?_
 refine WL_assign rfl rfl ?_
 refine WL_nil (W_seq (W_seq_reg ?_))
 refine WL_move rfl rfl ?_
 refine WL_len Tryz.underlying24 g1 rfl rfl ?_
 refine WL_move rfl rfl ?_
 refine WL_len Tryz.underlying24 g2 rfl rfl ?_
 refine WL_neq rfl rfl rfl ?_
 refine WL_nil ?_
 refine W_cond rfl (fun hc1 => ?_) (fun hc1 => ?_)
 ·replace hF := ite_t hF hc1
  refine W_seq_reg ?_
  refine WL_assign rfl rfl ?_
  refine WL_nil (W_ret (nrm_ret ?_))
  have hq1 := Option.some.inj hF
  subst hq1
  refine fn_ret1 rfl rfl ?_
  exact ⟨_, rfl, bool_res hC0 _⟩
 replace hF := ite_f hF hc1
 refine W_skip (nrm_normal (W_seq (W_seq_reg ?_)))
 refine WL_move rfl rfl ?_
 refine WL_len Tryz.underlying24 g1 rfl rfl ?_
 refine WL_move rfl rfl ?_
 refine WL_nil ?_
 obtain ⟨r1, hr1, hF⟩ := bind_some hF
 refine W_norm (fun l w => .inl () = r1 ∧ l = [] ∧ Below w0.heap.size w0 w ∧ Ctx [] w0 w []) ?_ ?_
 ·refine W_block ?_
  refine W.sub (l' := [(0, u1), (1, u2), (12, (.int .i64 (List.length a1 : Int))), (13, (.int .i64 0))]) ?_ ⟨rfl, rfl, rfl, rfl, trivial⟩
  refine W_loop (fun k l w => ∃ x1 : Int, l = [(0, u1), (1, u2), (12, (.int .i64 (List.length a1 : Int))), (13, (.int .i64 x1))] ∧ Below w0.heap.size w0 w ∧ Ctx [] w0 w [] ∧ Slices.Equal_Lint_int_l1 a1 a2 k x1 = some r1) FUEL ⟨0, rfl, (Below.refl _ _), hC0, hr1⟩ ?_
  clear hr1
  rintro k1 _ w1 ⟨x1, rfl, hB1, hC1, hL1⟩
  cases k1 with
  | zero => rw [Slices.Equal_Lint_int_l1] at hL1; cases hL1
  | succ k1 =>
   rw [Slices.Equal_Lint_int_l1] at hL1
   refine W_seq_reg ?_
   refine WL_lss rfl rfl rfl ?_
   refine WL_nil (W_seq ?_)
   refine W_cond rfl (fun hc2 => ?_) (fun hc2 => ?_)
   ·replace hL1 := ite_t hL1 hc2
    refine W_skip (nrm_normal (W_seq (W_block (W_seq_reg ?_))))
    refine WL_move rfl rfl ?_
    refine WL_assign rfl rfl ?_
    refine WL_nil (W_seq ?_)
    refine W_drawn 9 rfl hmix (fun w2 hB2 => ?_)
    have hC2 := hC1.grow hB2
    refine WA_tk 0 (by kernel_rfl) rfl rfl (fl_move rfl) ?_
    refine WL_move rfl rfl ?_
    refine WL_nil ?_
    refine WA_tk 1 (by kernel_rfl) rfl rfl (fl_move rfl) ?_
    refine WL_move rfl rfl ?_
    refine WL_nil ?_
    obtain ⟨x2, hx1, hL1⟩ := bind_some hL1
    refine WA_tk 2 (by kernel_rfl) rfl rfl (fl_index Tryz.underlying24 ty3 g1 hx1 rfl rfl) ?_
    refine WL_index Tryz.underlying24 ty3 g1 hx1 rfl rfl rfl (fun b1 o1 h1 => ?_)
    refine WL_nil ?_
    refine WA_tk 4 (by kernel_rfl) rfl rfl (fl_move rfl) ?_
    refine WL_move rfl rfl ?_
    refine WL_nil ?_
    refine WA_tk 5 (by kernel_rfl) rfl rfl (fl_move rfl) ?_
    refine WL_move rfl rfl ?_
    refine WL_nil ?_
    obtain ⟨x3, hx2, hL1⟩ := bind_some hL1
    refine WA_tk 6 (by kernel_rfl) rfl rfl (fl_index Tryz.underlying24 ty3 g2 hx2 rfl rfl) ?_
    refine WL_index Tryz.underlying24 ty3 g2 hx2 rfl rfl rfl (fun b2 o2 h2 => ?_)
    refine WL_nil ?_
    refine WA.sub (l' := [(0, u1), (1, u2), (5, (.int .i64 x1)), (12, (.int .i64 (List.length a1 : Int))), (13, (.int .i64 x1)), (14, (.bool (decide (x1 < (List.length a1 : Int))))), (15, (.int .i64 x1)), (16, u1), (17, (.int .i64 x1)), (18, (ptr b1 o1)), (20, u2), (21, (.int .i64 x1)), (22, (ptr b2 o2))]) ?_ ⟨rfl, rfl, rfl, rfl, rfl, rfl, rfl, rfl, rfl, rfl, rfl, rfl, rfl, trivial⟩
    refine WA_postsE [⟨3, [], fun vs => PW.val (.int .i64 x2), []⟩, ⟨7, [], fun vs => PW.val (.int .i64 x3), []⟩] [[], []] 1 rfl (by kernel_rfl) (by kernel_rfl) rfl ?_ ?_
    ·refine StepsE_cons rfl ?_ ?_
     ·intro w3 hB3
      refine DepsE_nil ?_
      refine ⟨_, rfl, ?_⟩
      refine WL_load ty3 h1 (hC2.keep.then hB3) rfl rfl (fun v1 h3 => ?_)
      obtain rfl := ro_int h3
      refine WL_nil ?_
      exact FinE_val (Below.refl _ _) rfl rfl ⟨rfl, rfl⟩
     refine StepsE_cons rfl ?_ ?_
     ·intro w3 hB3
      refine DepsE_nil ?_
      refine ⟨_, rfl, ?_⟩
      refine WL_load ty3 h2 (hC2.keep.then hB3) rfl rfl (fun v2 h4 => ?_)
      obtain rfl := ro_int h4
      refine WL_nil ?_
      exact FinE_val (Below.refl _ _) rfl rfl ⟨rfl, rfl⟩
     exact StepsE_nil
    intro w4 hB4
    refine AllE_cons rfl rfl rfl ?_
    rintro _ _ ⟨rfl, rfl⟩
    refine AllE_cons rfl rfl rfl ?_
    rintro _ _ ⟨rfl, rfl⟩
    refine AllE_nil ?_
    intro hn1 hb1
    have hC3 := hC2.grow hB4
    refine WA_tk 8 (by kernel_rfl) rfl rfl (fl_neq rfl rfl) ?_
    refine WL_neq rfl rfl rfl ?_
    refine WL_nil ?_
    refine WA_done (by kernel_rfl) ?_
    refine nrm_normal ?_
    refine W_cond rfl (fun hc3 => ?_) (fun hc3 => ?_)
    ·replace hL1 := ite_t hL1 hc3
     refine W_seq_reg ?_
     refine WL_assign rfl rfl ?_
     refine WL_nil (W_ret (blk_ret (nrm_ret (nrm_ret (blk_ret (nrm_ret (nrm_ret ?_)))))))
     have hq2 := Option.some.inj hL1
     subst hq2
     dsimp only at hF
     have hq3 := Option.some.inj hF
     subst hq3
     refine fn_ret1 rfl rfl ?_
     exact ⟨_, rfl, bool_res hC3 _⟩
    replace hL1 := ite_f hL1 hc3
    refine W_skip (blk_normal (nrm_normal (W_reg ?_)))
    refine WL_add rfl rfl rfl ?_
    refine WL_move rfl rfl ?_
    refine WL_nil ?_
    refine nrm_sub (l' := [(0, u1), (1, u2), (12, (.int .i64 (List.length a1 : Int))), (13, (.int .i64 (w64 (x1 + 1))))]) ⟨rfl, rfl, rfl, rfl, trivial⟩ ?_
    exact ⟨k1, Nat.lt_succ_self _, w64 (x1 + 1), rfl, (((Keep.of hB1).then hB2).then hB4).below, hC3, hL1⟩
   replace hL1 := ite_f hL1 hc2
   refine W_exit (nrm_exit (nrm_exit (blk_exit ?_)))
   have hq4 := Option.some.inj hL1
   subst hq4
   refine nrm_sub (l' := []) trivial ?_
   exact ⟨rfl, rfl, (Keep.of hB1).below, hC1⟩
 rintro l2 _ w5 hs2 ⟨rfl, rfl, hB5, hC4⟩
 try dsimp only at hF
 refine nrm_sub' hs2 ?_
 clear hs2
 refine W_seq_reg ?_
 refine WL_assign rfl rfl ?_
 refine WL_nil (W_ret ?_)
 have hq5 := Option.some.inj hF
 subst hq5
 refine fn_ret1 rfl rfl ?_
 exact ⟨_, rfl, bool_res hC4 _⟩

theorem c_M_hasTuple_c1 {w0 : World} (a1 : (List Int)) (u1 : Value) (g1 : RO [] w0 u1 a1) (pb1 : Nat) (ax1 : (List Int)) (g2 : ROAt [] w0 pb1 0 ax1) (rr : Bool) (hF : M.hasTuple_c1 a1 ax1 = some rr) :
 Calls Tryz.prog 212 [u1, (ptr pb1 0)].toArray w0 fun e w' => ∃ v, e = .returned v ∧ Res w0 rr v w' := by
 refine calls_of_W Tryz.func212 rfl rfl ?_
 have hC0 := Ctx.start w0
 unfold M.hasTuple_c1 at hF
 refine W_seq_reg ?_
 refine WL_assign rfl rfl ?_
 refine WL_nil (W_seq_reg ?_)
 refine WL_move rfl rfl ?_
 refine WL_load ty24 g2 hC0.keep rfl rfl (fun v1 h1 => ?_)
 obtain ⟨x1, hr1, hF⟩ := bind_some hF
 refine WL_call Tryz.call213 rfl rfl (c_Slices_Equal_Lint_int a1 u1 (g1.now hC0.keep) ax1 v1 (h1.now hC0.keep) x1 hr1) ?_
 intro _ w1 hv1
 obtain ⟨rfl, hB1⟩ := res_bool hv1
 have hC1 := hC0.grow hB1
 refine WL_assign rfl rfl ?_
 refine WL_nil (W_ret ?_)
 have hq1 := Option.some.inj hF
 subst hq1
 refine fn_ret1 rfl rfl ?_
 exact ⟨_, rfl, bool_res hC1 _⟩

theorem c_Slices_IndexFunc_LLint_Lint_M_hasTuple_c1 {w0 : World} (a1 : (List (List Int))) (u1 : Value) (g1 : RO [] w0 u1 a1) (pb1 : Nat) (ax1 : (List Int)) (g2 : ROAt [] w0 pb1 0 ax1) (rr : Int) (hF : Slices.IndexFunc_LLint_Lint_M_hasTuple_c1 a1 ax1 = some rr) :
 Calls Tryz.prog 198 [u1, (.func (.func 212) #[] #[(ptr pb1 0)])].toArray w0 fun e w' => ∃ v, e = .returned v ∧ Res w0 rr v w' := by
 refine calls_of_W Tryz.func198 rfl rfl ?_
 have hC0 := Ctx.start w0
 unfold Slices.IndexFunc_LLint_Lint_M_hasTuple_c1 at hF
 refine W_seq_reg ?_
 refine WL_assign rfl rfl ?_
 refine WL_nil (W_seq (W_seq_reg ?_))
 refine WL_move rfl rfl ?_
 refine WL_len Tryz.underlying77 g1 rfl rfl ?_
 refine WL_move rfl rfl ?_
 refine WL_nil ?_
 obtain ⟨r1, hr1, hF⟩ := bind_some hF
 refine W_norm (fun l w => .inl () = r1 ∧ l = [] ∧ Below w0.heap.size w0 w ∧ Ctx [] w0 w []) ?_ ?_
 ·refine W_block ?_
  refine W.sub (l' := [(0, u1), (1, (.func (.func 212) #[] #[(ptr pb1 0)])), (7, (.int .i64 (List.length a1 : Int))), (8, (.int .i64 0))]) ?_ ⟨rfl, rfl, rfl, rfl, trivial⟩
  refine W_loop (fun k l w => ∃ x1 : Int, l = [(0, u1), (1, (.func (.func 212) #[] #[(ptr pb1 0)])), (7, (.int .i64 (List.length a1 : Int))), (8, (.int .i64 x1))] ∧ Below w0.heap.size w0 w ∧ Ctx [] w0 w [] ∧ Slices.IndexFunc_LLint_Lint_M_hasTuple_c1_l1 a1 ax1 k x1 = some r1) FUEL ⟨0, rfl, (Below.refl _ _), hC0, hr1⟩ ?_
  clear hr1
  rintro k1 _ w1 ⟨x1, rfl, hB1, hC1, hL1⟩
  cases k1 with
  | zero => rw [Slices.IndexFunc_LLint_Lint_M_hasTuple_c1_l1] at hL1; cases hL1
  | succ k1 =>
   rw [Slices.IndexFunc_LLint_Lint_M_hasTuple_c1_l1] at hL1
   refine W_seq_reg ?_
   refine WL_lss rfl rfl rfl ?_
   refine WL_nil (W_seq ?_)
   refine W_cond rfl (fun hc1 => ?_) (fun hc1 => ?_)
   ·replace hL1 := ite_t hL1 hc1
    refine W_skip (nrm_normal (W_seq (W_block (W_seq_reg ?_))))
    refine WL_move rfl rfl ?_
    refine WL_assign rfl rfl ?_
    refine WL_nil (W_seq_reg ?_)
    refine WL_move rfl rfl ?_
    refine WL_move rfl rfl ?_
    refine WL_move rfl rfl ?_
    obtain ⟨x2, hx1, hL1⟩ := bind_some hL1
    refine WL_index Tryz.underlying77 ty24 g1 hx1 rfl rfl rfl (fun b1 o1 h1 => ?_)
    refine WL_load ty24 h1 hC1.keep rfl rfl (fun v1 h2 => ?_)
    obtain ⟨x3, hr2, hL1⟩ := bind_some hL1
    refine WL_callv (cap := [(ptr pb1 0)]) Tryz.call212 rfl rfl rfl (c_M_hasTuple_c1 x2 v1 (h2.now hC1.keep) pb1 ax1 (g2.now hC1.keep) x3 hr2) ?_
    intro _ w2 hv1
    obtain ⟨rfl, hB2⟩ := res_bool hv1
    have hC2 := hC1.grow hB2
    refine WL_nil ?_
    refine W_cond rfl (fun hc2 => ?_) (fun hc2 => ?_)
    ·replace hL1 := ite_t hL1 hc2
     refine W_seq_reg ?_
     refine WL_move rfl rfl ?_
     refine WL_assign rfl rfl ?_
     refine WL_nil (W_ret (blk_ret (nrm_ret (nrm_ret (blk_ret (nrm_ret (nrm_ret ?_)))))))
     have hq1 := Option.some.inj hL1
     subst hq1
     dsimp only at hF
     have hq2 := Option.some.inj hF
     subst hq2
     refine fn_ret1 rfl rfl ?_
     exact ⟨_, rfl, int_res hC2 _⟩
    replace hL1 := ite_f hL1 hc2
    refine W_skip (blk_normal (nrm_normal (W_reg ?_)))
    refine WL_add rfl rfl rfl ?_
    refine WL_move rfl rfl ?_
    refine WL_nil ?_
    refine nrm_sub (l' := [(0, u1), (1, (.func (.func 212) #[] #[(ptr pb1 0)])), (7, (.int .i64 (List.length a1 : Int))), (8, (.int .i64 (w64 (x1 + 1))))]) ⟨rfl, rfl, rfl, rfl, trivial⟩ ?_
    exact ⟨k1, Nat.lt_succ_self _, w64 (x1 + 1), rfl, ((Keep.of hB1).then hB2).below, hC2, hL1⟩
   replace hL1 := ite_f hL1 hc1
   refine W_exit (nrm_exit (nrm_exit (blk_exit ?_)))
   have hq3 := Option.some.inj hL1
   subst hq3
   refine nrm_sub (l' := []) trivial ?_
   exact ⟨rfl, rfl, (Keep.of hB1).below, hC1⟩
 rintro l2 _ w3 hs2 ⟨rfl, rfl, hB3, hC3⟩
 try dsimp only at hF
 refine nrm_sub' hs2 ?_
 clear hs2
 refine W_seq_reg ?_
 refine WL_assign rfl rfl ?_
 refine WL_nil (W_ret ?_)
 have hq4 := Option.some.inj hF
 subst hq4
 refine fn_ret1 rfl rfl ?_
 exact ⟨_, rfl, int_res hC3 _⟩

theorem c_Slices_ContainsFunc_LLint_Lint_M_hasTuple_c1 {w0 : World} (a1 : (List (List Int))) (u1 : Value) (g1 : RO [] w0 u1 a1) (pb1 : Nat) (ax1 : (List Int)) (g2 : ROAt [] w0 pb1 0 ax1) (rr : Bool) (hF : Slices.ContainsFunc_LLint_Lint_M_hasTuple_c1 a1 ax1 = some rr) :
 Calls Tryz.prog 164 [u1, (.func (.func 212) #[] #[(ptr pb1 0)])].toArray w0 fun e w' => ∃ v, e = .returned v ∧ Res w0 rr v w' := by
 refine calls_of_W Tryz.func164 rfl rfl ?_
 have hC0 := Ctx.start w0
 unfold Slices.ContainsFunc_LLint_Lint_M_hasTuple_c1 at hF
 refine W_seq_reg ?_
 refine WL_assign rfl rfl ?_
 refine WL_nil (W_seq_reg ?_)
 refine WL_move rfl rfl ?_
 refine WL_move rfl rfl ?_
 obtain ⟨x1, hr1, hF⟩ := bind_some hF
 refine WL_call Tryz.call198 rfl rfl (c_Slices_IndexFunc_LLint_Lint_M_hasTuple_c1 a1 u1 (g1.now hC0.keep) pb1 ax1 (g2.now hC0.keep) x1 hr1) ?_
 intro _ w1 hv1
 obtain ⟨rfl, hB1⟩ := res_int hv1
 have hC1 := hC0.grow hB1
 refine WL_geq rfl rfl rfl ?_
 refine WL_assign rfl rfl ?_
 refine WL_nil (W_ret ?_)
 have hq1 := Option.some.inj hF
 subst hq1
 refine fn_ret1 rfl rfl ?_
 exact ⟨_, rfl, bool_res hC1 _⟩

theorem c_M_hasTuple {w0 : World} (a1 : (List (List Int))) (u1 : Value) (g1 : RO [] w0 u1 a1) (a2 : (List Int)) (u2 : Value) (g2 : RO [] w0 u2 a2) (rr : Bool) (hF : M.hasTuple a1 a2 = some rr) :
 Calls Tryz.prog 197 [u1, u2].toArray w0 fun e w' => ∃ v, e = .returned v ∧ Res w0 rr v w' := by
 refine calls_of_W Tryz.func197 rfl rfl ?_
 have hC0 := Ctx.start w0
 unfold M.hasTuple at hF
 refine W_seq_reg ?_
 refine WL_boxK (cs := [u2]) hC0 (ro_cells g2) rfl rfl (fun b1 w1 hC1 hB1 hN1 => ?_)
 refine WL_assign rfl rfl ?_
 refine WL_nil (W_seq_reg ?_)
 refine WL_move rfl rfl ?_
 refine WL_makeFunc rfl rfl ?_
 obtain ⟨x1, hr1, hF⟩ := bind_some hF
 refine WL_call Tryz.call164 rfl rfl (c_Slices_ContainsFunc_LLint_Lint_M_hasTuple_c1 a1 u1 (g1.now hC1.keep) b1 a2 (hC1.boxAt 0 rfl (repw_slice (g2.now hC1.keep))) x1 hr1) ?_
 intro _ w2 hv1
 obtain ⟨rfl, hB2⟩ := res_bool hv1
 have hC2 := hC1.grow hB2
 refine WL_assign rfl rfl ?_
 refine WL_nil (W_ret ?_)
 have hq1 := Option.some.inj hF
 subst hq1
 refine fn_ret1 rfl rfl ?_
 exact ⟨_, rfl, bool_res hC2 _⟩

theorem c_M_addedTuple_c1 {w0 : World} (a1 : (List Int)) (u1 : Value) (g1 : RO [] w0 u1 a1) (pb1 : Nat) (ax1 : (List Int)) (g2 : ROAt [] w0 pb1 0 ax1) (rr : Bool) (hF : M.addedTuple_c1 a1 ax1 = some rr) :
 Calls Tryz.prog 199 [u1, (ptr pb1 0)].toArray w0 fun e w' => ∃ v, e = .returned v ∧ Res w0 rr v w' := by
 refine calls_of_W Tryz.func199 rfl rfl ?_
 have hC0 := Ctx.start w0
 unfold M.addedTuple_c1 at hF
 refine W_seq_reg ?_
 refine WL_assign rfl rfl ?_
 refine WL_nil (W_seq_reg ?_)
 refine WL_move rfl rfl ?_
 refine WL_load ty24 g2 hC0.keep rfl rfl (fun v1 h1 => ?_)
 obtain ⟨x1, hr1, hF⟩ := bind_some hF
 refine WL_call Tryz.call178 rfl rfl (c_Slices_Compare_Lint_int a1 u1 (g1.now hC0.keep) ax1 v1 (h1.now hC0.keep) x1 hr1) ?_
 intro _ w1 hv1
 obtain ⟨rfl, hB1⟩ := res_int hv1
 have hC1 := hC0.grow hB1
 refine WL_gtr rfl rfl rfl ?_
 refine WL_assign rfl rfl ?_
 refine WL_nil (W_ret ?_)
 have hq1 := Option.some.inj hF
 subst hq1
 refine fn_ret1 rfl rfl ?_
 exact ⟨_, rfl, bool_res hC1 _⟩

theorem c_Slices_Insert_LLint_Lint {Fs : List (List Nat)} {w0 : World} (a1 : (List (List Int))) (u1 : Value) (a2 : Int) (a3 : (List (List Int))) (u2 : Value) (hH : Hold [Item.own u1 (a1 : (List (List Int))), Item.own u2 (a3 : (List (List Int)))] w0 Fs) (hn : Fs.flatten.Nodup) (rr : (List (List Int))) (hF : Slices.Insert_LLint_Lint a1 a2 a3 = some rr) :
 Calls Tryz.prog 200 [u1, (.int .i64 a2), u2].toArray w0 fun e w' => ∃ v, e = .returned v ∧ ∃ q0 : Value, v = q0 ∧ Ctx Fs.flatten w0 w' [Item.own q0 (rr : (List (List Int)))] := by
 refine calls_of_W Tryz.func200 rfl rfl ?_
 have hC0 := Ctx.startIn hH hn
 unfold Slices.Insert_LLint_Lint at hF
 obtain ⟨m, rfl, hm, hb1, hlim, rfl⟩ := ins_some hF
 have hsub : sub a1 (m : Int) (a1.length : Int) = some (a1.drop m) := by unfold sub; rw [if_pos (by omega)]; simp
 have hb1' : (a3.length : Int) = 1 := by omega
 have hlim' : a1.length + 1 ≤ 4294967296 := by rw [LIM_eq] at hlim; exact hlim
 have hw1 : w64 ((a1.length : Int) + 1) = ((a1.length + 1 : Nat) : Int) := by rw [w64_id (by omega) (by omega)]; omega
 have hw2 : w64 (((a1.length + 1 : Nat) : Int) - (m : Int)) = ((a1.length + 1 - m : Nat) : Int) := by rw [w64_id (by omega) (by omega)]; omega
 have hw3 : w64 ((m : Int) + 1) = ((m + 1 : Nat) : Int) := by rw [w64_id (by omega) (by omega)]; omega
 refine W_seq_reg ?_
 refine WL_assign rfl rfl ?_
 refine WL_nil (W_seq_reg ?_)
 refine WL_move rfl rfl ?_
 refine WL_move rfl rfl ?_
 refine WL_slice_l Tryz.underlying77 ty24 (hC0.ro 0 rfl) hsub rfl rfl rfl (fun v1 h1 => ?_)
 refine WL_nil (W_seq_reg ?_)
 refine WL_move rfl rfl ?_
 refine WL_len Tryz.underlying77 (hC0.ro 1 rfl) rfl rfl ?_
 rw [hb1']
 refine WL_assign rfl rfl ?_
 refine WL_nil (W_seq (W_seq_reg ?_))
 refine WL_move rfl rfl ?_
 refine WL_eql rfl rfl rfl ?_
 refine WL_nil ?_
 refine W_cond_f rfl ?_
 refine W_skip (nrm_normal (W_seq_reg ?_))
 refine WL_move rfl rfl ?_
 refine WL_len Tryz.underlying77 (hC0.ro 0 rfl) rfl rfl ?_
 refine WL_assign rfl rfl ?_
 refine WL_nil (W_seq (W_seq_reg ?_))
 refine WL_move rfl rfl ?_
 refine WL_move rfl rfl ?_
 refine WL_eql rfl rfl rfl ?_
 by_cases hi : m = a1.length
 ·have e1 : a1.take m ++ a3 ++ a1.drop m = a1 ++ a3 := by rw [List.take_of_length_le (by omega), List.drop_of_length_le (by omega), List.append_nil]
  rw [e1, decide_eq_true (show (m : Int) = (a1.length : Int) by omega)]
  refine WL_nil ?_
  refine W_cond_t rfl ?_
  refine W_seq_reg ?_
  refine WL_move rfl rfl ?_
  refine WL_move rfl rfl ?_
  have happ : app a1 a3 = some (a1 ++ a3) := by unfold app; rw [if_pos (by omega)]
  refine WL_append_head hC0.swap 0 rfl Tryz.underlying77 ty24 rfl happ rfl rfl rfl (fun v2 w2 hC2 => ?_)
  refine WL_assign rfl rfl ?_
  refine WL_nil (W_ret (nrm_ret ?_))
  refine fn_ret1 rfl rfl ?_
  exact ⟨_, rfl, _, rfl, hC2⟩
 rw [decide_eq_false (show ¬ (m : Int) = (a1.length : Int) by omega)]
 refine WL_nil ?_
 refine W_cond_f rfl ?_
 refine W_skip (nrm_normal ?_)
 have hml : m < a1.length := by omega
 obtain ⟨b, c, row, T, cells, Fe, vb, vc, vrow, vT, vcells, Ge, rfl, rfl, h4, g4, h5, g5, h6, g6, h8, g8, h10, h11, h12, h13, h14, h15, hK⟩ := hC0.ins_raw (by intro e; rw [e] at hml; simp at hml) (by intro e; rw [e] at hb1; simp at hb1)
 have hcl := elems_len h5
 have hvl := elems_len g5
 rw [hb1] at hvl
 have hyl : (cells.drop (m * Rep.sz (List Int))).length = (a1.length - m) * Rep.sz (List Int) := by rw [List.length_drop, hcl, Nat.sub_mul]
 have hvr : (vrow.toList.drop 0).take (1 * Rep.sz (List Int)) = vcells := by rw [List.drop_zero, ← g6, hb1]
 have hv1 := elems_one g5
 have hy1 : ∀ u ∈ cells.drop (m * Rep.sz (List Int)), u.oneCell' = true := fun u hu => elems_one h5 u (List.mem_of_mem_drop hu)
 refine W_seq (W_seq_reg ?_)
 refine WL_move rfl rfl ?_
 refine WL_move rfl rfl ?_
 refine WL_add rfl rfl rfl ?_
 rw [hw1]
 refine WL_move rfl rfl ?_
 refine WL_cap Tryz.underlying77 rfl rfl ?_
 refine WL_gtr rfl rfl rfl ?_
 by_cases hr : c < a1.length + 1
 ·rw [decide_eq_true (show (c : Int) < ((a1.length + 1 : Nat) : Int) by omega)]
  refine WL_nil ?_
  refine W_cond_t rfl ?_
  refine W_seq_reg ?_
  refine WL_move rfl rfl ?_
  refine WL_move rfl rfl ?_
  refine WL_sl_h Tryz.underlying77 ty24 (show m ≤ c by omega) (by omega) rfl rfl rfl ?_
  refine WL_move rfl rfl ?_
  refine WL_move rfl rfl ?_
  refine WL_add rfl rfl rfl ?_
  rw [hw1]
  refine WL_move rfl rfl ?_
  refine WL_sub rfl rfl rfl ?_
  rw [hw2]
  refine WL_zeros Tryz.underlying77 ty24 rfl Tryz.underlying3 h4 (take_cells h6 hm) (by rw [List.length_take, hcl, Nat.min_eq_left (Nat.mul_le_mul_right _ hm)]) (show 0 < a1.length + 1 - m by omega) (by omega) (by rw [LIM_eq]; omega) rfl rfl rfl (fun c' row' k1 k2 k3 k4 => ?_)
  rw [show m + (a1.length + 1 - m) = a1.length + 1 by omega] at k3 ⊢
  obtain ⟨q1, q2, q3⟩ := row_grow (row' := row') hm hcl hvl k1 k2 k3
  obtain ⟨w1, hw1e⟩ : ∃ w1, w1 = w0.drew.alloc (.cells row' 24) := ⟨_, rfl⟩
  have hA1 : w1.heap[w0.heap.size]? = some (.cells row' 24 (0, 0)) := by rw [hw1e]; exact heap_alloc_new w0.drew _
  have hB1 : Below w0.heap.size w0 w1 := by rw [hw1e]; exact below_new w0 _
  rw [← hw1e]
  refine WL_assign rfl rfl ?_
  refine WL_nil (W_seq_reg ?_)
  refine WL_move rfl rfl ?_
  refine WL_move rfl rfl ?_
  refine WL_sl_l Tryz.underlying77 ty24 (show m < c' by omega) (show m ≤ a1.length + 1 by omega) k3 rfl rfl rfl ?_
  refine WL_move rfl rfl ?_
  refine WL_copy (m := 1) Tryz.underlying77 ty24 hA1 ((hB1.block vb (heap_lt g4)).trans g4) (by show Nat.min a3.length (a1.length + 1 - m) = 1; rw [hb1]; exact Nat.min_eq_left (by omega)) hvr hvl hv1 (by rw [hvl, k2, Nat.zero_add, ← Nat.add_mul]; exact Nat.mul_le_mul_right _ (by omega)) rfl rfl rfl ?_
  generalize hr1 : (row'.toList.take (0 + m * Rep.sz (List Int)) ++ vcells ++ row'.toList.drop (0 + m * Rep.sz (List Int) + vcells.length)).toArray = r1 at q1 q2 q3 ⊢
  have hA2 : (w1.setRow w0.heap.size r1).heap[w0.heap.size]? = some (.cells r1 24 (0, 0)) := setRow_heap _ _ _ _ _ _ hA1
  have hB2 : Below w0.heap.size w0 (w1.setRow w0.heap.size r1) := below_row hB1 (Nat.le_refl _)
  refine WL_nil (W_seq ?_)
  refine W_drawn 9 rfl hmix (fun w3 hB3 => ?_)
  refine WA_take 0 rfl (by kernel_rfl) (by kernel_rfl) (by kernel_rfl) rfl (fl_move rfl) ?_
  refine WL_move rfl rfl ?_
  refine WL_nil ?_
  refine WA_take 1 rfl (by kernel_rfl) (by kernel_rfl) (by kernel_rfl) rfl (fl_move rfl) ?_
  refine WL_move rfl rfl ?_
  refine WL_nil ?_
  refine WA_take 2 rfl (by kernel_rfl) (by kernel_rfl) (by kernel_rfl) rfl (fl_move rfl) ?_
  refine WL_move rfl rfl ?_
  refine WL_nil ?_
  refine WA_take 3 rfl (by kernel_rfl) (by kernel_rfl) (by kernel_rfl) rfl (fl_add rfl rfl) ?_
  refine WL_add rfl rfl rfl ?_
  rw [hw3]
  refine WL_nil ?_
  refine WA_take 4 rfl (by kernel_rfl) (by kernel_rfl) (by kernel_rfl) rfl (fl_sl_l Tryz.underlying77 ty24 (show m + 1 < c' by omega) (show m + 1 ≤ a1.length + 1 by omega) k3 rfl rfl) ?_
  refine WL_sl_l Tryz.underlying77 ty24 (show m + 1 < c' by omega) (show m + 1 ≤ a1.length + 1 by omega) k3 rfl rfl rfl ?_
  refine WL_nil ?_
  refine WA_take 5 rfl (by kernel_rfl) (by kernel_rfl) (by kernel_rfl) rfl (fl_move rfl) ?_
  refine WL_move rfl rfl ?_
  refine WL_nil ?_
  refine WA_take 6 rfl (by kernel_rfl) (by kernel_rfl) (by kernel_rfl) rfl (fl_move rfl) ?_
  refine WL_move rfl rfl ?_
  refine WL_nil ?_
  refine WA_take 7 rfl (by kernel_rfl) (by kernel_rfl) (by kernel_rfl) rfl (fl_sl_l Tryz.underlying77 ty24 (show m < c by omega) hm h10 rfl rfl) ?_
  refine WL_sl_l Tryz.underlying77 ty24 (show m < c by omega) hm h10 rfl rfl rfl ?_
  refine WL_nil ?_
  have hA3 : w3.heap[w0.heap.size]? = some (.cells r1 24 (0, 0)) := (hB3.block _ (heap_lt hA2)).trans hA2
  have hB30 : Below w0.heap.size w0 w3 := hB2.trans ⟨hB3.os, hB3.tape, hB3.output, hB3.size, fun k hk => hB3.block k (Nat.lt_of_lt_of_le hk hB2.size)⟩
  refine WA_one 8 (by kernel_rfl) rfl ?_
  refine WL_copy (m := a1.length - m) Tryz.underlying77 ty24 hA3 ((hB30.block b (heap_lt h4)).trans h4) (by show Nat.min (a1.length - m) (a1.length + 1 - (m + 1)) = a1.length - m; rw [show a1.length + 1 - (m + 1) = a1.length - m by omega]; exact Nat.min_self _) (drop_cells h6) hyl hy1 (by rw [hyl, q3, Nat.zero_add, ← Nat.add_mul]; exact Nat.mul_le_mul_right _ (by omega)) rfl rfl rfl ?_
  generalize hr2 : (r1.toList.take (0 + (m + 1) * Rep.sz (List Int)) ++ cells.drop (m * Rep.sz (List Int)) ++ r1.toList.drop (0 + (m + 1) * Rep.sz (List Int) + (cells.drop (m * Rep.sz (List Int))).length)).toArray = r2 at q1 q2 ⊢
  refine WL_nil ?_
  refine WA_done (by kernel_rfl) ?_
  refine nrm_normal (W_seq_reg ?_)
  refine WL_move rfl rfl ?_
  refine WL_assign rfl rfl ?_
  refine WL_nil (W_ret (nrm_ret ?_))
  refine fn_ret1 rfl rfl ?_
  have hB4 : Below w0.heap.size w0 (w3.setRow w0.heap.size r2) := below_row hB30 (Nat.le_refl _)
  have hin : ∀ k ∈ Fe ++ Ge, k < w0.heap.size := fun k hk => (List.mem_append.1 hk).elim (elems_inh h5 k) (elems_inh g5 k)
  obtain ⟨F', e1, e2, e3⟩ := ins_val (w' := w3.setRow w0.heap.size r2) h5 g5 h14 hm hb1 (g := w0.heap.size) (fun h => absurd (hin _ h) (Nat.lt_irrefl _)) (setRow_heap _ _ _ _ _ _ hA3) (fun k hk => hB4.block k (hin k hk)) q1 q2 k3 k4
  exact ⟨_, rfl, _, rfl, hK _ _ _ F' ⟨hB4.os, hB4.tape, hB4.output, hB4.size, fun k hk _ => hB4.block k hk⟩ e1 e2 (fun k hk => (e3 k hk).elim (fun h => .inr (.inr (Nat.le_of_eq h.symm))) (fun h => .inr (.inl h)))⟩
 rw [decide_eq_false (show ¬ (c : Int) < ((a1.length + 1 : Nat) : Int) by omega)]
 refine WL_nil ?_
 refine W_cond_f rfl ?_
 refine W_skip (nrm_normal ?_)
 have k3 : a1.length + 1 ≤ c := by omega
 obtain ⟨q1, q2, q3⟩ := row_shift hm hcl hvl h6 h8 k3
 refine W_seq_reg ?_
 refine WL_move rfl rfl ?_
 refine WL_move rfl rfl ?_
 refine WL_move rfl rfl ?_
 refine WL_add rfl rfl rfl ?_
 rw [hw1]
 refine WL_sl_h Tryz.underlying77 ty24 k3 (by omega) rfl rfl rfl ?_
 refine WL_assign rfl rfl ?_
 refine WL_nil (W_seq (W_seq_reg ?_))
 refine WL_move rfl rfl ?_
 refine WL_move rfl rfl ?_
 refine WL_move rfl rfl ?_
 refine WL_move rfl rfl ?_
 refine WL_add rfl rfl rfl ?_
 rw [hw3]
 refine WL_sl_l Tryz.underlying77 ty24 (show m + 1 < c by omega) (show m + 1 ≤ a1.length + 1 by omega) k3 rfl rfl rfl ?_
 refine WL_apart (R := 4) (run_callFunc_extern Tryz.func214 (by kernel_rfl) (by kernel_rfl) (by kernel_rfl) (by kernel_rfl)) Tryz.underlying77 ty24 h13 h4 g4 (by rw [h8]; exact Nat.ne_of_gt (Nat.mul_pos (by omega) (by decide))) rfl rfl rfl ?_
 refine WL_not rfl rfl ?_
 refine WL_nil ?_
 refine W_cond_t rfl ?_
 refine W_seq ?_
 refine W_drawn 9 rfl hmix (fun w3 hB3 => ?_)
 refine WA_take 0 rfl (by kernel_rfl) (by kernel_rfl) (by kernel_rfl) rfl (fl_move rfl) ?_
 refine WL_move rfl rfl ?_
 refine WL_nil ?_
 refine WA_take 1 rfl (by kernel_rfl) (by kernel_rfl) (by kernel_rfl) rfl (fl_move rfl) ?_
 refine WL_move rfl rfl ?_
 refine WL_nil ?_
 refine WA_take 2 rfl (by kernel_rfl) (by kernel_rfl) (by kernel_rfl) rfl (fl_move rfl) ?_
 refine WL_move rfl rfl ?_
 refine WL_nil ?_
 refine WA_take 3 rfl (by kernel_rfl) (by kernel_rfl) (by kernel_rfl) rfl (fl_add rfl rfl) ?_
 refine WL_add rfl rfl rfl ?_
 rw [hw3]
 refine WL_nil ?_
 refine WA_take 4 rfl (by kernel_rfl) (by kernel_rfl) (by kernel_rfl) rfl (fl_sl_l Tryz.underlying77 ty24 (show m + 1 < c by omega) (show m + 1 ≤ a1.length + 1 by omega) k3 rfl rfl) ?_
 refine WL_sl_l Tryz.underlying77 ty24 (show m + 1 < c by omega) (show m + 1 ≤ a1.length + 1 by omega) k3 rfl rfl rfl ?_
 refine WL_nil ?_
 refine WA_take 5 rfl (by kernel_rfl) (by kernel_rfl) (by kernel_rfl) rfl (fl_move rfl) ?_
 refine WL_move rfl rfl ?_
 refine WL_nil ?_
 refine WA_take 6 rfl (by kernel_rfl) (by kernel_rfl) (by kernel_rfl) rfl (fl_move rfl) ?_
 refine WL_move rfl rfl ?_
 refine WL_nil ?_
 refine WA_take 7 rfl (by kernel_rfl) (by kernel_rfl) (by kernel_rfl) rfl (fl_sl_l Tryz.underlying77 ty24 (show m < c by omega) (show m ≤ a1.length + 1 by omega) k3 rfl rfl) ?_
 refine WL_sl_l Tryz.underlying77 ty24 (show m < c by omega) (show m ≤ a1.length + 1 by omega) k3 rfl rfl rfl ?_
 refine WL_nil ?_
 have hA3 : w3.heap[b]? = some (.cells row T (0, 0)) := (hB3.block _ (heap_lt h4)).trans h4
 refine WA_one 8 (by kernel_rfl) rfl ?_
 refine WL_copy (m := a1.length - m) Tryz.underlying77 ty24 hA3 hA3 (by show Nat.min (a1.length + 1 - m) (a1.length + 1 - (m + 1)) = a1.length - m; rw [show a1.length + 1 - (m + 1) = a1.length - m by omega]; exact Nat.min_eq_right (by omega)) (drop_cells h6) hyl hy1 (by rw [hyl, h8, Nat.zero_add, ← Nat.add_mul]; exact Nat.mul_le_mul_right _ (by omega)) rfl rfl rfl ?_
 generalize hr1 : (row.toList.take (0 + (m + 1) * Rep.sz (List Int)) ++ cells.drop (m * Rep.sz (List Int)) ++ row.toList.drop (0 + (m + 1) * Rep.sz (List Int) + (cells.drop (m * Rep.sz (List Int))).length)).toArray = r1 at q1 q2 q3 ⊢
 have hA4 : (w3.setRow b r1).heap[b]? = some (.cells r1 T (0, 0)) := setRow_heap _ _ _ _ _ _ hA3
 have g43 : (w3.setRow b r1).heap[vb]? = some (.cells vrow vT (0, 0)) := (setRow_other _ _ _ _ h13).trans ((hB3.block _ (heap_lt g4)).trans g4)
 refine WL_nil ?_
 refine WA_done (by kernel_rfl) ?_
 refine nrm_normal (W_seq_reg ?_)
 refine WL_move rfl rfl ?_
 refine WL_move rfl rfl ?_
 refine WL_sl_l Tryz.underlying77 ty24 (show m < c by omega) (show m ≤ a1.length + 1 by omega) k3 rfl rfl rfl ?_
 refine WL_move rfl rfl ?_
 refine WL_copy (m := 1) Tryz.underlying77 ty24 hA4 g43 (by show Nat.min a3.length (a1.length + 1 - m) = 1; rw [hb1]; exact Nat.min_eq_left (by omega)) hvr hvl hv1 (by rw [hvl, q3, Nat.zero_add, ← Nat.add_mul]; exact Nat.mul_le_mul_right _ (by omega)) rfl rfl rfl ?_
 generalize hr2 : (r1.toList.take (0 + m * Rep.sz (List Int)) ++ vcells ++ r1.toList.drop (0 + m * Rep.sz (List Int) + vcells.length)).toArray = r2 at q1 q2 ⊢
 refine WL_nil (W_seq_reg ?_)
 refine WL_move rfl rfl ?_
 refine WL_assign rfl rfl ?_
 refine WL_nil (W_ret (nrm_ret ?_))
 refine fn_ret1 rfl rfl ?_
 have hK4 : Keep [b] w0 ((w3.setRow b r1).setRow b r2) := Keep.row (Keep.row ⟨hB3.os, hB3.tape, hB3.output, hB3.size, fun k hk _ => hB3.block k hk⟩)
 have hin : ∀ k ∈ Fe ++ Ge, k < w0.heap.size := fun k hk => (List.mem_append.1 hk).elim (elems_inh h5 k) (elems_inh g5 k)
 obtain ⟨F', e1, e2, e3⟩ := ins_val (w' := (w3.setRow b r1).setRow b r2) h5 g5 h14 hm hb1 (g := b) h15 (setRow_heap _ _ _ _ _ _ hA4) (fun k hk => hK4.block k (hin k hk) (by simp only [List.mem_singleton]; intro e; exact h15 (e ▸ hk))) q1 q2 k3 h11
 exact ⟨_, rfl, _, rfl, hK _ _ _ F' hK4 e1 e2 (fun k hk => (e3 k hk).elim .inl (fun h => .inr (.inl h)))⟩

theorem c_Slices_IndexFunc_LLint_Lint_M_addedTuple_c1 {w0 : World} (a1 : (List (List Int))) (u1 : Value) (g1 : RO [] w0 u1 a1) (pb1 : Nat) (ax1 : (List Int)) (g2 : ROAt [] w0 pb1 0 ax1) (rr : Int) (hF : Slices.IndexFunc_LLint_Lint_M_addedTuple_c1 a1 ax1 = some rr) :
 Calls Tryz.prog 198 [u1, (.func (.func 199) #[] #[(ptr pb1 0)])].toArray w0 fun e w' => ∃ v, e = .returned v ∧ Res w0 rr v w' := by
 refine calls_of_W Tryz.func198 rfl rfl ?_
 have hC0 := Ctx.start w0
 unfold Slices.IndexFunc_LLint_Lint_M_addedTuple_c1 at hF
 refine W_seq_reg ?_
 refine WL_assign rfl rfl ?_
 refine WL_nil (W_seq (W_seq_reg ?_))
 refine WL_move rfl rfl ?_
 refine WL_len Tryz.underlying77 g1 rfl rfl ?_
 refine WL_move rfl rfl ?_
 refine WL_nil ?_
 obtain ⟨r1, hr1, hF⟩ := bind_some hF
 refine W_norm (fun l w => .inl () = r1 ∧ l = [] ∧ Below w0.heap.size w0 w ∧ Ctx [] w0 w []) ?_ ?_
 ·refine W_block ?_
  refine W.sub (l' := [(0, u1), (1, (.func (.func 199) #[] #[(ptr pb1 0)])), (7, (.int .i64 (List.length a1 : Int))), (8, (.int .i64 0))]) ?_ ⟨rfl, rfl, rfl, rfl, trivial⟩
  refine W_loop (fun k l w => ∃ x1 : Int, l = [(0, u1), (1, (.func (.func 199) #[] #[(ptr pb1 0)])), (7, (.int .i64 (List.length a1 : Int))), (8, (.int .i64 x1))] ∧ Below w0.heap.size w0 w ∧ Ctx [] w0 w [] ∧ Slices.IndexFunc_LLint_Lint_M_addedTuple_c1_l1 a1 ax1 k x1 = some r1) FUEL ⟨0, rfl, (Below.refl _ _), hC0, hr1⟩ ?_
  clear hr1
  rintro k1 _ w1 ⟨x1, rfl, hB1, hC1, hL1⟩
  cases k1 with
  | zero => rw [Slices.IndexFunc_LLint_Lint_M_addedTuple_c1_l1] at hL1; cases hL1
  | succ k1 =>
   rw [Slices.IndexFunc_LLint_Lint_M_addedTuple_c1_l1] at hL1
   refine W_seq_reg ?_
   refine WL_lss rfl rfl rfl ?_
   refine WL_nil (W_seq ?_)
   refine W_cond rfl (fun hc1 => ?_) (fun hc1 => ?_)
   ·replace hL1 := ite_t hL1 hc1
    refine W_skip (nrm_normal (W_seq (W_block (W_seq_reg ?_))))
    refine WL_move rfl rfl ?_
    refine WL_assign rfl rfl ?_
    refine WL_nil (W_seq_reg ?_)
    refine WL_move rfl rfl ?_
    refine WL_move rfl rfl ?_
    refine WL_move rfl rfl ?_
    obtain ⟨x2, hx1, hL1⟩ := bind_some hL1
    refine WL_index Tryz.underlying77 ty24 g1 hx1 rfl rfl rfl (fun b1 o1 h1 => ?_)
    refine WL_load ty24 h1 hC1.keep rfl rfl (fun v1 h2 => ?_)
    obtain ⟨x3, hr2, hL1⟩ := bind_some hL1
    refine WL_callv (cap := [(ptr pb1 0)]) Tryz.call199 rfl rfl rfl (c_M_addedTuple_c1 x2 v1 (h2.now hC1.keep) pb1 ax1 (g2.now hC1.keep) x3 hr2) ?_
    intro _ w2 hv1
    obtain ⟨rfl, hB2⟩ := res_bool hv1
    have hC2 := hC1.grow hB2
    refine WL_nil ?_
    refine W_cond rfl (fun hc2 => ?_) (fun hc2 => ?_)
    ·replace hL1 := ite_t hL1 hc2
     refine W_seq_reg ?_
     refine WL_move rfl rfl ?_
     refine WL_assign rfl rfl ?_
     refine WL_nil (W_ret (blk_ret (nrm_ret (nrm_ret (blk_ret (nrm_ret (nrm_ret ?_)))))))
     have hq1 := Option.some.inj hL1
     subst hq1
     dsimp only at hF
     have hq2 := Option.some.inj hF
     subst hq2
     refine fn_ret1 rfl rfl ?_
     exact ⟨_, rfl, int_res hC2 _⟩
    replace hL1 := ite_f hL1 hc2
    refine W_skip (blk_normal (nrm_normal (W_reg ?_)))
    refine WL_add rfl rfl rfl ?_
    refine WL_move rfl rfl ?_
    refine WL_nil ?_
    refine nrm_sub (l' := [(0, u1), (1, (.func (.func 199) #[] #[(ptr pb1 0)])), (7, (.int .i64 (List.length a1 : Int))), (8, (.int .i64 (w64 (x1 + 1))))]) ⟨rfl, rfl, rfl, rfl, trivial⟩ ?_
    exact ⟨k1, Nat.lt_succ_self _, w64 (x1 + 1), rfl, ((Keep.of hB1).then hB2).below, hC2, hL1⟩
   replace hL1 := ite_f hL1 hc1
   refine W_exit (nrm_exit (nrm_exit (blk_exit ?_)))
   have hq3 := Option.some.inj hL1
   subst hq3
   refine nrm_sub (l' := []) trivial ?_
   exact ⟨rfl, rfl, (Keep.of hB1).below, hC1⟩
 rintro l2 _ w3 hs2 ⟨rfl, rfl, hB3, hC3⟩
 try dsimp only at hF
 refine nrm_sub' hs2 ?_
 clear hs2
 refine W_seq_reg ?_
 refine WL_assign rfl rfl ?_
 refine WL_nil (W_ret ?_)
 have hq4 := Option.some.inj hF
 subst hq4
 refine fn_ret1 rfl rfl ?_
 exact ⟨_, rfl, int_res hC3 _⟩

theorem c_M_addedTuple {w0 : World} {Fs : List (List Nat)} (a1 : (List (List Int))) (u1 : Value) (a2 : (List Int)) (u2 : Value) (g2 : RO Fs.flatten w0 u2 a2) (hH : Hold [Item.own u1 (a1 : (List (List Int)))] w0 Fs) (hn : Fs.flatten.Nodup) (rr : (List (List Int))) (hF : M.addedTuple a1 a2 = some rr) :
 Calls Tryz.prog 161 [u1, u2].toArray w0 fun e w' => ∃ v, e = .returned v ∧ ∃ q0 : Value, v = q0 ∧ Ctx Fs.flatten w0 w' [Item.own q0 (rr : (List (List Int)))] := by
 refine calls_of_W Tryz.func161 rfl rfl ?_
 have hC0 := Ctx.startIn hH hn
 unfold M.addedTuple at hF
 refine W_seq_reg ?_
 refine WL_boxK (cs := [u2]) hC0 (ro_cells g2) rfl rfl (fun b1 w1 hC1 hB1 hN1 => ?_)
 refine WL_assign rfl rfl ?_
 refine WL_nil (W_seq (W_seq_reg ?_))
 refine WL_move rfl rfl ?_
 refine WL_load_box hC1 0 rfl rfl Tryz.isAgg24 rfl rfl ?_
 obtain ⟨x1, hr1, hF⟩ := bind_some hF
 refine WL_call Tryz.call197 rfl rfl (c_M_hasTuple a1 u1 ((hC1.ro 1 rfl).now (Keep.refl _ _)) a2 u2 (g2.now hC1.keep) x1 hr1) ?_
 intro _ w2 hv1
 obtain ⟨rfl, hB2⟩ := res_bool hv1
 have hC2 := hC1.grow hB2
 refine WL_nil ?_
 refine W_cond rfl (fun hc1 => ?_) (fun hc1 => ?_)
 ·replace hF := ite_t hF hc1
  refine W_seq_reg ?_
  refine WL_move rfl rfl ?_
  refine WL_assign rfl rfl ?_
  refine WL_nil (W_ret (nrm_ret ?_))
  have hq1 := Option.some.inj hF
  subst hq1
  refine fn_ret1 rfl rfl ?_
  have hC3 := hC2.f1
  have hC4 := hC3.h1
  exact ⟨_, rfl, _, rfl, hC4⟩
 replace hF := ite_f hF hc1
 refine W_skip (nrm_normal (W_seq_reg ?_))
 refine WL_move rfl rfl ?_
 refine WL_makeFunc rfl rfl ?_
 obtain ⟨x2, hr2, hF⟩ := bind_some hF
 refine WL_call Tryz.call198 rfl rfl (c_Slices_IndexFunc_LLint_Lint_M_addedTuple_c1 a1 u1 ((hC2.ro 1 rfl).now (Keep.refl _ _)) b1 a2 (hC2.boxAt 0 rfl (repw_slice (g2.now hC2.keep))) x2 hr2) ?_
 intro _ w3 hv2
 obtain ⟨rfl, hB3⟩ := res_int hv2
 have hC5 := hC2.grow hB3
 refine WL_assign rfl rfl ?_
 refine WL_nil (W_seq (W_seq_reg ?_))
 refine WL_move rfl rfl ?_
 refine WL_lss rfl rfl rfl ?_
 refine WL_nil ?_
 obtain ⟨r1, hr3, hF⟩ := bind_some hF
 refine W_norm (fun l w => ∃ x3 : Int, x3 = r1 ∧ l = [(0, u1), (3, (ptr b1 0)), (5, (.int .i64 x3))] ∧ Below w3.heap.size w3 w ∧ Ctx Fs.flatten w0 w [Item.box b1 [u2], Item.own u1 (a1 : (List (List Int)))]) ?_ ?_
 ·refine W_cond rfl (fun hc2 => ?_) (fun hc2 => ?_)
  ·replace hr3 := ite_t hr3 hc2
   refine W_reg ?_
   refine WL_move rfl rfl ?_
   refine WL_len Tryz.underlying77 (hC5.ro 1 rfl) rfl rfl ?_
   refine WL_assign rfl rfl ?_
   refine WL_nil ?_
   have hq2 := Option.some.inj hr3
   subst hq2
   refine nrm_sub (l' := [(0, u1), (3, (ptr b1 0)), (5, (.int .i64 (List.length a1 : Int)))]) ⟨rfl, rfl, rfl, trivial⟩ ?_
   exact ⟨(List.length a1 : Int), rfl, rfl, (Below.refl _ _), hC5⟩
  replace hr3 := ite_f hr3 hc2
  refine W_skip ?_
  have hq3 := Option.some.inj hr3
  subst hq3
  refine nrm_sub (l' := [(0, u1), (3, (ptr b1 0)), (5, (.int .i64 x2))]) ⟨rfl, rfl, rfl, trivial⟩ ?_
  exact ⟨x2, rfl, rfl, (Below.refl _ _), hC5⟩
 rintro l1 _ w4 hs1 ⟨x3, rfl, rfl, hB4, hC6⟩
 try dsimp only at hF
 refine nrm_sub' hs1 ?_
 clear hs1
 refine W_seq_reg ?_
 refine WL_move rfl rfl ?_
 refine WL_move rfl rfl ?_
 refine WL_load_box hC6 0 rfl rfl Tryz.isAgg24 rfl rfl ?_
 obtain ⟨x4, hr4, hF⟩ := bind_some hF
 refine WL_call Tryz.call181 rfl rfl (c_Slices_Clone_Lint_int a2 u2 (g2.now hC6.keep) x4 hr4) ?_
 rintro v1 w5 ⟨hB5, F1, hv3, hn1, hb1⟩
 have hC7 := hC6.push hB5 (A := Item.own v1 x4) hv3 hn1 hb1
 refine WL_buildSlice (vs := [v1]) hC7 Tryz.underlying77 ty24 rfl rfl rfl rfl (by intro v hv; simp only [List.mem_cons, List.not_mem_nil, or_false] at hv; rcases hv with rfl; exact (by rw [ro_cells (hC7.ro 0 rfl)]; rfl)) (by simp only [List.flatMap_cons, List.flatMap_nil, ro_cells (hC7.ro 0 rfl)]; rfl) rfl (fun b2 w6 hC8 hB6 => ?_)
 have hC9 := hC8.row0 (α := (List Int))
 have hC10 := hC9.f2
 have hz1 := ro_cells (hC10.ro 0 rfl)
 have hC11 := hC10.row1
 rw [hz1] at hC11
 have hC12 := hC11.front 1 rfl
 dsimp only [List.eraseIdx, List.cons_append, List.nil_append, List.append_nil] at hC12
 have hC13 : Ctx Fs.flatten w0 w6 (Item.own (.slice (some ⟨b2, 0, none⟩) 1 1) ([x4] : List (List Int)) :: [Item.box b1 [u2], Item.own u1 (a1 : (List (List Int)))]) := hC12.rowOwn (by simp [maxLen])
 obtain ⟨x5, hr5, hF⟩ := bind_some hF
 have hC15 := hC13.f2
 obtain ⟨Fs1, hH1, hn2, hF1, hO1, hb2⟩ := Ctx.lend2 (As := [Item.box b1 [u2]]) [Item.own u1 (a1 : (List (List Int))), Item.own (.slice (some ⟨b2, 0, none⟩) 1 1) ([x4] : (List (List Int)))] hC15
 refine WL_call Tryz.call200 rfl rfl (c_Slices_Insert_LLint_Lint a1 u1 x3 ([x4]) (.slice (some ⟨b2, 0, none⟩) 1 1) hH1 hn2 x5 hr5) ?_
 rintro v2 w7 ⟨_, rfl, hq4⟩
 have hC16 : Ctx Fs.flatten w0 w7 [Item.own v2 (x5 : (List (List Int))), Item.box b1 [u2]] := hb2 _ _ hq4
 refine WL_assign rfl rfl ?_
 refine WL_nil (W_ret ?_)
 have hq5 := Option.some.inj hF
 subst hq5
 refine fn_ret1 rfl rfl ?_
 have hC18 := hC16.h1
 exact ⟨_, rfl, _, rfl, hC18⟩

end Go.Gx.Px
