/- The contracts of the Go functions against the pure functions, printed by program. Conditions: each says them. -/
import Derived.Test.YtnlaijbfggelfaaTy
import Derived.Test.YtnlaijbfggelfaaPure
set_option linter.unusedVariables false
set_option linter.unusedSimpArgs false
set_option maxRecDepth 100000
set_option maxHeartbeats 4000000
namespace Go.Gx.Px
open Go.Proofs Go.RowKit

theorem c_Q_big {w0 : World} (a1 : (List UInt8)) (u1 : Value) (g1 : RO [] w0 u1 a1) (rr : Bool) (hF : Q.big a1 = some rr) :
 Calls Try.prog 5 [u1].toArray w0 fun e w' => ∃ v, e = .returned v ∧ Res w0 rr v w' := by
 refine calls_of_W Try.func5 rfl rfl ?_
 have hC0 := Ctx.start w0
 unfold Q.big at hF
 refine W_seq_reg ?_
 refine WL_assign rfl rfl ?_
 refine WL_nil ?_
 refine W_seq_reg ?_
 refine WL_move rfl rfl ?_
 refine WL_len Try.underlying22 g1 rfl rfl ?_
 refine WL_gtr rfl rfl rfl ?_
 refine WL_assign rfl rfl ?_
 refine WL_nil ?_
 refine W_ret ?_
 have hq1 := Option.some.inj hF
 subst hq1
 refine fn_ret1 rfl rfl ?_
 exact ⟨_, rfl, bool_res hC0 _⟩

theorem c_S_l1New {w0 : World} (a1 : (List UInt8)) (u1 : Value) (g1 : RO [] w0 u1 a1) (rr : ((List UInt8) × Int × Int)) (hF : S.l1New a1 = some rr) :
 Calls Try.prog 28 [u1].toArray w0 fun e w' => ∃ v, e = .returned v ∧ ∃ q0 : Nat, v = (ptr q0 0) ∧ Ctx [] w0 w' [Item.box q0 [u1, (.int .i64 rr.2.1), (.int .i64 rr.2.2)]] := by
 refine calls_of_W Try.func28 rfl rfl ?_
 have hC0 := Ctx.start w0
 unfold S.l1New at hF
 refine W_seq_reg ?_
 refine WL_assign rfl rfl ?_
 refine WL_nil ?_
 refine W_seq_reg ?_
 refine WL_move rfl rfl ?_
 refine WL_len Try.underlying22 g1 rfl rfl ?_
 refine WL_add rfl rfl rfl ?_
 refine WL_assign rfl rfl ?_
 refine WL_nil ?_
 refine W_seq ?_
 refine W_seq_reg ?_
 refine WL_assign rfl rfl ?_
 refine WL_nil ?_
 obtain ⟨r1, hr1, hF⟩ := bind_some hF
 refine W_norm (fun l w => ∃ x3 : Int, x3 = r1 ∧ l = [(0, u1), (3, (.int .i64 x3))] ∧ Below w0.heap.size w0 w ∧ Ctx [] w0 w []) ?_ ?_
 ·refine W_block ?_
  refine W.sub (l' := [(0, u1), (3, (.int .i64 (w64 (10101 + (List.length a1 : Int))))), (4, (.int .i64 0))]) ?_ ⟨rfl, rfl, rfl, trivial⟩
  refine W_loop (fun k l w => ∃ x1 : Int, ∃ x2 : Int, l = [(0, u1), (3, (.int .i64 x1)), (4, (.int .i64 x2))] ∧ Below w0.heap.size w0 w ∧ Ctx [] w0 w [] ∧ S.l1New_l1 a1 k x1 x2 = some r1) FUEL ⟨w64 (10101 + (List.length a1 : Int)), 0, rfl, (Below.refl _ _), hC0, hr1⟩ ?_
  clear hr1
  rintro k1 _ w1 ⟨x1, x2, rfl, hB1, hC1, hL1⟩
  cases k1 with
  | zero => rw [S.l1New_l1] at hL1; cases hL1
  | succ k1 =>
   rw [S.l1New_l1] at hL1
   refine W_seq ?_
   obtain ⟨r2, hr2, hL1⟩ := bind_some hL1
   refine W_cut (fun l w => ∃ x4 : Bool, x4 = r2 ∧ l = [(0, u1), (3, (.int .i64 x1)), (4, (.int .i64 x2)), (15, (.bool x4))] ∧ Below w1.heap.size w1 w ∧ Ctx [] w0 w []) ?_ ?_
   ·refine W_reg ?_
    refine WL_move rfl rfl ?_
    refine WL_move rfl rfl ?_
    refine WL_len Try.underlying22 g1 rfl rfl ?_
    refine WL_lss rfl rfl rfl ?_
    refine WL_move rfl rfl ?_
    refine WL_fork (fun hc1 => ?_) (fun hc1 => ?_)
    ·replace hr2 := ite_t hr2 hc1
     refine WL_guard rfl rfl ?_
     refine WL_move rfl rfl ?_
     refine WL_guard rfl rfl ?_
     refine WL_lss rfl rfl rfl ?_
     refine WL_pick_t rfl rfl rfl ?_
     refine WL_nil ?_
     have hq1 := Option.some.inj hr2
     subst hq1
     refine nrm_sub (l' := [(0, u1), (3, (.int .i64 x1)), (4, (.int .i64 x2)), (15, (.bool (decide (x2 < 4000))))]) ⟨rfl, rfl, rfl, rfl, trivial⟩ ?_
     exact ⟨(decide (x2 < 4000)), rfl, rfl, (Below.refl _ _), hC1⟩
    replace hr2 := ite_f hr2 hc1
    refine WL_guard_skip rfl rfl (by simp) rfl ?_
    refine WL_guard_skip rfl rfl (by simp) rfl ?_
    refine WL_pick_f rfl rfl rfl ?_
    refine WL_nil ?_
    have hq2 := Option.some.inj hr2
    subst hq2
    refine nrm_sub (l' := [(0, u1), (3, (.int .i64 x1)), (4, (.int .i64 x2)), (15, (.bool false))]) ⟨rfl, rfl, rfl, rfl, trivial⟩ ?_
    exact ⟨false, rfl, rfl, (Below.refl _ _), hC1⟩
   rintro _ w2 ⟨x4, rfl, rfl, hB2, hC2⟩
   try dsimp only at hL1
   refine W_cond rfl (fun hc2 => ?_) (fun hc2 => ?_)
   ·replace hL1 := ite_t hL1 hc2
    refine W_skip ?_
    refine nrm_normal ?_
    refine W_seq ?_
    refine W_block ?_
    refine W_reg ?_
    refine WL_move rfl rfl ?_
    refine WL_mul rfl rfl rfl ?_
    refine WL_move rfl rfl ?_
    refine WL_move rfl rfl ?_
    obtain ⟨x5, hx1, hL1⟩ := bind_some hL1
    refine WL_index Try.underlying22 ty5 g1 hx1 rfl rfl rfl (fun b1 o1 h1 => ?_)
    refine WL_load ty5 h1 hC2.keep rfl rfl (fun v1 h2 => ?_)
    obtain rfl := ro_u8 h2
    refine WL_conv_i64 Try.underlying5 Try.underlying3 rfl rfl ?_
    refine WL_add rfl rfl rfl ?_
    refine WL_add rfl rfl rfl ?_
    refine WL_band rfl rfl rfl ?_
    refine WL_assign rfl rfl ?_
    refine WL_nil ?_
    refine blk_normal ?_
    refine nrm_normal ?_
    refine W_reg ?_
    refine WL_move rfl rfl ?_
    refine WL_add rfl rfl rfl ?_
    refine WL_assign rfl rfl ?_
    refine WL_nil ?_
    refine nrm_sub (l' := [(0, u1), (3, (.int .i64 (band (w64 ((w64 ((w64 (x1 * 131)) + (w64 (UInt8.toNat x5 : Int)))) + 7)) 1073741823))), (4, (.int .i64 (w64 (x2 + 1))))]) ⟨rfl, rfl, rfl, trivial⟩ ?_
    exact ⟨k1, Nat.lt_succ_self _, band (w64 ((w64 ((w64 (x1 * 131)) + (w64 (UInt8.toNat x5 : Int)))) + 7)) 1073741823, w64 (x2 + 1), rfl, ((Keep.of hB1).then hB2).below, hC2, hL1⟩
   replace hL1 := ite_f hL1 hc2
   refine W_exit ?_
   refine nrm_exit ?_
   refine nrm_exit ?_
   refine blk_exit ?_
   have hq3 := Option.some.inj hL1
   subst hq3
   refine nrm_sub (l' := [(0, u1), (3, (.int .i64 x1))]) ⟨rfl, rfl, trivial⟩ ?_
   exact ⟨x1, rfl, rfl, ((Keep.of hB1).then hB2).below, hC2⟩
 rintro l3 _ w3 hs3 ⟨x3, rfl, rfl, hB3, hC3⟩
 try dsimp only at hF
 refine nrm_sub' hs3 ?_
 clear hs3
 refine W_seq_reg ?_
 refine WL_move rfl rfl ?_
 refine WL_move rfl rfl ?_
 refine WL_build (vs := [(0, u1), (2, (.int .i64 x3))]) rfl rfl rfl (built78_0_2 (ro_cells g1) rfl) ?_
 refine WL_boxK (cs := [u1, (.int .i64 0), (.int .i64 x3)]) hC3 rfl rfl rfl (fun b2 w4 hC4 hB4 hN1 => ?_)
 refine WL_assign rfl rfl ?_
 refine WL_nil ?_
 refine W_ret ?_
 have hq4 := Option.some.inj hF
 subst hq4
 refine fn_ret1 rfl rfl ?_
 exact ⟨_, rfl, _, rfl, hC4⟩

theorem c_S_l1Byte {w0 : World} {Fs : List (List Nat)} (pb1 : Nat) (a1 : ((List UInt8) × Int × Int)) (u1 : Value) (g1 : RO Fs.flatten w0 u1 a1.1) (hH : Hold [Item.box pb1 [u1, (.int .i64 a1.2.1), (.int .i64 a1.2.2)]] w0 Fs) (hn : Fs.flatten.Nodup) (rr : (Int × ((List UInt8) × Int × Int))) (hF : S.l1Byte a1 = some rr) :
 Calls Try.prog 54 [(ptr pb1 0)].toArray w0 fun e w' => ∃ v, e = .returned v ∧ v = (.int .i64 rr.1) ∧ Ctx Fs.flatten w0 w' [Item.box pb1 [u1, (.int .i64 rr.2.2.1), (.int .i64 rr.2.2.2)]] := by
 refine calls_of_W Try.func54 rfl rfl ?_
 have hC0 := Ctx.startIn hH hn
 unfold S.l1Byte at hF
 refine W_seq_reg ?_
 refine WL_assign rfl rfl ?_
 refine WL_nil ?_
 refine W_seq_reg ?_
 refine WL_move rfl rfl ?_
 refine WL_move rfl rfl ?_
 refine WL_nilCheck rfl rfl ?_
 refine WL_field Try.underlying78 rfl rfl (fun w => ⟨_, Try.sizeOf3 w⟩) rfl rfl ?_
 refine WL_load_box hC0 0 rfl rfl Try.isAgg3 rfl rfl ?_
 refine WL_mul rfl rfl rfl ?_
 refine WL_add rfl rfl rfl ?_
 refine WL_nilCheck rfl rfl ?_
 refine WL_field Try.underlying78 rfl rfl (fun w => ⟨_, Try.sizeOf3 w⟩) rfl rfl ?_
 refine WL_store_boxK (cs' := [u1, (.int .i64 a1.2.1), (.int .i64 (w64 ((w64 (a1.2.2 * 6364136223846793005)) + 1442695040888963407)))]) hC0 0 rfl rfl rfl rfl Try.sizeOf3 rfl rfl (fun w1 hC1 hKp1 => ?_)
 try dsimp only [List.set] at hC1
 refine WL_nil ?_
 refine W_seq ?_
 refine W_drawn 13 rfl hmix (fun w2 hB1 => ?_)
 have hC2 := hC1.grow hB1
 refine WA_tk 0 (by kernel_rfl) rfl rfl (fl_move rfl) ?_
 refine WL_move rfl rfl ?_
 refine WL_nil ?_
 refine WA_tk 1 (by kernel_rfl) rfl rfl (fl_nilCheck rfl) ?_
 refine WL_nilCheck rfl rfl ?_
 refine WL_nil ?_
 refine WA_tk 2 (by kernel_rfl) rfl rfl (fl_field Try.underlying78 rfl rfl (fun w => ⟨_, Try.sizeOf3 w⟩) rfl) ?_
 refine WL_field Try.underlying78 rfl rfl (fun w => ⟨_, Try.sizeOf3 w⟩) rfl rfl ?_
 refine WL_nil ?_
 refine WA_tk 5 (by kernel_rfl) rfl rfl (fl_move rfl) ?_
 refine WL_move rfl rfl ?_
 refine WL_nil ?_
 refine WA_tk 6 (by kernel_rfl) rfl rfl (fl_nilCheck rfl) ?_
 refine WL_nilCheck rfl rfl ?_
 refine WL_nil ?_
 refine WA_tk 7 (by kernel_rfl) rfl rfl (fl_field Try.underlying78 rfl rfl (fun w => ⟨_, Try.sizeOf3 w⟩) rfl) ?_
 refine WL_field Try.underlying78 rfl rfl (fun w => ⟨_, Try.sizeOf3 w⟩) rfl rfl ?_
 refine WL_nil ?_
 refine WA.sub (l' := [(0, (ptr pb1 0)), (2, (.int .i64 0)), (4, (ptr pb1 0)), (5, (ptr pb1 0)), (6, (ptr pb1 0)), (7, (ptr pb1 2)), (8, (.int .i64 a1.2.2)), (9, (.int .i64 (w64 (a1.2.2 * 6364136223846793005)))), (10, (.int .i64 (w64 ((w64 (a1.2.2 * 6364136223846793005)) + 1442695040888963407)))), (11, (ptr pb1 0)), (12, (ptr pb1 2)), (13, (ptr pb1 0)), (14, (ptr pb1 0)), (15, (ptr pb1 2)), (18, (ptr pb1 0)), (19, (ptr pb1 0)), (20, (ptr pb1 2))]) ?_ ⟨rfl, rfl, rfl, rfl, rfl, rfl, rfl, rfl, rfl, rfl, rfl, rfl, rfl, rfl, rfl, rfl, rfl, trivial⟩
 refine WA_postsE [⟨3, [], fun vs => PW.val (.int .i64 (w64 ((w64 (a1.2.2 * 6364136223846793005)) + 1442695040888963407))), []⟩, ⟨4, [], fun vs => PW.val (.int .i64 (shr (w64 ((w64 (a1.2.2 * 6364136223846793005)) + 1442695040888963407)) 33)), []⟩, ⟨8, [], fun vs => PW.val (.int .i64 (w64 ((w64 (a1.2.2 * 6364136223846793005)) + 1442695040888963407))), []⟩, ⟨9, [], fun vs => PW.val (.int .i64 (shr (w64 ((w64 (a1.2.2 * 6364136223846793005)) + 1442695040888963407)) 45)), []⟩] [[], [3], [], [8]] 3 rfl (by kernel_rfl) (by kernel_rfl) rfl ?_ ?_
 ·refine StepsE_cons rfl ?_ ?_
  ·intro w3 hB2
   refine DepsE_nil ?_
   refine ⟨_, rfl, ?_⟩
   refine WL_load_box (hC2.grow hB2) 0 rfl rfl Try.isAgg3 rfl rfl ?_
   refine WL_nil ?_
   exact FinE_val (Below.refl _ _) rfl rfl ⟨rfl, rfl⟩
  refine StepsE_cons rfl ?_ ?_
  ·intro w3 hB2
   refine DepsE_cons rfl rfl rfl ?_
   rintro _ _ ⟨rfl, rfl⟩ _
   refine DepsE_nil ?_
   refine ⟨_, rfl, ?_⟩
   refine WL_shr (by decide) rfl rfl rfl ?_
   refine WL_nil ?_
   exact FinE_val (Below.refl _ _) rfl rfl ⟨rfl, rfl⟩
  refine StepsE_cons rfl ?_ ?_
  ·intro w3 hB2
   refine DepsE_nil ?_
   refine ⟨_, rfl, ?_⟩
   refine WL_load_box (hC2.grow hB2) 0 rfl rfl Try.isAgg3 rfl rfl ?_
   refine WL_nil ?_
   exact FinE_val (Below.refl _ _) rfl rfl ⟨rfl, rfl⟩
  refine StepsE_cons rfl ?_ ?_
  ·intro w3 hB2
   refine DepsE_cons rfl rfl rfl ?_
   rintro _ _ ⟨rfl, rfl⟩ _
   refine DepsE_nil ?_
   refine ⟨_, rfl, ?_⟩
   refine WL_shr (by decide) rfl rfl rfl ?_
   refine WL_nil ?_
   exact FinE_val (Below.refl _ _) rfl rfl ⟨rfl, rfl⟩
  exact StepsE_nil
 intro w4 hB3
 refine AllE_cons rfl rfl rfl ?_
 rintro _ _ ⟨rfl, rfl⟩
 refine AllE_cons rfl rfl rfl ?_
 rintro _ _ ⟨rfl, rfl⟩
 refine AllE_cons rfl rfl rfl ?_
 rintro _ _ ⟨rfl, rfl⟩
 refine AllE_cons rfl rfl rfl ?_
 rintro _ _ ⟨rfl, rfl⟩
 refine AllE_nil ?_
 intro hn1 hb1
 have hC3 := hC2.grow hB3
 refine WA_tk 10 (by kernel_rfl) rfl rfl (fl_bxor rfl rfl) ?_
 refine WL_bxor rfl rfl rfl ?_
 refine WL_nil ?_
 refine WA_tk 11 (by kernel_rfl) rfl rfl (fl_band rfl rfl) ?_
 refine WL_band rfl rfl rfl ?_
 refine WL_nil ?_
 refine WA_tk 12 (by kernel_rfl) rfl rfl (fl_assign rfl) ?_
 refine WL_assign rfl rfl ?_
 refine WL_nil ?_
 refine WA_done (by kernel_rfl) ?_
 refine nrm_normal ?_
 refine W_seq ?_
 refine W_seq ?_
 refine W_drawn 10 rfl hmix (fun w5 hB4 => ?_)
 have hC4 := hC3.grow hB4
 refine WA_tk 0 (by kernel_rfl) rfl rfl (fl_move rfl) ?_
 refine WL_move rfl rfl ?_
 refine WL_nil ?_
 refine WA_tk 1 (by kernel_rfl) rfl rfl (fl_nilCheck rfl) ?_
 refine WL_nilCheck rfl rfl ?_
 refine WL_nil ?_
 refine WA_tk 2 (by kernel_rfl) rfl rfl (fl_field Try.underlying78 rfl rfl (fun w => ⟨_, Try.sizeOf3 w⟩) rfl) ?_
 refine WL_field Try.underlying78 rfl rfl (fun w => ⟨_, Try.sizeOf3 w⟩) rfl rfl ?_
 refine WL_nil ?_
 refine WA_tk 4 (by kernel_rfl) rfl rfl (fl_move rfl) ?_
 refine WL_move rfl rfl ?_
 refine WL_nil ?_
 refine WA_tk 5 (by kernel_rfl) rfl rfl (fl_nilCheck rfl) ?_
 refine WL_nilCheck rfl rfl ?_
 refine WL_nil ?_
 refine WA_tk 6 (by kernel_rfl) rfl rfl (fl_field Try.underlying78 rfl rfl (fun w => ⟨_, Try.sizeOf22 w⟩) rfl) ?_
 refine WL_field Try.underlying78 rfl rfl (fun w => ⟨_, Try.sizeOf22 w⟩) rfl rfl ?_
 refine WL_nil ?_
 refine WA.sub (l' := [(0, (ptr pb1 0)), (2, (.int .i64 0)), (3, (.int .i64 (band (bxor (shr (w64 ((w64 (a1.2.2 * 6364136223846793005)) + 1442695040888963407)) 33) (shr (w64 ((w64 (a1.2.2 * 6364136223846793005)) + 1442695040888963407)) 45)) 255))), (4, (ptr pb1 0)), (5, (ptr pb1 0)), (6, (ptr pb1 0)), (7, (ptr pb1 2)), (8, (.int .i64 a1.2.2)), (9, (.int .i64 (w64 (a1.2.2 * 6364136223846793005)))), (10, (.int .i64 (w64 ((w64 (a1.2.2 * 6364136223846793005)) + 1442695040888963407)))), (11, (ptr pb1 0)), (12, (ptr pb1 2)), (13, (ptr pb1 0)), (14, (ptr pb1 0)), (15, (ptr pb1 2)), (16, (.int .i64 (w64 ((w64 (a1.2.2 * 6364136223846793005)) + 1442695040888963407)))), (17, (.int .i64 (shr (w64 ((w64 (a1.2.2 * 6364136223846793005)) + 1442695040888963407)) 33))), (18, (ptr pb1 0)), (19, (ptr pb1 0)), (20, (ptr pb1 2)), (21, (.int .i64 (w64 ((w64 (a1.2.2 * 6364136223846793005)) + 1442695040888963407)))), (22, (.int .i64 (shr (w64 ((w64 (a1.2.2 * 6364136223846793005)) + 1442695040888963407)) 45))), (23, (.int .i64 (bxor (shr (w64 ((w64 (a1.2.2 * 6364136223846793005)) + 1442695040888963407)) 33) (shr (w64 ((w64 (a1.2.2 * 6364136223846793005)) + 1442695040888963407)) 45)))), (24, (.int .i64 (band (bxor (shr (w64 ((w64 (a1.2.2 * 6364136223846793005)) + 1442695040888963407)) 33) (shr (w64 ((w64 (a1.2.2 * 6364136223846793005)) + 1442695040888963407)) 45)) 255))), (25, (ptr pb1 0)), (26, (ptr pb1 0)), (27, (ptr pb1 1)), (29, (ptr pb1 0)), (30, (ptr pb1 0)), (31, (ptr pb1 0))]) ?_ ⟨rfl, rfl, rfl, rfl, rfl, rfl, rfl, rfl, rfl, rfl, rfl, rfl, rfl, rfl, rfl, rfl, rfl, rfl, rfl, rfl, rfl, rfl, rfl, rfl, rfl, rfl, rfl, rfl, rfl, rfl, trivial⟩
 refine WA_postsE [⟨3, [], fun vs => PW.val (.int .i64 a1.2.1), []⟩, ⟨7, [], fun vs => PW.val u1, []⟩, ⟨8, [], fun vs => PW.val (.int .i64 (List.length a1.1 : Int)), []⟩] [[], [], [7]] 1 rfl (by kernel_rfl) (by kernel_rfl) rfl ?_ ?_
 ·refine StepsE_cons rfl ?_ ?_
  ·intro w6 hB5
   refine DepsE_nil ?_
   refine ⟨_, rfl, ?_⟩
   refine WL_load_box (hC4.grow hB5) 0 rfl rfl Try.isAgg3 rfl rfl ?_
   refine WL_nil ?_
   exact FinE_val (Below.refl _ _) rfl rfl ⟨rfl, rfl⟩
  refine StepsE_cons rfl ?_ ?_
  ·intro w6 hB5
   refine DepsE_nil ?_
   refine ⟨_, rfl, ?_⟩
   refine WL_load_box (hC4.grow hB5) 0 rfl rfl Try.isAgg22 rfl rfl ?_
   refine WL_nil ?_
   exact FinE_val (Below.refl _ _) rfl rfl ⟨rfl, rfl⟩
  refine StepsE_cons rfl ?_ ?_
  ·intro w6 hB5
   refine DepsE_cons rfl rfl rfl ?_
   rintro _ _ ⟨rfl, rfl⟩ _
   refine DepsE_nil ?_
   refine ⟨_, rfl, ?_⟩
   refine WL_len Try.underlying22 g1 rfl rfl ?_
   refine WL_nil ?_
   exact FinE_val (Below.refl _ _) rfl rfl ⟨rfl, rfl⟩
  exact StepsE_nil
 intro w7 hB6
 refine AllE_cons rfl rfl rfl ?_
 rintro _ _ ⟨rfl, rfl⟩
 refine AllE_cons rfl rfl rfl ?_
 rintro _ _ ⟨rfl, rfl⟩
 refine AllE_cons rfl rfl rfl ?_
 rintro _ _ ⟨rfl, rfl⟩
 refine AllE_nil ?_
 intro hn2 hb2
 have hC5 := hC4.grow hB6
 refine WA_tk 9 (by kernel_rfl) rfl rfl (fl_lss rfl rfl) ?_
 refine WL_lss rfl rfl rfl ?_
 refine WL_nil ?_
 refine WA_done (by kernel_rfl) ?_
 refine nrm_normal ?_
 obtain ⟨r1, hr1, hF⟩ := bind_some hF
 refine W_norm (fun l w => ∃ x1 : Int, ∃ x2 : Int, ∃ x3 : Int, (x1, x2, x3) = r1 ∧ l = [(3, (.int .i64 x3))] ∧ Ctx Fs.flatten w0 w [Item.box pb1 [u1, (.int .i64 x1), (.int .i64 x2)]]) ?_ ?_
 ·refine W_cond rfl (fun hc1 => ?_) (fun hc1 => ?_)
  ·replace hr1 := ite_t hr1 hc1
   refine W_seq ?_
   refine W_drawn 15 rfl hmix (fun w10 hB8 => ?_)
   have hC7 := hC5.grow hB8
   refine WA_tk 0 (by kernel_rfl) rfl rfl (fl_move rfl) ?_
   refine WL_move rfl rfl ?_
   refine WL_nil ?_
   refine WA_tk 1 (by kernel_rfl) rfl rfl (fl_move rfl) ?_
   refine WL_move rfl rfl ?_
   refine WL_nil ?_
   refine WA_tk 2 (by kernel_rfl) rfl rfl (fl_nilCheck rfl) ?_
   refine WL_nilCheck rfl rfl ?_
   refine WL_nil ?_
   refine WA_tk 3 (by kernel_rfl) rfl rfl (fl_field Try.underlying78 rfl rfl (fun w => ⟨_, Try.sizeOf22 w⟩) rfl) ?_
   refine WL_field Try.underlying78 rfl rfl (fun w => ⟨_, Try.sizeOf22 w⟩) rfl rfl ?_
   refine WL_nil ?_
   refine WA_tk 5 (by kernel_rfl) rfl rfl (fl_move rfl) ?_
   refine WL_move rfl rfl ?_
   refine WL_nil ?_
   refine WA_tk 6 (by kernel_rfl) rfl rfl (fl_nilCheck rfl) ?_
   refine WL_nilCheck rfl rfl ?_
   refine WL_nil ?_
   refine WA_tk 7 (by kernel_rfl) rfl rfl (fl_field Try.underlying78 rfl rfl (fun w => ⟨_, Try.sizeOf3 w⟩) rfl) ?_
   refine WL_field Try.underlying78 rfl rfl (fun w => ⟨_, Try.sizeOf3 w⟩) rfl rfl ?_
   refine WL_nil ?_
   refine WA.sub (l' := [(0, (ptr pb1 0)), (2, (.int .i64 0)), (3, (.int .i64 (band (bxor (shr (w64 ((w64 (a1.2.2 * 6364136223846793005)) + 1442695040888963407)) 33) (shr (w64 ((w64 (a1.2.2 * 6364136223846793005)) + 1442695040888963407)) 45)) 255))), (4, (ptr pb1 0)), (5, (ptr pb1 0)), (6, (ptr pb1 0)), (7, (ptr pb1 2)), (8, (.int .i64 a1.2.2)), (9, (.int .i64 (w64 (a1.2.2 * 6364136223846793005)))), (10, (.int .i64 (w64 ((w64 (a1.2.2 * 6364136223846793005)) + 1442695040888963407)))), (11, (ptr pb1 0)), (12, (ptr pb1 2)), (13, (ptr pb1 0)), (14, (ptr pb1 0)), (15, (ptr pb1 2)), (16, (.int .i64 (w64 ((w64 (a1.2.2 * 6364136223846793005)) + 1442695040888963407)))), (17, (.int .i64 (shr (w64 ((w64 (a1.2.2 * 6364136223846793005)) + 1442695040888963407)) 33))), (18, (ptr pb1 0)), (19, (ptr pb1 0)), (20, (ptr pb1 2)), (21, (.int .i64 (w64 ((w64 (a1.2.2 * 6364136223846793005)) + 1442695040888963407)))), (22, (.int .i64 (shr (w64 ((w64 (a1.2.2 * 6364136223846793005)) + 1442695040888963407)) 45))), (23, (.int .i64 (bxor (shr (w64 ((w64 (a1.2.2 * 6364136223846793005)) + 1442695040888963407)) 33) (shr (w64 ((w64 (a1.2.2 * 6364136223846793005)) + 1442695040888963407)) 45)))), (24, (.int .i64 (band (bxor (shr (w64 ((w64 (a1.2.2 * 6364136223846793005)) + 1442695040888963407)) 33) (shr (w64 ((w64 (a1.2.2 * 6364136223846793005)) + 1442695040888963407)) 45)) 255))), (25, (ptr pb1 0)), (26, (ptr pb1 0)), (27, (ptr pb1 1)), (28, (.int .i64 a1.2.1)), (29, (ptr pb1 0)), (30, (ptr pb1 0)), (31, (ptr pb1 0)), (32, u1), (33, (.int .i64 (List.length a1.1 : Int))), (34, (.bool (decide (a1.2.1 < (List.length a1.1 : Int))))), (35, (.int .i64 (band (bxor (shr (w64 ((w64 (a1.2.2 * 6364136223846793005)) + 1442695040888963407)) 33) (shr (w64 ((w64 (a1.2.2 * 6364136223846793005)) + 1442695040888963407)) 45)) 255))), (36, (ptr pb1 0)), (37, (ptr pb1 0)), (38, (ptr pb1 0)), (40, (ptr pb1 0)), (41, (ptr pb1 0)), (42, (ptr pb1 1))]) ?_ ⟨rfl, rfl, rfl, rfl, rfl, rfl, rfl, rfl, rfl, rfl, rfl, rfl, rfl, rfl, rfl, rfl, rfl, rfl, rfl, rfl, rfl, rfl, rfl, rfl, rfl, rfl, rfl, rfl, rfl, rfl, rfl, rfl, rfl, rfl, rfl, rfl, rfl, rfl, rfl, rfl, rfl, trivial⟩
   refine WA_postsE [⟨4, [], fun vs => PW.val u1, []⟩, ⟨8, [], fun vs => PW.val (.int .i64 a1.2.1), []⟩] [[], []] 6 rfl (by kernel_rfl) (by kernel_rfl) rfl ?_ ?_
   ·refine StepsE_cons rfl ?_ ?_
    ·intro w11 hB9
     refine DepsE_nil ?_
     refine ⟨_, rfl, ?_⟩
     refine WL_load_box (hC7.grow hB9) 0 rfl rfl Try.isAgg22 rfl rfl ?_
     refine WL_nil ?_
     exact FinE_val (Below.refl _ _) rfl rfl ⟨rfl, rfl⟩
    refine StepsE_cons rfl ?_ ?_
    ·intro w11 hB9
     refine DepsE_nil ?_
     refine ⟨_, rfl, ?_⟩
     refine WL_load_box (hC7.grow hB9) 0 rfl rfl Try.isAgg3 rfl rfl ?_
     refine WL_nil ?_
     exact FinE_val (Below.refl _ _) rfl rfl ⟨rfl, rfl⟩
    exact StepsE_nil
   intro w12 hB10
   refine AllE_cons rfl rfl rfl ?_
   rintro _ _ ⟨rfl, rfl⟩
   refine AllE_cons rfl rfl rfl ?_
   rintro _ _ ⟨rfl, rfl⟩
   refine AllE_nil ?_
   intro hn3 hb3
   have hC8 := hC7.grow hB10
   obtain ⟨x4, hx1, hr1⟩ := bind_some hr1
   refine WA_tk 9 (by kernel_rfl) rfl rfl (fl_index Try.underlying22 ty5 g1 hx1 rfl rfl) ?_
   refine WL_index Try.underlying22 ty5 g1 hx1 rfl rfl rfl (fun b1 o1 h1 => ?_)
   refine WL_nil ?_
   refine WA_one 10 (by kernel_rfl) rfl ?_
   refine WL_load ty5 h1 hC8.keep rfl rfl (fun v1 h2 => ?_)
   obtain rfl := ro_u8 h2
   refine WL_nil ?_
   refine WA_tk 11 (by kernel_rfl) rfl rfl (fl_conv_int Try.underlying5 Try.underlying3 rfl) ?_
   refine WL_conv_i64 Try.underlying5 Try.underlying3 rfl rfl ?_
   refine WL_nil ?_
   refine WA_tk 12 (by kernel_rfl) rfl rfl (fl_add rfl rfl) ?_
   refine WL_add rfl rfl rfl ?_
   refine WL_nil ?_
   refine WA_tk 13 (by kernel_rfl) rfl rfl (fl_band rfl rfl) ?_
   refine WL_band rfl rfl rfl ?_
   refine WL_nil ?_
   refine WA_tk 14 (by kernel_rfl) rfl rfl (fl_assign rfl) ?_
   refine WL_assign rfl rfl ?_
   refine WL_nil ?_
   refine WA_done (by kernel_rfl) ?_
   refine nrm_normal ?_
   refine W_reg ?_
   refine WL_move rfl rfl ?_
   refine WL_move rfl rfl ?_
   refine WL_nilCheck rfl rfl ?_
   refine WL_field Try.underlying78 rfl rfl (fun w => ⟨_, Try.sizeOf3 w⟩) rfl rfl ?_
   refine WL_load_box hC8 0 rfl rfl Try.isAgg3 rfl rfl ?_
   refine WL_add rfl rfl rfl ?_
   refine WL_nilCheck rfl rfl ?_
   refine WL_field Try.underlying78 rfl rfl (fun w => ⟨_, Try.sizeOf3 w⟩) rfl rfl ?_
   refine WL_store_boxK (cs' := [u1, (.int .i64 (w64 (a1.2.1 + 1))), (.int .i64 (w64 ((w64 (a1.2.2 * 6364136223846793005)) + 1442695040888963407)))]) hC8 0 rfl rfl rfl rfl Try.sizeOf3 rfl rfl (fun w13 hC9 hKp2 => ?_)
   try dsimp only [List.set] at hC9
   refine WL_nil ?_
   have hq1 := Option.some.inj hr1
   subst hq1
   refine nrm_sub (l' := [(3, (.int .i64 (band (w64 ((band (bxor (shr (w64 ((w64 (a1.2.2 * 6364136223846793005)) + 1442695040888963407)) 33) (shr (w64 ((w64 (a1.2.2 * 6364136223846793005)) + 1442695040888963407)) 45)) 255) + (w64 (UInt8.toNat x4 : Int)))) 255)))]) ⟨rfl, trivial⟩ ?_
   exact ⟨w64 (a1.2.1 + 1), w64 ((w64 (a1.2.2 * 6364136223846793005)) + 1442695040888963407), band (w64 ((band (bxor (shr (w64 ((w64 (a1.2.2 * 6364136223846793005)) + 1442695040888963407)) 33) (shr (w64 ((w64 (a1.2.2 * 6364136223846793005)) + 1442695040888963407)) 45)) 255) + (w64 (UInt8.toNat x4 : Int)))) 255, rfl, rfl, hC9⟩
  replace hr1 := ite_f hr1 hc1
  refine W_skip ?_
  have hq2 := Option.some.inj hr1
  subst hq2
  refine nrm_sub (l' := [(3, (.int .i64 (band (bxor (shr (w64 ((w64 (a1.2.2 * 6364136223846793005)) + 1442695040888963407)) 33) (shr (w64 ((w64 (a1.2.2 * 6364136223846793005)) + 1442695040888963407)) 45)) 255)))]) ⟨rfl, trivial⟩ ?_
  exact ⟨a1.2.1, w64 ((w64 (a1.2.2 * 6364136223846793005)) + 1442695040888963407), band (bxor (shr (w64 ((w64 (a1.2.2 * 6364136223846793005)) + 1442695040888963407)) 33) (shr (w64 ((w64 (a1.2.2 * 6364136223846793005)) + 1442695040888963407)) 45)) 255, rfl, rfl, hC5⟩
 rintro l1 _ w9 hs1 ⟨x1, x2, x3, rfl, rfl, hC6⟩
 try dsimp only at hF
 refine nrm_sub' hs1 ?_
 clear hs1
 refine W_seq_reg ?_
 refine WL_move rfl rfl ?_
 refine WL_assign rfl rfl ?_
 refine WL_nil ?_
 refine W_ret ?_
 have hq3 := Option.some.inj hF
 subst hq3
 refine fn_ret1 rfl rfl ?_
 exact ⟨_, rfl, rfl, hC6⟩

theorem c_S_l1Below {w0 : World} {Fs : List (List Nat)} (pb1 : Nat) (a1 : ((List UInt8) × Int × Int)) (u1 : Value) (g1 : RO Fs.flatten w0 u1 a1.1) (a2 : Int) (hH : Hold [Item.box pb1 [u1, (.int .i64 a1.2.1), (.int .i64 a1.2.2)]] w0 Fs) (hn : Fs.flatten.Nodup) (rr : (Int × ((List UInt8) × Int × Int))) (hF : S.l1Below a1 a2 = some rr) :
 Calls Try.prog 30 [(ptr pb1 0), (.int .i64 a2)].toArray w0 fun e w' => ∃ v, e = .returned v ∧ v = (.int .i64 rr.1) ∧ Ctx Fs.flatten w0 w' [Item.box pb1 [u1, (.int .i64 rr.2.2.1), (.int .i64 rr.2.2.2)]] := by
 refine calls_of_W Try.func30 rfl rfl ?_
 have hC0 := Ctx.startIn hH hn
 unfold S.l1Below at hF
 refine W_seq_reg ?_
 refine WL_assign rfl rfl ?_
 refine WL_nil ?_
 refine W_seq ?_
 refine W_seq_reg ?_
 refine WL_move rfl rfl ?_
 refine WL_leq rfl rfl rfl ?_
 refine WL_nil ?_
 refine W_cond rfl (fun hc1 => ?_) (fun hc1 => ?_)
 ·replace hF := ite_t hF hc1
  refine W_seq_reg ?_
  refine WL_assign rfl rfl ?_
  refine WL_nil ?_
  refine W_ret ?_
  refine nrm_ret ?_
  have hq1 := Option.some.inj hF
  subst hq1
  refine fn_ret1 rfl rfl ?_
  exact ⟨_, rfl, rfl, hC0⟩
 replace hF := ite_f hF hc1
 refine W_skip ?_
 refine nrm_normal ?_
 refine W_seq ?_
 refine W_seq_reg ?_
 refine WL_move rfl rfl ?_
 refine WL_leq rfl rfl rfl ?_
 refine WL_nil ?_
 refine W_cond rfl (fun hc2 => ?_) (fun hc2 => ?_)
 ·replace hF := ite_t hF hc2
  refine W_seq_reg ?_
  refine WL_move rfl rfl ?_
  obtain ⟨x1, hr1, hF⟩ := bind_some hF
  obtain ⟨Fs1, hH1, hn1, hF1, hO1, hb1⟩ := Ctx.lend2 (As := []) [Item.box pb1 [u1, (.int .i64 a1.2.1), (.int .i64 a1.2.2)]] hC0
  refine WL_call Try.call54 rfl rfl (c_S_l1Byte pb1 (a1.1, a1.2.1, a1.2.2) u1 (RO.lent g1 hC0.keep hF1) hH1 hn1 x1 hr1) ?_
  rintro _ w1 ⟨rfl, hq2⟩
  have hC1 : Ctx Fs.flatten w0 w1 [Item.box pb1 [u1, (.int .i64 x1.2.2.1), (.int .i64 x1.2.2.2)]] := hb1 _ _ hq2
  refine WL_move rfl rfl ?_
  obtain ⟨_, hx1, hF⟩ := bind_some hF
  refine WL_rem (nz_some hx1) rfl rfl rfl ?_
  refine WL_assign rfl rfl ?_
  refine WL_nil ?_
  refine W_ret ?_
  refine nrm_ret ?_
  have hq3 := Option.some.inj hF
  subst hq3
  refine fn_ret1 rfl rfl ?_
  exact ⟨_, rfl, rfl, hC1⟩
 replace hF := ite_f hF hc2
 refine W_skip ?_
 refine nrm_normal ?_
 refine W_seq_reg ?_
 refine WL_move rfl rfl ?_
 obtain ⟨x2, hr2, hF⟩ := bind_some hF
 obtain ⟨Fs2, hH2, hn2, hF2, hO2, hb2⟩ := Ctx.lend2 (As := []) [Item.box pb1 [u1, (.int .i64 a1.2.1), (.int .i64 a1.2.2)]] hC0
 refine WL_call Try.call54 rfl rfl (c_S_l1Byte pb1 (a1.1, a1.2.1, a1.2.2) u1 (RO.lent g1 hC0.keep hF2) hH2 hn2 x2 hr2) ?_
 rintro _ w2 ⟨rfl, hq4⟩
 have hC2 : Ctx Fs.flatten w0 w2 [Item.box pb1 [u1, (.int .i64 x2.2.2.1), (.int .i64 x2.2.2.2)]] := hb2 _ _ hq4
 refine WL_assign rfl rfl ?_
 refine WL_nil ?_
 refine W_seq_reg ?_
 refine WL_move rfl rfl ?_
 obtain ⟨x3, hr3, hF⟩ := bind_some hF
 obtain ⟨Fs3, hH3, hn3, hF3, hO3, hb3⟩ := Ctx.lend2 (As := []) [Item.box pb1 [u1, (.int .i64 x2.2.2.1), (.int .i64 x2.2.2.2)]] hC2
 refine WL_call Try.call54 rfl rfl (c_S_l1Byte pb1 (a1.1, x2.2.2.1, x2.2.2.2) u1 (RO.lent g1 hC2.keep hF3) hH3 hn3 x3 hr3) ?_
 rintro _ w3 ⟨rfl, hq5⟩
 have hC3 : Ctx Fs.flatten w0 w3 [Item.box pb1 [u1, (.int .i64 x3.2.2.1), (.int .i64 x3.2.2.2)]] := hb3 _ _ hq5
 refine WL_assign rfl rfl ?_
 refine WL_nil ?_
 refine W_seq_reg ?_
 refine WL_move rfl rfl ?_
 obtain ⟨x4, hr4, hF⟩ := bind_some hF
 obtain ⟨Fs4, hH4, hn4, hF4, hO4, hb4⟩ := Ctx.lend2 (As := []) [Item.box pb1 [u1, (.int .i64 x3.2.2.1), (.int .i64 x3.2.2.2)]] hC3
 refine WL_call Try.call54 rfl rfl (c_S_l1Byte pb1 (a1.1, x3.2.2.1, x3.2.2.2) u1 (RO.lent g1 hC3.keep hF4) hH4 hn4 x4 hr4) ?_
 rintro _ w4 ⟨rfl, hq6⟩
 have hC4 : Ctx Fs.flatten w0 w4 [Item.box pb1 [u1, (.int .i64 x4.2.2.1), (.int .i64 x4.2.2.2)]] := hb4 _ _ hq6
 refine WL_assign rfl rfl ?_
 refine WL_nil ?_
 refine W_seq_reg ?_
 refine WL_move rfl rfl ?_
 obtain ⟨x5, hr5, hF⟩ := bind_some hF
 obtain ⟨Fs5, hH5, hn5, hF5, hO5, hb5⟩ := Ctx.lend2 (As := []) [Item.box pb1 [u1, (.int .i64 x4.2.2.1), (.int .i64 x4.2.2.2)]] hC4
 refine WL_call Try.call54 rfl rfl (c_S_l1Byte pb1 (a1.1, x4.2.2.1, x4.2.2.2) u1 (RO.lent g1 hC4.keep hF5) hH5 hn5 x5 hr5) ?_
 rintro _ w5 ⟨rfl, hq7⟩
 have hC5 : Ctx Fs.flatten w0 w5 [Item.box pb1 [u1, (.int .i64 x5.2.2.1), (.int .i64 x5.2.2.2)]] := hb5 _ _ hq7
 refine WL_assign rfl rfl ?_
 refine WL_nil ?_
 refine W_seq_reg ?_
 refine WL_move rfl rfl ?_
 refine WL_mul rfl rfl rfl ?_
 refine WL_move rfl rfl ?_
 refine WL_mul rfl rfl rfl ?_
 refine WL_add rfl rfl rfl ?_
 refine WL_move rfl rfl ?_
 refine WL_mul rfl rfl rfl ?_
 refine WL_add rfl rfl rfl ?_
 refine WL_move rfl rfl ?_
 refine WL_add rfl rfl rfl ?_
 refine WL_move rfl rfl ?_
 obtain ⟨_, hx2, hF⟩ := bind_some hF
 refine WL_rem (nz_some hx2) rfl rfl rfl ?_
 refine WL_assign rfl rfl ?_
 refine WL_nil ?_
 refine W_ret ?_
 have hq8 := Option.some.inj hF
 subst hq8
 refine fn_ret1 rfl rfl ?_
 exact ⟨_, rfl, rfl, hC5⟩

theorem c_S_l1PickInt {w0 : World} {Fs : List (List Nat)} (pb1 : Nat) (a1 : ((List UInt8) × Int × Int)) (u1 : Value) (g1 : RO Fs.flatten w0 u1 a1.1) (a2 : (List Int)) (u2 : Value) (g2 : RO Fs.flatten w0 u2 a2) (hH : Hold [Item.box pb1 [u1, (.int .i64 a1.2.1), (.int .i64 a1.2.2)]] w0 Fs) (hn : Fs.flatten.Nodup) (rr : (Int × ((List UInt8) × Int × Int))) (hF : S.l1PickInt a1 a2 = some rr) :
 Calls Try.prog 31 [(ptr pb1 0), u2].toArray w0 fun e w' => ∃ v, e = .returned v ∧ v = (.int .i64 rr.1) ∧ Ctx Fs.flatten w0 w' [Item.box pb1 [u1, (.int .i64 rr.2.2.1), (.int .i64 rr.2.2.2)]] := by
 refine calls_of_W Try.func31 rfl rfl ?_
 have hC0 := Ctx.startIn hH hn
 unfold S.l1PickInt at hF
 refine W_seq_reg ?_
 refine WL_assign rfl rfl ?_
 refine WL_nil ?_
 refine W_seq_reg ?_
 refine WL_move rfl rfl ?_
 refine WL_move rfl rfl ?_
 refine WL_move rfl rfl ?_
 refine WL_len Try.underlying28 g2 rfl rfl ?_
 obtain ⟨x1, hr1, hF⟩ := bind_some hF
 obtain ⟨Fs1, hH1, hn1, hF1, hO1, hb1⟩ := Ctx.lend2 (As := []) [Item.box pb1 [u1, (.int .i64 a1.2.1), (.int .i64 a1.2.2)]] hC0
 refine WL_call Try.call30 rfl rfl (c_S_l1Below pb1 (a1.1, a1.2.1, a1.2.2) u1 (RO.lent g1 hC0.keep hF1) (List.length a2 : Int) hH1 hn1 x1 hr1) ?_
 rintro _ w1 ⟨rfl, hq1⟩
 have hC1 : Ctx Fs.flatten w0 w1 [Item.box pb1 [u1, (.int .i64 x1.2.2.1), (.int .i64 x1.2.2.2)]] := hb1 _ _ hq1
 obtain ⟨x2, hx1, hF⟩ := bind_some hF
 refine WL_index Try.underlying28 ty3 g2 hx1 rfl rfl rfl (fun b1 o1 h1 => ?_)
 refine WL_load ty3 h1 hC1.keep rfl rfl (fun v1 h2 => ?_)
 obtain rfl := ro_int h2
 refine WL_assign rfl rfl ?_
 refine WL_nil ?_
 refine W_ret ?_
 have hq2 := Option.some.inj hF
 subst hq2
 refine fn_ret1 rfl rfl ?_
 exact ⟨_, rfl, rfl, hC1⟩

theorem c_S_l18Window {w0 : World} {Fs : List (List Nat)} (pb1 : Nat) (a1 : ((List UInt8) × Int × Int)) (u1 : Value) (g1 : RO Fs.flatten w0 u1 a1.1) (hH : Hold [Item.box pb1 [u1, (.int .i64 a1.2.1), (.int .i64 a1.2.2)]] w0 Fs) (hn : Fs.flatten.Nodup) (rr : ((Int × Int) × ((List UInt8) × Int × Int))) (hF : S.l18Window a1 = some rr) :
 Calls Try.prog 29 [(ptr pb1 0)].toArray w0 fun e w' => ∃ v, e = .returned v ∧ ∃ q0 : Value, v = q0 ∧ Ctx Fs.flatten w0 w' [Item.own q0 (rr.1 : (Int × Int)), Item.box pb1 [u1, (.int .i64 rr.2.2.1), (.int .i64 rr.2.2.2)]] := by
 refine calls_of_W Try.func29 rfl rfl ?_
 have hC0 := Ctx.startIn hH hn
 unfold S.l18Window at hF
 refine W_seq_reg ?_
 refine WL_allocK hC0 zero25 rfl rfl (fun b1 w1 hC1 hB1 hN1 => ?_)
 refine WL_nil ?_
 refine W_seq_reg ?_
 refine WL_move rfl rfl ?_
 obtain ⟨x1, hr1, hF⟩ := bind_some hF
 have hC2 := hC1.f1
 obtain ⟨Fs1, hH1, hn1, hF1, hO1, hb1⟩ := Ctx.lend2 (As := [Item.box b1 [(.int .i64 0), (.int .i64 0)]]) [Item.box pb1 [u1, (.int .i64 a1.2.1), (.int .i64 a1.2.2)]] hC2
 refine WL_call Try.call30 rfl rfl (c_S_l1Below pb1 (a1.1, a1.2.1, a1.2.2) u1 (RO.lent g1 hC2.keep hF1) 6 hH1 hn1 x1 hr1) ?_
 rintro _ w2 ⟨rfl, hq1⟩
 have hC3 : Ctx Fs.flatten w0 w2 [Item.box pb1 [u1, (.int .i64 x1.2.2.1), (.int .i64 x1.2.2.2)], Item.box b1 [(.int .i64 0), (.int .i64 0)]] := hb1 _ _ hq1
 refine WL_add rfl rfl rfl ?_
 refine WL_move rfl rfl ?_
 obtain ⟨x2, hr2, hF⟩ := bind_some hF
 obtain ⟨Fs2, hH2, hn2, hF2, hO2, hb2⟩ := Ctx.lend2 (As := [Item.box b1 [(.int .i64 0), (.int .i64 0)]]) [Item.box pb1 [u1, (.int .i64 x1.2.2.1), (.int .i64 x1.2.2.2)]] hC3
 refine WL_call Try.call30 rfl rfl (c_S_l1Below pb1 (a1.1, x1.2.2.1, x1.2.2.2) u1 (RO.lent g1 hC3.keep hF2) 3 hH2 hn2 x2 hr2) ?_
 rintro _ w3 ⟨rfl, hq2⟩
 have hC4 : Ctx Fs.flatten w0 w3 [Item.box pb1 [u1, (.int .i64 x2.2.2.1), (.int .i64 x2.2.2.2)], Item.box b1 [(.int .i64 0), (.int .i64 0)]] := hb2 _ _ hq2
 refine WL_add rfl rfl rfl ?_
 refine WL_build (vs := [(0, (.int .i64 (w64 (1 + x1.1)))), (1, (.int .i64 (w64 (1 + x2.1))))]) rfl rfl rfl (built25_0_1 rfl rfl) ?_
 refine WL_allocK hC4 zero25 rfl rfl (fun b2 w4 hC5 hB2 hN2 => ?_)
 refine WL_store_box_aggK (cs' := [(.int .i64 (w64 (1 + x1.1))), (.int .i64 (w64 (1 + x2.1)))]) (new := [(.int .i64 (w64 (1 + x1.1))), (.int .i64 (w64 (1 + x2.1)))]) hC5 0 rfl rfl (by intro v hv; simp only [List.mem_cons, List.not_mem_nil, or_false] at hv; rcases hv with rfl | rfl; exact rfl; exact rfl) rfl Try.sizeOf25 rfl rfl (fun w5 hC6 hKp1 => ?_)
 try dsimp only [List.set] at hC6
 have hk1 := Keep.over (Keep.of hB2) hN2 hKp1
 refine WL_nil ?_
 refine W_seq ?_
 refine W_seq_reg ?_
 refine WL_move rfl rfl ?_
 obtain ⟨x3, hr3, hF⟩ := bind_some hF
 have hC7 := hC6.f1
 obtain ⟨Fs3, hH3, hn3, hF3, hO3, hb3⟩ := Ctx.lend2 (As := [Item.box b2 [(.int .i64 (w64 (1 + x1.1))), (.int .i64 (w64 (1 + x2.1)))], Item.box b1 [(.int .i64 0), (.int .i64 0)]]) [Item.box pb1 [u1, (.int .i64 x2.2.2.1), (.int .i64 x2.2.2.2)]] hC7
 refine WL_call Try.call30 rfl rfl (c_S_l1Below pb1 (a1.1, x2.2.2.1, x2.2.2.2) u1 (RO.lent g1 hC7.keep hF3) 12 hH3 hn3 x3 hr3) ?_
 rintro _ w6 ⟨rfl, hq3⟩
 have hC8 : Ctx Fs.flatten w0 w6 [Item.box pb1 [u1, (.int .i64 x3.2.2.1), (.int .i64 x3.2.2.2)], Item.box b2 [(.int .i64 (w64 (1 + x1.1))), (.int .i64 (w64 (1 + x2.1)))], Item.box b1 [(.int .i64 0), (.int .i64 0)]] := hb3 _ _ hq3
 refine WL_nil ?_
 refine W_block ?_
 refine W_seq_reg ?_
 refine WL_eql rfl rfl rfl ?_
 refine WL_assign rfl rfl ?_
 refine WL_nil ?_
 obtain ⟨r1, hr4, hF⟩ := bind_some hF
 refine W_norm (fun l w => ∃ x4 : Int, ∃ x5 : Int, ∃ x6 : Int, ∃ x7 : Int, (x4, x5, x6, x7) = r1 ∧ l = [(2, (ptr b1 0)), (3, (ptr b2 0))] ∧ Ctx Fs.flatten w0 w [Item.box pb1 [u1, (.int .i64 x4), (.int .i64 x5)], Item.box b2 [(.int .i64 x6), (.int .i64 x7)], Item.box b1 [(.int .i64 0), (.int .i64 0)]]) ?_ ?_
 ·refine W_cond rfl (fun hc1 => ?_) (fun hc1 => ?_)
  ·replace hr4 := ite_t hr4 hc1
   refine W_reg ?_
   refine WL_move rfl rfl ?_
   refine WL_buildSlice (vs := [(.int .i64 0), (.int .i64 100), (.int .i64 101)]) hC8 Try.underlying28 ty3 rfl rfl rfl rfl (by intro v hv; simp only [List.mem_cons, List.not_mem_nil, or_false] at hv; rcases hv with rfl | rfl | rfl <;> rfl) rfl rfl (fun b3 w9 hC10 hB4 => ?_)
   have hC11 := hC10.row0 (α := Int)
   have hC12 := hC11.triv (int_val (101))
   have hC13 := hC12.row1
   have hC14 := hC13.triv (int_val (100))
   have hC15 := hC14.row1
   have hC16 := hC15.triv (int_val (0))
   have hC17 := hC16.row1
   have hC18 := hC17.front 1 rfl
   dsimp only [List.eraseIdx, List.cons_append, List.nil_append, List.append_nil] at hC18
   have hC19 : Ctx Fs.flatten w0 w9 (Item.own (.slice (some ⟨b3, 0, none⟩) 3 3) ([0, 100, 101] : List Int) :: [Item.box pb1 [u1, (.int .i64 x3.2.2.1), (.int .i64 x3.2.2.2)], Item.box b2 [(.int .i64 (w64 (1 + x1.1))), (.int .i64 (w64 (1 + x2.1)))], Item.box b1 [(.int .i64 0), (.int .i64 0)]]) := hC18.rowOwn (by simp [maxLen])
   obtain ⟨x8, hr5, hr4⟩ := bind_some hr4
   have hC20 := hC19.f1
   obtain ⟨Fs4, hH4, hn4, hF4, hO4, hb4⟩ := Ctx.lend2 (As := [Item.own (.slice (some ⟨b3, 0, none⟩) 3 3) ([0, 100, 101] : (List Int)), Item.box b2 [(.int .i64 (w64 (1 + x1.1))), (.int .i64 (w64 (1 + x2.1)))], Item.box b1 [(.int .i64 0), (.int .i64 0)]]) [Item.box pb1 [u1, (.int .i64 x3.2.2.1), (.int .i64 x3.2.2.2)]] hC20
   refine WL_call Try.call31 rfl rfl (c_S_l1PickInt pb1 (a1.1, x3.2.2.1, x3.2.2.2) u1 (RO.lent g1 hC20.keep hF4) ([0, 100, 101]) (.slice (some ⟨b3, 0, none⟩) 3 3) (hO4 0 _ _ _ rfl) hH4 hn4 x8 hr5) ?_
   rintro _ w10 ⟨rfl, hq4⟩
   have hC21 : Ctx Fs.flatten w0 w10 [Item.box pb1 [u1, (.int .i64 x8.2.2.1), (.int .i64 x8.2.2.2)], Item.own (.slice (some ⟨b3, 0, none⟩) 3 3) ([0, 100, 101] : (List Int)), Item.box b2 [(.int .i64 (w64 (1 + x1.1))), (.int .i64 (w64 (1 + x2.1)))], Item.box b1 [(.int .i64 0), (.int .i64 0)]] := hb4 _ _ hq4
   refine WL_field Try.underlying25 rfl rfl (fun w => ⟨_, Try.sizeOf3 w⟩) rfl rfl ?_
   refine WL_store_boxK (cs' := [(.int .i64 x8.1), (.int .i64 (w64 (1 + x2.1)))]) hC21 2 rfl rfl rfl rfl Try.sizeOf3 rfl rfl (fun w11 hC22 hKp2 => ?_)
   try dsimp only [List.set] at hC22
   refine WL_nil ?_
   have hq5 := Option.some.inj hr4
   subst hq5
   have hC23 := hC22.f3
   have hC24 := hC23.f3
   have hC25 := hC24.f2
   have hC26 := hC25.h3
   refine nrm_sub (l' := [(2, (ptr b1 0)), (3, (ptr b2 0))]) ⟨rfl, rfl, trivial⟩ ?_
   exact ⟨x8.2.2.1, x8.2.2.2, x8.1, w64 (1 + x2.1), rfl, rfl, hC26⟩
  replace hr4 := ite_f hr4 hc1
  refine W_seq_reg ?_
  refine WL_eql rfl rfl rfl ?_
  refine WL_assign rfl rfl ?_
  refine WL_nil ?_
  obtain ⟨r2, hr6, hr4⟩ := bind_some hr4
  refine W_norm (fun l w => ∃ x9 : Int, ∃ x10 : Int, ∃ x11 : Int, ∃ x12 : Int, (x9, x10, x11, x12) = r2 ∧ l = [(2, (ptr b1 0)), (3, (ptr b2 0))] ∧ Ctx Fs.flatten w0 w [Item.box pb1 [u1, (.int .i64 x9), (.int .i64 x10)], Item.box b2 [(.int .i64 x11), (.int .i64 x12)], Item.box b1 [(.int .i64 0), (.int .i64 0)]]) ?_ ?_
  ·refine W_cond rfl (fun hc2 => ?_) (fun hc2 => ?_)
   ·replace hr6 := ite_t hr6 hc2
    refine W_reg ?_
    refine WL_move rfl rfl ?_
    refine WL_buildSlice (vs := [(.int .i64 0), (.int .i64 99), (.int .i64 100)]) hC8 Try.underlying28 ty3 rfl rfl rfl rfl (by intro v hv; simp only [List.mem_cons, List.not_mem_nil, or_false] at hv; rcases hv with rfl | rfl | rfl <;> rfl) rfl rfl (fun b4 w13 hC28 hB6 => ?_)
    have hC29 := hC28.row0 (α := Int)
    have hC30 := hC29.triv (int_val (100))
    have hC31 := hC30.row1
    have hC32 := hC31.triv (int_val (99))
    have hC33 := hC32.row1
    have hC34 := hC33.triv (int_val (0))
    have hC35 := hC34.row1
    have hC36 := hC35.front 1 rfl
    dsimp only [List.eraseIdx, List.cons_append, List.nil_append, List.append_nil] at hC36
    have hC37 : Ctx Fs.flatten w0 w13 (Item.own (.slice (some ⟨b4, 0, none⟩) 3 3) ([0, 99, 100] : List Int) :: [Item.box pb1 [u1, (.int .i64 x3.2.2.1), (.int .i64 x3.2.2.2)], Item.box b2 [(.int .i64 (w64 (1 + x1.1))), (.int .i64 (w64 (1 + x2.1)))], Item.box b1 [(.int .i64 0), (.int .i64 0)]]) := hC36.rowOwn (by simp [maxLen])
    obtain ⟨x13, hr7, hr6⟩ := bind_some hr6
    have hC38 := hC37.f1
    obtain ⟨Fs5, hH5, hn5, hF5, hO5, hb5⟩ := Ctx.lend2 (As := [Item.own (.slice (some ⟨b4, 0, none⟩) 3 3) ([0, 99, 100] : (List Int)), Item.box b2 [(.int .i64 (w64 (1 + x1.1))), (.int .i64 (w64 (1 + x2.1)))], Item.box b1 [(.int .i64 0), (.int .i64 0)]]) [Item.box pb1 [u1, (.int .i64 x3.2.2.1), (.int .i64 x3.2.2.2)]] hC38
    refine WL_call Try.call31 rfl rfl (c_S_l1PickInt pb1 (a1.1, x3.2.2.1, x3.2.2.2) u1 (RO.lent g1 hC38.keep hF5) ([0, 99, 100]) (.slice (some ⟨b4, 0, none⟩) 3 3) (hO5 0 _ _ _ rfl) hH5 hn5 x13 hr7) ?_
    rintro _ w14 ⟨rfl, hq6⟩
    have hC39 : Ctx Fs.flatten w0 w14 [Item.box pb1 [u1, (.int .i64 x13.2.2.1), (.int .i64 x13.2.2.2)], Item.own (.slice (some ⟨b4, 0, none⟩) 3 3) ([0, 99, 100] : (List Int)), Item.box b2 [(.int .i64 (w64 (1 + x1.1))), (.int .i64 (w64 (1 + x2.1)))], Item.box b1 [(.int .i64 0), (.int .i64 0)]] := hb5 _ _ hq6
    refine WL_field Try.underlying25 rfl rfl (fun w => ⟨_, Try.sizeOf3 w⟩) rfl rfl ?_
    refine WL_store_boxK (cs' := [(.int .i64 (w64 (1 + x1.1))), (.int .i64 x13.1)]) hC39 2 rfl rfl rfl rfl Try.sizeOf3 rfl rfl (fun w15 hC40 hKp3 => ?_)
    try dsimp only [List.set] at hC40
    refine WL_nil ?_
    have hq7 := Option.some.inj hr6
    subst hq7
    have hC41 := hC40.f3
    have hC42 := hC41.f3
    have hC43 := hC42.f2
    have hC44 := hC43.h3
    refine nrm_sub (l' := [(2, (ptr b1 0)), (3, (ptr b2 0))]) ⟨rfl, rfl, trivial⟩ ?_
    exact ⟨x13.2.2.1, x13.2.2.2, w64 (1 + x1.1), x13.1, rfl, rfl, hC44⟩
   replace hr6 := ite_f hr6 hc2
   refine W_skip ?_
   have hq8 := Option.some.inj hr6
   subst hq8
   refine nrm_sub (l' := [(2, (ptr b1 0)), (3, (ptr b2 0))]) ⟨rfl, rfl, trivial⟩ ?_
   exact ⟨x3.2.2.1, x3.2.2.2, w64 (1 + x1.1), w64 (1 + x2.1), rfl, rfl, hC8⟩
  rintro l2 _ w12 hs2 ⟨x9, x10, x11, x12, rfl, rfl, hC27⟩
  try dsimp only at hr4
  have hq9 := Option.some.inj hr4
  subst hq9
  refine nrm_subs (l2 := [(2, (ptr b1 0)), (3, (ptr b2 0))]) hs2 ⟨rfl, rfl, trivial⟩ ?_
  exact ⟨x9, x10, x11, x12, rfl, rfl, hC27⟩
 rintro l1 _ w7 hs1 ⟨x4, x5, x6, x7, rfl, rfl, hC9⟩
 try dsimp only at hF
 refine blk_normal ?_
 refine nrm_sub' hs1 ?_
 clear hs1
 refine W_seq_reg ?_
 refine WL_load_box_agg [(.int .i64 x6), (.int .i64 x7)] hC9 1 rfl rfl rfl Try.isAgg25 Try.sizeOf25 rfl rfl ?_
 refine WL_store_box_aggK (cs' := [(.int .i64 x6), (.int .i64 x7)]) (new := [(.int .i64 x6), (.int .i64 x7)]) hC9 2 rfl rfl (by intro v hv; simp only [List.mem_cons, List.not_mem_nil, or_false] at hv; rcases hv with rfl | rfl; exact rfl; exact rfl) rfl Try.sizeOf25 rfl rfl (fun w16 hC45 hKp4 => ?_)
 try dsimp only [List.set] at hC45
 refine WL_nil ?_
 refine W_ret ?_
 have hq10 := Option.some.inj hF
 subst hq10
 refine fn_retG1 rfl (rv_cell_agg (cs' := [(.int .i64 x6), (.int .i64 x7)]) hC45 (i := 2) rfl rfl rfl Try.isAgg25 Try.sizeOf25 rfl) ?_
 have hC46 := own_st25 x6 x7 hC45
 have hC47 := hC46.h2
 exact ⟨_, rfl, _, rfl, hC47⟩

theorem c_S_DrawScheduleCalls {w0 : World} (a1 : (List UInt8)) (u1 : Value) (g1 : RO [] w0 u1 a1) (rr : (Int × (Int × Int) × Int)) (hF : S.DrawScheduleCalls a1 = some rr) :
 Calls Try.prog 6 [u1].toArray w0 fun e w' => ∃ v, e = .returned v ∧ Res3 w0 rr.1 rr.2.1 rr.2.2 v w' := by
 refine calls_of_W Try.func6 rfl rfl ?_
 have hC0 := Ctx.start w0
 unfold S.DrawScheduleCalls at hF
 refine W_seq_reg ?_
 refine WL_assign rfl rfl ?_
 refine WL_allocK hC0 zero25 rfl rfl (fun b1 w1 hC1 hB1 hN1 => ?_)
 refine WL_assign rfl rfl ?_
 refine WL_nil ?_
 refine W_seq_reg ?_
 refine WL_move rfl rfl ?_
 obtain ⟨x1, hr1, hF⟩ := bind_some hF
 refine WL_call Try.call28 rfl rfl (c_S_l1New a1 u1 (g1.now hC1.keep) x1 hr1) ?_
 rintro _ w2 ⟨b2, rfl, hq1⟩
 have hC2 : Ctx [] w0 w2 [Item.box b2 [u1, (.int .i64 x1.2.1), (.int .i64 x1.2.2)], Item.box b1 [(.int .i64 0), (.int .i64 0)]] := hC1.push2 hq1
 refine WL_assign rfl rfl ?_
 refine WL_nil ?_
 refine W_seq_reg ?_
 refine WL_move rfl rfl ?_
 obtain ⟨x2, hr2, hF⟩ := bind_some hF
 obtain ⟨Fs2, hH2, hn2, hF2, hO2, hb2⟩ := Ctx.lend2 (As := [Item.box b1 [(.int .i64 0), (.int .i64 0)]]) [Item.box b2 [u1, (.int .i64 x1.2.1), (.int .i64 x1.2.2)]] hC2
 refine WL_call Try.call29 rfl rfl (c_S_l18Window b2 (a1, x1.2.1, x1.2.2) u1 (RO.lent g1 hC2.keep hF2) hH2 hn2 x2 hr2) ?_
 rintro v1 w3 ⟨_, rfl, hq2⟩
 have hC3 : Ctx [] w0 w3 [Item.own v1 (x2.1 : (Int × Int)), Item.box b2 [u1, (.int .i64 x2.2.2.1), (.int .i64 x2.2.2.2)], Item.box b1 [(.int .i64 0), (.int .i64 0)]] := hb2 _ _ hq2
 obtain ⟨rfl, hC4⟩ := st25_own hC3
 refine WL_allocK hC4 zero25 rfl rfl (fun b3 w4 hC5 hB2 hN2 => ?_)
 refine WL_store_box_aggK (cs' := [(.int .i64 x2.1.1), (.int .i64 x2.1.2)]) (new := [(.int .i64 x2.1.1), (.int .i64 x2.1.2)]) hC5 0 rfl rfl (by intro v hv; simp only [List.mem_cons, List.not_mem_nil, or_false] at hv; rcases hv with rfl | rfl; exact rfl; exact rfl) rfl Try.sizeOf25 rfl rfl (fun w5 hC6 hKp1 => ?_)
 try dsimp only [List.set] at hC6
 have hk1 := Keep.over (Keep.of hB2) hN2 hKp1
 refine WL_nil ?_
 refine W_seq_reg ?_
 refine WL_move rfl rfl ?_
 obtain ⟨x3, hr3, hF⟩ := bind_some hF
 have hC7 := hC6.f1
 obtain ⟨Fs3, hH3, hn3, hF3, hO3, hb3⟩ := Ctx.lend2 (As := [Item.box b3 [(.int .i64 x2.1.1), (.int .i64 x2.1.2)], Item.box b1 [(.int .i64 0), (.int .i64 0)]]) [Item.box b2 [u1, (.int .i64 x2.2.2.1), (.int .i64 x2.2.2.2)]] hC7
 refine WL_call Try.call30 rfl rfl (c_S_l1Below b2 (a1, x2.2.2.1, x2.2.2.2) u1 (RO.lent g1 hC7.keep hF3) 9 hH3 hn3 x3 hr3) ?_
 rintro _ w6 ⟨rfl, hq3⟩
 have hC8 : Ctx [] w0 w6 [Item.box b2 [u1, (.int .i64 x3.2.2.1), (.int .i64 x3.2.2.2)], Item.box b3 [(.int .i64 x2.1.1), (.int .i64 x2.1.2)], Item.box b1 [(.int .i64 0), (.int .i64 0)]] := hb3 _ _ hq3
 refine WL_sub rfl rfl rfl ?_
 refine WL_assign rfl rfl ?_
 refine WL_nil ?_
 obtain ⟨r1, hr4, hF⟩ := bind_some hF
 refine W_cut (fun l w => ∃ x4 : Int, ∃ x5 : Int, ∃ x6 : Int, ∃ x7 : Int, ∃ x8 : Int, ∃ x9 : Int, (x4, x5, x6, x7, x8, x9) = r1 ∧ l = [(2, (.int .i64 x8)), (3, (ptr b1 0)), (4, (.int .i64 x9))] ∧ Ctx [] w0 w [Item.box b1 [(.int .i64 x6), (.int .i64 x7)]]) ?_ ?_
 ·refine W_drawn 8 rfl hmix (fun w9 hB4 => ?_)
  have hC10 := hC8.grow hB4
  refine WA_tk 0 (by kernel_rfl) rfl rfl (fl_move rfl) ?_
  refine WL_move rfl rfl ?_
  refine WL_nil ?_
  refine WA_tk 2 (by kernel_rfl) rfl rfl (fl_move rfl) ?_
  refine WL_move rfl rfl ?_
  refine WL_nil ?_
  refine WA_all2 (i := 1) (j := 3) (by kernel_rfl) rfl rfl ?_ ?_
  ·refine WL_load_box_agg [(.int .i64 x2.1.1), (.int .i64 x2.1.2)] hC10 1 rfl rfl rfl Try.isAgg25 Try.sizeOf25 rfl rfl ?_
   refine WL_nil ?_
   refine WA_one 3 (by kernel_rfl) rfl ?_
   refine WL_buildSlice (vs := [(.int .i64 0), (.int .i64 5), (.int .i64 9990), (.int .i64 10001)]) hC10 Try.underlying28 ty3 rfl rfl rfl rfl (by intro v hv; simp only [List.mem_cons, List.not_mem_nil, or_false] at hv; rcases hv with rfl | rfl | rfl | rfl <;> rfl) rfl rfl (fun b4 w10 hC11 hB5 => ?_)
   have hC12 := hC11.row0 (α := Int)
   have hC13 := hC12.triv (int_val (10001))
   have hC14 := hC13.row1
   have hC15 := hC14.triv (int_val (9990))
   have hC16 := hC15.row1
   have hC17 := hC16.triv (int_val (5))
   have hC18 := hC17.row1
   have hC19 := hC18.triv (int_val (0))
   have hC20 := hC19.row1
   have hC21 := hC20.front 1 rfl
   dsimp only [List.eraseIdx, List.cons_append, List.nil_append, List.append_nil] at hC21
   have hC22 : Ctx [] w0 w10 (Item.own (.slice (some ⟨b4, 0, none⟩) 4 4) ([0, 5, 9990, 10001] : List Int) :: [Item.box b2 [u1, (.int .i64 x3.2.2.1), (.int .i64 x3.2.2.2)], Item.box b3 [(.int .i64 x2.1.1), (.int .i64 x2.1.2)], Item.box b1 [(.int .i64 0), (.int .i64 0)]]) := hC21.rowOwn (by simp [maxLen])
   refine WL_nil ?_
   obtain ⟨x10, hr5, hr4⟩ := bind_some hr4
   refine WA_one 4 (by kernel_rfl) rfl ?_
   have hC23 := hC22.f1
   obtain ⟨Fs4, hH4, hn4, hF4, hO4, hb4⟩ := Ctx.lend2 (As := [Item.own (.slice (some ⟨b4, 0, none⟩) 4 4) ([0, 5, 9990, 10001] : (List Int)), Item.box b3 [(.int .i64 x2.1.1), (.int .i64 x2.1.2)], Item.box b1 [(.int .i64 0), (.int .i64 0)]]) [Item.box b2 [u1, (.int .i64 x3.2.2.1), (.int .i64 x3.2.2.2)]] hC23
   refine WL_call Try.call31 rfl rfl (c_S_l1PickInt b2 (a1, x3.2.2.1, x3.2.2.2) u1 (RO.lent g1 hC23.keep hF4) ([0, 5, 9990, 10001]) (.slice (some ⟨b4, 0, none⟩) 4 4) (hO4 0 _ _ _ rfl) hH4 hn4 x10 hr5) ?_
   rintro _ w11 ⟨rfl, hq4⟩
   have hC24 : Ctx [] w0 w11 [Item.box b2 [u1, (.int .i64 x10.2.2.1), (.int .i64 x10.2.2.2)], Item.own (.slice (some ⟨b4, 0, none⟩) 4 4) ([0, 5, 9990, 10001] : (List Int)), Item.box b3 [(.int .i64 x2.1.1), (.int .i64 x2.1.2)], Item.box b1 [(.int .i64 0), (.int .i64 0)]] := hb4 _ _ hq4
   refine WL_nil ?_
   refine WA_tk 5 (by kernel_rfl) rfl rfl (fl_assign rfl) ?_
   refine WL_assign rfl rfl ?_
   refine WL_nil ?_
   refine WA_one 6 (by kernel_rfl) rfl ?_
   refine WL_store_box_aggK (cs' := [(.int .i64 x2.1.1), (.int .i64 x2.1.2)]) (new := [(.int .i64 x2.1.1), (.int .i64 x2.1.2)]) hC24 3 rfl rfl (by intro v hv; simp only [List.mem_cons, List.not_mem_nil, or_false] at hv; rcases hv with rfl | rfl; exact rfl; exact rfl) rfl Try.sizeOf25 rfl rfl (fun w12 hC25 hKp2 => ?_)
   try dsimp only [List.set] at hC25
   refine WL_nil ?_
   refine WA_tk 7 (by kernel_rfl) rfl rfl (fl_assign rfl) ?_
   refine WL_assign rfl rfl ?_
   refine WL_nil ?_
   refine WA_done (by kernel_rfl) ?_
   have hq5 := Option.some.inj hr4
   subst hq5
   have hC26 := hC25.f3
   have hC27 := hC26.h1
   refine nrm_sub (l' := [(2, (.int .i64 (w64 (x3.1 - 1)))), (3, (ptr b1 0)), (4, (.int .i64 x10.1))]) ⟨rfl, rfl, rfl, trivial⟩ ?_
   exact ⟨x10.2.2.1, x10.2.2.2, x2.1.1, x2.1.2, w64 (x3.1 - 1), x10.1, rfl, rfl, hC27⟩
  refine WL_buildSlice (vs := [(.int .i64 0), (.int .i64 5), (.int .i64 9990), (.int .i64 10001)]) hC10 Try.underlying28 ty3 rfl rfl rfl rfl (by intro v hv; simp only [List.mem_cons, List.not_mem_nil, or_false] at hv; rcases hv with rfl | rfl | rfl | rfl <;> rfl) rfl rfl (fun b4 w10 hC11 hB5 => ?_)
  have hC12 := hC11.row0 (α := Int)
  have hC13 := hC12.triv (int_val (10001))
  have hC14 := hC13.row1
  have hC15 := hC14.triv (int_val (9990))
  have hC16 := hC15.row1
  have hC17 := hC16.triv (int_val (5))
  have hC18 := hC17.row1
  have hC19 := hC18.triv (int_val (0))
  have hC20 := hC19.row1
  have hC21 := hC20.front 1 rfl
  dsimp only [List.eraseIdx, List.cons_append, List.nil_append, List.append_nil] at hC21
  have hC22 : Ctx [] w0 w10 (Item.own (.slice (some ⟨b4, 0, none⟩) 4 4) ([0, 5, 9990, 10001] : List Int) :: [Item.box b2 [u1, (.int .i64 x3.2.2.1), (.int .i64 x3.2.2.2)], Item.box b3 [(.int .i64 x2.1.1), (.int .i64 x2.1.2)], Item.box b1 [(.int .i64 0), (.int .i64 0)]]) := hC21.rowOwn (by simp [maxLen])
  refine WL_nil ?_
  refine WA_all2 (i := 1) (j := 4) (by kernel_rfl) rfl rfl ?_ ?_
  ·refine WL_load_box_agg [(.int .i64 x2.1.1), (.int .i64 x2.1.2)] hC22 2 rfl rfl rfl Try.isAgg25 Try.sizeOf25 rfl rfl ?_
   refine WL_nil ?_
   obtain ⟨x10, hr5, hr4⟩ := bind_some hr4
   refine WA_one 4 (by kernel_rfl) rfl ?_
   have hC23 := hC22.f1
   obtain ⟨Fs4, hH4, hn4, hF4, hO4, hb4⟩ := Ctx.lend2 (As := [Item.own (.slice (some ⟨b4, 0, none⟩) 4 4) ([0, 5, 9990, 10001] : (List Int)), Item.box b3 [(.int .i64 x2.1.1), (.int .i64 x2.1.2)], Item.box b1 [(.int .i64 0), (.int .i64 0)]]) [Item.box b2 [u1, (.int .i64 x3.2.2.1), (.int .i64 x3.2.2.2)]] hC23
   refine WL_call Try.call31 rfl rfl (c_S_l1PickInt b2 (a1, x3.2.2.1, x3.2.2.2) u1 (RO.lent g1 hC23.keep hF4) ([0, 5, 9990, 10001]) (.slice (some ⟨b4, 0, none⟩) 4 4) (hO4 0 _ _ _ rfl) hH4 hn4 x10 hr5) ?_
   rintro _ w11 ⟨rfl, hq4⟩
   have hC24 : Ctx [] w0 w11 [Item.box b2 [u1, (.int .i64 x10.2.2.1), (.int .i64 x10.2.2.2)], Item.own (.slice (some ⟨b4, 0, none⟩) 4 4) ([0, 5, 9990, 10001] : (List Int)), Item.box b3 [(.int .i64 x2.1.1), (.int .i64 x2.1.2)], Item.box b1 [(.int .i64 0), (.int .i64 0)]] := hb4 _ _ hq4
   refine WL_nil ?_
   refine WA_tk 5 (by kernel_rfl) rfl rfl (fl_assign rfl) ?_
   refine WL_assign rfl rfl ?_
   refine WL_nil ?_
   refine WA_one 6 (by kernel_rfl) rfl ?_
   refine WL_store_box_aggK (cs' := [(.int .i64 x2.1.1), (.int .i64 x2.1.2)]) (new := [(.int .i64 x2.1.1), (.int .i64 x2.1.2)]) hC24 3 rfl rfl (by intro v hv; simp only [List.mem_cons, List.not_mem_nil, or_false] at hv; rcases hv with rfl | rfl; exact rfl; exact rfl) rfl Try.sizeOf25 rfl rfl (fun w12 hC25 hKp2 => ?_)
   try dsimp only [List.set] at hC25
   refine WL_nil ?_
   refine WA_tk 7 (by kernel_rfl) rfl rfl (fl_assign rfl) ?_
   refine WL_assign rfl rfl ?_
   refine WL_nil ?_
   refine WA_done (by kernel_rfl) ?_
   have hq5 := Option.some.inj hr4
   subst hq5
   have hC26 := hC25.f3
   have hC27 := hC26.h1
   refine nrm_sub (l' := [(2, (.int .i64 (w64 (x3.1 - 1)))), (3, (ptr b1 0)), (4, (.int .i64 x10.1))]) ⟨rfl, rfl, rfl, trivial⟩ ?_
   exact ⟨x10.2.2.1, x10.2.2.2, x2.1.1, x2.1.2, w64 (x3.1 - 1), x10.1, rfl, rfl, hC27⟩
  obtain ⟨x10, hr5, hr4⟩ := bind_some hr4
  have hC23 := hC22.f1
  obtain ⟨Fs4, hH4, hn4, hF4, hO4, hb4⟩ := Ctx.lend2 (As := [Item.own (.slice (some ⟨b4, 0, none⟩) 4 4) ([0, 5, 9990, 10001] : (List Int)), Item.box b3 [(.int .i64 x2.1.1), (.int .i64 x2.1.2)], Item.box b1 [(.int .i64 0), (.int .i64 0)]]) [Item.box b2 [u1, (.int .i64 x3.2.2.1), (.int .i64 x3.2.2.2)]] hC23
  refine WL_call Try.call31 rfl rfl (c_S_l1PickInt b2 (a1, x3.2.2.1, x3.2.2.2) u1 (RO.lent g1 hC23.keep hF4) ([0, 5, 9990, 10001]) (.slice (some ⟨b4, 0, none⟩) 4 4) (hO4 0 _ _ _ rfl) hH4 hn4 x10 hr5) ?_
  rintro _ w11 ⟨rfl, hq4⟩
  have hC24 : Ctx [] w0 w11 [Item.box b2 [u1, (.int .i64 x10.2.2.1), (.int .i64 x10.2.2.2)], Item.own (.slice (some ⟨b4, 0, none⟩) 4 4) ([0, 5, 9990, 10001] : (List Int)), Item.box b3 [(.int .i64 x2.1.1), (.int .i64 x2.1.2)], Item.box b1 [(.int .i64 0), (.int .i64 0)]] := hb4 _ _ hq4
  refine WL_nil ?_
  refine WA_tk 5 (by kernel_rfl) rfl rfl (fl_assign rfl) ?_
  refine WL_assign rfl rfl ?_
  refine WL_nil ?_
  refine WA_one 1 (by kernel_rfl) rfl ?_
  refine WL_load_box_agg [(.int .i64 x2.1.1), (.int .i64 x2.1.2)] hC24 2 rfl rfl rfl Try.isAgg25 Try.sizeOf25 rfl rfl ?_
  refine WL_nil ?_
  refine WA_one 6 (by kernel_rfl) rfl ?_
  refine WL_store_box_aggK (cs' := [(.int .i64 x2.1.1), (.int .i64 x2.1.2)]) (new := [(.int .i64 x2.1.1), (.int .i64 x2.1.2)]) hC24 3 rfl rfl (by intro v hv; simp only [List.mem_cons, List.not_mem_nil, or_false] at hv; rcases hv with rfl | rfl; exact rfl; exact rfl) rfl Try.sizeOf25 rfl rfl (fun w12 hC25 hKp2 => ?_)
  try dsimp only [List.set] at hC25
  refine WL_nil ?_
  refine WA_tk 7 (by kernel_rfl) rfl rfl (fl_assign rfl) ?_
  refine WL_assign rfl rfl ?_
  refine WL_nil ?_
  refine WA_done (by kernel_rfl) ?_
  have hq5 := Option.some.inj hr4
  subst hq5
  have hC26 := hC25.f3
  have hC27 := hC26.h1
  refine nrm_sub (l' := [(2, (.int .i64 (w64 (x3.1 - 1)))), (3, (ptr b1 0)), (4, (.int .i64 x10.1))]) ⟨rfl, rfl, rfl, trivial⟩ ?_
  exact ⟨x10.2.2.1, x10.2.2.2, x2.1.1, x2.1.2, w64 (x3.1 - 1), x10.1, rfl, rfl, hC27⟩
 rintro _ w7 ⟨x4, x5, x6, x7, x8, x9, rfl, rfl, hC9⟩
 try dsimp only at hF
 refine W_ret ?_
 have hq6 := Option.some.inj hF
 subst hq6
 refine fn_retG3 rfl (rv_tmp rfl) (rv_cell_agg (cs' := [(.int .i64 x6), (.int .i64 x7)]) hC9 (i := 0) rfl rfl rfl Try.isAgg25 Try.sizeOf25 rfl) (rv_tmp rfl) ?_
 have hC28 := hC9.triv (int_val (x9))
 have hC29 := own_st25 x6 x7 hC28
 have hC30 := hC29.triv (int_val (x8))
 exact ⟨_, rfl, res3_of hC30⟩

theorem c_M_within {w0 : World} (a1 : Int) (a2 : Int) (a3 : Int) (rr : Bool) (hF : M.within a1 a2 a3 = some rr) :
 Calls Try.prog 32 [(.int .i64 a1), (.int .i64 a2), (.int .i64 a3)].toArray w0 fun e w' => ∃ v, e = .returned v ∧ Res w0 rr v w' := by
 refine calls_of_W Try.func32 rfl rfl ?_
 have hC0 := Ctx.start w0
 unfold M.within at hF
 refine W_seq_reg ?_
 refine WL_assign rfl rfl ?_
 refine WL_nil ?_
 obtain ⟨r1, hr1, hF⟩ := bind_some hF
 refine W_cut (fun l w => ∃ x1 : Bool, x1 = r1 ∧ l = [(6, (.bool x1))] ∧ Below w0.heap.size w0 w ∧ Ctx [] w0 w []) ?_ ?_
 ·refine W_reg ?_
  refine WL_move rfl rfl ?_
  refine WL_move rfl rfl ?_
  refine WL_geq rfl rfl rfl ?_
  refine WL_move rfl rfl ?_
  refine WL_fork (fun hc1 => ?_) (fun hc1 => ?_)
  ·replace hr1 := ite_t hr1 hc1
   refine WL_guard rfl rfl ?_
   refine WL_move rfl rfl ?_
   refine WL_guard rfl rfl ?_
   refine WL_move rfl rfl ?_
   refine WL_guard rfl rfl ?_
   refine WL_leq rfl rfl rfl ?_
   refine WL_pick_t rfl rfl rfl ?_
   refine WL_assign rfl rfl ?_
   refine WL_nil ?_
   have hq1 := Option.some.inj hr1
   subst hq1
   refine nrm_sub (l' := [(6, (.bool (decide (a1 ≤ a3))))]) ⟨rfl, trivial⟩ ?_
   exact ⟨(decide (a1 ≤ a3)), rfl, rfl, (Below.refl _ _), hC0⟩
  replace hr1 := ite_f hr1 hc1
  refine WL_guard_skip rfl rfl (by simp) rfl ?_
  refine WL_guard_skip rfl rfl (by simp) rfl ?_
  refine WL_guard_skip rfl rfl (by simp) rfl ?_
  refine WL_pick_f rfl rfl rfl ?_
  refine WL_assign rfl rfl ?_
  refine WL_nil ?_
  have hq2 := Option.some.inj hr1
  subst hq2
  refine nrm_sub (l' := [(6, (.bool false))]) ⟨rfl, trivial⟩ ?_
  exact ⟨false, rfl, rfl, (Below.refl _ _), hC0⟩
 rintro _ w1 ⟨x1, rfl, rfl, hB1, hC1⟩
 try dsimp only at hF
 refine W_ret ?_
 have hq3 := Option.some.inj hF
 subst hq3
 refine fn_ret1 rfl rfl ?_
 exact ⟨_, rfl, bool_res hC1 _⟩

theorem c_M_IsWindow {w0 : World} (a1 : (Int × Int)) (rr : Bool) (hF : M.IsWindow a1 = some rr) :
 Calls Try.prog 19 [(.agg #[(.int .i64 a1.1), (.int .i64 a1.2)])].toArray w0 fun e w' => ∃ v, e = .returned v ∧ Res w0 rr v w' := by
 refine calls_of_W Try.func19 rfl rfl ?_
 have hC0 := Ctx.start w0
 unfold M.IsWindow at hF
 refine W_seq_reg ?_
 refine WL_boxK (cs := [(.int .i64 a1.1), (.int .i64 a1.2)]) hC0 rfl rfl rfl (fun b1 w1 hC1 hB1 hN1 => ?_)
 refine WL_assign rfl rfl ?_
 refine WL_nil ?_
 obtain ⟨r1, hr1, hF⟩ := bind_some hF
 refine W_cut (fun l w => ∃ x1 : Bool, x1 = r1 ∧ l = [(2, (.bool x1))] ∧ Below w1.heap.size w1 w ∧ Ctx [] w0 w []) ?_ ?_
 ·refine W_reg ?_
  refine WL_field Try.underlying25 rfl rfl (fun w => ⟨_, Try.sizeOf3 w⟩) rfl rfl ?_
  refine WL_load_box hC1 0 rfl rfl Try.isAgg3 rfl rfl ?_
  obtain ⟨x2, hr2, hr1⟩ := bind_some hr1
  refine WL_call Try.call32 rfl rfl (c_M_within a1.1 1 100 x2 hr2) ?_
  intro _ w3 hv1
  obtain ⟨rfl, hB3⟩ := res_bool hv1
  have hC3 := hC1.grow hB3
  refine WL_move rfl rfl ?_
  refine WL_fork (fun hc1 => ?_) (fun hc1 => ?_)
  ·replace hr1 := ite_t hr1 hc1
   refine WL_guard rfl rfl ?_
   refine WL_field Try.underlying25 rfl rfl (fun w => ⟨_, Try.sizeOf3 w⟩) rfl rfl ?_
   refine WL_guard rfl rfl ?_
   refine WL_load_box hC3 0 rfl rfl Try.isAgg3 rfl rfl ?_
   obtain ⟨x3, hr3, hr1⟩ := bind_some hr1
   refine WL_guard rfl rfl ?_
   refine WL_call Try.call32 rfl rfl (c_M_within a1.2 1 99 x3 hr3) ?_
   intro _ w4 hv2
   obtain ⟨rfl, hB4⟩ := res_bool hv2
   have hC4 := hC3.grow hB4
   refine WL_pick_t rfl rfl rfl ?_
   refine WL_assign rfl rfl ?_
   refine WL_nil ?_
   have hq1 := Option.some.inj hr1
   subst hq1
   have hC5 := hC4.h0
   refine nrm_sub (l' := [(2, (.bool x3))]) ⟨rfl, trivial⟩ ?_
   exact ⟨x3, rfl, rfl, ((Keep.of hB3).then hB4).below, hC5⟩
  replace hr1 := ite_f hr1 hc1
  refine WL_guard_skip rfl rfl (by simp) rfl ?_
  refine WL_guard_skip rfl rfl (by simp) rfl ?_
  refine WL_guard_skip rfl rfl (by simp) rfl ?_
  refine WL_pick_f rfl rfl rfl ?_
  refine WL_assign rfl rfl ?_
  refine WL_nil ?_
  have hq2 := Option.some.inj hr1
  subst hq2
  have hC6 := hC3.h0
  refine nrm_sub (l' := [(2, (.bool false))]) ⟨rfl, trivial⟩ ?_
  exact ⟨false, rfl, rfl, (Keep.of hB3).below, hC6⟩
 rintro _ w2 ⟨x1, rfl, rfl, hB2, hC2⟩
 try dsimp only at hF
 refine W_ret ?_
 have hq3 := Option.some.inj hF
 subst hq3
 refine fn_ret1 rfl rfl ?_
 exact ⟨_, rfl, bool_res hC2 _⟩

theorem c_M_isTime {w0 : World} (a1 : Int) (rr : Bool) (hF : M.isTime a1 = some rr) :
 Calls Try.prog 33 [(.int .i64 a1)].toArray w0 fun e w' => ∃ v, e = .returned v ∧ Res w0 rr v w' := by
 refine calls_of_W Try.func33 rfl rfl ?_
 have hC0 := Ctx.start w0
 unfold M.isTime at hF
 refine W_seq_reg ?_
 refine WL_assign rfl rfl ?_
 refine WL_nil ?_
 refine W_seq_reg ?_
 refine WL_move rfl rfl ?_
 obtain ⟨x1, hr1, hF⟩ := bind_some hF
 refine WL_call Try.call32 rfl rfl (c_M_within a1 0 10000 x1 hr1) ?_
 intro _ w1 hv1
 obtain ⟨rfl, hB1⟩ := res_bool hv1
 have hC1 := hC0.grow hB1
 refine WL_assign rfl rfl ?_
 refine WL_nil ?_
 refine W_ret ?_
 have hq1 := Option.some.inj hF
 subst hq1
 refine fn_ret1 rfl rfl ?_
 exact ⟨_, rfl, bool_res hC1 _⟩

theorem c_M_Window_next {w0 : World} (a1 : (Int × Int)) (a2 : (List Int)) (u1 : Value) (g1 : RO [] w0 u1 a2) (a3 : Int) (rr : (Int × Bool)) (hF : M.Window_next a1 a2 a3 = some rr) :
 Calls Try.prog 34 [(.agg #[(.int .i64 a1.1), (.int .i64 a1.2)]), u1, (.int .i64 a3)].toArray w0 fun e w' => ∃ v, e = .returned v ∧ Res2 w0 rr.1 rr.2 v w' := by
 refine calls_of_W Try.func34 rfl rfl ?_
 have hC0 := Ctx.start w0
 unfold M.Window_next at hF
 refine W_seq_reg ?_
 refine WL_boxK (cs := [(.int .i64 a1.1), (.int .i64 a1.2)]) hC0 rfl rfl rfl (fun b1 w1 hC1 hB1 hN1 => ?_)
 refine WL_assign rfl rfl ?_
 refine WL_assign rfl rfl ?_
 refine WL_nil ?_
 refine W_seq_reg ?_
 refine WL_move rfl rfl ?_
 refine WL_assign rfl rfl ?_
 refine WL_nil ?_
 refine W_seq_reg ?_
 refine WL_move rfl rfl ?_
 refine WL_len Try.underlying28 g1 rfl rfl ?_
 refine WL_assign rfl rfl ?_
 refine WL_nil ?_
 refine W_seq ?_
 refine W_seq_reg ?_
 refine WL_move rfl rfl ?_
 refine WL_gtr rfl rfl rfl ?_
 refine WL_nil ?_
 obtain ⟨r1, hr1, hF⟩ := bind_some hF
 refine W_norm (fun l w => ∃ x1 : Int, x1 = r1 ∧ l = [(1, u1), (3, (ptr b1 0)), (8, (.int .i64 x1)), (9, (.int .i64 (List.length a2 : Int)))] ∧ Below w1.heap.size w1 w ∧ Ctx [] w0 w [Item.box b1 [(.int .i64 a1.1), (.int .i64 a1.2)]]) ?_ ?_
 ·refine W_cond rfl (fun hc1 => ?_) (fun hc1 => ?_)
  ·replace hr1 := ite_t hr1 hc1
   refine W_reg ?_
   refine WL_move rfl rfl ?_
   refine WL_move rfl rfl ?_
   refine WL_move rfl rfl ?_
   refine WL_sub rfl rfl rfl ?_
   obtain ⟨x2, hx1, hr1⟩ := bind_some hr1
   refine WL_index Try.underlying28 ty3 g1 hx1 rfl rfl rfl (fun b2 o1 h1 => ?_)
   refine WL_load ty3 h1 hC1.keep rfl rfl (fun v1 h2 => ?_)
   obtain rfl := ro_int h2
   refine WL_max rfl rfl rfl ?_
   refine WL_assign rfl rfl ?_
   refine WL_nil ?_
   have hq1 := Option.some.inj hr1
   subst hq1
   refine nrm_sub (l' := [(1, u1), (3, (ptr b1 0)), (8, (.int .i64 (if x2 > a3 then x2 else a3))), (9, (.int .i64 (List.length a2 : Int)))]) ⟨rfl, rfl, rfl, rfl, trivial⟩ ?_
   exact ⟨if x2 > a3 then x2 else a3, rfl, rfl, (Below.refl _ _), hC1⟩
  replace hr1 := ite_f hr1 hc1
  refine W_skip ?_
  have hq2 := Option.some.inj hr1
  subst hq2
  refine nrm_sub (l' := [(1, u1), (3, (ptr b1 0)), (8, (.int .i64 a3)), (9, (.int .i64 (List.length a2 : Int)))]) ⟨rfl, rfl, rfl, rfl, trivial⟩ ?_
  exact ⟨a3, rfl, rfl, (Below.refl _ _), hC1⟩
 rintro l1 _ w2 hs1 ⟨x1, rfl, rfl, hB2, hC2⟩
 try dsimp only at hF
 refine nrm_sub' hs1 ?_
 clear hs1
 refine W_seq ?_
 refine W_seq_reg ?_
 refine WL_move rfl rfl ?_
 refine WL_field Try.underlying25 rfl rfl (fun w => ⟨_, Try.sizeOf3 w⟩) rfl rfl ?_
 refine WL_load_box hC2 0 rfl rfl Try.isAgg3 rfl rfl ?_
 refine WL_geq rfl rfl rfl ?_
 refine WL_nil ?_
 obtain ⟨r2, hr2, hF⟩ := bind_some hF
 refine W_norm (fun l w => ∃ x3 : Int, x3 = r2 ∧ l = [(8, (.int .i64 x3))] ∧ Below w2.heap.size w2 w ∧ Ctx [] w0 w []) ?_ ?_
 ·refine W_cond rfl (fun hc2 => ?_) (fun hc2 => ?_)
  ·replace hr2 := ite_t hr2 hc2
   refine W_drawn 13 rfl hmix (fun w4 hB4 => ?_)
   have hC4 := hC2.grow hB4
   refine WA_tk 0 (by kernel_rfl) rfl rfl (fl_move rfl) ?_
   refine WL_move rfl rfl ?_
   refine WL_nil ?_
   refine WA_tk 1 (by kernel_rfl) rfl rfl (fl_move rfl) ?_
   refine WL_move rfl rfl ?_
   refine WL_nil ?_
   refine WA_tk 2 (by kernel_rfl) rfl rfl (fl_move rfl) ?_
   refine WL_move rfl rfl ?_
   refine WL_nil ?_
   refine WA_tk 3 (by kernel_rfl) rfl rfl (fl_field Try.underlying25 rfl rfl (fun w => ⟨_, Try.sizeOf3 w⟩) rfl) ?_
   refine WL_field Try.underlying25 rfl rfl (fun w => ⟨_, Try.sizeOf3 w⟩) rfl rfl ?_
   refine WL_nil ?_
   refine WA_tk 8 (by kernel_rfl) rfl rfl (fl_field Try.underlying25 rfl rfl (fun w => ⟨_, Try.sizeOf3 w⟩) rfl) ?_
   refine WL_field Try.underlying25 rfl rfl (fun w => ⟨_, Try.sizeOf3 w⟩) rfl rfl ?_
   refine WL_nil ?_
   obtain ⟨x4, hx2, hr2⟩ := bind_some hr2
   refine WA.sub (l' := [(1, u1), (3, (ptr b1 0)), (8, (.int .i64 x1)), (9, (.int .i64 (List.length a2 : Int))), (22, (.int .i64 (List.length a2 : Int))), (23, (ptr b1 1)), (24, (.int .i64 a1.2)), (25, (.bool (decide (a1.2 ≤ (List.length a2 : Int))))), (26, (.int .i64 x1)), (27, u1), (28, (.int .i64 (List.length a2 : Int))), (29, (ptr b1 1)), (34, (ptr b1 0))]) ?_ ⟨rfl, rfl, rfl, rfl, rfl, rfl, rfl, rfl, rfl, rfl, rfl, rfl, rfl, trivial⟩
   refine WA_postsE [⟨4, [], fun vs => PW.val (.int .i64 a1.2), []⟩, ⟨5, [], fun vs => PW.val (.int .i64 (w64 ((List.length a2 : Int) - a1.2))), []⟩, ⟨6, [], fun vs => PW.at [] w0 x4, []⟩, ⟨7, [], fun vs => PW.val (.int .i64 x4), []⟩, ⟨9, [], fun vs => PW.val (.int .i64 a1.1), []⟩] [[], [4], [5], [6], []] 3 rfl (by kernel_rfl) (by kernel_rfl) rfl ?_ ?_
   ·refine StepsE_cons rfl ?_ ?_
    ·intro w5 hB5
     refine DepsE_nil ?_
     refine ⟨_, rfl, ?_⟩
     refine WL_load_box (hC4.grow hB5) 0 rfl rfl Try.isAgg3 rfl rfl ?_
     refine WL_nil ?_
     exact FinE_val (Below.refl _ _) rfl rfl ⟨rfl, rfl⟩
    refine StepsE_cons rfl ?_ ?_
    ·intro w5 hB5
     refine DepsE_cons rfl rfl rfl ?_
     rintro _ _ ⟨rfl, rfl⟩ _
     refine DepsE_nil ?_
     refine ⟨_, rfl, ?_⟩
     refine WL_sub rfl rfl rfl ?_
     refine WL_nil ?_
     exact FinE_val (Below.refl _ _) rfl rfl ⟨rfl, rfl⟩
    refine StepsE_cons rfl ?_ ?_
    ·intro w5 hB5
     refine DepsE_cons rfl rfl rfl ?_
     rintro _ _ ⟨rfl, rfl⟩ _
     refine DepsE_nil ?_
     refine ⟨_, rfl, ?_⟩
     refine WL_index Try.underlying28 ty3 g1 hx2 rfl rfl rfl (fun b3 o2 h3 => ?_)
     refine WL_nil ?_
     exact FinE_val (Below.refl _ _) rfl rfl ⟨rfl, _, _, rfl, h3⟩
    refine StepsE_cons rfl ?_ ?_
    ·intro w5 hB5
     refine DepsE_cons rfl rfl rfl ?_
     rintro _ _ ⟨rfl, b3, o2, rfl, h3⟩ _
     refine DepsE_nil ?_
     refine ⟨_, rfl, ?_⟩
     refine WL_load ty3 h3 (hC4.keep.then hB5) rfl rfl (fun v2 h4 => ?_)
     obtain rfl := ro_int h4
     refine WL_nil ?_
     exact FinE_val (Below.refl _ _) rfl rfl ⟨rfl, rfl⟩
    refine StepsE_cons rfl ?_ ?_
    ·intro w5 hB5
     refine DepsE_nil ?_
     refine ⟨_, rfl, ?_⟩
     refine WL_load_box (hC4.grow hB5) 0 rfl rfl Try.isAgg3 rfl rfl ?_
     refine WL_nil ?_
     exact FinE_val (Below.refl _ _) rfl rfl ⟨rfl, rfl⟩
    exact StepsE_nil
   intro w6 hB6
   refine AllE_cons rfl rfl rfl ?_
   rintro _ _ ⟨rfl, rfl⟩
   refine AllE_cons rfl rfl rfl ?_
   rintro _ _ ⟨rfl, rfl⟩
   refine AllE_cons rfl rfl rfl ?_
   rintro _ _ ⟨rfl, b3, o2, rfl, h3⟩
   refine AllE_cons rfl rfl rfl ?_
   rintro _ _ ⟨rfl, rfl⟩
   refine AllE_cons rfl rfl rfl ?_
   rintro _ _ ⟨rfl, rfl⟩
   refine AllE_nil ?_
   intro hn1 hb1
   have hC5 := hC4.grow hB6
   refine WA_tk 10 (by kernel_rfl) rfl rfl (fl_add rfl rfl) ?_
   refine WL_add rfl rfl rfl ?_
   refine WL_nil ?_
   refine WA_tk 11 (by kernel_rfl) rfl rfl (fl_max rfl rfl) ?_
   refine WL_max rfl rfl rfl ?_
   refine WL_nil ?_
   refine WA_tk 12 (by kernel_rfl) rfl rfl (fl_assign rfl) ?_
   refine WL_assign rfl rfl ?_
   refine WL_nil ?_
   refine WA_done (by kernel_rfl) ?_
   have hq3 := Option.some.inj hr2
   subst hq3
   have hC6 := hC5.h0
   refine nrm_sub (l' := [(8, (.int .i64 (if (w64 (x4 + a1.1)) > x1 then w64 (x4 + a1.1) else x1)))]) ⟨rfl, trivial⟩ ?_
   exact ⟨if (w64 (x4 + a1.1)) > x1 then w64 (x4 + a1.1) else x1, rfl, rfl, ((Keep.of hB4).then hB6).below, hC6⟩
  replace hr2 := ite_f hr2 hc2
  refine W_skip ?_
  have hq4 := Option.some.inj hr2
  subst hq4
  have hC7 := hC2.h0
  refine nrm_sub (l' := [(8, (.int .i64 x1))]) ⟨rfl, trivial⟩ ?_
  exact ⟨x1, rfl, rfl, (Below.refl _ _), hC7⟩
 rintro l2 _ w3 hs2 ⟨x3, rfl, rfl, hB3, hC3⟩
 try dsimp only at hF
 refine nrm_sub' hs2 ?_
 clear hs2
 refine W_seq ?_
 refine W_seq_reg ?_
 refine WL_move rfl rfl ?_
 refine WL_gtr rfl rfl rfl ?_
 refine WL_nil ?_
 refine W_cond rfl (fun hc3 => ?_) (fun hc3 => ?_)
 ·replace hF := ite_t hF hc3
  refine W_seq_reg ?_
  refine WL_assign rfl rfl ?_
  refine WL_assign rfl rfl ?_
  refine WL_nil ?_
  refine W_ret ?_
  refine nrm_ret ?_
  have hq5 := Option.some.inj hF
  subst hq5
  refine fn_ret2 rfl rfl rfl ?_
  have hC8 := hC3.triv (bool_val (false))
  have hC9 := hC8.triv (int_val (0))
  exact ⟨_, rfl, res2_of hC9⟩
 replace hF := ite_f hF hc3
 refine W_skip ?_
 refine nrm_normal ?_
 refine W_seq_reg ?_
 refine WL_move rfl rfl ?_
 refine WL_assign rfl rfl ?_
 refine WL_assign rfl rfl ?_
 refine WL_nil ?_
 refine W_ret ?_
 have hq6 := Option.some.inj hF
 subst hq6
 refine fn_ret2 rfl rfl rfl ?_
 have hC10 := hC3.triv (bool_val (true))
 have hC11 := hC10.triv (int_val (x3))
 exact ⟨_, rfl, res2_of hC11⟩

theorem c_M_ScheduleCalls {w0 : World} (a1 : Int) (a2 : (Int × Int)) (a3 : Int) (rr : ((List Int) × Bool)) (hF : M.ScheduleCalls a1 a2 a3 = some rr) :
 Calls Try.prog 7 [(.int .i64 a1), (.agg #[(.int .i64 a2.1), (.int .i64 a2.2)]), (.int .i64 a3)].toArray w0 fun e w' => ∃ v, e = .returned v ∧ Res2 w0 rr.1 rr.2 v w' := by
 refine calls_of_W Try.func7 rfl rfl ?_
 have hC0 := Ctx.start w0
 unfold M.ScheduleCalls at hF
 refine W_seq_reg ?_
 refine WL_boxK (cs := [(.int .i64 a2.1), (.int .i64 a2.2)]) hC0 rfl rfl rfl (fun b1 w1 hC1 hB1 hN1 => ?_)
 refine WL_assign rfl rfl ?_
 refine WL_assign rfl rfl ?_
 refine WL_nil ?_
 refine W_seq ?_
 obtain ⟨r1, hr1, hF⟩ := bind_some hF
 refine W_cut (fun l w => ∃ x1 : Bool, x1 = r1 ∧ l = [(0, (.int .i64 a1)), (2, (.int .i64 a3)), (4, (ptr b1 0)), (23, (.bool x1))] ∧ Below w1.heap.size w1 w ∧ Ctx [] w0 w [Item.box b1 [(.int .i64 a2.1), (.int .i64 a2.2)]]) ?_ ?_
 ·refine W_reg ?_
  refine WL_move rfl rfl ?_
  obtain ⟨x2, hr2, hr1⟩ := bind_some hr1
  refine WL_call Try.call32 rfl rfl (c_M_within a1 0 100 x2 hr2) ?_
  intro _ w3 hv1
  obtain ⟨rfl, hB3⟩ := res_bool hv1
  have hC3 := hC1.grow hB3
  refine WL_not rfl rfl ?_
  refine WL_move rfl rfl ?_
  refine WL_fork (fun hc1 => ?_) (fun hc1 => ?_)
  ·replace hr1 := ite_t hr1 hc1
   refine WL_guard_skip rfl rfl (by simp) rfl ?_
   refine WL_guard_skip rfl rfl (by simp) rfl ?_
   refine WL_guard_skip rfl rfl (by simp) rfl ?_
   refine WL_pick_t rfl rfl rfl ?_
   refine WL_move rfl rfl ?_
   refine WL_guard_skip rfl rfl (by simp) rfl ?_
   refine WL_guard_skip rfl rfl (by simp) rfl ?_
   refine WL_guard_skip rfl rfl (by simp) rfl ?_
   refine WL_pick_t rfl rfl rfl ?_
   refine WL_nil ?_
   have hq1 := Option.some.inj hr1
   subst hq1
   refine nrm_sub (l' := [(0, (.int .i64 a1)), (2, (.int .i64 a3)), (4, (ptr b1 0)), (23, (.bool true))]) ⟨rfl, rfl, rfl, rfl, trivial⟩ ?_
   exact ⟨true, rfl, rfl, (Keep.of hB3).below, hC3⟩
  replace hr1 := ite_f hr1 hc1
  refine WL_guard rfl rfl ?_
  refine WL_load_box_agg [(.int .i64 a2.1), (.int .i64 a2.2)] hC3 0 rfl rfl rfl Try.isAgg25 Try.sizeOf25 rfl rfl ?_
  obtain ⟨x3, hr3, hr1⟩ := bind_some hr1
  refine WL_guard rfl rfl ?_
  refine WL_call Try.call19 rfl rfl (c_M_IsWindow (a2.1, a2.2) x3 hr3) ?_
  intro _ w4 hv2
  obtain ⟨rfl, hB4⟩ := res_bool hv2
  have hC4 := hC3.grow hB4
  refine WL_guard rfl rfl ?_
  refine WL_not rfl rfl ?_
  refine WL_pick_f rfl rfl rfl ?_
  refine WL_move rfl rfl ?_
  refine WL_fork (fun hc2 => ?_) (fun hc2 => ?_)
  ·replace hr1 := ite_t hr1 hc2
   refine WL_guard_skip rfl rfl (by simp) rfl ?_
   refine WL_guard_skip rfl rfl (by simp) rfl ?_
   refine WL_guard_skip rfl rfl (by simp) rfl ?_
   refine WL_pick_t rfl rfl rfl ?_
   refine WL_nil ?_
   have hq2 := Option.some.inj hr1
   subst hq2
   refine nrm_sub (l' := [(0, (.int .i64 a1)), (2, (.int .i64 a3)), (4, (ptr b1 0)), (23, (.bool true))]) ⟨rfl, rfl, rfl, rfl, trivial⟩ ?_
   exact ⟨true, rfl, rfl, ((Keep.of hB3).then hB4).below, hC4⟩
  replace hr1 := ite_f hr1 hc2
  refine WL_guard rfl rfl ?_
  refine WL_move rfl rfl ?_
  obtain ⟨x4, hr4, hr1⟩ := bind_some hr1
  refine WL_guard rfl rfl ?_
  refine WL_call Try.call33 rfl rfl (c_M_isTime a3 x4 hr4) ?_
  intro _ w5 hv3
  obtain ⟨rfl, hB5⟩ := res_bool hv3
  have hC5 := hC4.grow hB5
  refine WL_guard rfl rfl ?_
  refine WL_not rfl rfl ?_
  refine WL_pick_f rfl rfl rfl ?_
  refine WL_nil ?_
  have hq3 := Option.some.inj hr1
  subst hq3
  refine nrm_sub (l' := [(0, (.int .i64 a1)), (2, (.int .i64 a3)), (4, (ptr b1 0)), (23, (.bool (!x4)))]) ⟨rfl, rfl, rfl, rfl, trivial⟩ ?_
  exact ⟨(!x4), rfl, rfl, (((Keep.of hB3).then hB4).then hB5).below, hC5⟩
 rintro _ w2 ⟨x1, rfl, rfl, hB2, hC2⟩
 try dsimp only at hF
 refine W_cond rfl (fun hc3 => ?_) (fun hc3 => ?_)
 ·replace hF := ite_t hF hc3
  refine W_seq_reg ?_
  refine WL_assign rfl rfl ?_
  refine WL_assign rfl rfl ?_
  refine WL_nil ?_
  refine W_ret ?_
  refine nrm_ret ?_
  have hq4 := Option.some.inj hF
  subst hq4
  refine fn_ret2 rfl rfl rfl ?_
  have hC6 := hC2.triv (bool_val (false))
  have hC7 := hC6.triv (nil_val (α := Int))
  exact ⟨_, rfl, res2_of hC7⟩
 replace hF := ite_f hF hc3
 refine W_skip ?_
 refine nrm_normal ?_
 refine W_seq_reg ?_
 refine WL_buildSlice (vs := []) hC2 Try.underlying28 ty3 rfl rfl rfl rfl (by simp) rfl rfl (fun b2 w6 hC8 hB6 => ?_)
 have hC9 := hC8.row0 (α := Int)
 have hC10 := hC9.front 1 rfl
 dsimp only [List.eraseIdx, List.cons_append, List.nil_append, List.append_nil] at hC10
 have hC11 : Ctx [] w0 w6 (Item.own (.slice (some ⟨b2, 0, none⟩) 0 0) (([] : List Int) : List Int) :: [Item.box b1 [(.int .i64 a2.1), (.int .i64 a2.2)]]) := hC10.rowOwn (by simp [maxLen])
 refine WL_assign rfl rfl ?_
 refine WL_nil ?_
 refine W_seq ?_
 refine W_seq_reg ?_
 refine WL_move rfl rfl ?_
 refine WL_move rfl rfl ?_
 refine WL_nil ?_
 obtain ⟨r2, hr5, hF⟩ := bind_some hF
 refine W_norm (fun l w => ∃ v2 : Value, ∃ x7 : (List Int), .inl x7 = r2 ∧ l = [(8, v2)] ∧ Ctx [] w0 w [Item.own v2 (x7 : (List Int))]) ?_ ?_
 ·refine W_block ?_
  refine W.sub (l' := [(2, (.int .i64 a3)), (4, (ptr b1 0)), (8, (.slice (some ⟨b2, 0, none⟩) 0 0)), (25, (.int .i64 a1)), (26, (.int .i64 0))]) ?_ ⟨rfl, rfl, rfl, rfl, rfl, trivial⟩
  refine W_loop (fun k l w => ∃ v1 : Value, ∃ x5 : (List Int), ∃ x6 : Int, l = [(2, (.int .i64 a3)), (4, (ptr b1 0)), (8, v1), (25, (.int .i64 a1)), (26, (.int .i64 x6))] ∧ Ctx [] w0 w [Item.own v1 (x5 : (List Int)), Item.box b1 [(.int .i64 a2.1), (.int .i64 a2.2)]] ∧ M.ScheduleCalls_l1 a1 a2 a3 k x5 x6 = some r2) FUEL ⟨(.slice (some ⟨b2, 0, none⟩) 0 0), ([] : List Int), 0, rfl, hC11, hr5⟩ ?_
  clear hr5
  rintro k1 _ w7 ⟨v1, x5, x6, rfl, hC12, hL1⟩
  cases k1 with
  | zero => rw [M.ScheduleCalls_l1] at hL1; cases hL1
  | succ k1 =>
   rw [M.ScheduleCalls_l1] at hL1
   refine W_seq_reg ?_
   refine WL_lss rfl rfl rfl ?_
   refine WL_nil ?_
   refine W_seq ?_
   refine W_cond rfl (fun hc4 => ?_) (fun hc4 => ?_)
   ·replace hL1 := ite_t hL1 hc4
    refine W_skip ?_
    refine nrm_normal ?_
    refine W_seq ?_
    refine W_block ?_
    refine W_seq_reg ?_
    refine WL_load_box_agg [(.int .i64 a2.1), (.int .i64 a2.2)] hC12 1 rfl rfl rfl Try.isAgg25 Try.sizeOf25 rfl rfl ?_
    refine WL_move rfl rfl ?_
    refine WL_move rfl rfl ?_
    obtain ⟨x8, hr6, hL1⟩ := bind_some hL1
    refine WL_call Try.call34 rfl rfl (c_M_Window_next (a2.1, a2.2) x5 v1 ((hC12.ro 0 rfl).now (Keep.refl _ _)) a3 x8 hr6) ?_
    rintro _ w9 ⟨hB8, v3, v4, F1, F2, rfl, hv4, hv5, hn1, hb1⟩
    obtain ⟨rfl, rfl⟩ := val_int hv4
    obtain ⟨rfl, rfl⟩ := val_bool hv5
    have hC13 := hC12.grow hB8
    refine WL_move rfl rfl ?_
    refine WL_extract rfl rfl rfl ?_
    refine WL_extract rfl rfl rfl ?_
    refine WL_assign rfl rfl ?_
    refine WL_assign rfl rfl ?_
    refine WL_nil ?_
    refine W_seq ?_
    refine W_seq_reg ?_
    refine WL_move rfl rfl ?_
    refine WL_not rfl rfl ?_
    refine WL_nil ?_
    refine W_cond rfl (fun hc5 => ?_) (fun hc5 => ?_)
    ·replace hL1 := ite_t hL1 hc5
     refine W_seq_reg ?_
     refine WL_assign rfl rfl ?_
     refine WL_assign rfl rfl ?_
     refine WL_nil ?_
     refine W_ret ?_
     refine nrm_ret ?_
     refine blk_ret ?_
     refine nrm_ret ?_
     refine nrm_ret ?_
     refine blk_ret ?_
     refine nrm_ret ?_
     refine nrm_ret ?_
     have hq5 := Option.some.inj hL1
     subst hq5
     dsimp only at hF
     have hq6 := Option.some.inj hF
     subst hq6
     refine fn_ret2 rfl rfl rfl ?_
     have hC14 := hC13.triv (bool_val (false))
     have hC15 := hC14.triv (nil_val (α := Int))
     exact ⟨_, rfl, res2_of hC15⟩
    replace hL1 := ite_f hL1 hc5
    refine W_skip ?_
    refine nrm_normal ?_
    refine W_reg ?_
    refine WL_move rfl rfl ?_
    refine WL_move rfl rfl ?_
    refine WL_buildSlice (vs := [(.int .i64 x8.1)]) hC13 Try.underlying28 ty3 rfl rfl rfl rfl (by intro v hv; simp only [List.mem_cons, List.not_mem_nil, or_false] at hv; rcases hv with rfl <;> rfl) rfl rfl (fun b3 w10 hC16 hB9 => ?_)
    have hC17 := hC16.row0 (α := Int)
    have hC18 := hC17.triv (int_val (x8.1))
    have hC19 := hC18.row1
    have hC20 := hC19.front 1 rfl
    dsimp only [List.eraseIdx, List.cons_append, List.nil_append, List.append_nil] at hC20
    have hC21 : Ctx [] w0 w10 (Item.own (.slice (some ⟨b3, 0, none⟩) 1 1) ([x8.1] : List Int) :: [Item.own v1 (x5 : (List Int)), Item.box b1 [(.int .i64 a2.1), (.int .i64 a2.2)]]) := hC20.rowOwn (by simp [maxLen])
    obtain ⟨x9, hx1, hL1⟩ := bind_some hL1
    refine WL_append_flat (α := Int) hC21 1 rfl (hC21.ro 0 rfl) (Keep.refl _ _) Try.underlying28 ty3 rfl hx1 rfl rfl rfl (fun v5 w11 hC22 => ?_)
    try dsimp only [List.set] at hC22
    refine WL_assign rfl rfl ?_
    refine WL_nil ?_
    refine blk_normal ?_
    refine nrm_normal ?_
    refine W_reg ?_
    refine WL_add rfl rfl rfl ?_
    refine WL_move rfl rfl ?_
    refine WL_nil ?_
    have hC23 := hC22.f2
    have hC24 := hC23.f2
    have hC25 := hC24.h2
    refine nrm_sub (l' := [(2, (.int .i64 a3)), (4, (ptr b1 0)), (8, v5), (25, (.int .i64 a1)), (26, (.int .i64 (w64 (x6 + 1))))]) ⟨rfl, rfl, rfl, rfl, rfl, trivial⟩ ?_
    exact ⟨k1, Nat.lt_succ_self _, v5, x9, w64 (x6 + 1), rfl, hC25, hL1⟩
   replace hL1 := ite_f hL1 hc4
   refine W_exit ?_
   refine nrm_exit ?_
   refine nrm_exit ?_
   refine blk_exit ?_
   have hq7 := Option.some.inj hL1
   subst hq7
   have hC26 := hC12.h1
   refine nrm_sub (l' := [(8, v1)]) ⟨rfl, trivial⟩ ?_
   exact ⟨v1, x5, rfl, rfl, hC26⟩
 rintro l3 _ w12 hs3 ⟨v2, x7, rfl, rfl, hC27⟩
 try dsimp only at hF
 refine nrm_sub' hs3 ?_
 clear hs3
 refine W_seq_reg ?_
 refine WL_move rfl rfl ?_
 refine WL_assign rfl rfl ?_
 refine WL_assign rfl rfl ?_
 refine WL_nil ?_
 refine W_ret ?_
 have hq8 := Option.some.inj hF
 subst hq8
 refine fn_ret2 rfl rfl rfl ?_
 have hC28 := hC27.triv (bool_val (true))
 have hC29 := hC28.f1
 exact ⟨_, rfl, res2_of hC29⟩

theorem c_S_CallsIn {w0 : World} (a1 : (List Int)) (u1 : Value) (g1 : RO [] w0 u1 a1) (a2 : Int) (a3 : Int) (rr : Int) (hF : S.CallsIn a1 a2 a3 = some rr) :
 Calls Try.prog 11 [u1, (.int .i64 a2), (.int .i64 a3)].toArray w0 fun e w' => ∃ v, e = .returned v ∧ Res w0 rr v w' := by
 refine calls_of_W Try.func11 rfl rfl ?_
 have hC0 := Ctx.start w0
 unfold S.CallsIn at hF
 refine W_seq_reg ?_
 refine WL_assign rfl rfl ?_
 refine WL_nil ?_
 refine W_seq_reg ?_
 refine WL_assign rfl rfl ?_
 refine WL_nil ?_
 refine W_seq ?_
 refine W_seq_reg ?_
 refine WL_assign rfl rfl ?_
 refine WL_nil ?_
 obtain ⟨r1, hr1, hF⟩ := bind_some hF
 refine W_norm (fun l w => ∃ x3 : Int, x3 = r1 ∧ l = [(7, (.int .i64 x3))] ∧ Below w0.heap.size w0 w ∧ Ctx [] w0 w []) ?_ ?_
 ·refine W_block ?_
  refine W.sub (l' := [(0, u1), (1, (.int .i64 a2)), (2, (.int .i64 a3)), (7, (.int .i64 0)), (8, (.int .i64 0))]) ?_ ⟨rfl, rfl, rfl, rfl, rfl, trivial⟩
  refine W_loop (fun k l w => ∃ x1 : Int, ∃ x2 : Int, l = [(0, u1), (1, (.int .i64 a2)), (2, (.int .i64 a3)), (7, (.int .i64 x1)), (8, (.int .i64 x2))] ∧ Below w0.heap.size w0 w ∧ Ctx [] w0 w [] ∧ S.CallsIn_l1 a1 a2 a3 k x1 x2 = some r1) FUEL ⟨0, 0, rfl, (Below.refl _ _), hC0, hr1⟩ ?_
  clear hr1
  rintro k1 _ w1 ⟨x1, x2, rfl, hB1, hC1, hL1⟩
  cases k1 with
  | zero => rw [S.CallsIn_l1] at hL1; cases hL1
  | succ k1 =>
   rw [S.CallsIn_l1] at hL1
   refine W_seq ?_
   refine W_seq_reg ?_
   refine WL_move rfl rfl ?_
   refine WL_move rfl rfl ?_
   refine WL_len Try.underlying28 g1 rfl rfl ?_
   refine WL_lss rfl rfl rfl ?_
   refine WL_nil ?_
   refine W_cond rfl (fun hc1 => ?_) (fun hc1 => ?_)
   ·replace hL1 := ite_t hL1 hc1
    refine W_skip ?_
    refine nrm_normal ?_
    refine W_seq ?_
    refine W_block ?_
    obtain ⟨r2, hr2, hL1⟩ := bind_some hL1
    refine W_cut (fun l w => ∃ x4 : Bool, x4 = r2 ∧ l = [(0, u1), (1, (.int .i64 a2)), (2, (.int .i64 a3)), (7, (.int .i64 x1)), (8, (.int .i64 x2)), (41, (.bool x4))] ∧ Below w1.heap.size w1 w ∧ Ctx [] w0 w []) ?_ ?_
    ·refine W_reg ?_
     refine WL_move rfl rfl ?_
     refine WL_move rfl rfl ?_
     obtain ⟨x5, hx1, hr2⟩ := bind_some hr2
     refine WL_index Try.underlying28 ty3 g1 hx1 rfl rfl rfl (fun b1 o1 h1 => ?_)
     refine WL_load ty3 h1 hC1.keep rfl rfl (fun v1 h2 => ?_)
     obtain rfl := ro_int h2
     refine WL_move rfl rfl ?_
     refine WL_geq rfl rfl rfl ?_
     refine WL_move rfl rfl ?_
     refine WL_fork (fun hc2 => ?_) (fun hc2 => ?_)
     ·replace hr2 := ite_t hr2 hc2
      refine WL_guard rfl rfl ?_
      refine WL_move rfl rfl ?_
      refine WL_guard rfl rfl ?_
      refine WL_move rfl rfl ?_
      obtain ⟨x6, hx2, hr2⟩ := bind_some hr2
      refine WL_guard rfl rfl ?_
      refine WL_index Try.underlying28 ty3 g1 hx2 rfl rfl rfl (fun b2 o2 h3 => ?_)
      refine WL_guard rfl rfl ?_
      refine WL_load ty3 h3 hC1.keep rfl rfl (fun v2 h4 => ?_)
      obtain rfl := ro_int h4
      refine WL_guard rfl rfl ?_
      refine WL_move rfl rfl ?_
      refine WL_guard rfl rfl ?_
      refine WL_sub rfl rfl rfl ?_
      refine WL_guard rfl rfl ?_
      refine WL_move rfl rfl ?_
      refine WL_guard rfl rfl ?_
      refine WL_lss rfl rfl rfl ?_
      refine WL_pick_t rfl rfl rfl ?_
      refine WL_move rfl rfl ?_
      refine WL_fork (fun hc3 => ?_) (fun hc3 => ?_)
      ·replace hr2 := ite_t hr2 hc3
       refine WL_guard rfl rfl ?_
       refine WL_move rfl rfl ?_
       refine WL_guard rfl rfl ?_
       refine WL_move rfl rfl ?_
       obtain ⟨x7, hx3, hr2⟩ := bind_some hr2
       refine WL_guard rfl rfl ?_
       refine WL_index Try.underlying28 ty3 g1 hx3 rfl rfl rfl (fun b3 o3 h5 => ?_)
       refine WL_guard rfl rfl ?_
       refine WL_load ty3 h5 hC1.keep rfl rfl (fun v3 h6 => ?_)
       obtain rfl := ro_int h6
       refine WL_guard rfl rfl ?_
       refine WL_geq rfl rfl rfl ?_
       refine WL_pick_t rfl rfl rfl ?_
       refine WL_move rfl rfl ?_
       refine WL_fork (fun hc4 => ?_) (fun hc4 => ?_)
       ·replace hr2 := ite_t hr2 hc4
        refine WL_guard rfl rfl ?_
        refine WL_move rfl rfl ?_
        refine WL_guard rfl rfl ?_
        refine WL_geq rfl rfl rfl ?_
        refine WL_pick_t rfl rfl rfl ?_
        refine WL_nil ?_
        have hq1 := Option.some.inj hr2
        subst hq1
        refine nrm_sub (l' := [(0, u1), (1, (.int .i64 a2)), (2, (.int .i64 a3)), (7, (.int .i64 x1)), (8, (.int .i64 x2)), (41, (.bool (decide (0 ≤ a2))))]) ⟨rfl, rfl, rfl, rfl, rfl, rfl, trivial⟩ ?_
        exact ⟨(decide (0 ≤ a2)), rfl, rfl, (Below.refl _ _), hC1⟩
       replace hr2 := ite_f hr2 hc4
       refine WL_guard_skip rfl rfl (by simp) rfl ?_
       refine WL_guard_skip rfl rfl (by simp) rfl ?_
       refine WL_pick_f rfl rfl rfl ?_
       refine WL_nil ?_
       have hq2 := Option.some.inj hr2
       subst hq2
       refine nrm_sub (l' := [(0, u1), (1, (.int .i64 a2)), (2, (.int .i64 a3)), (7, (.int .i64 x1)), (8, (.int .i64 x2)), (41, (.bool false))]) ⟨rfl, rfl, rfl, rfl, rfl, rfl, trivial⟩ ?_
       exact ⟨false, rfl, rfl, (Below.refl _ _), hC1⟩
      replace hr2 := ite_f hr2 hc3
      refine WL_guard_skip rfl rfl (by simp) rfl ?_
      refine WL_guard_skip rfl rfl (by simp) rfl ?_
      refine WL_guard_skip rfl rfl (by simp) rfl ?_
      refine WL_guard_skip rfl rfl (by simp) rfl ?_
      refine WL_guard_skip rfl rfl (by simp) rfl ?_
      refine WL_pick_f rfl rfl rfl ?_
      refine WL_move rfl rfl ?_
      refine WL_guard_skip rfl rfl (by simp) rfl ?_
      refine WL_guard_skip rfl rfl (by simp) rfl ?_
      refine WL_pick_f rfl rfl rfl ?_
      refine WL_nil ?_
      have hq3 := Option.some.inj hr2
      subst hq3
      refine nrm_sub (l' := [(0, u1), (1, (.int .i64 a2)), (2, (.int .i64 a3)), (7, (.int .i64 x1)), (8, (.int .i64 x2)), (41, (.bool false))]) ⟨rfl, rfl, rfl, rfl, rfl, rfl, trivial⟩ ?_
      exact ⟨false, rfl, rfl, (Below.refl _ _), hC1⟩
     replace hr2 := ite_f hr2 hc2
     refine WL_guard_skip rfl rfl (by simp) rfl ?_
     refine WL_guard_skip rfl rfl (by simp) rfl ?_
     refine WL_guard_skip rfl rfl (by simp) rfl ?_
     refine WL_guard_skip rfl rfl (by simp) rfl ?_
     refine WL_guard_skip rfl rfl (by simp) rfl ?_
     refine WL_guard_skip rfl rfl (by simp) rfl ?_
     refine WL_guard_skip rfl rfl (by simp) rfl ?_
     refine WL_guard_skip rfl rfl (by simp) rfl ?_
     refine WL_pick_f rfl rfl rfl ?_
     refine WL_move rfl rfl ?_
     refine WL_guard_skip rfl rfl (by simp) rfl ?_
     refine WL_guard_skip rfl rfl (by simp) rfl ?_
     refine WL_guard_skip rfl rfl (by simp) rfl ?_
     refine WL_guard_skip rfl rfl (by simp) rfl ?_
     refine WL_guard_skip rfl rfl (by simp) rfl ?_
     refine WL_pick_f rfl rfl rfl ?_
     refine WL_move rfl rfl ?_
     refine WL_guard_skip rfl rfl (by simp) rfl ?_
     refine WL_guard_skip rfl rfl (by simp) rfl ?_
     refine WL_pick_f rfl rfl rfl ?_
     refine WL_nil ?_
     have hq4 := Option.some.inj hr2
     subst hq4
     refine nrm_sub (l' := [(0, u1), (1, (.int .i64 a2)), (2, (.int .i64 a3)), (7, (.int .i64 x1)), (8, (.int .i64 x2)), (41, (.bool false))]) ⟨rfl, rfl, rfl, rfl, rfl, rfl, trivial⟩ ?_
     exact ⟨false, rfl, rfl, (Below.refl _ _), hC1⟩
    rintro _ w2 ⟨x4, rfl, rfl, hB2, hC2⟩
    try dsimp only at hL1
    obtain ⟨r3, hr3, hL1⟩ := bind_some hL1
    refine W_norm (fun l w => ∃ x8 : Int, x8 = r3 ∧ l = [(0, u1), (1, (.int .i64 a2)), (2, (.int .i64 a3)), (7, (.int .i64 x8)), (8, (.int .i64 x2))] ∧ Below w2.heap.size w2 w ∧ Ctx [] w0 w []) ?_ ?_
    ·refine W_cond rfl (fun hc5 => ?_) (fun hc5 => ?_)
     ·replace hr3 := ite_t hr3 hc5
      refine W_reg ?_
      refine WL_move rfl rfl ?_
      refine WL_add rfl rfl rfl ?_
      refine WL_assign rfl rfl ?_
      refine WL_nil ?_
      have hq5 := Option.some.inj hr3
      subst hq5
      refine nrm_sub (l' := [(0, u1), (1, (.int .i64 a2)), (2, (.int .i64 a3)), (7, (.int .i64 (w64 (x1 + 1)))), (8, (.int .i64 x2))]) ⟨rfl, rfl, rfl, rfl, rfl, trivial⟩ ?_
      exact ⟨w64 (x1 + 1), rfl, rfl, (Below.refl _ _), hC2⟩
     replace hr3 := ite_f hr3 hc5
     refine W_skip ?_
     have hq6 := Option.some.inj hr3
     subst hq6
     refine nrm_sub (l' := [(0, u1), (1, (.int .i64 a2)), (2, (.int .i64 a3)), (7, (.int .i64 x1)), (8, (.int .i64 x2))]) ⟨rfl, rfl, rfl, rfl, rfl, trivial⟩ ?_
     exact ⟨x1, rfl, rfl, (Below.refl _ _), hC2⟩
    rintro l3 _ w3 hs3 ⟨x8, rfl, rfl, hB3, hC3⟩
    try dsimp only at hL1
    refine blk_normal ?_
    refine nrm_sub' hs3 ?_
    clear hs3
    refine W_reg ?_
    refine WL_move rfl rfl ?_
    refine WL_add rfl rfl rfl ?_
    refine WL_assign rfl rfl ?_
    refine WL_nil ?_
    refine nrm_sub (l' := [(0, u1), (1, (.int .i64 a2)), (2, (.int .i64 a3)), (7, (.int .i64 x8)), (8, (.int .i64 (w64 (x2 + 1))))]) ⟨rfl, rfl, rfl, rfl, rfl, trivial⟩ ?_
    exact ⟨k1, Nat.lt_succ_self _, x8, w64 (x2 + 1), rfl, (((Keep.of hB1).then hB2).then hB3).below, hC3, hL1⟩
   replace hL1 := ite_f hL1 hc1
   refine W_exit ?_
   refine nrm_exit ?_
   refine nrm_exit ?_
   refine blk_exit ?_
   have hq7 := Option.some.inj hL1
   subst hq7
   refine nrm_sub (l' := [(7, (.int .i64 x1))]) ⟨rfl, trivial⟩ ?_
   exact ⟨x1, rfl, rfl, (Keep.of hB1).below, hC1⟩
 rintro l4 _ w4 hs4 ⟨x3, rfl, rfl, hB4, hC4⟩
 try dsimp only at hF
 refine nrm_sub' hs4 ?_
 clear hs4
 refine W_seq_reg ?_
 refine WL_move rfl rfl ?_
 refine WL_assign rfl rfl ?_
 refine WL_nil ?_
 refine W_ret ?_
 have hq8 := Option.some.inj hF
 subst hq8
 refine fn_ret1 rfl rfl ?_
 exact ⟨_, rfl, int_res hC4 _⟩

theorem c_S_l1In {w0 : World} (a1 : Int) (a2 : Int) (a3 : Int) (rr : Bool) (hF : S.l1In a1 a2 a3 = some rr) :
 Calls Try.prog 35 [(.int .i64 a1), (.int .i64 a2), (.int .i64 a3)].toArray w0 fun e w' => ∃ v, e = .returned v ∧ Res w0 rr v w' := by
 refine calls_of_W Try.func35 rfl rfl ?_
 have hC0 := Ctx.start w0
 unfold S.l1In at hF
 refine W_seq_reg ?_
 refine WL_assign rfl rfl ?_
 refine WL_nil ?_
 obtain ⟨r1, hr1, hF⟩ := bind_some hF
 refine W_cut (fun l w => ∃ x1 : Bool, x1 = r1 ∧ l = [(6, (.bool x1))] ∧ Below w0.heap.size w0 w ∧ Ctx [] w0 w []) ?_ ?_
 ·refine W_reg ?_
  refine WL_move rfl rfl ?_
  refine WL_move rfl rfl ?_
  refine WL_geq rfl rfl rfl ?_
  refine WL_move rfl rfl ?_
  refine WL_fork (fun hc1 => ?_) (fun hc1 => ?_)
  ·replace hr1 := ite_t hr1 hc1
   refine WL_guard rfl rfl ?_
   refine WL_move rfl rfl ?_
   refine WL_guard rfl rfl ?_
   refine WL_move rfl rfl ?_
   refine WL_guard rfl rfl ?_
   refine WL_leq rfl rfl rfl ?_
   refine WL_pick_t rfl rfl rfl ?_
   refine WL_assign rfl rfl ?_
   refine WL_nil ?_
   have hq1 := Option.some.inj hr1
   subst hq1
   refine nrm_sub (l' := [(6, (.bool (decide (a1 ≤ a3))))]) ⟨rfl, trivial⟩ ?_
   exact ⟨(decide (a1 ≤ a3)), rfl, rfl, (Below.refl _ _), hC0⟩
  replace hr1 := ite_f hr1 hc1
  refine WL_guard_skip rfl rfl (by simp) rfl ?_
  refine WL_guard_skip rfl rfl (by simp) rfl ?_
  refine WL_guard_skip rfl rfl (by simp) rfl ?_
  refine WL_pick_f rfl rfl rfl ?_
  refine WL_assign rfl rfl ?_
  refine WL_nil ?_
  have hq2 := Option.some.inj hr1
  subst hq2
  refine nrm_sub (l' := [(6, (.bool false))]) ⟨rfl, trivial⟩ ?_
  exact ⟨false, rfl, rfl, (Below.refl _ _), hC0⟩
 rintro _ w1 ⟨x1, rfl, rfl, hB1, hC1⟩
 try dsimp only at hF
 refine W_ret ?_
 have hq3 := Option.some.inj hF
 subst hq3
 refine fn_ret1 rfl rfl ?_
 exact ⟨_, rfl, bool_res hC1 _⟩

theorem c_S_IsWindow {w0 : World} (a1 : (Int × Int)) (rr : Bool) (hF : S.IsWindow a1 = some rr) :
 Calls Try.prog 20 [(.agg #[(.int .i64 a1.1), (.int .i64 a1.2)])].toArray w0 fun e w' => ∃ v, e = .returned v ∧ Res w0 rr v w' := by
 refine calls_of_W Try.func20 rfl rfl ?_
 have hC0 := Ctx.start w0
 unfold S.IsWindow at hF
 refine W_seq_reg ?_
 refine WL_boxK (cs := [(.int .i64 a1.1), (.int .i64 a1.2)]) hC0 rfl rfl rfl (fun b1 w1 hC1 hB1 hN1 => ?_)
 refine WL_assign rfl rfl ?_
 refine WL_nil ?_
 obtain ⟨r1, hr1, hF⟩ := bind_some hF
 refine W_cut (fun l w => ∃ x1 : Bool, x1 = r1 ∧ l = [(2, (.bool x1))] ∧ Below w1.heap.size w1 w ∧ Ctx [] w0 w []) ?_ ?_
 ·refine W_reg ?_
  refine WL_field Try.underlying25 rfl rfl (fun w => ⟨_, Try.sizeOf3 w⟩) rfl rfl ?_
  refine WL_load_box hC1 0 rfl rfl Try.isAgg3 rfl rfl ?_
  obtain ⟨x2, hr2, hr1⟩ := bind_some hr1
  refine WL_call Try.call35 rfl rfl (c_S_l1In a1.1 1 100 x2 hr2) ?_
  intro _ w3 hv1
  obtain ⟨rfl, hB3⟩ := res_bool hv1
  have hC3 := hC1.grow hB3
  refine WL_move rfl rfl ?_
  refine WL_fork (fun hc1 => ?_) (fun hc1 => ?_)
  ·replace hr1 := ite_t hr1 hc1
   refine WL_guard rfl rfl ?_
   refine WL_field Try.underlying25 rfl rfl (fun w => ⟨_, Try.sizeOf3 w⟩) rfl rfl ?_
   refine WL_guard rfl rfl ?_
   refine WL_load_box hC3 0 rfl rfl Try.isAgg3 rfl rfl ?_
   obtain ⟨x3, hr3, hr1⟩ := bind_some hr1
   refine WL_guard rfl rfl ?_
   refine WL_call Try.call35 rfl rfl (c_S_l1In a1.2 1 99 x3 hr3) ?_
   intro _ w4 hv2
   obtain ⟨rfl, hB4⟩ := res_bool hv2
   have hC4 := hC3.grow hB4
   refine WL_pick_t rfl rfl rfl ?_
   refine WL_assign rfl rfl ?_
   refine WL_nil ?_
   have hq1 := Option.some.inj hr1
   subst hq1
   have hC5 := hC4.h0
   refine nrm_sub (l' := [(2, (.bool x3))]) ⟨rfl, trivial⟩ ?_
   exact ⟨x3, rfl, rfl, ((Keep.of hB3).then hB4).below, hC5⟩
  replace hr1 := ite_f hr1 hc1
  refine WL_guard_skip rfl rfl (by simp) rfl ?_
  refine WL_guard_skip rfl rfl (by simp) rfl ?_
  refine WL_guard_skip rfl rfl (by simp) rfl ?_
  refine WL_pick_f rfl rfl rfl ?_
  refine WL_assign rfl rfl ?_
  refine WL_nil ?_
  have hq2 := Option.some.inj hr1
  subst hq2
  have hC6 := hC3.h0
  refine nrm_sub (l' := [(2, (.bool false))]) ⟨rfl, trivial⟩ ?_
  exact ⟨false, rfl, rfl, (Keep.of hB3).below, hC6⟩
 rintro _ w2 ⟨x1, rfl, rfl, hB2, hC2⟩
 try dsimp only at hF
 refine W_ret ?_
 have hq3 := Option.some.inj hF
 subst hq3
 refine fn_ret1 rfl rfl ?_
 exact ⟨_, rfl, bool_res hC2 _⟩

theorem c_S_l18Times {w0 : World} (a1 : (List Int)) (u1 : Value) (g1 : RO [] w0 u1 a1) (rr : Bool) (hF : S.l18Times a1 = some rr) :
 Calls Try.prog 36 [u1].toArray w0 fun e w' => ∃ v, e = .returned v ∧ Res w0 rr v w' := by
 refine calls_of_W Try.func36 rfl rfl ?_
 have hC0 := Ctx.start w0
 unfold S.l18Times at hF
 refine W_seq_reg ?_
 refine WL_assign rfl rfl ?_
 refine WL_nil ?_
 refine W_seq ?_
 refine W_seq_reg ?_
 refine WL_assign rfl rfl ?_
 refine WL_nil ?_
 obtain ⟨r1, hr1, hF⟩ := bind_some hF
 refine W_norm (fun l w => .inl () = r1 ∧ l = [(0, u1)] ∧ Below w0.heap.size w0 w ∧ Ctx [] w0 w []) ?_ ?_
 ·refine W_block ?_
  refine W.sub (l' := [(0, u1), (3, (.int .i64 0))]) ?_ ⟨rfl, rfl, trivial⟩
  refine W_loop (fun k l w => ∃ x1 : Int, l = [(0, u1), (3, (.int .i64 x1))] ∧ Below w0.heap.size w0 w ∧ Ctx [] w0 w [] ∧ S.l18Times_l1 a1 k x1 = some r1) FUEL ⟨0, rfl, (Below.refl _ _), hC0, hr1⟩ ?_
  clear hr1
  rintro k1 _ w1 ⟨x1, rfl, hB1, hC1, hL1⟩
  cases k1 with
  | zero => rw [S.l18Times_l1] at hL1; cases hL1
  | succ k1 =>
   rw [S.l18Times_l1] at hL1
   refine W_seq ?_
   refine W_seq_reg ?_
   refine WL_move rfl rfl ?_
   refine WL_move rfl rfl ?_
   refine WL_len Try.underlying28 g1 rfl rfl ?_
   refine WL_lss rfl rfl rfl ?_
   refine WL_nil ?_
   refine W_cond rfl (fun hc1 => ?_) (fun hc1 => ?_)
   ·replace hL1 := ite_t hL1 hc1
    refine W_skip ?_
    refine nrm_normal ?_
    refine W_seq ?_
    refine W_block ?_
    obtain ⟨r2, hr2, hL1⟩ := bind_some hL1
    refine W_cut (fun l w => ∃ x2 : Bool, x2 = r2 ∧ l = [(0, u1), (3, (.int .i64 x1)), (31, (.bool x2))] ∧ Below w1.heap.size w1 w ∧ Ctx [] w0 w []) ?_ ?_
    ·refine W_drawn 22 rfl hmix (fun w3 hB3 => ?_)
     have hC3 := hC1.grow hB3
     refine WA_tk 0 (by kernel_rfl) rfl rfl (fl_move rfl) ?_
     refine WL_move rfl rfl ?_
     refine WL_nil ?_
     refine WA_tk 1 (by kernel_rfl) rfl rfl (fl_move rfl) ?_
     refine WL_move rfl rfl ?_
     refine WL_nil ?_
     obtain ⟨x3, hx1, hr2⟩ := bind_some hr2
     refine WA_tk 2 (by kernel_rfl) rfl rfl (fl_index Try.underlying28 ty3 g1 hx1 rfl rfl) ?_
     refine WL_index Try.underlying28 ty3 g1 hx1 rfl rfl rfl (fun b1 o1 h1 => ?_)
     refine WL_nil ?_
     refine WA_one 3 (by kernel_rfl) rfl ?_
     refine WL_load ty3 h1 hC3.keep rfl rfl (fun v1 h2 => ?_)
     obtain rfl := ro_int h2
     refine WL_nil ?_
     obtain ⟨x4, hr3, hr2⟩ := bind_some hr2
     refine WA_one 4 (by kernel_rfl) rfl ?_
     refine WL_call Try.call35 rfl rfl (c_S_l1In x3 0 10000 x4 hr3) ?_
     intro _ w4 hv1
     obtain ⟨rfl, hB4⟩ := res_bool hv1
     have hC4 := hC3.grow hB4
     refine WL_nil ?_
     refine WA_tk 5 (by kernel_rfl) rfl rfl (fl_not rfl) ?_
     refine WL_not rfl rfl ?_
     refine WL_nil ?_
     refine WA_tk 6 (by kernel_rfl) rfl rfl (fl_move rfl) ?_
     refine WL_move rfl rfl ?_
     refine WL_nil ?_
     refine WA_fork (fun hc2 => ?_) (fun hc2 => ?_)
     ·replace hr2 := ite_t hr2 hc2
      refine WA_sk 7 (by kernel_rfl) rfl rfl rfl rfl (by simp) rfl rfl ?_
      refine WA_sk 8 (by kernel_rfl) rfl rfl rfl rfl (by simp) rfl rfl ?_
      refine WA_sk 9 (by kernel_rfl) rfl rfl rfl rfl (by simp) rfl rfl ?_
      refine WA_sk 10 (by kernel_rfl) rfl rfl rfl rfl (by simp [undef]) rfl rfl ?_
      refine WA_sk 11 (by kernel_rfl) rfl rfl rfl rfl (by simp [undef]) rfl rfl ?_
      refine WA_sk 12 (by kernel_rfl) rfl rfl rfl rfl (by simp [undef]) rfl rfl ?_
      refine WA_sk 13 (by kernel_rfl) rfl rfl rfl rfl (by simp [undef]) rfl rfl ?_
      refine WA_sk 14 (by kernel_rfl) rfl rfl rfl rfl (by simp [undef]) rfl rfl ?_
      refine WA_sk 15 (by kernel_rfl) rfl rfl rfl rfl (by simp [undef]) rfl rfl ?_
      refine WA_sk 16 (by kernel_rfl) rfl rfl rfl rfl (by simp [undef]) rfl rfl ?_
      refine WA_sk 17 (by kernel_rfl) rfl rfl rfl rfl (by simp [undef]) rfl rfl ?_
      refine WA_sk 18 (by kernel_rfl) rfl rfl rfl rfl (by simp [undef]) rfl rfl ?_
      refine WA_sk 19 (by kernel_rfl) rfl rfl rfl rfl (by simp [undef]) rfl rfl ?_
      refine WA_sk 20 (by kernel_rfl) rfl rfl rfl rfl (by simp) rfl rfl ?_
      refine WA_tk 21 (by kernel_rfl) rfl rfl (fl_pick_t rfl rfl) ?_
      refine WL_pick_t rfl rfl rfl ?_
      refine WL_nil ?_
      refine WA_done (by kernel_rfl) ?_
      have hq1 := Option.some.inj hr2
      subst hq1
      refine nrm_sub (l' := [(0, u1), (3, (.int .i64 x1)), (31, (.bool true))]) ⟨rfl, rfl, rfl, trivial⟩ ?_
      exact ⟨true, rfl, rfl, ((Keep.of hB3).then hB4).below, hC4⟩
     replace hr2 := ite_f hr2 hc2
     refine WA_takeG 7 rfl (by kernel_rfl) (by kernel_rfl) (by kernel_rfl) rfl rfl rfl (fl_move rfl) ?_
     refine WL_guard rfl rfl ?_
     refine WL_move rfl rfl ?_
     refine WL_nil ?_
     refine WA_takeG 8 rfl (by kernel_rfl) (by kernel_rfl) (by kernel_rfl) rfl rfl rfl (fl_gtr rfl rfl) ?_
     refine WL_guard rfl rfl ?_
     refine WL_gtr rfl rfl rfl ?_
     refine WL_nil ?_
     refine WA_takeG 9 rfl (by kernel_rfl) (by kernel_rfl) (by kernel_rfl) rfl rfl rfl (fl_move rfl) ?_
     refine WL_guard rfl rfl ?_
     refine WL_move rfl rfl ?_
     refine WL_nil ?_
     refine WA_fork (fun hc3 => ?_) (fun hc3 => ?_)
     ·replace hr2 := ite_t hr2 hc3
      refine WA_takeG 10 rfl (by kernel_rfl) (by kernel_rfl) (by kernel_rfl) rfl rfl rfl (fl_move rfl) ?_
      refine WL_guard rfl rfl ?_
      refine WL_move rfl rfl ?_
      refine WL_nil ?_
      refine WA_takeG 11 rfl (by kernel_rfl) (by kernel_rfl) (by kernel_rfl) rfl rfl rfl (fl_move rfl) ?_
      refine WL_guard rfl rfl ?_
      refine WL_move rfl rfl ?_
      refine WL_nil ?_
      obtain ⟨x5, hx2, hr2⟩ := bind_some hr2
      refine WA_takeG 12 rfl (by kernel_rfl) (by kernel_rfl) (by kernel_rfl) rfl rfl rfl (fl_index Try.underlying28 ty3 g1 hx2 rfl rfl) ?_
      refine WL_guard rfl rfl ?_
      refine WL_index Try.underlying28 ty3 g1 hx2 rfl rfl rfl (fun b2 o2 h3 => ?_)
      refine WL_nil ?_
      refine WA_takeG 14 rfl (by kernel_rfl) (by kernel_rfl) (by kernel_rfl) rfl rfl rfl (fl_move rfl) ?_
      refine WL_guard rfl rfl ?_
      refine WL_move rfl rfl ?_
      refine WL_nil ?_
      refine WA_takeG 15 rfl (by kernel_rfl) (by kernel_rfl) (by kernel_rfl) rfl rfl rfl (fl_move rfl) ?_
      refine WL_guard rfl rfl ?_
      refine WL_move rfl rfl ?_
      refine WL_nil ?_
      refine WA_takeG 16 rfl (by kernel_rfl) (by kernel_rfl) (by kernel_rfl) rfl rfl rfl (fl_sub rfl rfl) ?_
      refine WL_guard rfl rfl ?_
      refine WL_sub rfl rfl rfl ?_
      refine WL_nil ?_
      obtain ⟨x6, hx3, hr2⟩ := bind_some hr2
      refine WA_takeG 17 rfl (by kernel_rfl) (by kernel_rfl) (by kernel_rfl) rfl rfl rfl (fl_index Try.underlying28 ty3 g1 hx3 rfl rfl) ?_
      refine WL_guard rfl rfl ?_
      refine WL_index Try.underlying28 ty3 g1 hx3 rfl rfl rfl (fun b3 o3 h4 => ?_)
      refine WL_nil ?_
      refine WA.sub (l' := [(0, u1), (3, (.int .i64 x1)), (4, (.int .i64 x1)), (5, u1), (6, (.int .i64 (List.length a1 : Int))), (7, (.bool (decide (x1 < (List.length a1 : Int))))), (10, u1), (11, (.int .i64 x1)), (12, (ptr b1 o1)), (13, (.int .i64 x3)), (14, (.bool x4)), (15, (.bool (!x4))), (16, (.bool false)), (17, (.int .i64 x1)), (18, (.bool (decide (0 < x1)))), (19, (.bool true)), (20, u1), (21, (.int .i64 x1)), (22, (ptr b2 o2)), (24, u1), (25, (.int .i64 x1)), (26, (.int .i64 (w64 (x1 - 1)))), (27, (ptr b3 o3))]) ?_ ⟨rfl, rfl, rfl, rfl, rfl, rfl, rfl, rfl, rfl, rfl, rfl, rfl, rfl, rfl, rfl, rfl, rfl, rfl, rfl, rfl, rfl, rfl, rfl, trivial⟩
      refine WA_postsE [⟨13, [], fun vs => PW.val (.int .i64 x5), []⟩, ⟨18, [], fun vs => PW.val (.int .i64 x6), []⟩] [[], []] 3 rfl (by kernel_rfl) (by kernel_rfl) rfl ?_ ?_
      ·refine StepsE_cons rfl ?_ ?_
       ·intro w5 hB5
        refine DepsE_nil ?_
        refine ⟨_, rfl, ?_⟩
        refine WL_guard rfl rfl ?_
        refine WL_load ty3 h3 (hC4.keep.then hB5) rfl rfl (fun v2 h5 => ?_)
        obtain rfl := ro_int h5
        refine WL_nil ?_
        exact FinE_val (Below.refl _ _) rfl rfl ⟨rfl, rfl⟩
       refine StepsE_cons rfl ?_ ?_
       ·intro w5 hB5
        refine DepsE_nil ?_
        refine ⟨_, rfl, ?_⟩
        refine WL_guard rfl rfl ?_
        refine WL_load ty3 h4 (hC4.keep.then hB5) rfl rfl (fun v3 h6 => ?_)
        obtain rfl := ro_int h6
        refine WL_nil ?_
        exact FinE_val (Below.refl _ _) rfl rfl ⟨rfl, rfl⟩
       exact StepsE_nil
      intro w6 hB6
      refine AllE_cons rfl rfl rfl ?_
      rintro _ _ ⟨rfl, rfl⟩
      refine AllE_cons rfl rfl rfl ?_
      rintro _ _ ⟨rfl, rfl⟩
      refine AllE_nil ?_
      intro hn1 hb1
      have hC5 := hC4.grow hB6
      refine WA_takeG 19 rfl (by kernel_rfl) (by kernel_rfl) (by kernel_rfl) rfl rfl rfl (fl_lss rfl rfl) ?_
      refine WL_guard rfl rfl ?_
      refine WL_lss rfl rfl rfl ?_
      refine WL_nil ?_
      refine WA_takeG 20 rfl (by kernel_rfl) (by kernel_rfl) (by kernel_rfl) rfl rfl rfl (fl_pick_t rfl rfl) ?_
      refine WL_guard rfl rfl ?_
      refine WL_pick_t rfl rfl rfl ?_
      refine WL_nil ?_
      refine WA_tk 21 (by kernel_rfl) rfl rfl (fl_pick_f rfl rfl) ?_
      refine WL_pick_f rfl rfl rfl ?_
      refine WL_nil ?_
      refine WA_done (by kernel_rfl) ?_
      have hq2 := Option.some.inj hr2
      subst hq2
      refine nrm_sub (l' := [(0, u1), (3, (.int .i64 x1)), (31, (.bool (decide (x5 < x6))))]) ⟨rfl, rfl, rfl, trivial⟩ ?_
      exact ⟨(decide (x5 < x6)), rfl, rfl, (((Keep.of hB3).then hB4).then hB6).below, hC5⟩
     replace hr2 := ite_f hr2 hc3
     refine WA_sk 10 (by kernel_rfl) rfl rfl rfl rfl (by simp) rfl rfl ?_
     refine WA_sk 11 (by kernel_rfl) rfl rfl rfl rfl (by simp) rfl rfl ?_
     refine WA_sk 12 (by kernel_rfl) rfl rfl rfl rfl (by simp) rfl rfl ?_
     refine WA_sk 13 (by kernel_rfl) rfl rfl rfl rfl (by simp) rfl rfl ?_
     refine WA_sk 14 (by kernel_rfl) rfl rfl rfl rfl (by simp) rfl rfl ?_
     refine WA_sk 15 (by kernel_rfl) rfl rfl rfl rfl (by simp) rfl rfl ?_
     refine WA_sk 16 (by kernel_rfl) rfl rfl rfl rfl (by simp) rfl rfl ?_
     refine WA_sk 17 (by kernel_rfl) rfl rfl rfl rfl (by simp) rfl rfl ?_
     refine WA_sk 18 (by kernel_rfl) rfl rfl rfl rfl (by simp) rfl rfl ?_
     refine WA_sk 19 (by kernel_rfl) rfl rfl rfl rfl (by simp) rfl rfl ?_
     refine WA_takeG 20 rfl (by kernel_rfl) (by kernel_rfl) (by kernel_rfl) rfl rfl rfl (fl_pick_f rfl rfl) ?_
     refine WL_guard rfl rfl ?_
     refine WL_pick_f rfl rfl rfl ?_
     refine WL_nil ?_
     refine WA_tk 21 (by kernel_rfl) rfl rfl (fl_pick_f rfl rfl) ?_
     refine WL_pick_f rfl rfl rfl ?_
     refine WL_nil ?_
     refine WA_done (by kernel_rfl) ?_
     have hq3 := Option.some.inj hr2
     subst hq3
     refine nrm_sub (l' := [(0, u1), (3, (.int .i64 x1)), (31, (.bool false))]) ⟨rfl, rfl, rfl, trivial⟩ ?_
     exact ⟨false, rfl, rfl, ((Keep.of hB3).then hB4).below, hC4⟩
    rintro _ w2 ⟨x2, rfl, rfl, hB2, hC2⟩
    try dsimp only at hL1
    refine W_cond rfl (fun hc4 => ?_) (fun hc4 => ?_)
    ·replace hL1 := ite_t hL1 hc4
     refine W_seq_reg ?_
     refine WL_assign rfl rfl ?_
     refine WL_nil ?_
     refine W_ret ?_
     refine blk_ret ?_
     refine nrm_ret ?_
     refine nrm_ret ?_
     refine blk_ret ?_
     refine nrm_ret ?_
     refine nrm_ret ?_
     have hq4 := Option.some.inj hL1
     subst hq4
     dsimp only at hF
     have hq5 := Option.some.inj hF
     subst hq5
     refine fn_ret1 rfl rfl ?_
     exact ⟨_, rfl, bool_res hC2 _⟩
    replace hL1 := ite_f hL1 hc4
    refine W_skip ?_
    refine blk_normal ?_
    refine nrm_normal ?_
    refine W_reg ?_
    refine WL_move rfl rfl ?_
    refine WL_add rfl rfl rfl ?_
    refine WL_assign rfl rfl ?_
    refine WL_nil ?_
    refine nrm_sub (l' := [(0, u1), (3, (.int .i64 (w64 (x1 + 1))))]) ⟨rfl, rfl, trivial⟩ ?_
    exact ⟨k1, Nat.lt_succ_self _, w64 (x1 + 1), rfl, ((Keep.of hB1).then hB2).below, hC2, hL1⟩
   replace hL1 := ite_f hL1 hc1
   refine W_exit ?_
   refine nrm_exit ?_
   refine nrm_exit ?_
   refine blk_exit ?_
   have hq6 := Option.some.inj hL1
   subst hq6
   refine nrm_sub (l' := [(0, u1)]) ⟨rfl, trivial⟩ ?_
   exact ⟨rfl, rfl, (Keep.of hB1).below, hC1⟩
 rintro l3 _ w7 hs3 ⟨rfl, rfl, hB7, hC6⟩
 try dsimp only at hF
 refine nrm_sub' hs3 ?_
 clear hs3
 refine W_seq_reg ?_
 refine WL_move rfl rfl ?_
 refine WL_len Try.underlying28 g1 rfl rfl ?_
 refine WL_leq rfl rfl rfl ?_
 refine WL_assign rfl rfl ?_
 refine WL_nil ?_
 refine W_ret ?_
 have hq7 := Option.some.inj hF
 subst hq7
 refine fn_ret1 rfl rfl ?_
 exact ⟨_, rfl, bool_res hC6 _⟩

theorem c_S_IsKept {w0 : World} (a1 : (List Int)) (u1 : Value) (g1 : RO [] w0 u1 a1) (a2 : (Int × Int)) (rr : Bool) (hF : S.IsKept a1 a2 = some rr) :
 Calls Try.prog 12 [u1, (.agg #[(.int .i64 a2.1), (.int .i64 a2.2)])].toArray w0 fun e w' => ∃ v, e = .returned v ∧ Res w0 rr v w' := by
 refine calls_of_W Try.func12 rfl rfl ?_
 have hC0 := Ctx.start w0
 unfold S.IsKept at hF
 refine W_seq_reg ?_
 refine WL_boxK (cs := [(.int .i64 a2.1), (.int .i64 a2.2)]) hC0 rfl rfl rfl (fun b1 w1 hC1 hB1 hN1 => ?_)
 refine WL_assign rfl rfl ?_
 refine WL_nil ?_
 refine W_seq ?_
 obtain ⟨r1, hr1, hF⟩ := bind_some hF
 refine W_cut (fun l w => ∃ x1 : Bool, x1 = r1 ∧ l = [(0, u1), (3, (ptr b1 0)), (13, (.bool x1))] ∧ Below w1.heap.size w1 w ∧ Ctx [] w0 w [Item.box b1 [(.int .i64 a2.1), (.int .i64 a2.2)]]) ?_ ?_
 ·refine W_reg ?_
  refine WL_move rfl rfl ?_
  obtain ⟨x2, hr2, hr1⟩ := bind_some hr1
  refine WL_call Try.call36 rfl rfl (c_S_l18Times a1 u1 (g1.now hC1.keep) x2 hr2) ?_
  intro _ w3 hv1
  obtain ⟨rfl, hB3⟩ := res_bool hv1
  have hC3 := hC1.grow hB3
  refine WL_not rfl rfl ?_
  refine WL_move rfl rfl ?_
  refine WL_fork (fun hc1 => ?_) (fun hc1 => ?_)
  ·replace hr1 := ite_t hr1 hc1
   refine WL_guard_skip rfl rfl (by simp) rfl ?_
   refine WL_guard_skip rfl rfl (by simp) rfl ?_
   refine WL_guard_skip rfl rfl (by simp) rfl ?_
   refine WL_pick_t rfl rfl rfl ?_
   refine WL_nil ?_
   have hq1 := Option.some.inj hr1
   subst hq1
   refine nrm_sub (l' := [(0, u1), (3, (ptr b1 0)), (13, (.bool true))]) ⟨rfl, rfl, rfl, trivial⟩ ?_
   exact ⟨true, rfl, rfl, (Keep.of hB3).below, hC3⟩
  replace hr1 := ite_f hr1 hc1
  refine WL_guard rfl rfl ?_
  refine WL_load_box_agg [(.int .i64 a2.1), (.int .i64 a2.2)] hC3 0 rfl rfl rfl Try.isAgg25 Try.sizeOf25 rfl rfl ?_
  obtain ⟨x3, hr3, hr1⟩ := bind_some hr1
  refine WL_guard rfl rfl ?_
  refine WL_call Try.call20 rfl rfl (c_S_IsWindow (a2.1, a2.2) x3 hr3) ?_
  intro _ w4 hv2
  obtain ⟨rfl, hB4⟩ := res_bool hv2
  have hC4 := hC3.grow hB4
  refine WL_guard rfl rfl ?_
  refine WL_not rfl rfl ?_
  refine WL_pick_f rfl rfl rfl ?_
  refine WL_nil ?_
  have hq2 := Option.some.inj hr1
  subst hq2
  refine nrm_sub (l' := [(0, u1), (3, (ptr b1 0)), (13, (.bool (!x3)))]) ⟨rfl, rfl, rfl, trivial⟩ ?_
  exact ⟨(!x3), rfl, rfl, ((Keep.of hB3).then hB4).below, hC4⟩
 rintro _ w2 ⟨x1, rfl, rfl, hB2, hC2⟩
 try dsimp only at hF
 refine W_cond rfl (fun hc2 => ?_) (fun hc2 => ?_)
 ·replace hF := ite_t hF hc2
  refine W_seq_reg ?_
  refine WL_assign rfl rfl ?_
  refine WL_nil ?_
  refine W_ret ?_
  refine nrm_ret ?_
  have hq3 := Option.some.inj hF
  subst hq3
  refine fn_ret1 rfl rfl ?_
  exact ⟨_, rfl, bool_res hC2 _⟩
 replace hF := ite_f hF hc2
 refine W_skip ?_
 refine nrm_normal ?_
 refine W_seq ?_
 refine W_seq_reg ?_
 refine WL_assign rfl rfl ?_
 refine WL_nil ?_
 obtain ⟨r2, hr4, hF⟩ := bind_some hF
 refine W_norm (fun l w => .inl () = r2 ∧ l = [] ∧ Below w2.heap.size w2 w ∧ Ctx [] w0 w []) ?_ ?_
 ·refine W_block ?_
  refine W.sub (l' := [(0, u1), (3, (ptr b1 0)), (5, (.int .i64 0))]) ?_ ⟨rfl, rfl, rfl, trivial⟩
  refine W_loop (fun k l w => ∃ x4 : Int, l = [(0, u1), (3, (ptr b1 0)), (5, (.int .i64 x4))] ∧ Below w2.heap.size w2 w ∧ Ctx [] w0 w [Item.box b1 [(.int .i64 a2.1), (.int .i64 a2.2)]] ∧ S.IsKept_l1 a1 a2 k x4 = some r2) FUEL ⟨0, rfl, (Below.refl _ _), hC2, hr4⟩ ?_
  clear hr4
  rintro k1 _ w5 ⟨x4, rfl, hB5, hC5, hL1⟩
  cases k1 with
  | zero => rw [S.IsKept_l1] at hL1; cases hL1
  | succ k1 =>
   rw [S.IsKept_l1] at hL1
   refine W_seq ?_
   refine W_seq_reg ?_
   refine WL_move rfl rfl ?_
   refine WL_move rfl rfl ?_
   refine WL_len Try.underlying28 g1 rfl rfl ?_
   refine WL_lss rfl rfl rfl ?_
   refine WL_nil ?_
   refine W_cond rfl (fun hc3 => ?_) (fun hc3 => ?_)
   ·replace hL1 := ite_t hL1 hc3
    refine W_skip ?_
    refine nrm_normal ?_
    refine W_seq ?_
    refine W_block ?_
    refine W_seq ?_
    refine W_drawn 11 rfl hmix (fun w6 hB6 => ?_)
    have hC6 := hC5.grow hB6
    refine WA_tk 0 (by kernel_rfl) rfl rfl (fl_move rfl) ?_
    refine WL_move rfl rfl ?_
    refine WL_nil ?_
    refine WA_tk 1 (by kernel_rfl) rfl rfl (fl_move rfl) ?_
    refine WL_move rfl rfl ?_
    refine WL_nil ?_
    refine WA_tk 2 (by kernel_rfl) rfl rfl (fl_move rfl) ?_
    refine WL_move rfl rfl ?_
    refine WL_nil ?_
    obtain ⟨x5, hx1, hL1⟩ := bind_some hL1
    refine WA_tk 3 (by kernel_rfl) rfl rfl (fl_index Try.underlying28 ty3 g1 hx1 rfl rfl) ?_
    refine WL_index Try.underlying28 ty3 g1 hx1 rfl rfl rfl (fun b2 o1 h1 => ?_)
    refine WL_nil ?_
    refine WA_tk 5 (by kernel_rfl) rfl rfl (fl_field Try.underlying25 rfl rfl (fun w => ⟨_, Try.sizeOf3 w⟩) rfl) ?_
    refine WL_field Try.underlying25 rfl rfl (fun w => ⟨_, Try.sizeOf3 w⟩) rfl rfl ?_
    refine WL_nil ?_
    refine WA_tk 8 (by kernel_rfl) rfl rfl (fl_field Try.underlying25 rfl rfl (fun w => ⟨_, Try.sizeOf3 w⟩) rfl) ?_
    refine WL_field Try.underlying25 rfl rfl (fun w => ⟨_, Try.sizeOf3 w⟩) rfl rfl ?_
    refine WL_nil ?_
    obtain ⟨x6, hr5, hL1⟩ := bind_some hL1
    refine WA.sub (l' := [(0, u1), (3, (ptr b1 0)), (5, (.int .i64 x4)), (14, (.int .i64 x4)), (15, u1), (16, (.int .i64 (List.length a1 : Int))), (17, (.bool (decide (x4 < (List.length a1 : Int))))), (20, u1), (21, u1), (22, (.int .i64 x4)), (23, (ptr b2 o1)), (25, (ptr b1 0)), (28, (ptr b1 1))]) ?_ ⟨rfl, rfl, rfl, rfl, rfl, rfl, rfl, rfl, rfl, rfl, rfl, rfl, rfl, trivial⟩
    refine WA_postsE [⟨4, [], fun vs => PW.val (.int .i64 x5), []⟩, ⟨6, [], fun vs => PW.val (.int .i64 a2.1), []⟩, ⟨7, [], fun vs => PW.val (.int .i64 x6), []⟩, ⟨9, [], fun vs => PW.val (.int .i64 a2.2), []⟩] [[], [], [4, 6], []] 1 rfl (by kernel_rfl) (by kernel_rfl) rfl ?_ ?_
    ·refine StepsE_cons rfl ?_ ?_
     ·intro w9 hB8
      refine DepsE_nil ?_
      refine ⟨_, rfl, ?_⟩
      refine WL_load ty3 h1 (hC6.keep.then hB8) rfl rfl (fun v1 h2 => ?_)
      obtain rfl := ro_int h2
      refine WL_nil ?_
      exact FinE_val (Below.refl _ _) rfl rfl ⟨rfl, rfl⟩
     refine StepsE_cons rfl ?_ ?_
     ·intro w9 hB8
      refine DepsE_nil ?_
      refine ⟨_, rfl, ?_⟩
      refine WL_load_box (hC6.grow hB8) 0 rfl rfl Try.isAgg3 rfl rfl ?_
      refine WL_nil ?_
      exact FinE_val (Below.refl _ _) rfl rfl ⟨rfl, rfl⟩
     refine StepsE_cons rfl ?_ ?_
     ·intro w9 hB8
      refine DepsE_cons rfl rfl rfl ?_
      rintro _ _ ⟨rfl, rfl⟩ _
      refine DepsE_cons rfl rfl rfl ?_
      rintro _ _ ⟨rfl, rfl⟩ _
      refine DepsE_nil ?_
      refine ⟨_, rfl, ?_⟩
      refine WL_call Try.call11 rfl rfl (c_S_CallsIn a1 u1 (g1.now (hC6.keep.then hB8)) x5 a2.1 x6 hr5) ?_
      intro _ w7 hv3
      obtain ⟨rfl, hB7⟩ := res_int hv3
      refine WL_nil ?_
      exact FinE_val hB7 rfl rfl ⟨rfl, rfl⟩
     refine StepsE_cons rfl ?_ ?_
     ·intro w9 hB8
      refine DepsE_nil ?_
      refine ⟨_, rfl, ?_⟩
      refine WL_load_box (hC6.grow hB8) 0 rfl rfl Try.isAgg3 rfl rfl ?_
      refine WL_nil ?_
      exact FinE_val (Below.refl _ _) rfl rfl ⟨rfl, rfl⟩
     exact StepsE_nil
    intro w10 hB9
    refine AllE_cons rfl rfl rfl ?_
    rintro _ _ ⟨rfl, rfl⟩
    refine AllE_cons rfl rfl rfl ?_
    rintro _ _ ⟨rfl, rfl⟩
    refine AllE_cons rfl rfl rfl ?_
    rintro _ _ ⟨rfl, rfl⟩
    refine AllE_cons rfl rfl rfl ?_
    rintro _ _ ⟨rfl, rfl⟩
    refine AllE_nil ?_
    intro hn1 hb1
    have hC7 := hC6.grow hB9
    refine WA_tk 10 (by kernel_rfl) rfl rfl (fl_gtr rfl rfl) ?_
    refine WL_gtr rfl rfl rfl ?_
    refine WL_nil ?_
    refine WA_done (by kernel_rfl) ?_
    refine nrm_normal ?_
    refine W_cond rfl (fun hc4 => ?_) (fun hc4 => ?_)
    ·replace hL1 := ite_t hL1 hc4
     refine W_seq_reg ?_
     refine WL_assign rfl rfl ?_
     refine WL_nil ?_
     refine W_ret ?_
     refine blk_ret ?_
     refine nrm_ret ?_
     refine nrm_ret ?_
     refine blk_ret ?_
     refine nrm_ret ?_
     refine nrm_ret ?_
     have hq4 := Option.some.inj hL1
     subst hq4
     dsimp only at hF
     have hq5 := Option.some.inj hF
     subst hq5
     refine fn_ret1 rfl rfl ?_
     exact ⟨_, rfl, bool_res hC7 _⟩
    replace hL1 := ite_f hL1 hc4
    refine W_skip ?_
    refine blk_normal ?_
    refine nrm_normal ?_
    refine W_reg ?_
    refine WL_move rfl rfl ?_
    refine WL_add rfl rfl rfl ?_
    refine WL_assign rfl rfl ?_
    refine WL_nil ?_
    refine nrm_sub (l' := [(0, u1), (3, (ptr b1 0)), (5, (.int .i64 (w64 (x4 + 1))))]) ⟨rfl, rfl, rfl, trivial⟩ ?_
    exact ⟨k1, Nat.lt_succ_self _, w64 (x4 + 1), rfl, (((Keep.of hB5).then hB6).then hB9).below, hC7, hL1⟩
   replace hL1 := ite_f hL1 hc3
   refine W_exit ?_
   refine nrm_exit ?_
   refine nrm_exit ?_
   refine blk_exit ?_
   have hq6 := Option.some.inj hL1
   subst hq6
   have hC8 := hC5.h0
   refine nrm_sub (l' := []) trivial ?_
   exact ⟨rfl, rfl, (Keep.of hB5).below, hC8⟩
 rintro l3 _ w11 hs3 ⟨rfl, rfl, hB10, hC9⟩
 try dsimp only at hF
 refine nrm_sub' hs3 ?_
 clear hs3
 refine W_seq_reg ?_
 refine WL_assign rfl rfl ?_
 refine WL_nil ?_
 refine W_ret ?_
 have hq7 := Option.some.inj hF
 subst hq7
 refine fn_ret1 rfl rfl ?_
 exact ⟨_, rfl, bool_res hC9 _⟩

theorem c_S_NextTime {w0 : World} (a1 : (List Int)) (u1 : Value) (g1 : RO [] w0 u1 a1) (a2 : (Int × Int)) (a3 : Int) (rr : (Int × Bool)) (hF : S.NextTime a1 a2 a3 = some rr) :
 Calls Try.prog 15 [u1, (.agg #[(.int .i64 a2.1), (.int .i64 a2.2)]), (.int .i64 a3)].toArray w0 fun e w' => ∃ v, e = .returned v ∧ Res2 w0 rr.1 rr.2 v w' := by
 refine calls_of_W Try.func15 rfl rfl ?_
 have hC0 := Ctx.start w0
 unfold S.NextTime at hF
 refine W_seq_reg ?_
 refine WL_boxK (cs := [(.int .i64 a2.1), (.int .i64 a2.2)]) hC0 rfl rfl rfl (fun b1 w1 hC1 hB1 hN1 => ?_)
 refine WL_assign rfl rfl ?_
 refine WL_assign rfl rfl ?_
 refine WL_nil ?_
 refine W_seq ?_
 obtain ⟨r1, hr1, hF⟩ := bind_some hF
 refine W_cut (fun l w => ∃ x1 : Bool, x1 = r1 ∧ l = [(0, u1), (2, (.int .i64 a3)), (4, (ptr b1 0)), (17, (.bool x1))] ∧ Below w1.heap.size w1 w ∧ Ctx [] w0 w [Item.box b1 [(.int .i64 a2.1), (.int .i64 a2.2)]]) ?_ ?_
 ·refine W_reg ?_
  refine WL_move rfl rfl ?_
  refine WL_load_box_agg [(.int .i64 a2.1), (.int .i64 a2.2)] hC1 0 rfl rfl rfl Try.isAgg25 Try.sizeOf25 rfl rfl ?_
  obtain ⟨x2, hr2, hr1⟩ := bind_some hr1
  refine WL_call Try.call12 rfl rfl (c_S_IsKept a1 u1 (g1.now hC1.keep) (a2.1, a2.2) x2 hr2) ?_
  intro _ w3 hv1
  obtain ⟨rfl, hB3⟩ := res_bool hv1
  have hC3 := hC1.grow hB3
  refine WL_not rfl rfl ?_
  refine WL_move rfl rfl ?_
  refine WL_fork (fun hc1 => ?_) (fun hc1 => ?_)
  ·replace hr1 := ite_t hr1 hc1
   refine WL_guard_skip rfl rfl (by simp) rfl ?_
   refine WL_guard_skip rfl rfl (by simp) rfl ?_
   refine WL_guard_skip rfl rfl (by simp) rfl ?_
   refine WL_pick_t rfl rfl rfl ?_
   refine WL_nil ?_
   have hq1 := Option.some.inj hr1
   subst hq1
   refine nrm_sub (l' := [(0, u1), (2, (.int .i64 a3)), (4, (ptr b1 0)), (17, (.bool true))]) ⟨rfl, rfl, rfl, rfl, trivial⟩ ?_
   exact ⟨true, rfl, rfl, (Keep.of hB3).below, hC3⟩
  replace hr1 := ite_f hr1 hc1
  refine WL_guard rfl rfl ?_
  refine WL_move rfl rfl ?_
  obtain ⟨x3, hr3, hr1⟩ := bind_some hr1
  refine WL_guard rfl rfl ?_
  refine WL_call Try.call35 rfl rfl (c_S_l1In a3 0 10000 x3 hr3) ?_
  intro _ w4 hv2
  obtain ⟨rfl, hB4⟩ := res_bool hv2
  have hC4 := hC3.grow hB4
  refine WL_guard rfl rfl ?_
  refine WL_not rfl rfl ?_
  refine WL_pick_f rfl rfl rfl ?_
  refine WL_nil ?_
  have hq2 := Option.some.inj hr1
  subst hq2
  refine nrm_sub (l' := [(0, u1), (2, (.int .i64 a3)), (4, (ptr b1 0)), (17, (.bool (!x3)))]) ⟨rfl, rfl, rfl, rfl, trivial⟩ ?_
  exact ⟨(!x3), rfl, rfl, ((Keep.of hB3).then hB4).below, hC4⟩
 rintro _ w2 ⟨x1, rfl, rfl, hB2, hC2⟩
 try dsimp only at hF
 refine W_cond rfl (fun hc2 => ?_) (fun hc2 => ?_)
 ·replace hF := ite_t hF hc2
  refine W_seq_reg ?_
  refine WL_assign rfl rfl ?_
  refine WL_assign rfl rfl ?_
  refine WL_nil ?_
  refine W_ret ?_
  refine nrm_ret ?_
  have hq3 := Option.some.inj hF
  subst hq3
  refine fn_ret2 rfl rfl rfl ?_
  have hC5 := hC2.triv (bool_val (false))
  have hC6 := hC5.triv (int_val (0))
  exact ⟨_, rfl, res2_of hC6⟩
 replace hF := ite_f hF hc2
 refine W_skip ?_
 refine nrm_normal ?_
 refine W_seq_reg ?_
 refine WL_move rfl rfl ?_
 refine WL_assign rfl rfl ?_
 refine WL_nil ?_
 refine W_seq ?_
 refine W_seq_reg ?_
 refine WL_move rfl rfl ?_
 refine WL_len Try.underlying28 g1 rfl rfl ?_
 refine WL_gtr rfl rfl rfl ?_
 refine WL_nil ?_
 obtain ⟨r2, hr4, hF⟩ := bind_some hF
 refine W_norm (fun l w => ∃ x4 : Int, x4 = r2 ∧ l = [(0, u1), (4, (ptr b1 0)), (8, (.int .i64 x4))] ∧ Below w2.heap.size w2 w ∧ Ctx [] w0 w [Item.box b1 [(.int .i64 a2.1), (.int .i64 a2.2)]]) ?_ ?_
 ·refine W_cond rfl (fun hc3 => ?_) (fun hc3 => ?_)
  ·replace hr4 := ite_t hr4 hc3
   refine W_reg ?_
   refine WL_move rfl rfl ?_
   refine WL_move rfl rfl ?_
   refine WL_move rfl rfl ?_
   refine WL_len Try.underlying28 g1 rfl rfl ?_
   refine WL_sub rfl rfl rfl ?_
   obtain ⟨x5, hx1, hr4⟩ := bind_some hr4
   refine WL_index Try.underlying28 ty3 g1 hx1 rfl rfl rfl (fun b2 o1 h1 => ?_)
   refine WL_load ty3 h1 hC2.keep rfl rfl (fun v1 h2 => ?_)
   obtain rfl := ro_int h2
   refine WL_max rfl rfl rfl ?_
   refine WL_assign rfl rfl ?_
   refine WL_nil ?_
   have hq4 := Option.some.inj hr4
   subst hq4
   refine nrm_sub (l' := [(0, u1), (4, (ptr b1 0)), (8, (.int .i64 (if x5 > a3 then x5 else a3)))]) ⟨rfl, rfl, rfl, trivial⟩ ?_
   exact ⟨if x5 > a3 then x5 else a3, rfl, rfl, (Below.refl _ _), hC2⟩
  replace hr4 := ite_f hr4 hc3
  refine W_skip ?_
  have hq5 := Option.some.inj hr4
  subst hq5
  refine nrm_sub (l' := [(0, u1), (4, (ptr b1 0)), (8, (.int .i64 a3))]) ⟨rfl, rfl, rfl, trivial⟩ ?_
  exact ⟨a3, rfl, rfl, (Below.refl _ _), hC2⟩
 rintro l2 _ w5 hs2 ⟨x4, rfl, rfl, hB5, hC7⟩
 try dsimp only at hF
 refine nrm_sub' hs2 ?_
 clear hs2
 refine W_seq ?_
 refine W_seq_reg ?_
 refine WL_move rfl rfl ?_
 refine WL_len Try.underlying28 g1 rfl rfl ?_
 refine WL_field Try.underlying25 rfl rfl (fun w => ⟨_, Try.sizeOf3 w⟩) rfl rfl ?_
 refine WL_load_box hC7 0 rfl rfl Try.isAgg3 rfl rfl ?_
 refine WL_geq rfl rfl rfl ?_
 refine WL_nil ?_
 obtain ⟨r3, hr5, hF⟩ := bind_some hF
 refine W_norm (fun l w => ∃ x6 : Int, x6 = r3 ∧ l = [(8, (.int .i64 x6))] ∧ Below w5.heap.size w5 w ∧ Ctx [] w0 w []) ?_ ?_
 ·refine W_cond rfl (fun hc4 => ?_) (fun hc4 => ?_)
  ·replace hr5 := ite_t hr5 hc4
   refine W_drawn 14 rfl hmix (fun w7 hB7 => ?_)
   have hC9 := hC7.grow hB7
   refine WA_tk 0 (by kernel_rfl) rfl rfl (fl_move rfl) ?_
   refine WL_move rfl rfl ?_
   refine WL_nil ?_
   refine WA_tk 1 (by kernel_rfl) rfl rfl (fl_move rfl) ?_
   refine WL_move rfl rfl ?_
   refine WL_nil ?_
   refine WA_tk 2 (by kernel_rfl) rfl rfl (fl_move rfl) ?_
   refine WL_move rfl rfl ?_
   refine WL_nil ?_
   refine WA_tk 3 (by kernel_rfl) rfl rfl (fl_len Try.underlying28 g1 rfl) ?_
   refine WL_len Try.underlying28 g1 rfl rfl ?_
   refine WL_nil ?_
   refine WA_tk 4 (by kernel_rfl) rfl rfl (fl_field Try.underlying25 rfl rfl (fun w => ⟨_, Try.sizeOf3 w⟩) rfl) ?_
   refine WL_field Try.underlying25 rfl rfl (fun w => ⟨_, Try.sizeOf3 w⟩) rfl rfl ?_
   refine WL_nil ?_
   refine WA_tk 9 (by kernel_rfl) rfl rfl (fl_field Try.underlying25 rfl rfl (fun w => ⟨_, Try.sizeOf3 w⟩) rfl) ?_
   refine WL_field Try.underlying25 rfl rfl (fun w => ⟨_, Try.sizeOf3 w⟩) rfl rfl ?_
   refine WL_nil ?_
   obtain ⟨x7, hx2, hr5⟩ := bind_some hr5
   refine WA.sub (l' := [(0, u1), (4, (ptr b1 0)), (8, (.int .i64 x4)), (30, u1), (31, (.int .i64 (List.length a1 : Int))), (32, (ptr b1 1)), (33, (.int .i64 a2.2)), (34, (.bool (decide (a2.2 ≤ (List.length a1 : Int))))), (35, (.int .i64 x4)), (36, u1), (37, u1), (38, (.int .i64 (List.length a1 : Int))), (39, (ptr b1 1)), (44, (ptr b1 0))]) ?_ ⟨rfl, rfl, rfl, rfl, rfl, rfl, rfl, rfl, rfl, rfl, rfl, rfl, rfl, rfl, trivial⟩
   refine WA_postsE [⟨5, [], fun vs => PW.val (.int .i64 a2.2), []⟩, ⟨6, [], fun vs => PW.val (.int .i64 (w64 ((List.length a1 : Int) - a2.2))), []⟩, ⟨7, [], fun vs => PW.at [] w0 x7, []⟩, ⟨8, [], fun vs => PW.val (.int .i64 x7), []⟩, ⟨10, [], fun vs => PW.val (.int .i64 a2.1), []⟩] [[], [5], [6], [7], []] 3 rfl (by kernel_rfl) (by kernel_rfl) rfl ?_ ?_
   ·refine StepsE_cons rfl ?_ ?_
    ·intro w9 hB8
     refine DepsE_nil ?_
     refine ⟨_, rfl, ?_⟩
     refine WL_load_box (hC9.grow hB8) 0 rfl rfl Try.isAgg3 rfl rfl ?_
     refine WL_nil ?_
     exact FinE_val (Below.refl _ _) rfl rfl ⟨rfl, rfl⟩
    refine StepsE_cons rfl ?_ ?_
    ·intro w9 hB8
     refine DepsE_cons rfl rfl rfl ?_
     rintro _ _ ⟨rfl, rfl⟩ _
     refine DepsE_nil ?_
     refine ⟨_, rfl, ?_⟩
     refine WL_sub rfl rfl rfl ?_
     refine WL_nil ?_
     exact FinE_val (Below.refl _ _) rfl rfl ⟨rfl, rfl⟩
    refine StepsE_cons rfl ?_ ?_
    ·intro w9 hB8
     refine DepsE_cons rfl rfl rfl ?_
     rintro _ _ ⟨rfl, rfl⟩ _
     refine DepsE_nil ?_
     refine ⟨_, rfl, ?_⟩
     refine WL_index Try.underlying28 ty3 g1 hx2 rfl rfl rfl (fun b3 o2 h3 => ?_)
     refine WL_nil ?_
     exact FinE_val (Below.refl _ _) rfl rfl ⟨rfl, _, _, rfl, h3⟩
    refine StepsE_cons rfl ?_ ?_
    ·intro w9 hB8
     refine DepsE_cons rfl rfl rfl ?_
     rintro _ _ ⟨rfl, b3, o2, rfl, h3⟩ _
     refine DepsE_nil ?_
     refine ⟨_, rfl, ?_⟩
     refine WL_load ty3 h3 (hC9.keep.then hB8) rfl rfl (fun v2 h4 => ?_)
     obtain rfl := ro_int h4
     refine WL_nil ?_
     exact FinE_val (Below.refl _ _) rfl rfl ⟨rfl, rfl⟩
    refine StepsE_cons rfl ?_ ?_
    ·intro w9 hB8
     refine DepsE_nil ?_
     refine ⟨_, rfl, ?_⟩
     refine WL_load_box (hC9.grow hB8) 0 rfl rfl Try.isAgg3 rfl rfl ?_
     refine WL_nil ?_
     exact FinE_val (Below.refl _ _) rfl rfl ⟨rfl, rfl⟩
    exact StepsE_nil
   intro w10 hB9
   refine AllE_cons rfl rfl rfl ?_
   rintro _ _ ⟨rfl, rfl⟩
   refine AllE_cons rfl rfl rfl ?_
   rintro _ _ ⟨rfl, rfl⟩
   refine AllE_cons rfl rfl rfl ?_
   rintro _ _ ⟨rfl, b3, o2, rfl, h3⟩
   refine AllE_cons rfl rfl rfl ?_
   rintro _ _ ⟨rfl, rfl⟩
   refine AllE_cons rfl rfl rfl ?_
   rintro _ _ ⟨rfl, rfl⟩
   refine AllE_nil ?_
   intro hn1 hb1
   have hC10 := hC9.grow hB9
   refine WA_tk 11 (by kernel_rfl) rfl rfl (fl_add rfl rfl) ?_
   refine WL_add rfl rfl rfl ?_
   refine WL_nil ?_
   refine WA_tk 12 (by kernel_rfl) rfl rfl (fl_max rfl rfl) ?_
   refine WL_max rfl rfl rfl ?_
   refine WL_nil ?_
   refine WA_tk 13 (by kernel_rfl) rfl rfl (fl_assign rfl) ?_
   refine WL_assign rfl rfl ?_
   refine WL_nil ?_
   refine WA_done (by kernel_rfl) ?_
   have hq6 := Option.some.inj hr5
   subst hq6
   have hC11 := hC10.h0
   refine nrm_sub (l' := [(8, (.int .i64 (if (w64 (x7 + a2.1)) > x4 then w64 (x7 + a2.1) else x4)))]) ⟨rfl, trivial⟩ ?_
   exact ⟨if (w64 (x7 + a2.1)) > x4 then w64 (x7 + a2.1) else x4, rfl, rfl, ((Keep.of hB7).then hB9).below, hC11⟩
  replace hr5 := ite_f hr5 hc4
  refine W_skip ?_
  have hq7 := Option.some.inj hr5
  subst hq7
  have hC12 := hC7.h0
  refine nrm_sub (l' := [(8, (.int .i64 x4))]) ⟨rfl, trivial⟩ ?_
  exact ⟨x4, rfl, rfl, (Below.refl _ _), hC12⟩
 rintro l3 _ w6 hs3 ⟨x6, rfl, rfl, hB6, hC8⟩
 try dsimp only at hF
 refine nrm_sub' hs3 ?_
 clear hs3
 refine W_seq ?_
 refine W_seq_reg ?_
 refine WL_move rfl rfl ?_
 refine WL_gtr rfl rfl rfl ?_
 refine WL_nil ?_
 refine W_cond rfl (fun hc5 => ?_) (fun hc5 => ?_)
 ·replace hF := ite_t hF hc5
  refine W_seq_reg ?_
  refine WL_assign rfl rfl ?_
  refine WL_assign rfl rfl ?_
  refine WL_nil ?_
  refine W_ret ?_
  refine nrm_ret ?_
  have hq8 := Option.some.inj hF
  subst hq8
  refine fn_ret2 rfl rfl rfl ?_
  have hC13 := hC8.triv (bool_val (false))
  have hC14 := hC13.triv (int_val (0))
  exact ⟨_, rfl, res2_of hC14⟩
 replace hF := ite_f hF hc5
 refine W_skip ?_
 refine nrm_normal ?_
 refine W_seq_reg ?_
 refine WL_move rfl rfl ?_
 refine WL_assign rfl rfl ?_
 refine WL_assign rfl rfl ?_
 refine WL_nil ?_
 refine W_ret ?_
 have hq9 := Option.some.inj hF
 subst hq9
 refine fn_ret2 rfl rfl rfl ?_
 have hC15 := hC8.triv (bool_val (true))
 have hC16 := hC15.triv (int_val (x6))
 exact ⟨_, rfl, res2_of hC16⟩

theorem c_S_ScheduleCalls {w0 : World} (a1 : Int) (a2 : (Int × Int)) (a3 : Int) (rr : ((List Int) × Bool)) (hF : S.ScheduleCalls a1 a2 a3 = some rr) :
 Calls Try.prog 8 [(.int .i64 a1), (.agg #[(.int .i64 a2.1), (.int .i64 a2.2)]), (.int .i64 a3)].toArray w0 fun e w' => ∃ v, e = .returned v ∧ Res2 w0 rr.1 rr.2 v w' := by
 refine calls_of_W Try.func8 rfl rfl ?_
 have hC0 := Ctx.start w0
 unfold S.ScheduleCalls at hF
 refine W_seq_reg ?_
 refine WL_boxK (cs := [(.int .i64 a2.1), (.int .i64 a2.2)]) hC0 rfl rfl rfl (fun b1 w1 hC1 hB1 hN1 => ?_)
 refine WL_assign rfl rfl ?_
 refine WL_assign rfl rfl ?_
 refine WL_nil ?_
 refine W_seq_reg ?_
 refine WL_buildSlice (vs := []) hC1 Try.underlying28 ty3 rfl rfl rfl rfl (by simp) rfl rfl (fun b2 w2 hC2 hB2 => ?_)
 have hC3 := hC2.row0 (α := Int)
 have hC4 := hC3.front 1 rfl
 dsimp only [List.eraseIdx, List.cons_append, List.nil_append, List.append_nil] at hC4
 have hC5 : Ctx [] w0 w2 (Item.own (.slice (some ⟨b2, 0, none⟩) 0 0) (([] : List Int) : List Int) :: [Item.box b1 [(.int .i64 a2.1), (.int .i64 a2.2)]]) := hC4.rowOwn (by simp [maxLen])
 refine WL_assign rfl rfl ?_
 refine WL_nil ?_
 refine W_seq ?_
 obtain ⟨r1, hr1, hF⟩ := bind_some hF
 refine W_cut (fun l w => ∃ x1 : Bool, x1 = r1 ∧ l = [(0, (.int .i64 a1)), (2, (.int .i64 a3)), (4, (ptr b1 0)), (8, (.slice (some ⟨b2, 0, none⟩) 0 0)), (25, (.bool x1))] ∧ Below w2.heap.size w2 w ∧ Ctx [] w0 w [Item.own (.slice (some ⟨b2, 0, none⟩) 0 0) (([] : List Int) : (List Int)), Item.box b1 [(.int .i64 a2.1), (.int .i64 a2.2)]]) ?_ ?_
 ·refine W_reg ?_
  refine WL_move rfl rfl ?_
  obtain ⟨x2, hr2, hr1⟩ := bind_some hr1
  refine WL_call Try.call35 rfl rfl (c_S_l1In a1 0 100 x2 hr2) ?_
  intro _ w4 hv1
  obtain ⟨rfl, hB4⟩ := res_bool hv1
  have hC7 := hC5.grow hB4
  refine WL_not rfl rfl ?_
  refine WL_move rfl rfl ?_
  refine WL_fork (fun hc1 => ?_) (fun hc1 => ?_)
  ·replace hr1 := ite_t hr1 hc1
   refine WL_guard_skip rfl rfl (by simp) rfl ?_
   refine WL_guard_skip rfl rfl (by simp) rfl ?_
   refine WL_guard_skip rfl rfl (by simp) rfl ?_
   refine WL_pick_t rfl rfl rfl ?_
   refine WL_move rfl rfl ?_
   refine WL_guard_skip rfl rfl (by simp) rfl ?_
   refine WL_guard_skip rfl rfl (by simp) rfl ?_
   refine WL_guard_skip rfl rfl (by simp) rfl ?_
   refine WL_pick_t rfl rfl rfl ?_
   refine WL_nil ?_
   have hq1 := Option.some.inj hr1
   subst hq1
   refine nrm_sub (l' := [(0, (.int .i64 a1)), (2, (.int .i64 a3)), (4, (ptr b1 0)), (8, (.slice (some ⟨b2, 0, none⟩) 0 0)), (25, (.bool true))]) ⟨rfl, rfl, rfl, rfl, rfl, trivial⟩ ?_
   exact ⟨true, rfl, rfl, (Keep.of hB4).below, hC7⟩
  replace hr1 := ite_f hr1 hc1
  refine WL_guard rfl rfl ?_
  refine WL_load_box_agg [(.int .i64 a2.1), (.int .i64 a2.2)] hC7 1 rfl rfl rfl Try.isAgg25 Try.sizeOf25 rfl rfl ?_
  obtain ⟨x3, hr3, hr1⟩ := bind_some hr1
  refine WL_guard rfl rfl ?_
  refine WL_call Try.call20 rfl rfl (c_S_IsWindow (a2.1, a2.2) x3 hr3) ?_
  intro _ w5 hv2
  obtain ⟨rfl, hB5⟩ := res_bool hv2
  have hC8 := hC7.grow hB5
  refine WL_guard rfl rfl ?_
  refine WL_not rfl rfl ?_
  refine WL_pick_f rfl rfl rfl ?_
  refine WL_move rfl rfl ?_
  refine WL_fork (fun hc2 => ?_) (fun hc2 => ?_)
  ·replace hr1 := ite_t hr1 hc2
   refine WL_guard_skip rfl rfl (by simp) rfl ?_
   refine WL_guard_skip rfl rfl (by simp) rfl ?_
   refine WL_guard_skip rfl rfl (by simp) rfl ?_
   refine WL_pick_t rfl rfl rfl ?_
   refine WL_nil ?_
   have hq2 := Option.some.inj hr1
   subst hq2
   refine nrm_sub (l' := [(0, (.int .i64 a1)), (2, (.int .i64 a3)), (4, (ptr b1 0)), (8, (.slice (some ⟨b2, 0, none⟩) 0 0)), (25, (.bool true))]) ⟨rfl, rfl, rfl, rfl, rfl, trivial⟩ ?_
   exact ⟨true, rfl, rfl, ((Keep.of hB4).then hB5).below, hC8⟩
  replace hr1 := ite_f hr1 hc2
  refine WL_guard rfl rfl ?_
  refine WL_move rfl rfl ?_
  obtain ⟨x4, hr4, hr1⟩ := bind_some hr1
  refine WL_guard rfl rfl ?_
  refine WL_call Try.call35 rfl rfl (c_S_l1In a3 0 10000 x4 hr4) ?_
  intro _ w6 hv3
  obtain ⟨rfl, hB6⟩ := res_bool hv3
  have hC9 := hC8.grow hB6
  refine WL_guard rfl rfl ?_
  refine WL_not rfl rfl ?_
  refine WL_pick_f rfl rfl rfl ?_
  refine WL_nil ?_
  have hq3 := Option.some.inj hr1
  subst hq3
  refine nrm_sub (l' := [(0, (.int .i64 a1)), (2, (.int .i64 a3)), (4, (ptr b1 0)), (8, (.slice (some ⟨b2, 0, none⟩) 0 0)), (25, (.bool (!x4)))]) ⟨rfl, rfl, rfl, rfl, rfl, trivial⟩ ?_
  exact ⟨(!x4), rfl, rfl, (((Keep.of hB4).then hB5).then hB6).below, hC9⟩
 rintro _ w3 ⟨x1, rfl, rfl, hB3, hC6⟩
 try dsimp only at hF
 refine W_cond rfl (fun hc3 => ?_) (fun hc3 => ?_)
 ·replace hF := ite_t hF hc3
  refine W_seq_reg ?_
  refine WL_move rfl rfl ?_
  refine WL_assign rfl rfl ?_
  refine WL_assign rfl rfl ?_
  refine WL_nil ?_
  refine W_ret ?_
  refine nrm_ret ?_
  have hq4 := Option.some.inj hF
  subst hq4
  refine fn_ret2 rfl rfl rfl ?_
  have hC10 := hC6.triv (bool_val (false))
  have hC11 := hC10.f1
  exact ⟨_, rfl, res2_of hC11⟩
 replace hF := ite_f hF hc3
 refine W_skip ?_
 refine nrm_normal ?_
 refine W_seq ?_
 refine W_seq_reg ?_
 refine WL_assign rfl rfl ?_
 refine WL_nil ?_
 obtain ⟨r2, hr5, hF⟩ := bind_some hF
 refine W_norm (fun l w => ∃ v2 : Value, ∃ x7 : (List Int), .inl x7 = r2 ∧ l = [(8, v2)] ∧ Ctx [] w0 w [Item.own v2 (x7 : (List Int))]) ?_ ?_
 ·refine W_block ?_
  refine W.sub (l' := [(0, (.int .i64 a1)), (2, (.int .i64 a3)), (4, (ptr b1 0)), (8, (.slice (some ⟨b2, 0, none⟩) 0 0)), (9, (.int .i64 0))]) ?_ ⟨rfl, rfl, rfl, rfl, rfl, trivial⟩
  refine W_loop (fun k l w => ∃ v1 : Value, ∃ x5 : (List Int), ∃ x6 : Int, l = [(0, (.int .i64 a1)), (2, (.int .i64 a3)), (4, (ptr b1 0)), (8, v1), (9, (.int .i64 x6))] ∧ Ctx [] w0 w [Item.own v1 (x5 : (List Int)), Item.box b1 [(.int .i64 a2.1), (.int .i64 a2.2)]] ∧ S.ScheduleCalls_l1 a1 a2 a3 k x5 x6 = some r2) FUEL ⟨(.slice (some ⟨b2, 0, none⟩) 0 0), ([] : List Int), 0, rfl, hC6, hr5⟩ ?_
  clear hr5
  rintro k1 _ w7 ⟨v1, x5, x6, rfl, hC12, hL1⟩
  cases k1 with
  | zero => rw [S.ScheduleCalls_l1] at hL1; cases hL1
  | succ k1 =>
   rw [S.ScheduleCalls_l1] at hL1
   refine W_seq ?_
   refine W_seq_reg ?_
   refine WL_move rfl rfl ?_
   refine WL_move rfl rfl ?_
   refine WL_lss rfl rfl rfl ?_
   refine WL_nil ?_
   refine W_cond rfl (fun hc4 => ?_) (fun hc4 => ?_)
   ·replace hL1 := ite_t hL1 hc4
    refine W_skip ?_
    refine nrm_normal ?_
    refine W_seq ?_
    refine W_block ?_
    refine W_seq_reg ?_
    refine WL_move rfl rfl ?_
    refine WL_load_box_agg [(.int .i64 a2.1), (.int .i64 a2.2)] hC12 1 rfl rfl rfl Try.isAgg25 Try.sizeOf25 rfl rfl ?_
    refine WL_move rfl rfl ?_
    obtain ⟨x8, hr6, hL1⟩ := bind_some hL1
    refine WL_call Try.call15 rfl rfl (c_S_NextTime x5 v1 ((hC12.ro 0 rfl).now (Keep.refl _ _)) (a2.1, a2.2) a3 x8 hr6) ?_
    rintro _ w9 ⟨hB8, v3, v4, F1, F2, rfl, hv4, hv5, hn1, hb1⟩
    obtain ⟨rfl, rfl⟩ := val_int hv4
    obtain ⟨rfl, rfl⟩ := val_bool hv5
    have hC13 := hC12.grow hB8
    refine WL_move rfl rfl ?_
    refine WL_extract rfl rfl rfl ?_
    refine WL_extract rfl rfl rfl ?_
    refine WL_assign rfl rfl ?_
    refine WL_assign rfl rfl ?_
    refine WL_nil ?_
    refine W_seq ?_
    refine W_seq_reg ?_
    refine WL_move rfl rfl ?_
    refine WL_not rfl rfl ?_
    refine WL_nil ?_
    refine W_cond rfl (fun hc5 => ?_) (fun hc5 => ?_)
    ·replace hL1 := ite_t hL1 hc5
     refine W_seq_reg ?_
     refine WL_buildSlice (vs := []) hC13 Try.underlying28 ty3 rfl rfl rfl rfl (by simp) rfl rfl (fun b3 w10 hC14 hB9 => ?_)
     have hC15 := hC14.row0 (α := Int)
     have hC16 := hC15.front 1 rfl
     dsimp only [List.eraseIdx, List.cons_append, List.nil_append, List.append_nil] at hC16
     have hC17 : Ctx [] w0 w10 (Item.own (.slice (some ⟨b3, 0, none⟩) 0 0) (([] : List Int) : List Int) :: [Item.own v1 (x5 : (List Int)), Item.box b1 [(.int .i64 a2.1), (.int .i64 a2.2)]]) := hC16.rowOwn (by simp [maxLen])
     refine WL_assign rfl rfl ?_
     refine WL_assign rfl rfl ?_
     refine WL_nil ?_
     refine W_ret ?_
     refine nrm_ret ?_
     refine blk_ret ?_
     refine nrm_ret ?_
     refine nrm_ret ?_
     refine blk_ret ?_
     refine nrm_ret ?_
     refine nrm_ret ?_
     have hq5 := Option.some.inj hL1
     subst hq5
     dsimp only at hF
     have hq6 := Option.some.inj hF
     subst hq6
     refine fn_ret2 rfl rfl rfl ?_
     have hC18 := hC17.triv (bool_val (false))
     have hC19 := hC18.f1
     exact ⟨_, rfl, res2_of hC19⟩
    replace hL1 := ite_f hL1 hc5
    refine W_skip ?_
    refine nrm_normal ?_
    refine W_reg ?_
    refine WL_move rfl rfl ?_
    refine WL_move rfl rfl ?_
    refine WL_buildSlice (vs := [(.int .i64 x8.1)]) hC13 Try.underlying28 ty3 rfl rfl rfl rfl (by intro v hv; simp only [List.mem_cons, List.not_mem_nil, or_false] at hv; rcases hv with rfl <;> rfl) rfl rfl (fun b4 w11 hC20 hB10 => ?_)
    have hC21 := hC20.row0 (α := Int)
    have hC22 := hC21.triv (int_val (x8.1))
    have hC23 := hC22.row1
    have hC24 := hC23.front 1 rfl
    dsimp only [List.eraseIdx, List.cons_append, List.nil_append, List.append_nil] at hC24
    have hC25 : Ctx [] w0 w11 (Item.own (.slice (some ⟨b4, 0, none⟩) 1 1) ([x8.1] : List Int) :: [Item.own v1 (x5 : (List Int)), Item.box b1 [(.int .i64 a2.1), (.int .i64 a2.2)]]) := hC24.rowOwn (by simp [maxLen])
    obtain ⟨x9, hx1, hL1⟩ := bind_some hL1
    refine WL_append_flat (α := Int) hC25 1 rfl (hC25.ro 0 rfl) (Keep.refl _ _) Try.underlying28 ty3 rfl hx1 rfl rfl rfl (fun v5 w12 hC26 => ?_)
    try dsimp only [List.set] at hC26
    refine WL_assign rfl rfl ?_
    refine WL_nil ?_
    refine blk_normal ?_
    refine nrm_normal ?_
    refine W_reg ?_
    refine WL_move rfl rfl ?_
    refine WL_add rfl rfl rfl ?_
    refine WL_assign rfl rfl ?_
    refine WL_nil ?_
    have hC27 := hC26.f2
    have hC28 := hC27.f2
    have hC29 := hC28.h2
    refine nrm_sub (l' := [(0, (.int .i64 a1)), (2, (.int .i64 a3)), (4, (ptr b1 0)), (8, v5), (9, (.int .i64 (w64 (x6 + 1))))]) ⟨rfl, rfl, rfl, rfl, rfl, trivial⟩ ?_
    exact ⟨k1, Nat.lt_succ_self _, v5, x9, w64 (x6 + 1), rfl, hC29, hL1⟩
   replace hL1 := ite_f hL1 hc4
   refine W_exit ?_
   refine nrm_exit ?_
   refine nrm_exit ?_
   refine blk_exit ?_
   have hq7 := Option.some.inj hL1
   subst hq7
   have hC30 := hC12.h1
   refine nrm_sub (l' := [(8, v1)]) ⟨rfl, trivial⟩ ?_
   exact ⟨v1, x5, rfl, rfl, hC30⟩
 rintro l3 _ w13 hs3 ⟨v2, x7, rfl, rfl, hC31⟩
 try dsimp only at hF
 refine nrm_sub' hs3 ?_
 clear hs3
 refine W_seq_reg ?_
 refine WL_move rfl rfl ?_
 refine WL_assign rfl rfl ?_
 refine WL_assign rfl rfl ?_
 refine WL_nil ?_
 refine W_ret ?_
 have hq8 := Option.some.inj hF
 subst hq8
 refine fn_ret2 rfl rfl rfl ?_
 have hC32 := hC31.triv (bool_val (true))
 have hC33 := hC32.f1
 exact ⟨_, rfl, res2_of hC33⟩

theorem c_Q_sameInts {w0 : World} (a1 : (List Int)) (u1 : Value) (g1 : RO [] w0 u1 a1) (a2 : (List Int)) (u2 : Value) (g2 : RO [] w0 u2 a2) (rr : Bool) (hF : Q.sameInts a1 a2 = some rr) :
 Calls Try.prog 9 [u1, u2].toArray w0 fun e w' => ∃ v, e = .returned v ∧ Res w0 rr v w' := by
 refine calls_of_W Try.func9 rfl rfl ?_
 have hC0 := Ctx.start w0
 unfold Q.sameInts at hF
 refine W_seq_reg ?_
 refine WL_assign rfl rfl ?_
 refine WL_nil ?_
 refine W_seq ?_
 refine W_seq_reg ?_
 refine WL_move rfl rfl ?_
 refine WL_len Try.underlying28 g1 rfl rfl ?_
 refine WL_move rfl rfl ?_
 refine WL_len Try.underlying28 g2 rfl rfl ?_
 refine WL_neq rfl rfl rfl ?_
 refine WL_nil ?_
 refine W_cond rfl (fun hc1 => ?_) (fun hc1 => ?_)
 ·replace hF := ite_t hF hc1
  refine W_seq_reg ?_
  refine WL_assign rfl rfl ?_
  refine WL_nil ?_
  refine W_ret ?_
  refine nrm_ret ?_
  have hq1 := Option.some.inj hF
  subst hq1
  refine fn_ret1 rfl rfl ?_
  exact ⟨_, rfl, bool_res hC0 _⟩
 replace hF := ite_f hF hc1
 refine W_skip ?_
 refine nrm_normal ?_
 refine W_seq ?_
 refine W_seq_reg ?_
 refine WL_assign rfl rfl ?_
 refine WL_nil ?_
 obtain ⟨r1, hr1, hF⟩ := bind_some hF
 refine W_norm (fun l w => .inl () = r1 ∧ l = [] ∧ Below w0.heap.size w0 w ∧ Ctx [] w0 w []) ?_ ?_
 ·refine W_block ?_
  refine W.sub (l' := [(0, u1), (1, u2), (5, (.int .i64 0))]) ?_ ⟨rfl, rfl, rfl, trivial⟩
  refine W_loop (fun k l w => ∃ x1 : Int, l = [(0, u1), (1, u2), (5, (.int .i64 x1))] ∧ Below w0.heap.size w0 w ∧ Ctx [] w0 w [] ∧ Q.sameInts_l1 a1 a2 k x1 = some r1) FUEL ⟨0, rfl, (Below.refl _ _), hC0, hr1⟩ ?_
  clear hr1
  rintro k1 _ w1 ⟨x1, rfl, hB1, hC1, hL1⟩
  cases k1 with
  | zero => rw [Q.sameInts_l1] at hL1; cases hL1
  | succ k1 =>
   rw [Q.sameInts_l1] at hL1
   refine W_seq ?_
   refine W_seq_reg ?_
   refine WL_move rfl rfl ?_
   refine WL_move rfl rfl ?_
   refine WL_len Try.underlying28 g1 rfl rfl ?_
   refine WL_lss rfl rfl rfl ?_
   refine WL_nil ?_
   refine W_cond rfl (fun hc2 => ?_) (fun hc2 => ?_)
   ·replace hL1 := ite_t hL1 hc2
    refine W_skip ?_
    refine nrm_normal ?_
    refine W_seq ?_
    refine W_block ?_
    refine W_seq ?_
    refine W_drawn 9 rfl hmix (fun w2 hB2 => ?_)
    have hC2 := hC1.grow hB2
    refine WA_tk 0 (by kernel_rfl) rfl rfl (fl_move rfl) ?_
    refine WL_move rfl rfl ?_
    refine WL_nil ?_
    refine WA_tk 1 (by kernel_rfl) rfl rfl (fl_move rfl) ?_
    refine WL_move rfl rfl ?_
    refine WL_nil ?_
    obtain ⟨x2, hx1, hL1⟩ := bind_some hL1
    refine WA_tk 2 (by kernel_rfl) rfl rfl (fl_index Try.underlying28 ty3 g1 hx1 rfl rfl) ?_
    refine WL_index Try.underlying28 ty3 g1 hx1 rfl rfl rfl (fun b1 o1 h1 => ?_)
    refine WL_nil ?_
    refine WA_tk 4 (by kernel_rfl) rfl rfl (fl_move rfl) ?_
    refine WL_move rfl rfl ?_
    refine WL_nil ?_
    refine WA_tk 5 (by kernel_rfl) rfl rfl (fl_move rfl) ?_
    refine WL_move rfl rfl ?_
    refine WL_nil ?_
    obtain ⟨x3, hx2, hL1⟩ := bind_some hL1
    refine WA_tk 6 (by kernel_rfl) rfl rfl (fl_index Try.underlying28 ty3 g2 hx2 rfl rfl) ?_
    refine WL_index Try.underlying28 ty3 g2 hx2 rfl rfl rfl (fun b2 o2 h2 => ?_)
    refine WL_nil ?_
    refine WA.sub (l' := [(0, u1), (1, u2), (5, (.int .i64 x1)), (11, (.int .i64 x1)), (12, u1), (13, (.int .i64 (List.length a1 : Int))), (14, (.bool (decide (x1 < (List.length a1 : Int))))), (17, u1), (18, (.int .i64 x1)), (19, (ptr b1 o1)), (21, u2), (22, (.int .i64 x1)), (23, (ptr b2 o2))]) ?_ ⟨rfl, rfl, rfl, rfl, rfl, rfl, rfl, rfl, rfl, rfl, rfl, rfl, rfl, trivial⟩
    refine WA_postsE [⟨3, [], fun vs => PW.val (.int .i64 x2), []⟩, ⟨7, [], fun vs => PW.val (.int .i64 x3), []⟩] [[], []] 1 rfl (by kernel_rfl) (by kernel_rfl) rfl ?_ ?_
    ·refine StepsE_cons rfl ?_ ?_
     ·intro w3 hB3
      refine DepsE_nil ?_
      refine ⟨_, rfl, ?_⟩
      refine WL_load ty3 h1 (hC2.keep.then hB3) rfl rfl (fun v1 h3 => ?_)
      obtain rfl := ro_int h3
      refine WL_nil ?_
      exact FinE_val (Below.refl _ _) rfl rfl ⟨rfl, rfl⟩
     refine StepsE_cons rfl ?_ ?_
     ·intro w3 hB3
      refine DepsE_nil ?_
      refine ⟨_, rfl, ?_⟩
      refine WL_load ty3 h2 (hC2.keep.then hB3) rfl rfl (fun v2 h4 => ?_)
      obtain rfl := ro_int h4
      refine WL_nil ?_
      exact FinE_val (Below.refl _ _) rfl rfl ⟨rfl, rfl⟩
     exact StepsE_nil
    intro w4 hB4
    refine AllE_cons rfl rfl rfl ?_
    rintro _ _ ⟨rfl, rfl⟩
    refine AllE_cons rfl rfl rfl ?_
    rintro _ _ ⟨rfl, rfl⟩
    refine AllE_nil ?_
    intro hn1 hb1
    have hC3 := hC2.grow hB4
    refine WA_tk 8 (by kernel_rfl) rfl rfl (fl_neq rfl rfl) ?_
    refine WL_neq rfl rfl rfl ?_
    refine WL_nil ?_
    refine WA_done (by kernel_rfl) ?_
    refine nrm_normal ?_
    refine W_cond rfl (fun hc3 => ?_) (fun hc3 => ?_)
    ·replace hL1 := ite_t hL1 hc3
     refine W_seq_reg ?_
     refine WL_assign rfl rfl ?_
     refine WL_nil ?_
     refine W_ret ?_
     refine blk_ret ?_
     refine nrm_ret ?_
     refine nrm_ret ?_
     refine blk_ret ?_
     refine nrm_ret ?_
     refine nrm_ret ?_
     have hq2 := Option.some.inj hL1
     subst hq2
     dsimp only at hF
     have hq3 := Option.some.inj hF
     subst hq3
     refine fn_ret1 rfl rfl ?_
     exact ⟨_, rfl, bool_res hC3 _⟩
    replace hL1 := ite_f hL1 hc3
    refine W_skip ?_
    refine blk_normal ?_
    refine nrm_normal ?_
    refine W_reg ?_
    refine WL_move rfl rfl ?_
    refine WL_add rfl rfl rfl ?_
    refine WL_assign rfl rfl ?_
    refine WL_nil ?_
    refine nrm_sub (l' := [(0, u1), (1, u2), (5, (.int .i64 (w64 (x1 + 1))))]) ⟨rfl, rfl, rfl, trivial⟩ ?_
    exact ⟨k1, Nat.lt_succ_self _, w64 (x1 + 1), rfl, (((Keep.of hB1).then hB2).then hB4).below, hC3, hL1⟩
   replace hL1 := ite_f hL1 hc2
   refine W_exit ?_
   refine nrm_exit ?_
   refine nrm_exit ?_
   refine blk_exit ?_
   have hq4 := Option.some.inj hL1
   subst hq4
   refine nrm_sub (l' := []) trivial ?_
   exact ⟨rfl, rfl, (Keep.of hB1).below, hC1⟩
 rintro l2 _ w5 hs2 ⟨rfl, rfl, hB5, hC4⟩
 try dsimp only at hF
 refine nrm_sub' hs2 ?_
 clear hs2
 refine W_seq_reg ?_
 refine WL_assign rfl rfl ?_
 refine WL_nil ?_
 refine W_ret ?_
 have hq5 := Option.some.inj hF
 subst hq5
 refine fn_ret1 rfl rfl ?_
 exact ⟨_, rfl, bool_res hC4 _⟩

theorem c_M_bit {w0 : World} (a1 : Bool) (rr : Int) (hF : M.bit a1 = some rr) :
 Calls Try.prog 38 [(.bool a1)].toArray w0 fun e w' => ∃ v, e = .returned v ∧ Res w0 rr v w' := by
 refine calls_of_W Try.func38 rfl rfl ?_
 have hC0 := Ctx.start w0
 unfold M.bit at hF
 refine W_seq_reg ?_
 refine WL_assign rfl rfl ?_
 refine WL_nil ?_
 refine W_seq ?_
 refine W_seq_reg ?_
 refine WL_move rfl rfl ?_
 refine WL_nil ?_
 refine W_cond rfl (fun hc1 => ?_) (fun hc1 => ?_)
 ·replace hF := ite_t hF hc1
  refine W_seq_reg ?_
  refine WL_assign rfl rfl ?_
  refine WL_nil ?_
  refine W_ret ?_
  refine nrm_ret ?_
  have hq1 := Option.some.inj hF
  subst hq1
  refine fn_ret1 rfl rfl ?_
  exact ⟨_, rfl, int_res hC0 _⟩
 replace hF := ite_f hF hc1
 refine W_skip ?_
 refine nrm_normal ?_
 refine W_seq_reg ?_
 refine WL_assign rfl rfl ?_
 refine WL_nil ?_
 refine W_ret ?_
 have hq2 := Option.some.inj hF
 subst hq2
 refine fn_ret1 rfl rfl ?_
 exact ⟨_, rfl, int_res hC0 _⟩

theorem c_M_CallsIn {w0 : World} (a1 : (List Int)) (u1 : Value) (g1 : RO [] w0 u1 a1) (a2 : Int) (a3 : Int) (rr : Int) (hF : M.CallsIn a1 a2 a3 = some rr) :
 Calls Try.prog 18 [u1, (.int .i64 a2), (.int .i64 a3)].toArray w0 fun e w' => ∃ v, e = .returned v ∧ Res w0 rr v w' := by
 refine calls_of_W Try.func18 rfl rfl ?_
 have hC0 := Ctx.start w0
 unfold M.CallsIn at hF
 refine W_seq_reg ?_
 refine WL_assign rfl rfl ?_
 refine WL_nil ?_
 refine W_seq_reg ?_
 refine WL_assign rfl rfl ?_
 refine WL_nil ?_
 refine W_seq ?_
 refine W_seq_reg ?_
 refine WL_move rfl rfl ?_
 refine WL_len Try.underlying28 g1 rfl rfl ?_
 refine WL_move rfl rfl ?_
 refine WL_nil ?_
 obtain ⟨r1, hr1, hF⟩ := bind_some hF
 refine W_norm (fun l w => ∃ x3 : Int, x3 = r1 ∧ l = [(7, (.int .i64 x3))] ∧ Below w0.heap.size w0 w ∧ Ctx [] w0 w []) ?_ ?_
 ·refine W_block ?_
  refine W.sub (l' := [(1, (.int .i64 a2)), (2, (.int .i64 a3)), (7, (.int .i64 0)), (10, u1), (11, (.int .i64 (List.length a1 : Int))), (12, (.int .i64 0))]) ?_ ⟨rfl, rfl, rfl, rfl, rfl, rfl, trivial⟩
  refine W_loop (fun k l w => ∃ x1 : Int, ∃ x2 : Int, l = [(1, (.int .i64 a2)), (2, (.int .i64 a3)), (7, (.int .i64 x1)), (10, u1), (11, (.int .i64 (List.length a1 : Int))), (12, (.int .i64 x2))] ∧ Below w0.heap.size w0 w ∧ Ctx [] w0 w [] ∧ M.CallsIn_l1 a1 a2 a3 k x1 x2 = some r1) FUEL ⟨0, 0, rfl, (Below.refl _ _), hC0, hr1⟩ ?_
  clear hr1
  rintro k1 _ w1 ⟨x1, x2, rfl, hB1, hC1, hL1⟩
  cases k1 with
  | zero => rw [M.CallsIn_l1] at hL1; cases hL1
  | succ k1 =>
   rw [M.CallsIn_l1] at hL1
   refine W_seq_reg ?_
   refine WL_lss rfl rfl rfl ?_
   refine WL_nil ?_
   refine W_seq ?_
   refine W_cond rfl (fun hc1 => ?_) (fun hc1 => ?_)
   ·replace hL1 := ite_t hL1 hc1
    refine W_skip ?_
    refine nrm_normal ?_
    refine W_seq ?_
    refine W_block ?_
    refine W_seq_reg ?_
    obtain ⟨x4, hx1, hL1⟩ := bind_some hL1
    refine WL_index Try.underlying28 ty3 g1 hx1 rfl rfl rfl (fun b1 o1 h1 => ?_)
    refine WL_load ty3 h1 hC1.keep rfl rfl (fun v1 h2 => ?_)
    obtain rfl := ro_int h2
    refine WL_assign rfl rfl ?_
    refine WL_nil ?_
    obtain ⟨r2, hr2, hL1⟩ := bind_some hL1
    refine W_norm (fun l w => ∃ x5 : Int, x5 = r2 ∧ l = [(1, (.int .i64 a2)), (2, (.int .i64 a3)), (7, (.int .i64 x5)), (10, u1), (11, (.int .i64 (List.length a1 : Int))), (12, (.int .i64 x2))] ∧ Below w1.heap.size w1 w ∧ Ctx [] w0 w []) ?_ ?_
    ·refine W_reg ?_
     refine WL_move rfl rfl ?_
     refine WL_move rfl rfl ?_
     refine WL_geq rfl rfl rfl ?_
     refine WL_move rfl rfl ?_
     refine WL_fork (fun hc2 => ?_) (fun hc2 => ?_)
     ·replace hr2 := ite_t hr2 hc2
      refine WL_guard rfl rfl ?_
      refine WL_move rfl rfl ?_
      refine WL_guard rfl rfl ?_
      refine WL_move rfl rfl ?_
      refine WL_guard rfl rfl ?_
      refine WL_geq rfl rfl rfl ?_
      refine WL_pick_t rfl rfl rfl ?_
      refine WL_move rfl rfl ?_
      refine WL_fork (fun hc3 => ?_) (fun hc3 => ?_)
      ·replace hr2 := ite_t hr2 hc3
       refine WL_guard rfl rfl ?_
       refine WL_move rfl rfl ?_
       refine WL_guard rfl rfl ?_
       refine WL_move rfl rfl ?_
       refine WL_guard rfl rfl ?_
       refine WL_sub rfl rfl rfl ?_
       refine WL_guard rfl rfl ?_
       refine WL_move rfl rfl ?_
       refine WL_guard rfl rfl ?_
       refine WL_lss rfl rfl rfl ?_
       refine WL_pick_t rfl rfl rfl ?_
       obtain ⟨x6, hr3, hr2⟩ := bind_some hr2
       refine WL_call Try.call38 rfl rfl (c_M_bit (decide ((w64 (x4 - a2)) < a3)) x6 hr3) ?_
       intro _ w3 hv1
       obtain ⟨rfl, hB3⟩ := res_int hv1
       have hC3 := hC1.grow hB3
       refine WL_add rfl rfl rfl ?_
       refine WL_assign rfl rfl ?_
       refine WL_nil ?_
       have hq1 := Option.some.inj hr2
       subst hq1
       refine nrm_sub (l' := [(1, (.int .i64 a2)), (2, (.int .i64 a3)), (7, (.int .i64 (w64 (x1 + x6)))), (10, u1), (11, (.int .i64 (List.length a1 : Int))), (12, (.int .i64 x2))]) ⟨rfl, rfl, rfl, rfl, rfl, rfl, trivial⟩ ?_
       exact ⟨w64 (x1 + x6), rfl, rfl, (Keep.of hB3).below, hC3⟩
      replace hr2 := ite_f hr2 hc3
      refine WL_guard_skip rfl rfl (by simp) rfl ?_
      refine WL_guard_skip rfl rfl (by simp) rfl ?_
      refine WL_guard_skip rfl rfl (by simp) rfl ?_
      refine WL_guard_skip rfl rfl (by simp) rfl ?_
      refine WL_guard_skip rfl rfl (by simp) rfl ?_
      refine WL_pick_f rfl rfl rfl ?_
      obtain ⟨x7, hr4, hr2⟩ := bind_some hr2
      refine WL_call Try.call38 rfl rfl (c_M_bit false x7 hr4) ?_
      intro _ w4 hv2
      obtain ⟨rfl, hB4⟩ := res_int hv2
      have hC4 := hC1.grow hB4
      refine WL_add rfl rfl rfl ?_
      refine WL_assign rfl rfl ?_
      refine WL_nil ?_
      have hq2 := Option.some.inj hr2
      subst hq2
      refine nrm_sub (l' := [(1, (.int .i64 a2)), (2, (.int .i64 a3)), (7, (.int .i64 (w64 (x1 + x7)))), (10, u1), (11, (.int .i64 (List.length a1 : Int))), (12, (.int .i64 x2))]) ⟨rfl, rfl, rfl, rfl, rfl, rfl, trivial⟩ ?_
      exact ⟨w64 (x1 + x7), rfl, rfl, (Keep.of hB4).below, hC4⟩
     replace hr2 := ite_f hr2 hc2
     refine WL_guard_skip rfl rfl (by simp) rfl ?_
     refine WL_guard_skip rfl rfl (by simp) rfl ?_
     refine WL_guard_skip rfl rfl (by simp) rfl ?_
     refine WL_pick_f rfl rfl rfl ?_
     refine WL_move rfl rfl ?_
     refine WL_guard_skip rfl rfl (by simp) rfl ?_
     refine WL_guard_skip rfl rfl (by simp) rfl ?_
     refine WL_guard_skip rfl rfl (by simp) rfl ?_
     refine WL_guard_skip rfl rfl (by simp) rfl ?_
     refine WL_guard_skip rfl rfl (by simp) rfl ?_
     refine WL_pick_f rfl rfl rfl ?_
     obtain ⟨x8, hr5, hr2⟩ := bind_some hr2
     refine WL_call Try.call38 rfl rfl (c_M_bit false x8 hr5) ?_
     intro _ w5 hv3
     obtain ⟨rfl, hB5⟩ := res_int hv3
     have hC5 := hC1.grow hB5
     refine WL_add rfl rfl rfl ?_
     refine WL_assign rfl rfl ?_
     refine WL_nil ?_
     have hq3 := Option.some.inj hr2
     subst hq3
     refine nrm_sub (l' := [(1, (.int .i64 a2)), (2, (.int .i64 a3)), (7, (.int .i64 (w64 (x1 + x8)))), (10, u1), (11, (.int .i64 (List.length a1 : Int))), (12, (.int .i64 x2))]) ⟨rfl, rfl, rfl, rfl, rfl, rfl, trivial⟩ ?_
     exact ⟨w64 (x1 + x8), rfl, rfl, (Keep.of hB5).below, hC5⟩
    rintro l2 _ w2 hs2 ⟨x5, rfl, rfl, hB2, hC2⟩
    try dsimp only at hL1
    refine blk_normal ?_
    refine nrm_sub' hs2 ?_
    clear hs2
    refine W_reg ?_
    refine WL_add rfl rfl rfl ?_
    refine WL_move rfl rfl ?_
    refine WL_nil ?_
    refine nrm_sub (l' := [(1, (.int .i64 a2)), (2, (.int .i64 a3)), (7, (.int .i64 x5)), (10, u1), (11, (.int .i64 (List.length a1 : Int))), (12, (.int .i64 (w64 (x2 + 1))))]) ⟨rfl, rfl, rfl, rfl, rfl, rfl, trivial⟩ ?_
    exact ⟨k1, Nat.lt_succ_self _, x5, w64 (x2 + 1), rfl, ((Keep.of hB1).then hB2).below, hC2, hL1⟩
   replace hL1 := ite_f hL1 hc1
   refine W_exit ?_
   refine nrm_exit ?_
   refine nrm_exit ?_
   refine blk_exit ?_
   have hq4 := Option.some.inj hL1
   subst hq4
   refine nrm_sub (l' := [(7, (.int .i64 x1))]) ⟨rfl, trivial⟩ ?_
   exact ⟨x1, rfl, rfl, (Keep.of hB1).below, hC1⟩
 rintro l3 _ w6 hs3 ⟨x3, rfl, rfl, hB6, hC6⟩
 try dsimp only at hF
 refine nrm_sub' hs3 ?_
 clear hs3
 refine W_seq_reg ?_
 refine WL_move rfl rfl ?_
 refine WL_assign rfl rfl ?_
 refine WL_nil ?_
 refine W_ret ?_
 have hq5 := Option.some.inj hF
 subst hq5
 refine fn_ret1 rfl rfl ?_
 exact ⟨_, rfl, int_res hC6 _⟩

theorem c_M_IsKept {w0 : World} (a1 : (List Int)) (u1 : Value) (g1 : RO [] w0 u1 a1) (a2 : (Int × Int)) (rr : Bool) (hF : M.IsKept a1 a2 = some rr) :
 Calls Try.prog 10 [u1, (.agg #[(.int .i64 a2.1), (.int .i64 a2.2)])].toArray w0 fun e w' => ∃ v, e = .returned v ∧ Res w0 rr v w' := by
 refine calls_of_W Try.func10 rfl rfl ?_
 have hC0 := Ctx.start w0
 unfold M.IsKept at hF
 refine W_seq_reg ?_
 refine WL_boxK (cs := [(.int .i64 a2.1), (.int .i64 a2.2)]) hC0 rfl rfl rfl (fun b1 w1 hC1 hB1 hN1 => ?_)
 refine WL_assign rfl rfl ?_
 refine WL_nil ?_
 refine W_seq ?_
 obtain ⟨r1, hr1, hF⟩ := bind_some hF
 refine W_cut (fun l w => ∃ x1 : Bool, x1 = r1 ∧ l = [(0, u1), (3, (ptr b1 0)), (14, (.bool x1))] ∧ Below w1.heap.size w1 w ∧ Ctx [] w0 w [Item.box b1 [(.int .i64 a2.1), (.int .i64 a2.2)]]) ?_ ?_
 ·refine W_reg ?_
  refine WL_move rfl rfl ?_
  refine WL_len Try.underlying28 g1 rfl rfl ?_
  refine WL_gtr rfl rfl rfl ?_
  refine WL_move rfl rfl ?_
  refine WL_fork (fun hc1 => ?_) (fun hc1 => ?_)
  ·replace hr1 := ite_t hr1 hc1
   refine WL_guard_skip rfl rfl (by simp) rfl ?_
   refine WL_guard_skip rfl rfl (by simp) rfl ?_
   refine WL_guard_skip rfl rfl (by simp) rfl ?_
   refine WL_pick_t rfl rfl rfl ?_
   refine WL_nil ?_
   have hq1 := Option.some.inj hr1
   subst hq1
   refine nrm_sub (l' := [(0, u1), (3, (ptr b1 0)), (14, (.bool true))]) ⟨rfl, rfl, rfl, trivial⟩ ?_
   exact ⟨true, rfl, rfl, (Below.refl _ _), hC1⟩
  replace hr1 := ite_f hr1 hc1
  refine WL_guard rfl rfl ?_
  refine WL_load_box_agg [(.int .i64 a2.1), (.int .i64 a2.2)] hC1 0 rfl rfl rfl Try.isAgg25 Try.sizeOf25 rfl rfl ?_
  obtain ⟨x2, hr2, hr1⟩ := bind_some hr1
  refine WL_guard rfl rfl ?_
  refine WL_call Try.call19 rfl rfl (c_M_IsWindow (a2.1, a2.2) x2 hr2) ?_
  intro _ w3 hv1
  obtain ⟨rfl, hB3⟩ := res_bool hv1
  have hC3 := hC1.grow hB3
  refine WL_guard rfl rfl ?_
  refine WL_not rfl rfl ?_
  refine WL_pick_f rfl rfl rfl ?_
  refine WL_nil ?_
  have hq2 := Option.some.inj hr1
  subst hq2
  refine nrm_sub (l' := [(0, u1), (3, (ptr b1 0)), (14, (.bool (!x2)))]) ⟨rfl, rfl, rfl, trivial⟩ ?_
  exact ⟨(!x2), rfl, rfl, (Keep.of hB3).below, hC3⟩
 rintro _ w2 ⟨x1, rfl, rfl, hB2, hC2⟩
 try dsimp only at hF
 refine W_cond rfl (fun hc2 => ?_) (fun hc2 => ?_)
 ·replace hF := ite_t hF hc2
  refine W_seq_reg ?_
  refine WL_assign rfl rfl ?_
  refine WL_nil ?_
  refine W_ret ?_
  refine nrm_ret ?_
  have hq3 := Option.some.inj hF
  subst hq3
  refine fn_ret1 rfl rfl ?_
  exact ⟨_, rfl, bool_res hC2 _⟩
 replace hF := ite_f hF hc2
 refine W_skip ?_
 refine nrm_normal ?_
 refine W_seq ?_
 refine W_seq_reg ?_
 refine WL_move rfl rfl ?_
 refine WL_len Try.underlying28 g1 rfl rfl ?_
 refine WL_move rfl rfl ?_
 refine WL_nil ?_
 obtain ⟨r2, hr3, hF⟩ := bind_some hF
 refine W_norm (fun l w => .inl () = r2 ∧ l = [] ∧ Below w2.heap.size w2 w ∧ Ctx [] w0 w []) ?_ ?_
 ·refine W_block ?_
  refine W.sub (l' := [(0, u1), (3, (ptr b1 0)), (15, u1), (16, (.int .i64 (List.length a1 : Int))), (17, (.int .i64 0))]) ?_ ⟨rfl, rfl, rfl, rfl, rfl, trivial⟩
  refine W_loop (fun k l w => ∃ x3 : Int, l = [(0, u1), (3, (ptr b1 0)), (15, u1), (16, (.int .i64 (List.length a1 : Int))), (17, (.int .i64 x3))] ∧ Below w2.heap.size w2 w ∧ Ctx [] w0 w [Item.box b1 [(.int .i64 a2.1), (.int .i64 a2.2)]] ∧ M.IsKept_l1 a1 a2 k x3 = some r2) FUEL ⟨0, rfl, (Below.refl _ _), hC2, hr3⟩ ?_
  clear hr3
  rintro k1 _ w4 ⟨x3, rfl, hB4, hC4, hL1⟩
  cases k1 with
  | zero => rw [M.IsKept_l1] at hL1; cases hL1
  | succ k1 =>
   rw [M.IsKept_l1] at hL1
   refine W_seq_reg ?_
   refine WL_lss rfl rfl rfl ?_
   refine WL_nil ?_
   refine W_seq ?_
   refine W_cond rfl (fun hc3 => ?_) (fun hc3 => ?_)
   ·replace hL1 := ite_t hL1 hc3
    refine W_skip ?_
    refine nrm_normal ?_
    refine W_seq ?_
    refine W_block ?_
    refine W_seq_reg ?_
    refine WL_move rfl rfl ?_
    obtain ⟨x4, hx1, hL1⟩ := bind_some hL1
    refine WL_index Try.underlying28 ty3 g1 hx1 rfl rfl rfl (fun b2 o1 h1 => ?_)
    refine WL_load ty3 h1 hC4.keep rfl rfl (fun v1 h2 => ?_)
    obtain rfl := ro_int h2
    refine WL_assign rfl rfl ?_
    refine WL_assign rfl rfl ?_
    refine WL_nil ?_
    obtain ⟨r3, hr4, hL1⟩ := bind_some hL1
    refine W_cut (fun l w => ∃ x5 : Bool, x5 = r3 ∧ l = [(0, u1), (3, (ptr b1 0)), (15, u1), (16, (.int .i64 (List.length a1 : Int))), (17, (.int .i64 x3)), (47, (.bool x5))] ∧ Below w4.heap.size w4 w ∧ Ctx [] w0 w [Item.box b1 [(.int .i64 a2.1), (.int .i64 a2.2)]]) ?_ ?_
    ·refine W_drawn 26 rfl hmix (fun w6 hB6 => ?_)
     have hC6 := hC4.grow hB6
     refine WA_tk 0 (by kernel_rfl) rfl rfl (fl_move rfl) ?_
     refine WL_move rfl rfl ?_
     refine WL_nil ?_
     obtain ⟨x6, hr5, hr4⟩ := bind_some hr4
     refine WA_one 1 (by kernel_rfl) rfl ?_
     refine WL_call Try.call33 rfl rfl (c_M_isTime x4 x6 hr5) ?_
     intro _ w7 hv2
     obtain ⟨rfl, hB7⟩ := res_bool hv2
     have hC7 := hC6.grow hB7
     refine WL_nil ?_
     refine WA_tk 2 (by kernel_rfl) rfl rfl (fl_not rfl) ?_
     refine WL_not rfl rfl ?_
     refine WL_nil ?_
     refine WA_tk 3 (by kernel_rfl) rfl rfl (fl_move rfl) ?_
     refine WL_move rfl rfl ?_
     refine WL_nil ?_
     refine WA_fork (fun hc4 => ?_) (fun hc4 => ?_)
     ·replace hr4 := ite_t hr4 hc4
      refine WA_sk 4 (by kernel_rfl) rfl rfl rfl rfl (by simp) rfl rfl ?_
      refine WA_sk 5 (by kernel_rfl) rfl rfl rfl rfl (by simp) rfl rfl ?_
      refine WA_sk 6 (by kernel_rfl) rfl rfl rfl rfl (by simp) rfl rfl ?_
      refine WA_sk 7 (by kernel_rfl) rfl rfl rfl rfl (by simp [undef]) rfl rfl ?_
      refine WA_sk 8 (by kernel_rfl) rfl rfl rfl rfl (by simp [undef]) rfl rfl ?_
      refine WA_sk 9 (by kernel_rfl) rfl rfl rfl rfl (by simp [undef]) rfl rfl ?_
      refine WA_sk 10 (by kernel_rfl) rfl rfl rfl rfl (by simp [undef]) rfl rfl ?_
      refine WA_sk 11 (by kernel_rfl) rfl rfl rfl rfl (by simp [undef]) rfl rfl ?_
      refine WA_sk 12 (by kernel_rfl) rfl rfl rfl rfl (by simp [undef]) rfl rfl ?_
      refine WA_sk 13 (by kernel_rfl) rfl rfl rfl rfl (by simp [undef]) rfl rfl ?_
      refine WA_sk 14 (by kernel_rfl) rfl rfl rfl rfl (by simp) rfl rfl ?_
      refine WA_tk 15 (by kernel_rfl) rfl rfl (fl_pick_t rfl rfl) ?_
      refine WL_pick_t rfl rfl rfl ?_
      refine WL_nil ?_
      refine WA_tk 16 (by kernel_rfl) rfl rfl (fl_move rfl) ?_
      refine WL_move rfl rfl ?_
      refine WL_nil ?_
      refine WA_sk 17 (by kernel_rfl) rfl rfl rfl rfl (by simp) rfl rfl ?_
      refine WA_sk 18 (by kernel_rfl) rfl rfl rfl rfl (by simp) rfl rfl ?_
      refine WA_sk 19 (by kernel_rfl) rfl rfl rfl rfl (by simp) rfl rfl ?_
      refine WA_sk 20 (by kernel_rfl) rfl rfl rfl rfl (by simp) rfl rfl ?_
      refine WA_sk 21 (by kernel_rfl) rfl rfl rfl rfl (by simp) rfl rfl ?_
      refine WA_sk 22 (by kernel_rfl) rfl rfl rfl rfl (by simp) rfl rfl ?_
      refine WA_sk 23 (by kernel_rfl) rfl rfl rfl rfl (by simp) rfl rfl ?_
      refine WA_sk 24 (by kernel_rfl) rfl rfl rfl rfl (by simp) rfl rfl ?_
      refine WA_tk 25 (by kernel_rfl) rfl rfl (fl_pick_t rfl rfl) ?_
      refine WL_pick_t rfl rfl rfl ?_
      refine WL_nil ?_
      refine WA_done (by kernel_rfl) ?_
      have hq4 := Option.some.inj hr4
      subst hq4
      refine nrm_sub (l' := [(0, u1), (3, (ptr b1 0)), (15, u1), (16, (.int .i64 (List.length a1 : Int))), (17, (.int .i64 x3)), (47, (.bool true))]) ⟨rfl, rfl, rfl, rfl, rfl, rfl, trivial⟩ ?_
      exact ⟨true, rfl, rfl, ((Keep.of hB6).then hB7).below, hC7⟩
     replace hr4 := ite_f hr4 hc4
     refine WA_takeG 4 rfl (by kernel_rfl) (by kernel_rfl) (by kernel_rfl) rfl rfl rfl (fl_move rfl) ?_
     refine WL_guard rfl rfl ?_
     refine WL_move rfl rfl ?_
     refine WL_nil ?_
     refine WA_takeG 5 rfl (by kernel_rfl) (by kernel_rfl) (by kernel_rfl) rfl rfl rfl (fl_gtr rfl rfl) ?_
     refine WL_guard rfl rfl ?_
     refine WL_gtr rfl rfl rfl ?_
     refine WL_nil ?_
     refine WA_takeG 6 rfl (by kernel_rfl) (by kernel_rfl) (by kernel_rfl) rfl rfl rfl (fl_move rfl) ?_
     refine WL_guard rfl rfl ?_
     refine WL_move rfl rfl ?_
     refine WL_nil ?_
     refine WA_fork (fun hc5 => ?_) (fun hc5 => ?_)
     ·replace hr4 := ite_t hr4 hc5
      refine WA_takeG 7 rfl (by kernel_rfl) (by kernel_rfl) (by kernel_rfl) rfl rfl rfl (fl_move rfl) ?_
      refine WL_guard rfl rfl ?_
      refine WL_move rfl rfl ?_
      refine WL_nil ?_
      refine WA_takeG 8 rfl (by kernel_rfl) (by kernel_rfl) (by kernel_rfl) rfl rfl rfl (fl_move rfl) ?_
      refine WL_guard rfl rfl ?_
      refine WL_move rfl rfl ?_
      refine WL_nil ?_
      refine WA_takeG 9 rfl (by kernel_rfl) (by kernel_rfl) (by kernel_rfl) rfl rfl rfl (fl_move rfl) ?_
      refine WL_guard rfl rfl ?_
      refine WL_move rfl rfl ?_
      refine WL_nil ?_
      refine WA_takeG 10 rfl (by kernel_rfl) (by kernel_rfl) (by kernel_rfl) rfl rfl rfl (fl_sub rfl rfl) ?_
      refine WL_guard rfl rfl ?_
      refine WL_sub rfl rfl rfl ?_
      refine WL_nil ?_
      obtain ⟨x7, hx2, hr4⟩ := bind_some hr4
      refine WA_takeG 11 rfl (by kernel_rfl) (by kernel_rfl) (by kernel_rfl) rfl rfl rfl (fl_index Try.underlying28 ty3 g1 hx2 rfl rfl) ?_
      refine WL_guard rfl rfl ?_
      refine WL_index Try.underlying28 ty3 g1 hx2 rfl rfl rfl (fun b3 o2 h3 => ?_)
      refine WL_nil ?_
      refine WA_one 12 (by kernel_rfl) rfl ?_
      refine WL_guard rfl rfl ?_
      refine WL_load ty3 h3 hC7.keep rfl rfl (fun v2 h4 => ?_)
      obtain rfl := ro_int h4
      refine WL_nil ?_
      refine WA_takeG 13 rfl (by kernel_rfl) (by kernel_rfl) (by kernel_rfl) rfl rfl rfl (fl_lss rfl rfl) ?_
      refine WL_guard rfl rfl ?_
      refine WL_lss rfl rfl rfl ?_
      refine WL_nil ?_
      refine WA_takeG 14 rfl (by kernel_rfl) (by kernel_rfl) (by kernel_rfl) rfl rfl rfl (fl_pick_t rfl rfl) ?_
      refine WL_guard rfl rfl ?_
      refine WL_pick_t rfl rfl rfl ?_
      refine WL_nil ?_
      refine WA_tk 15 (by kernel_rfl) rfl rfl (fl_pick_f rfl rfl) ?_
      refine WL_pick_f rfl rfl rfl ?_
      refine WL_nil ?_
      refine WA_tk 16 (by kernel_rfl) rfl rfl (fl_move rfl) ?_
      refine WL_move rfl rfl ?_
      refine WL_nil ?_
      refine WA_fork (fun hc6 => ?_) (fun hc6 => ?_)
      ·replace hr4 := ite_t hr4 hc6
       refine WA_sk 17 (by kernel_rfl) rfl rfl rfl rfl (by simp) rfl rfl ?_
       refine WA_sk 18 (by kernel_rfl) rfl rfl rfl rfl (by simp) rfl rfl ?_
       refine WA_sk 19 (by kernel_rfl) rfl rfl rfl rfl (by simp) rfl rfl ?_
       refine WA_sk 20 (by kernel_rfl) rfl rfl rfl rfl (by simp) rfl rfl ?_
       refine WA_sk 21 (by kernel_rfl) rfl rfl rfl rfl (by simp) rfl rfl ?_
       refine WA_sk 22 (by kernel_rfl) rfl rfl rfl rfl (by simp) rfl rfl ?_
       refine WA_sk 23 (by kernel_rfl) rfl rfl rfl rfl (by simp) rfl rfl ?_
       refine WA_sk 24 (by kernel_rfl) rfl rfl rfl rfl (by simp) rfl rfl ?_
       refine WA_tk 25 (by kernel_rfl) rfl rfl (fl_pick_t rfl rfl) ?_
       refine WL_pick_t rfl rfl rfl ?_
       refine WL_nil ?_
       refine WA_done (by kernel_rfl) ?_
       have hq5 := Option.some.inj hr4
       subst hq5
       refine nrm_sub (l' := [(0, u1), (3, (ptr b1 0)), (15, u1), (16, (.int .i64 (List.length a1 : Int))), (17, (.int .i64 x3)), (47, (.bool true))]) ⟨rfl, rfl, rfl, rfl, rfl, rfl, trivial⟩ ?_
       exact ⟨true, rfl, rfl, ((Keep.of hB6).then hB7).below, hC7⟩
      replace hr4 := ite_f hr4 hc6
      refine WA_takeG 17 rfl (by kernel_rfl) (by kernel_rfl) (by kernel_rfl) rfl rfl rfl (fl_move rfl) ?_
      refine WL_guard rfl rfl ?_
      refine WL_move rfl rfl ?_
      refine WL_nil ?_
      refine WA_takeG 18 rfl (by kernel_rfl) (by kernel_rfl) (by kernel_rfl) rfl rfl rfl (fl_move rfl) ?_
      refine WL_guard rfl rfl ?_
      refine WL_move rfl rfl ?_
      refine WL_nil ?_
      refine WA_takeG 19 rfl (by kernel_rfl) (by kernel_rfl) (by kernel_rfl) rfl rfl rfl (fl_field Try.underlying25 rfl rfl (fun w => ⟨_, Try.sizeOf3 w⟩) rfl) ?_
      refine WL_guard rfl rfl ?_
      refine WL_field Try.underlying25 rfl rfl (fun w => ⟨_, Try.sizeOf3 w⟩) rfl rfl ?_
      refine WL_nil ?_
      refine WA_takeG 22 rfl (by kernel_rfl) (by kernel_rfl) (by kernel_rfl) rfl rfl rfl (fl_field Try.underlying25 rfl rfl (fun w => ⟨_, Try.sizeOf3 w⟩) rfl) ?_
      refine WL_guard rfl rfl ?_
      refine WL_field Try.underlying25 rfl rfl (fun w => ⟨_, Try.sizeOf3 w⟩) rfl rfl ?_
      refine WL_nil ?_
      obtain ⟨x8, hr6, hr4⟩ := bind_some hr4
      refine WA.sub (l' := [(0, u1), (3, (ptr b1 0)), (5, (.int .i64 x3)), (6, (.int .i64 x4)), (15, u1), (16, (.int .i64 (List.length a1 : Int))), (17, (.int .i64 x3)), (18, (.bool (decide (x3 < (List.length a1 : Int))))), (19, (.int .i64 x3)), (20, (ptr b2 o1)), (21, (.int .i64 x4)), (22, (.int .i64 x4)), (23, (.bool x6)), (24, (.bool (!x6))), (25, (.bool false)), (26, (.int .i64 x3)), (27, (.bool (decide (0 < x3)))), (28, (.bool true)), (29, (.int .i64 x4)), (30, u1), (31, (.int .i64 x3)), (32, (.int .i64 (w64 (x3 - 1)))), (33, (ptr b3 o2)), (34, (.int .i64 x7)), (35, (.bool (decide (x4 < x7)))), (36, (.bool (decide (x4 < x7)))), (37, (.bool (decide (x4 < x7)))), (38, (.bool false)), (39, u1), (40, (.int .i64 x4)), (41, (ptr b1 0)), (44, (ptr b1 1))]) ?_ ⟨rfl, rfl, rfl, rfl, rfl, rfl, rfl, rfl, rfl, rfl, rfl, rfl, rfl, rfl, rfl, rfl, rfl, rfl, rfl, rfl, rfl, rfl, rfl, rfl, rfl, rfl, rfl, rfl, rfl, rfl, rfl, rfl, trivial⟩
      refine WA_postsE [⟨20, [], fun vs => PW.val (.int .i64 a2.1), []⟩, ⟨21, [], fun vs => PW.val (.int .i64 x8), []⟩, ⟨23, [], fun vs => PW.val (.int .i64 a2.2), []⟩] [[], [20], []] 2 rfl (by kernel_rfl) (by kernel_rfl) rfl ?_ ?_
      ·refine StepsE_cons rfl ?_ ?_
       ·intro w10 hB9
        refine DepsE_nil ?_
        refine ⟨_, rfl, ?_⟩
        refine WL_guard rfl rfl ?_
        refine WL_load_box (hC7.grow hB9) 0 rfl rfl Try.isAgg3 rfl rfl ?_
        refine WL_nil ?_
        exact FinE_val (Below.refl _ _) rfl rfl ⟨rfl, rfl⟩
       refine StepsE_cons rfl ?_ ?_
       ·intro w10 hB9
        refine DepsE_cons rfl rfl rfl ?_
        rintro _ _ ⟨rfl, rfl⟩ _
        refine DepsE_nil ?_
        refine ⟨_, rfl, ?_⟩
        refine WL_guard rfl rfl ?_
        refine WL_call Try.call18 rfl rfl (c_M_CallsIn a1 u1 (g1.now (hC7.keep.then hB9)) x4 a2.1 x8 hr6) ?_
        intro _ w9 hv3
        obtain ⟨rfl, hB8⟩ := res_int hv3
        refine WL_nil ?_
        exact FinE_val hB8 rfl rfl ⟨rfl, rfl⟩
       refine StepsE_cons rfl ?_ ?_
       ·intro w10 hB9
        refine DepsE_nil ?_
        refine ⟨_, rfl, ?_⟩
        refine WL_guard rfl rfl ?_
        refine WL_load_box (hC7.grow hB9) 0 rfl rfl Try.isAgg3 rfl rfl ?_
        refine WL_nil ?_
        exact FinE_val (Below.refl _ _) rfl rfl ⟨rfl, rfl⟩
       exact StepsE_nil
      intro w11 hB10
      refine AllE_cons rfl rfl rfl ?_
      rintro _ _ ⟨rfl, rfl⟩
      refine AllE_cons rfl rfl rfl ?_
      rintro _ _ ⟨rfl, rfl⟩
      refine AllE_cons rfl rfl rfl ?_
      rintro _ _ ⟨rfl, rfl⟩
      refine AllE_nil ?_
      intro hn1 hb1
      have hC8 := hC7.grow hB10
      refine WA_takeG 24 rfl (by kernel_rfl) (by kernel_rfl) (by kernel_rfl) rfl rfl rfl (fl_gtr rfl rfl) ?_
      refine WL_guard rfl rfl ?_
      refine WL_gtr rfl rfl rfl ?_
      refine WL_nil ?_
      refine WA_tk 25 (by kernel_rfl) rfl rfl (fl_pick_f rfl rfl) ?_
      refine WL_pick_f rfl rfl rfl ?_
      refine WL_nil ?_
      refine WA_done (by kernel_rfl) ?_
      have hq6 := Option.some.inj hr4
      subst hq6
      refine nrm_sub (l' := [(0, u1), (3, (ptr b1 0)), (15, u1), (16, (.int .i64 (List.length a1 : Int))), (17, (.int .i64 x3)), (47, (.bool (decide (a2.2 < x8))))]) ⟨rfl, rfl, rfl, rfl, rfl, rfl, trivial⟩ ?_
      exact ⟨(decide (a2.2 < x8)), rfl, rfl, (((Keep.of hB6).then hB7).then hB10).below, hC8⟩
     replace hr4 := ite_f hr4 hc5
     refine WA_sk 7 (by kernel_rfl) rfl rfl rfl rfl (by simp) rfl rfl ?_
     refine WA_sk 8 (by kernel_rfl) rfl rfl rfl rfl (by simp) rfl rfl ?_
     refine WA_sk 9 (by kernel_rfl) rfl rfl rfl rfl (by simp) rfl rfl ?_
     refine WA_sk 10 (by kernel_rfl) rfl rfl rfl rfl (by simp) rfl rfl ?_
     refine WA_sk 11 (by kernel_rfl) rfl rfl rfl rfl (by simp) rfl rfl ?_
     refine WA_sk 12 (by kernel_rfl) rfl rfl rfl rfl (by simp) rfl rfl ?_
     refine WA_sk 13 (by kernel_rfl) rfl rfl rfl rfl (by simp) rfl rfl ?_
     refine WA_takeG 14 rfl (by kernel_rfl) (by kernel_rfl) (by kernel_rfl) rfl rfl rfl (fl_pick_f rfl rfl) ?_
     refine WL_guard rfl rfl ?_
     refine WL_pick_f rfl rfl rfl ?_
     refine WL_nil ?_
     refine WA_tk 15 (by kernel_rfl) rfl rfl (fl_pick_f rfl rfl) ?_
     refine WL_pick_f rfl rfl rfl ?_
     refine WL_nil ?_
     refine WA_tk 16 (by kernel_rfl) rfl rfl (fl_move rfl) ?_
     refine WL_move rfl rfl ?_
     refine WL_nil ?_
     refine WA_takeG 17 rfl (by kernel_rfl) (by kernel_rfl) (by kernel_rfl) rfl rfl rfl (fl_move rfl) ?_
     refine WL_guard rfl rfl ?_
     refine WL_move rfl rfl ?_
     refine WL_nil ?_
     refine WA_takeG 18 rfl (by kernel_rfl) (by kernel_rfl) (by kernel_rfl) rfl rfl rfl (fl_move rfl) ?_
     refine WL_guard rfl rfl ?_
     refine WL_move rfl rfl ?_
     refine WL_nil ?_
     refine WA_takeG 19 rfl (by kernel_rfl) (by kernel_rfl) (by kernel_rfl) rfl rfl rfl (fl_field Try.underlying25 rfl rfl (fun w => ⟨_, Try.sizeOf3 w⟩) rfl) ?_
     refine WL_guard rfl rfl ?_
     refine WL_field Try.underlying25 rfl rfl (fun w => ⟨_, Try.sizeOf3 w⟩) rfl rfl ?_
     refine WL_nil ?_
     refine WA_takeG 22 rfl (by kernel_rfl) (by kernel_rfl) (by kernel_rfl) rfl rfl rfl (fl_field Try.underlying25 rfl rfl (fun w => ⟨_, Try.sizeOf3 w⟩) rfl) ?_
     refine WL_guard rfl rfl ?_
     refine WL_field Try.underlying25 rfl rfl (fun w => ⟨_, Try.sizeOf3 w⟩) rfl rfl ?_
     refine WL_nil ?_
     obtain ⟨x9, hr7, hr4⟩ := bind_some hr4
     refine WA.sub (l' := [(0, u1), (3, (ptr b1 0)), (5, (.int .i64 x3)), (6, (.int .i64 x4)), (15, u1), (16, (.int .i64 (List.length a1 : Int))), (17, (.int .i64 x3)), (18, (.bool (decide (x3 < (List.length a1 : Int))))), (19, (.int .i64 x3)), (20, (ptr b2 o1)), (21, (.int .i64 x4)), (22, (.int .i64 x4)), (23, (.bool x6)), (24, (.bool (!x6))), (25, (.bool false)), (26, (.int .i64 x3)), (27, (.bool (decide (0 < x3)))), (28, (.bool false)), (36, (.bool false)), (37, (.bool false)), (38, (.bool false)), (39, u1), (40, (.int .i64 x4)), (41, (ptr b1 0)), (44, (ptr b1 1))]) ?_ ⟨rfl, rfl, rfl, rfl, rfl, rfl, rfl, rfl, rfl, rfl, rfl, rfl, rfl, rfl, rfl, rfl, rfl, rfl, rfl, rfl, rfl, rfl, rfl, rfl, rfl, trivial⟩
     refine WA_postsE [⟨20, [], fun vs => PW.val (.int .i64 a2.1), []⟩, ⟨21, [], fun vs => PW.val (.int .i64 x9), []⟩, ⟨23, [], fun vs => PW.val (.int .i64 a2.2), []⟩] [[], [20], []] 2 rfl (by kernel_rfl) (by kernel_rfl) rfl ?_ ?_
     ·refine StepsE_cons rfl ?_ ?_
      ·intro w13 hB12
       refine DepsE_nil ?_
       refine ⟨_, rfl, ?_⟩
       refine WL_guard rfl rfl ?_
       refine WL_load_box (hC7.grow hB12) 0 rfl rfl Try.isAgg3 rfl rfl ?_
       refine WL_nil ?_
       exact FinE_val (Below.refl _ _) rfl rfl ⟨rfl, rfl⟩
      refine StepsE_cons rfl ?_ ?_
      ·intro w13 hB12
       refine DepsE_cons rfl rfl rfl ?_
       rintro _ _ ⟨rfl, rfl⟩ _
       refine DepsE_nil ?_
       refine ⟨_, rfl, ?_⟩
       refine WL_guard rfl rfl ?_
       refine WL_call Try.call18 rfl rfl (c_M_CallsIn a1 u1 (g1.now (hC7.keep.then hB12)) x4 a2.1 x9 hr7) ?_
       intro _ w12 hv4
       obtain ⟨rfl, hB11⟩ := res_int hv4
       refine WL_nil ?_
       exact FinE_val hB11 rfl rfl ⟨rfl, rfl⟩
      refine StepsE_cons rfl ?_ ?_
      ·intro w13 hB12
       refine DepsE_nil ?_
       refine ⟨_, rfl, ?_⟩
       refine WL_guard rfl rfl ?_
       refine WL_load_box (hC7.grow hB12) 0 rfl rfl Try.isAgg3 rfl rfl ?_
       refine WL_nil ?_
       exact FinE_val (Below.refl _ _) rfl rfl ⟨rfl, rfl⟩
      exact StepsE_nil
     intro w14 hB13
     refine AllE_cons rfl rfl rfl ?_
     rintro _ _ ⟨rfl, rfl⟩
     refine AllE_cons rfl rfl rfl ?_
     rintro _ _ ⟨rfl, rfl⟩
     refine AllE_cons rfl rfl rfl ?_
     rintro _ _ ⟨rfl, rfl⟩
     refine AllE_nil ?_
     intro hn2 hb2
     have hC9 := hC7.grow hB13
     refine WA_takeG 24 rfl (by kernel_rfl) (by kernel_rfl) (by kernel_rfl) rfl rfl rfl (fl_gtr rfl rfl) ?_
     refine WL_guard rfl rfl ?_
     refine WL_gtr rfl rfl rfl ?_
     refine WL_nil ?_
     refine WA_tk 25 (by kernel_rfl) rfl rfl (fl_pick_f rfl rfl) ?_
     refine WL_pick_f rfl rfl rfl ?_
     refine WL_nil ?_
     refine WA_done (by kernel_rfl) ?_
     have hq7 := Option.some.inj hr4
     subst hq7
     refine nrm_sub (l' := [(0, u1), (3, (ptr b1 0)), (15, u1), (16, (.int .i64 (List.length a1 : Int))), (17, (.int .i64 x3)), (47, (.bool (decide (a2.2 < x9))))]) ⟨rfl, rfl, rfl, rfl, rfl, rfl, trivial⟩ ?_
     exact ⟨(decide (a2.2 < x9)), rfl, rfl, (((Keep.of hB6).then hB7).then hB13).below, hC9⟩
    rintro _ w5 ⟨x5, rfl, rfl, hB5, hC5⟩
    try dsimp only at hL1
    refine W_cond rfl (fun hc7 => ?_) (fun hc7 => ?_)
    ·replace hL1 := ite_t hL1 hc7
     refine W_seq_reg ?_
     refine WL_assign rfl rfl ?_
     refine WL_nil ?_
     refine W_ret ?_
     refine blk_ret ?_
     refine nrm_ret ?_
     refine nrm_ret ?_
     refine blk_ret ?_
     refine nrm_ret ?_
     refine nrm_ret ?_
     have hq8 := Option.some.inj hL1
     subst hq8
     dsimp only at hF
     have hq9 := Option.some.inj hF
     subst hq9
     refine fn_ret1 rfl rfl ?_
     exact ⟨_, rfl, bool_res hC5 _⟩
    replace hL1 := ite_f hL1 hc7
    refine W_skip ?_
    refine blk_normal ?_
    refine nrm_normal ?_
    refine W_reg ?_
    refine WL_add rfl rfl rfl ?_
    refine WL_move rfl rfl ?_
    refine WL_nil ?_
    refine nrm_sub (l' := [(0, u1), (3, (ptr b1 0)), (15, u1), (16, (.int .i64 (List.length a1 : Int))), (17, (.int .i64 (w64 (x3 + 1))))]) ⟨rfl, rfl, rfl, rfl, rfl, trivial⟩ ?_
    exact ⟨k1, Nat.lt_succ_self _, w64 (x3 + 1), rfl, ((Keep.of hB4).then hB5).below, hC5, hL1⟩
   replace hL1 := ite_f hL1 hc3
   refine W_exit ?_
   refine nrm_exit ?_
   refine nrm_exit ?_
   refine blk_exit ?_
   have hq10 := Option.some.inj hL1
   subst hq10
   have hC10 := hC4.h0
   refine nrm_sub (l' := []) trivial ?_
   exact ⟨rfl, rfl, (Keep.of hB4).below, hC10⟩
 rintro l4 _ w15 hs4 ⟨rfl, rfl, hB14, hC11⟩
 try dsimp only at hF
 refine nrm_sub' hs4 ?_
 clear hs4
 refine W_seq_reg ?_
 refine WL_assign rfl rfl ?_
 refine WL_nil ?_
 refine W_ret ?_
 have hq11 := Option.some.inj hF
 subst hq11
 refine fn_ret1 rfl rfl ?_
 exact ⟨_, rfl, bool_res hC11 _⟩

theorem c_S_l1Once {w0 : World} {Fs : List (List Nat)} (pb1 : Nat) (a1 : ((List UInt8) × Int × Int)) (u1 : Value) (g1 : RO Fs.flatten w0 u1 a1.1) (a2 : Int) (hH : Hold [Item.box pb1 [u1, (.int .i64 a1.2.1), (.int .i64 a1.2.2)]] w0 Fs) (hn : Fs.flatten.Nodup) (rr : (Bool × ((List UInt8) × Int × Int))) (hF : S.l1Once a1 a2 = some rr) :
 Calls Try.prog 55 [(ptr pb1 0), (.int .i64 a2)].toArray w0 fun e w' => ∃ v, e = .returned v ∧ v = (.bool rr.1) ∧ Ctx Fs.flatten w0 w' [Item.box pb1 [u1, (.int .i64 rr.2.2.1), (.int .i64 rr.2.2.2)]] := by
 refine calls_of_W Try.func55 rfl rfl ?_
 have hC0 := Ctx.startIn hH hn
 unfold S.l1Once at hF
 refine W_seq_reg ?_
 refine WL_assign rfl rfl ?_
 refine WL_nil ?_
 refine W_seq_reg ?_
 refine WL_move rfl rfl ?_
 refine WL_move rfl rfl ?_
 obtain ⟨x1, hr1, hF⟩ := bind_some hF
 obtain ⟨Fs1, hH1, hn1, hF1, hO1, hb1⟩ := Ctx.lend2 (As := []) [Item.box pb1 [u1, (.int .i64 a1.2.1), (.int .i64 a1.2.2)]] hC0
 refine WL_call Try.call30 rfl rfl (c_S_l1Below pb1 (a1.1, a1.2.1, a1.2.2) u1 (RO.lent g1 hC0.keep hF1) a2 hH1 hn1 x1 hr1) ?_
 rintro _ w1 ⟨rfl, hq1⟩
 have hC1 : Ctx Fs.flatten w0 w1 [Item.box pb1 [u1, (.int .i64 x1.2.2.1), (.int .i64 x1.2.2.2)]] := hb1 _ _ hq1
 refine WL_eql rfl rfl rfl ?_
 refine WL_assign rfl rfl ?_
 refine WL_nil ?_
 refine W_ret ?_
 have hq2 := Option.some.inj hF
 subst hq2
 refine fn_ret1 rfl rfl ?_
 exact ⟨_, rfl, rfl, hC1⟩

theorem c_S_l18List {w0 : World} {Fs : List (List Nat)} (pb1 : Nat) (a1 : ((List UInt8) × Int × Int)) (u1 : Value) (g1 : RO Fs.flatten w0 u1 a1.1) (hH : Hold [Item.box pb1 [u1, (.int .i64 a1.2.1), (.int .i64 a1.2.2)]] w0 Fs) (hn : Fs.flatten.Nodup) (rr : ((List Int) × ((List UInt8) × Int × Int))) (hF : S.l18List a1 = some rr) :
 Calls Try.prog 37 [(ptr pb1 0)].toArray w0 fun e w' => ∃ v, e = .returned v ∧ ∃ q0 : Value, v = q0 ∧ Ctx Fs.flatten w0 w' [Item.own q0 (rr.1 : (List Int)), Item.box pb1 [u1, (.int .i64 rr.2.2.1), (.int .i64 rr.2.2.2)]] := by
 refine calls_of_W Try.func37 rfl rfl ?_
 have hC0 := Ctx.startIn hH hn
 unfold S.l18List at hF
 refine W_seq_reg ?_
 refine WL_assign rfl rfl ?_
 refine WL_nil ?_
 refine W_seq_reg ?_
 refine WL_buildSlice (vs := []) hC0 Try.underlying28 ty3 rfl rfl rfl rfl (by simp) rfl rfl (fun b1 w1 hC1 hB1 => ?_)
 have hC2 := hC1.row0 (α := Int)
 have hC3 := hC2.front 1 rfl
 dsimp only [List.eraseIdx, List.cons_append, List.nil_append, List.append_nil] at hC3
 have hC4 : Ctx Fs.flatten w0 w1 (Item.own (.slice (some ⟨b1, 0, none⟩) 0 0) (([] : List Int) : List Int) :: [Item.box pb1 [u1, (.int .i64 a1.2.1), (.int .i64 a1.2.2)]]) := hC3.rowOwn (by simp [maxLen])
 refine WL_assign rfl rfl ?_
 refine WL_nil ?_
 refine W_seq_reg ?_
 refine WL_assign rfl rfl ?_
 refine WL_nil ?_
 refine W_seq ?_
 refine W_seq_reg ?_
 refine WL_move rfl rfl ?_
 obtain ⟨x1, hr1, hF⟩ := bind_some hF
 have hC5 := hC4.f1
 obtain ⟨Fs1, hH1, hn1, hF1, hO1, hb1⟩ := Ctx.lend2 (As := [Item.own (.slice (some ⟨b1, 0, none⟩) 0 0) (([] : List Int) : (List Int))]) [Item.box pb1 [u1, (.int .i64 a1.2.1), (.int .i64 a1.2.2)]] hC5
 refine WL_call Try.call30 rfl rfl (c_S_l1Below pb1 (a1.1, a1.2.1, a1.2.2) u1 (RO.lent g1 hC5.keep hF1) 7 hH1 hn1 x1 hr1) ?_
 rintro _ w2 ⟨rfl, hq1⟩
 have hC6 : Ctx Fs.flatten w0 w2 [Item.box pb1 [u1, (.int .i64 x1.2.2.1), (.int .i64 x1.2.2.2)], Item.own (.slice (some ⟨b1, 0, none⟩) 0 0) (([] : List Int) : (List Int))] := hb1 _ _ hq1
 refine WL_assign rfl rfl ?_
 refine WL_nil ?_
 obtain ⟨r1, hr2, hF⟩ := bind_some hF
 refine W_norm (fun l w => ∃ x7 : Int, ∃ x8 : Int, ∃ v2 : Value, ∃ x9 : (List Int), (x7, x8, x9) = r1 ∧ l = [(0, (ptr pb1 0)), (3, v2)] ∧ Ctx Fs.flatten w0 w [Item.box pb1 [u1, (.int .i64 x7), (.int .i64 x8)], Item.own v2 (x9 : (List Int))]) ?_ ?_
 ·refine W_block ?_
  refine W.sub (l' := [(0, (ptr pb1 0)), (3, (.slice (some ⟨b1, 0, none⟩) 0 0)), (4, (.int .i64 0)), (5, (.int .i64 x1.1))]) ?_ ⟨rfl, rfl, rfl, rfl, trivial⟩
  refine W_loop (fun k l w => ∃ x2 : Int, ∃ x3 : Int, ∃ v1 : Value, ∃ x4 : (List Int), ∃ x5 : Int, ∃ x6 : Int, l = [(0, (ptr pb1 0)), (3, v1), (4, (.int .i64 x5)), (5, (.int .i64 x6))] ∧ Ctx Fs.flatten w0 w [Item.box pb1 [u1, (.int .i64 x2), (.int .i64 x3)], Item.own v1 (x4 : (List Int))] ∧ S.l18List_l1 a1 k x2 x3 x4 x5 x6 = some r1) FUEL ⟨x1.2.2.1, x1.2.2.2, (.slice (some ⟨b1, 0, none⟩) 0 0), ([] : List Int), 0, x1.1, rfl, hC6, hr2⟩ ?_
  clear hr2
  rintro k1 _ w3 ⟨x2, x3, v1, x4, x5, x6, rfl, hC7, hL1⟩
  cases k1 with
  | zero => rw [S.l18List_l1] at hL1; cases hL1
  | succ k1 =>
   rw [S.l18List_l1] at hL1
   refine W_seq ?_
   refine W_seq_reg ?_
   refine WL_move rfl rfl ?_
   refine WL_gtr rfl rfl rfl ?_
   refine WL_nil ?_
   refine W_cond rfl (fun hc1 => ?_) (fun hc1 => ?_)
   ·replace hL1 := ite_t hL1 hc1
    refine W_skip ?_
    refine nrm_normal ?_
    refine W_seq ?_
    refine W_block ?_
    refine W_seq_reg ?_
    refine WL_move rfl rfl ?_
    refine WL_move rfl rfl ?_
    obtain ⟨x10, hr3, hL1⟩ := bind_some hL1
    obtain ⟨Fs2, hH2, hn2, hF2, hO2, hb2⟩ := Ctx.lend2 (As := [Item.own v1 (x4 : (List Int))]) [Item.box pb1 [u1, (.int .i64 x2), (.int .i64 x3)]] hC7
    refine WL_call Try.call30 rfl rfl (c_S_l1Below pb1 (a1.1, x2, x3) u1 (RO.lent g1 hC7.keep hF2) 4 hH2 hn2 x10 hr3) ?_
    rintro _ w4 ⟨rfl, hq2⟩
    have hC8 : Ctx Fs.flatten w0 w4 [Item.box pb1 [u1, (.int .i64 x10.2.2.1), (.int .i64 x10.2.2.2)], Item.own v1 (x4 : (List Int))] := hb2 _ _ hq2
    refine WL_add rfl rfl rfl ?_
    refine WL_assign rfl rfl ?_
    refine WL_nil ?_
    refine W_reg ?_
    refine WL_move rfl rfl ?_
    refine WL_move rfl rfl ?_
    refine WL_buildSlice (vs := [(.int .i64 (w64 (x5 + x10.1)))]) hC8 Try.underlying28 ty3 rfl rfl rfl rfl (by intro v hv; simp only [List.mem_cons, List.not_mem_nil, or_false] at hv; rcases hv with rfl <;> rfl) rfl rfl (fun b2 w5 hC9 hB3 => ?_)
    have hC10 := hC9.row0 (α := Int)
    have hC11 := hC10.triv (int_val (w64 (x5 + x10.1)))
    have hC12 := hC11.row1
    have hC13 := hC12.front 1 rfl
    dsimp only [List.eraseIdx, List.cons_append, List.nil_append, List.append_nil] at hC13
    have hC14 : Ctx Fs.flatten w0 w5 (Item.own (.slice (some ⟨b2, 0, none⟩) 1 1) ([w64 (x5 + x10.1)] : List Int) :: [Item.box pb1 [u1, (.int .i64 x10.2.2.1), (.int .i64 x10.2.2.2)], Item.own v1 (x4 : (List Int))]) := hC13.rowOwn (by simp [maxLen])
    obtain ⟨x11, hx1, hL1⟩ := bind_some hL1
    refine WL_append_flat (α := Int) hC14 2 rfl (hC14.ro 0 rfl) (Keep.refl _ _) Try.underlying28 ty3 rfl hx1 rfl rfl rfl (fun v3 w6 hC15 => ?_)
    try dsimp only [List.set] at hC15
    refine WL_assign rfl rfl ?_
    refine WL_nil ?_
    refine blk_normal ?_
    refine nrm_normal ?_
    refine W_reg ?_
    refine WL_move rfl rfl ?_
    refine WL_sub rfl rfl rfl ?_
    refine WL_assign rfl rfl ?_
    refine WL_nil ?_
    have hC16 := hC15.f2
    have hC17 := hC16.f2
    have hC18 := hC17.h2
    refine nrm_sub (l' := [(0, (ptr pb1 0)), (3, v3), (4, (.int .i64 (w64 (x5 + x10.1)))), (5, (.int .i64 (w64 (x6 - 1))))]) ⟨rfl, rfl, rfl, rfl, trivial⟩ ?_
    exact ⟨k1, Nat.lt_succ_self _, x10.2.2.1, x10.2.2.2, v3, x11, w64 (x5 + x10.1), w64 (x6 - 1), rfl, hC18, hL1⟩
   replace hL1 := ite_f hL1 hc1
   refine W_exit ?_
   refine nrm_exit ?_
   refine nrm_exit ?_
   refine blk_exit ?_
   have hq3 := Option.some.inj hL1
   subst hq3
   refine nrm_sub (l' := [(0, (ptr pb1 0)), (3, v1)]) ⟨rfl, rfl, trivial⟩ ?_
   exact ⟨x2, x3, v1, x4, rfl, rfl, hC7⟩
 rintro l2 _ w7 hs2 ⟨x7, x8, v2, x9, rfl, rfl, hC19⟩
 try dsimp only at hF
 refine nrm_sub' hs2 ?_
 clear hs2
 refine W_seq ?_
 refine W_seq_reg ?_
 refine WL_move rfl rfl ?_
 obtain ⟨x12, hr4, hF⟩ := bind_some hF
 obtain ⟨Fs3, hH3, hn3, hF3, hO3, hb3⟩ := Ctx.lend2 (As := [Item.own v2 (x9 : (List Int))]) [Item.box pb1 [u1, (.int .i64 x7), (.int .i64 x8)]] hC19
 refine WL_call Try.call55 rfl rfl (c_S_l1Once pb1 (a1.1, x7, x8) u1 (RO.lent g1 hC19.keep hF3) 12 hH3 hn3 x12 hr4) ?_
 rintro _ w9 ⟨rfl, hq4⟩
 have hC20 : Ctx Fs.flatten w0 w9 [Item.box pb1 [u1, (.int .i64 x12.2.2.1), (.int .i64 x12.2.2.2)], Item.own v2 (x9 : (List Int))] := hb3 _ _ hq4
 refine WL_nil ?_
 obtain ⟨r2, hr5, hF⟩ := bind_some hF
 refine W_norm (fun l w => ∃ x13 : Int, ∃ x14 : Int, ∃ v4 : Value, ∃ x15 : (List Int), (x13, x14, x15) = r2 ∧ l = [(3, v4)] ∧ Ctx Fs.flatten w0 w [Item.box pb1 [u1, (.int .i64 x13), (.int .i64 x14)], Item.own v4 (x15 : (List Int))]) ?_ ?_
 ·refine W_cond rfl (fun hc2 => ?_) (fun hc2 => ?_)
  ·replace hr5 := ite_t hr5 hc2
   refine W_reg ?_
   refine WL_move rfl rfl ?_
   refine WL_move rfl rfl ?_
   refine WL_buildSlice (vs := [(.int .i64 (-1)), (.int .i64 0), (.int .i64 10000), (.int .i64 10001)]) hC20 Try.underlying28 ty3 rfl rfl rfl rfl (by intro v hv; simp only [List.mem_cons, List.not_mem_nil, or_false] at hv; rcases hv with rfl | rfl | rfl | rfl <;> rfl) rfl rfl (fun b3 w11 hC22 hB6 => ?_)
   have hC23 := hC22.row0 (α := Int)
   have hC24 := hC23.triv (int_val (10001))
   have hC25 := hC24.row1
   have hC26 := hC25.triv (int_val (10000))
   have hC27 := hC26.row1
   have hC28 := hC27.triv (int_val (0))
   have hC29 := hC28.row1
   have hC30 := hC29.triv (int_val ((-1)))
   have hC31 := hC30.row1
   have hC32 := hC31.front 1 rfl
   dsimp only [List.eraseIdx, List.cons_append, List.nil_append, List.append_nil] at hC32
   have hC33 : Ctx Fs.flatten w0 w11 (Item.own (.slice (some ⟨b3, 0, none⟩) 4 4) ([(-1), 0, 10000, 10001] : List Int) :: [Item.box pb1 [u1, (.int .i64 x12.2.2.1), (.int .i64 x12.2.2.2)], Item.own v2 (x9 : (List Int))]) := hC32.rowOwn (by simp [maxLen])
   obtain ⟨x16, hr6, hr5⟩ := bind_some hr5
   have hC34 := hC33.f1
   obtain ⟨Fs4, hH4, hn4, hF4, hO4, hb4⟩ := Ctx.lend2 (As := [Item.own (.slice (some ⟨b3, 0, none⟩) 4 4) ([(-1), 0, 10000, 10001] : (List Int)), Item.own v2 (x9 : (List Int))]) [Item.box pb1 [u1, (.int .i64 x12.2.2.1), (.int .i64 x12.2.2.2)]] hC34
   refine WL_call Try.call31 rfl rfl (c_S_l1PickInt pb1 (a1.1, x12.2.2.1, x12.2.2.2) u1 (RO.lent g1 hC34.keep hF4) ([(-1), 0, 10000, 10001]) (.slice (some ⟨b3, 0, none⟩) 4 4) (hO4 0 _ _ _ rfl) hH4 hn4 x16 hr6) ?_
   rintro _ w12 ⟨rfl, hq5⟩
   have hC35 : Ctx Fs.flatten w0 w12 [Item.box pb1 [u1, (.int .i64 x16.2.2.1), (.int .i64 x16.2.2.2)], Item.own (.slice (some ⟨b3, 0, none⟩) 4 4) ([(-1), 0, 10000, 10001] : (List Int)), Item.own v2 (x9 : (List Int))] := hb4 _ _ hq5
   refine WL_buildSlice (vs := [(.int .i64 x16.1)]) hC35 Try.underlying28 ty3 rfl rfl rfl rfl (by intro v hv; simp only [List.mem_cons, List.not_mem_nil, or_false] at hv; rcases hv with rfl <;> rfl) rfl rfl (fun b4 w13 hC36 hB7 => ?_)
   have hC37 := hC36.row0 (α := Int)
   have hC38 := hC37.triv (int_val (x16.1))
   have hC39 := hC38.row1
   have hC40 := hC39.front 1 rfl
   dsimp only [List.eraseIdx, List.cons_append, List.nil_append, List.append_nil] at hC40
   have hC41 : Ctx Fs.flatten w0 w13 (Item.own (.slice (some ⟨b4, 0, none⟩) 1 1) ([x16.1] : List Int) :: [Item.box pb1 [u1, (.int .i64 x16.2.2.1), (.int .i64 x16.2.2.2)], Item.own (.slice (some ⟨b3, 0, none⟩) 4 4) ([(-1), 0, 10000, 10001] : (List Int)), Item.own v2 (x9 : (List Int))]) := hC40.rowOwn (by simp [maxLen])
   obtain ⟨x17, hx2, hr5⟩ := bind_some hr5
   refine WL_append_flat (α := Int) hC41 3 rfl (hC41.ro 0 rfl) (Keep.refl _ _) Try.underlying28 ty3 rfl hx2 rfl rfl rfl (fun v5 w14 hC42 => ?_)
   try dsimp only [List.set] at hC42
   refine WL_assign rfl rfl ?_
   refine WL_nil ?_
   have hq6 := Option.some.inj hr5
   subst hq6
   have hC43 := hC42.f3
   have hC44 := hC43.f2
   have hC45 := hC44.h2
   refine nrm_sub (l' := [(3, v5)]) ⟨rfl, trivial⟩ ?_
   exact ⟨x16.2.2.1, x16.2.2.2, v5, x17, rfl, rfl, hC45⟩
  replace hr5 := ite_f hr5 hc2
  refine W_skip ?_
  have hq7 := Option.some.inj hr5
  subst hq7
  refine nrm_sub (l' := [(3, v2)]) ⟨rfl, trivial⟩ ?_
  exact ⟨x12.2.2.1, x12.2.2.2, v2, x9, rfl, rfl, hC20⟩
 rintro l3 _ w10 hs3 ⟨x13, x14, v4, x15, rfl, rfl, hC21⟩
 try dsimp only at hF
 refine nrm_sub' hs3 ?_
 clear hs3
 refine W_seq_reg ?_
 refine WL_move rfl rfl ?_
 refine WL_assign rfl rfl ?_
 refine WL_nil ?_
 refine W_ret ?_
 have hq8 := Option.some.inj hF
 subst hq8
 refine fn_ret1 rfl rfl ?_
 have hC46 := hC21.f1
 exact ⟨_, rfl, _, rfl, hC46⟩

theorem c_S_DrawNextTime {w0 : World} (a1 : (List UInt8)) (u1 : Value) (g1 : RO [] w0 u1 a1) (rr : ((List Int) × (Int × Int) × Int)) (hF : S.DrawNextTime a1 = some rr) :
 Calls Try.prog 13 [u1].toArray w0 fun e w' => ∃ v, e = .returned v ∧ Res3 w0 rr.1 rr.2.1 rr.2.2 v w' := by
 refine calls_of_W Try.func13 rfl rfl ?_
 have hC0 := Ctx.start w0
 unfold S.DrawNextTime at hF
 refine W_seq_reg ?_
 refine WL_assign rfl rfl ?_
 refine WL_allocK hC0 zero25 rfl rfl (fun b1 w1 hC1 hB1 hN1 => ?_)
 refine WL_assign rfl rfl ?_
 refine WL_nil ?_
 refine W_seq_reg ?_
 refine WL_move rfl rfl ?_
 obtain ⟨x1, hr1, hF⟩ := bind_some hF
 refine WL_call Try.call28 rfl rfl (c_S_l1New a1 u1 (g1.now hC1.keep) x1 hr1) ?_
 rintro _ w2 ⟨b2, rfl, hq1⟩
 have hC2 : Ctx [] w0 w2 [Item.box b2 [u1, (.int .i64 x1.2.1), (.int .i64 x1.2.2)], Item.box b1 [(.int .i64 0), (.int .i64 0)]] := hC1.push2 hq1
 refine WL_assign rfl rfl ?_
 refine WL_nil ?_
 refine W_seq_reg ?_
 refine WL_move rfl rfl ?_
 obtain ⟨x2, hr2, hF⟩ := bind_some hF
 obtain ⟨Fs2, hH2, hn2, hF2, hO2, hb2⟩ := Ctx.lend2 (As := [Item.box b1 [(.int .i64 0), (.int .i64 0)]]) [Item.box b2 [u1, (.int .i64 x1.2.1), (.int .i64 x1.2.2)]] hC2
 refine WL_call Try.call37 rfl rfl (c_S_l18List b2 (a1, x1.2.1, x1.2.2) u1 (RO.lent g1 hC2.keep hF2) hH2 hn2 x2 hr2) ?_
 rintro v1 w3 ⟨_, rfl, hq2⟩
 have hC3 : Ctx [] w0 w3 [Item.own v1 (x2.1 : (List Int)), Item.box b2 [u1, (.int .i64 x2.2.2.1), (.int .i64 x2.2.2.2)], Item.box b1 [(.int .i64 0), (.int .i64 0)]] := hb2 _ _ hq2
 refine WL_assign rfl rfl ?_
 refine WL_nil ?_
 refine W_seq_reg ?_
 refine WL_move rfl rfl ?_
 obtain ⟨x3, hr3, hF⟩ := bind_some hF
 have hC4 := hC3.f1
 obtain ⟨Fs3, hH3, hn3, hF3, hO3, hb3⟩ := Ctx.lend2 (As := [Item.own v1 (x2.1 : (List Int)), Item.box b1 [(.int .i64 0), (.int .i64 0)]]) [Item.box b2 [u1, (.int .i64 x2.2.2.1), (.int .i64 x2.2.2.2)]] hC4
 refine WL_call Try.call29 rfl rfl (c_S_l18Window b2 (a1, x2.2.2.1, x2.2.2.2) u1 (RO.lent g1 hC4.keep hF3) hH3 hn3 x3 hr3) ?_
 rintro v2 w4 ⟨_, rfl, hq3⟩
 have hC5 : Ctx [] w0 w4 [Item.own v2 (x3.1 : (Int × Int)), Item.box b2 [u1, (.int .i64 x3.2.2.1), (.int .i64 x3.2.2.2)], Item.own v1 (x2.1 : (List Int)), Item.box b1 [(.int .i64 0), (.int .i64 0)]] := hb3 _ _ hq3
 obtain ⟨rfl, hC6⟩ := st25_own hC5
 refine WL_allocK hC6 zero25 rfl rfl (fun b3 w5 hC7 hB2 hN2 => ?_)
 refine WL_store_box_aggK (cs' := [(.int .i64 x3.1.1), (.int .i64 x3.1.2)]) (new := [(.int .i64 x3.1.1), (.int .i64 x3.1.2)]) hC7 0 rfl rfl (by intro v hv; simp only [List.mem_cons, List.not_mem_nil, or_false] at hv; rcases hv with rfl | rfl; exact rfl; exact rfl) rfl Try.sizeOf25 rfl rfl (fun w6 hC8 hKp1 => ?_)
 try dsimp only [List.set] at hC8
 have hk1 := Keep.over (Keep.of hB2) hN2 hKp1
 refine WL_nil ?_
 obtain ⟨r1, hr4, hF⟩ := bind_some hF
 refine W_cut (fun l w => ∃ x4 : Int, ∃ x5 : Int, ∃ x6 : Int, ∃ x7 : Int, ∃ v3 : Value, ∃ x8 : (List Int), ∃ x9 : Int, (x4, x5, x6, x7, x8, x9) = r1 ∧ l = [(2, v3), (3, (ptr b1 0)), (4, (.int .i64 x9))] ∧ Ctx [] w0 w [Item.own v3 (x8 : (List Int)), Item.box b1 [(.int .i64 x6), (.int .i64 x7)]]) ?_ ?_
 ·refine W_drawn 8 rfl hmix (fun w9 hB4 => ?_)
  have hC10 := hC8.grow hB4
  refine WA_tk 0 (by kernel_rfl) rfl rfl (fl_move rfl) ?_
  refine WL_move rfl rfl ?_
  refine WL_nil ?_
  refine WA_tk 2 (by kernel_rfl) rfl rfl (fl_move rfl) ?_
  refine WL_move rfl rfl ?_
  refine WL_nil ?_
  refine WA_all2 (i := 1) (j := 3) (by kernel_rfl) rfl rfl ?_ ?_
  ·refine WL_load_box_agg [(.int .i64 x3.1.1), (.int .i64 x3.1.2)] hC10 0 rfl rfl rfl Try.isAgg25 Try.sizeOf25 rfl rfl ?_
   refine WL_nil ?_
   refine WA_one 3 (by kernel_rfl) rfl ?_
   refine WL_buildSlice (vs := [(.int .i64 0), (.int .i64 3), (.int .i64 9), (.int .i64 10000), (.int .i64 (-1))]) hC10 Try.underlying28 ty3 rfl rfl rfl rfl (by intro v hv; simp only [List.mem_cons, List.not_mem_nil, or_false] at hv; rcases hv with rfl | rfl | rfl | rfl | rfl <;> rfl) rfl rfl (fun b4 w10 hC11 hB5 => ?_)
   have hC12 := hC11.row0 (α := Int)
   have hC13 := hC12.triv (int_val ((-1)))
   have hC14 := hC13.row1
   have hC15 := hC14.triv (int_val (10000))
   have hC16 := hC15.row1
   have hC17 := hC16.triv (int_val (9))
   have hC18 := hC17.row1
   have hC19 := hC18.triv (int_val (3))
   have hC20 := hC19.row1
   have hC21 := hC20.triv (int_val (0))
   have hC22 := hC21.row1
   have hC23 := hC22.front 1 rfl
   dsimp only [List.eraseIdx, List.cons_append, List.nil_append, List.append_nil] at hC23
   have hC24 : Ctx [] w0 w10 (Item.own (.slice (some ⟨b4, 0, none⟩) 5 5) ([0, 3, 9, 10000, (-1)] : List Int) :: [Item.box b3 [(.int .i64 x3.1.1), (.int .i64 x3.1.2)], Item.box b2 [u1, (.int .i64 x3.2.2.1), (.int .i64 x3.2.2.2)], Item.own v1 (x2.1 : (List Int)), Item.box b1 [(.int .i64 0), (.int .i64 0)]]) := hC23.rowOwn (by simp [maxLen])
   refine WL_nil ?_
   obtain ⟨x10, hr5, hr4⟩ := bind_some hr4
   refine WA_one 4 (by kernel_rfl) rfl ?_
   have hC25 := hC24.f2
   obtain ⟨Fs4, hH4, hn4, hF4, hO4, hb4⟩ := Ctx.lend2 (As := [Item.own (.slice (some ⟨b4, 0, none⟩) 5 5) ([0, 3, 9, 10000, (-1)] : (List Int)), Item.box b3 [(.int .i64 x3.1.1), (.int .i64 x3.1.2)], Item.own v1 (x2.1 : (List Int)), Item.box b1 [(.int .i64 0), (.int .i64 0)]]) [Item.box b2 [u1, (.int .i64 x3.2.2.1), (.int .i64 x3.2.2.2)]] hC25
   refine WL_call Try.call31 rfl rfl (c_S_l1PickInt b2 (a1, x3.2.2.1, x3.2.2.2) u1 (RO.lent g1 hC25.keep hF4) ([0, 3, 9, 10000, (-1)]) (.slice (some ⟨b4, 0, none⟩) 5 5) (hO4 0 _ _ _ rfl) hH4 hn4 x10 hr5) ?_
   rintro _ w11 ⟨rfl, hq4⟩
   have hC26 : Ctx [] w0 w11 [Item.box b2 [u1, (.int .i64 x10.2.2.1), (.int .i64 x10.2.2.2)], Item.own (.slice (some ⟨b4, 0, none⟩) 5 5) ([0, 3, 9, 10000, (-1)] : (List Int)), Item.box b3 [(.int .i64 x3.1.1), (.int .i64 x3.1.2)], Item.own v1 (x2.1 : (List Int)), Item.box b1 [(.int .i64 0), (.int .i64 0)]] := hb4 _ _ hq4
   refine WL_nil ?_
   refine WA_tk 5 (by kernel_rfl) rfl rfl (fl_assign rfl) ?_
   refine WL_assign rfl rfl ?_
   refine WL_nil ?_
   refine WA_one 6 (by kernel_rfl) rfl ?_
   refine WL_store_box_aggK (cs' := [(.int .i64 x3.1.1), (.int .i64 x3.1.2)]) (new := [(.int .i64 x3.1.1), (.int .i64 x3.1.2)]) hC26 4 rfl rfl (by intro v hv; simp only [List.mem_cons, List.not_mem_nil, or_false] at hv; rcases hv with rfl | rfl; exact rfl; exact rfl) rfl Try.sizeOf25 rfl rfl (fun w12 hC27 hKp2 => ?_)
   try dsimp only [List.set] at hC27
   refine WL_nil ?_
   refine WA_tk 7 (by kernel_rfl) rfl rfl (fl_assign rfl) ?_
   refine WL_assign rfl rfl ?_
   refine WL_nil ?_
   refine WA_done (by kernel_rfl) ?_
   have hq5 := Option.some.inj hr4
   subst hq5
   have hC28 := hC27.f4
   have hC29 := hC28.f4
   have hC30 := hC29.h2
   refine nrm_sub (l' := [(2, v1), (3, (ptr b1 0)), (4, (.int .i64 x10.1))]) ⟨rfl, rfl, rfl, trivial⟩ ?_
   exact ⟨x10.2.2.1, x10.2.2.2, x3.1.1, x3.1.2, v1, x2.1, x10.1, rfl, rfl, hC30⟩
  refine WL_buildSlice (vs := [(.int .i64 0), (.int .i64 3), (.int .i64 9), (.int .i64 10000), (.int .i64 (-1))]) hC10 Try.underlying28 ty3 rfl rfl rfl rfl (by intro v hv; simp only [List.mem_cons, List.not_mem_nil, or_false] at hv; rcases hv with rfl | rfl | rfl | rfl | rfl <;> rfl) rfl rfl (fun b4 w10 hC11 hB5 => ?_)
  have hC12 := hC11.row0 (α := Int)
  have hC13 := hC12.triv (int_val ((-1)))
  have hC14 := hC13.row1
  have hC15 := hC14.triv (int_val (10000))
  have hC16 := hC15.row1
  have hC17 := hC16.triv (int_val (9))
  have hC18 := hC17.row1
  have hC19 := hC18.triv (int_val (3))
  have hC20 := hC19.row1
  have hC21 := hC20.triv (int_val (0))
  have hC22 := hC21.row1
  have hC23 := hC22.front 1 rfl
  dsimp only [List.eraseIdx, List.cons_append, List.nil_append, List.append_nil] at hC23
  have hC24 : Ctx [] w0 w10 (Item.own (.slice (some ⟨b4, 0, none⟩) 5 5) ([0, 3, 9, 10000, (-1)] : List Int) :: [Item.box b3 [(.int .i64 x3.1.1), (.int .i64 x3.1.2)], Item.box b2 [u1, (.int .i64 x3.2.2.1), (.int .i64 x3.2.2.2)], Item.own v1 (x2.1 : (List Int)), Item.box b1 [(.int .i64 0), (.int .i64 0)]]) := hC23.rowOwn (by simp [maxLen])
  refine WL_nil ?_
  refine WA_all2 (i := 1) (j := 4) (by kernel_rfl) rfl rfl ?_ ?_
  ·refine WL_load_box_agg [(.int .i64 x3.1.1), (.int .i64 x3.1.2)] hC24 1 rfl rfl rfl Try.isAgg25 Try.sizeOf25 rfl rfl ?_
   refine WL_nil ?_
   obtain ⟨x10, hr5, hr4⟩ := bind_some hr4
   refine WA_one 4 (by kernel_rfl) rfl ?_
   have hC25 := hC24.f2
   obtain ⟨Fs4, hH4, hn4, hF4, hO4, hb4⟩ := Ctx.lend2 (As := [Item.own (.slice (some ⟨b4, 0, none⟩) 5 5) ([0, 3, 9, 10000, (-1)] : (List Int)), Item.box b3 [(.int .i64 x3.1.1), (.int .i64 x3.1.2)], Item.own v1 (x2.1 : (List Int)), Item.box b1 [(.int .i64 0), (.int .i64 0)]]) [Item.box b2 [u1, (.int .i64 x3.2.2.1), (.int .i64 x3.2.2.2)]] hC25
   refine WL_call Try.call31 rfl rfl (c_S_l1PickInt b2 (a1, x3.2.2.1, x3.2.2.2) u1 (RO.lent g1 hC25.keep hF4) ([0, 3, 9, 10000, (-1)]) (.slice (some ⟨b4, 0, none⟩) 5 5) (hO4 0 _ _ _ rfl) hH4 hn4 x10 hr5) ?_
   rintro _ w11 ⟨rfl, hq4⟩
   have hC26 : Ctx [] w0 w11 [Item.box b2 [u1, (.int .i64 x10.2.2.1), (.int .i64 x10.2.2.2)], Item.own (.slice (some ⟨b4, 0, none⟩) 5 5) ([0, 3, 9, 10000, (-1)] : (List Int)), Item.box b3 [(.int .i64 x3.1.1), (.int .i64 x3.1.2)], Item.own v1 (x2.1 : (List Int)), Item.box b1 [(.int .i64 0), (.int .i64 0)]] := hb4 _ _ hq4
   refine WL_nil ?_
   refine WA_tk 5 (by kernel_rfl) rfl rfl (fl_assign rfl) ?_
   refine WL_assign rfl rfl ?_
   refine WL_nil ?_
   refine WA_one 6 (by kernel_rfl) rfl ?_
   refine WL_store_box_aggK (cs' := [(.int .i64 x3.1.1), (.int .i64 x3.1.2)]) (new := [(.int .i64 x3.1.1), (.int .i64 x3.1.2)]) hC26 4 rfl rfl (by intro v hv; simp only [List.mem_cons, List.not_mem_nil, or_false] at hv; rcases hv with rfl | rfl; exact rfl; exact rfl) rfl Try.sizeOf25 rfl rfl (fun w12 hC27 hKp2 => ?_)
   try dsimp only [List.set] at hC27
   refine WL_nil ?_
   refine WA_tk 7 (by kernel_rfl) rfl rfl (fl_assign rfl) ?_
   refine WL_assign rfl rfl ?_
   refine WL_nil ?_
   refine WA_done (by kernel_rfl) ?_
   have hq5 := Option.some.inj hr4
   subst hq5
   have hC28 := hC27.f4
   have hC29 := hC28.f4
   have hC30 := hC29.h2
   refine nrm_sub (l' := [(2, v1), (3, (ptr b1 0)), (4, (.int .i64 x10.1))]) ⟨rfl, rfl, rfl, trivial⟩ ?_
   exact ⟨x10.2.2.1, x10.2.2.2, x3.1.1, x3.1.2, v1, x2.1, x10.1, rfl, rfl, hC30⟩
  obtain ⟨x10, hr5, hr4⟩ := bind_some hr4
  have hC25 := hC24.f2
  obtain ⟨Fs4, hH4, hn4, hF4, hO4, hb4⟩ := Ctx.lend2 (As := [Item.own (.slice (some ⟨b4, 0, none⟩) 5 5) ([0, 3, 9, 10000, (-1)] : (List Int)), Item.box b3 [(.int .i64 x3.1.1), (.int .i64 x3.1.2)], Item.own v1 (x2.1 : (List Int)), Item.box b1 [(.int .i64 0), (.int .i64 0)]]) [Item.box b2 [u1, (.int .i64 x3.2.2.1), (.int .i64 x3.2.2.2)]] hC25
  refine WL_call Try.call31 rfl rfl (c_S_l1PickInt b2 (a1, x3.2.2.1, x3.2.2.2) u1 (RO.lent g1 hC25.keep hF4) ([0, 3, 9, 10000, (-1)]) (.slice (some ⟨b4, 0, none⟩) 5 5) (hO4 0 _ _ _ rfl) hH4 hn4 x10 hr5) ?_
  rintro _ w11 ⟨rfl, hq4⟩
  have hC26 : Ctx [] w0 w11 [Item.box b2 [u1, (.int .i64 x10.2.2.1), (.int .i64 x10.2.2.2)], Item.own (.slice (some ⟨b4, 0, none⟩) 5 5) ([0, 3, 9, 10000, (-1)] : (List Int)), Item.box b3 [(.int .i64 x3.1.1), (.int .i64 x3.1.2)], Item.own v1 (x2.1 : (List Int)), Item.box b1 [(.int .i64 0), (.int .i64 0)]] := hb4 _ _ hq4
  refine WL_nil ?_
  refine WA_tk 5 (by kernel_rfl) rfl rfl (fl_assign rfl) ?_
  refine WL_assign rfl rfl ?_
  refine WL_nil ?_
  refine WA_one 1 (by kernel_rfl) rfl ?_
  refine WL_load_box_agg [(.int .i64 x3.1.1), (.int .i64 x3.1.2)] hC26 2 rfl rfl rfl Try.isAgg25 Try.sizeOf25 rfl rfl ?_
  refine WL_nil ?_
  refine WA_one 6 (by kernel_rfl) rfl ?_
  refine WL_store_box_aggK (cs' := [(.int .i64 x3.1.1), (.int .i64 x3.1.2)]) (new := [(.int .i64 x3.1.1), (.int .i64 x3.1.2)]) hC26 4 rfl rfl (by intro v hv; simp only [List.mem_cons, List.not_mem_nil, or_false] at hv; rcases hv with rfl | rfl; exact rfl; exact rfl) rfl Try.sizeOf25 rfl rfl (fun w12 hC27 hKp2 => ?_)
  try dsimp only [List.set] at hC27
  refine WL_nil ?_
  refine WA_tk 7 (by kernel_rfl) rfl rfl (fl_assign rfl) ?_
  refine WL_assign rfl rfl ?_
  refine WL_nil ?_
  refine WA_done (by kernel_rfl) ?_
  have hq5 := Option.some.inj hr4
  subst hq5
  have hC28 := hC27.f4
  have hC29 := hC28.f4
  have hC30 := hC29.h2
  refine nrm_sub (l' := [(2, v1), (3, (ptr b1 0)), (4, (.int .i64 x10.1))]) ⟨rfl, rfl, rfl, trivial⟩ ?_
  exact ⟨x10.2.2.1, x10.2.2.2, x3.1.1, x3.1.2, v1, x2.1, x10.1, rfl, rfl, hC30⟩
 rintro _ w7 ⟨x4, x5, x6, x7, v3, x8, x9, rfl, rfl, hC9⟩
 try dsimp only at hF
 refine W_ret ?_
 have hq6 := Option.some.inj hF
 subst hq6
 refine fn_retG3 rfl (rv_tmp rfl) (rv_cell_agg (cs' := [(.int .i64 x6), (.int .i64 x7)]) hC9 (i := 1) rfl rfl rfl Try.isAgg25 Try.sizeOf25 rfl) (rv_tmp rfl) ?_
 have hC31 := hC9.triv (int_val (x9))
 have hC32 := own_st25 x6 x7 hC31
 have hC33 := hC32.f2
 exact ⟨_, rfl, res3_of hC33⟩

theorem c_M_NextTime {w0 : World} (a1 : (List Int)) (u1 : Value) (g1 : RO [] w0 u1 a1) (a2 : (Int × Int)) (a3 : Int) (rr : (Int × Bool)) (hF : M.NextTime a1 a2 a3 = some rr) :
 Calls Try.prog 14 [u1, (.agg #[(.int .i64 a2.1), (.int .i64 a2.2)]), (.int .i64 a3)].toArray w0 fun e w' => ∃ v, e = .returned v ∧ Res2 w0 rr.1 rr.2 v w' := by
 refine calls_of_W Try.func14 rfl rfl ?_
 have hC0 := Ctx.start w0
 unfold M.NextTime at hF
 refine W_seq_reg ?_
 refine WL_boxK (cs := [(.int .i64 a2.1), (.int .i64 a2.2)]) hC0 rfl rfl rfl (fun b1 w1 hC1 hB1 hN1 => ?_)
 refine WL_assign rfl rfl ?_
 refine WL_assign rfl rfl ?_
 refine WL_nil ?_
 refine W_seq ?_
 obtain ⟨r1, hr1, hF⟩ := bind_some hF
 refine W_cut (fun l w => ∃ x1 : Bool, x1 = r1 ∧ l = [(0, u1), (2, (.int .i64 a3)), (4, (ptr b1 0)), (16, (.bool x1))] ∧ Below w1.heap.size w1 w ∧ Ctx [] w0 w [Item.box b1 [(.int .i64 a2.1), (.int .i64 a2.2)]]) ?_ ?_
 ·refine W_reg ?_
  refine WL_move rfl rfl ?_
  refine WL_load_box_agg [(.int .i64 a2.1), (.int .i64 a2.2)] hC1 0 rfl rfl rfl Try.isAgg25 Try.sizeOf25 rfl rfl ?_
  obtain ⟨x2, hr2, hr1⟩ := bind_some hr1
  refine WL_call Try.call10 rfl rfl (c_M_IsKept a1 u1 (g1.now hC1.keep) (a2.1, a2.2) x2 hr2) ?_
  intro _ w3 hv1
  obtain ⟨rfl, hB3⟩ := res_bool hv1
  have hC3 := hC1.grow hB3
  refine WL_not rfl rfl ?_
  refine WL_move rfl rfl ?_
  refine WL_fork (fun hc1 => ?_) (fun hc1 => ?_)
  ·replace hr1 := ite_t hr1 hc1
   refine WL_guard_skip rfl rfl (by simp) rfl ?_
   refine WL_guard_skip rfl rfl (by simp) rfl ?_
   refine WL_guard_skip rfl rfl (by simp) rfl ?_
   refine WL_pick_t rfl rfl rfl ?_
   refine WL_nil ?_
   have hq1 := Option.some.inj hr1
   subst hq1
   refine nrm_sub (l' := [(0, u1), (2, (.int .i64 a3)), (4, (ptr b1 0)), (16, (.bool true))]) ⟨rfl, rfl, rfl, rfl, trivial⟩ ?_
   exact ⟨true, rfl, rfl, (Keep.of hB3).below, hC3⟩
  replace hr1 := ite_f hr1 hc1
  refine WL_guard rfl rfl ?_
  refine WL_move rfl rfl ?_
  obtain ⟨x3, hr3, hr1⟩ := bind_some hr1
  refine WL_guard rfl rfl ?_
  refine WL_call Try.call33 rfl rfl (c_M_isTime a3 x3 hr3) ?_
  intro _ w4 hv2
  obtain ⟨rfl, hB4⟩ := res_bool hv2
  have hC4 := hC3.grow hB4
  refine WL_guard rfl rfl ?_
  refine WL_not rfl rfl ?_
  refine WL_pick_f rfl rfl rfl ?_
  refine WL_nil ?_
  have hq2 := Option.some.inj hr1
  subst hq2
  refine nrm_sub (l' := [(0, u1), (2, (.int .i64 a3)), (4, (ptr b1 0)), (16, (.bool (!x3)))]) ⟨rfl, rfl, rfl, rfl, trivial⟩ ?_
  exact ⟨(!x3), rfl, rfl, ((Keep.of hB3).then hB4).below, hC4⟩
 rintro _ w2 ⟨x1, rfl, rfl, hB2, hC2⟩
 try dsimp only at hF
 refine W_cond rfl (fun hc2 => ?_) (fun hc2 => ?_)
 ·replace hF := ite_t hF hc2
  refine W_seq_reg ?_
  refine WL_assign rfl rfl ?_
  refine WL_assign rfl rfl ?_
  refine WL_nil ?_
  refine W_ret ?_
  refine nrm_ret ?_
  have hq3 := Option.some.inj hF
  subst hq3
  refine fn_ret2 rfl rfl rfl ?_
  have hC5 := hC2.triv (bool_val (false))
  have hC6 := hC5.triv (int_val (0))
  exact ⟨_, rfl, res2_of hC6⟩
 replace hF := ite_f hF hc2
 refine W_skip ?_
 refine nrm_normal ?_
 refine W_seq_reg ?_
 refine WL_load_box_agg [(.int .i64 a2.1), (.int .i64 a2.2)] hC2 0 rfl rfl rfl Try.isAgg25 Try.sizeOf25 rfl rfl ?_
 refine WL_move rfl rfl ?_
 refine WL_move rfl rfl ?_
 obtain ⟨x4, hr4, hF⟩ := bind_some hF
 refine WL_call Try.call34 rfl rfl (c_M_Window_next (a2.1, a2.2) a1 u1 (g1.now hC2.keep) a3 x4 hr4) ?_
 rintro _ w5 ⟨hB5, v1, v2, F1, F2, rfl, hv3, hv4, hn1, hb1⟩
 obtain ⟨rfl, rfl⟩ := val_int hv3
 obtain ⟨rfl, rfl⟩ := val_bool hv4
 have hC7 := hC2.grow hB5
 refine WL_extract rfl rfl rfl ?_
 refine WL_extract rfl rfl rfl ?_
 refine WL_assign rfl rfl ?_
 refine WL_assign rfl rfl ?_
 refine WL_nil ?_
 refine W_ret ?_
 have hq4 := Option.some.inj hF
 subst hq4
 refine fn_ret2 rfl rfl rfl ?_
 have hC8 := hC7.triv (bool_val (x4.2))
 have hC9 := hC8.triv (int_val (x4.1))
 exact ⟨_, rfl, res2_of hC9⟩

theorem c_S_DrawIsKept {w0 : World} (a1 : (List UInt8)) (u1 : Value) (g1 : RO [] w0 u1 a1) (rr : ((List Int) × (Int × Int))) (hF : S.DrawIsKept a1 = some rr) :
 Calls Try.prog 16 [u1].toArray w0 fun e w' => ∃ v, e = .returned v ∧ Res2 w0 rr.1 rr.2 v w' := by
 refine calls_of_W Try.func16 rfl rfl ?_
 have hC0 := Ctx.start w0
 unfold S.DrawIsKept at hF
 refine W_seq_reg ?_
 refine WL_assign rfl rfl ?_
 refine WL_allocK hC0 zero25 rfl rfl (fun b1 w1 hC1 hB1 hN1 => ?_)
 refine WL_nil ?_
 refine W_seq_reg ?_
 refine WL_move rfl rfl ?_
 obtain ⟨x1, hr1, hF⟩ := bind_some hF
 refine WL_call Try.call28 rfl rfl (c_S_l1New a1 u1 (g1.now hC1.keep) x1 hr1) ?_
 rintro _ w2 ⟨b2, rfl, hq1⟩
 have hC2 : Ctx [] w0 w2 [Item.box b2 [u1, (.int .i64 x1.2.1), (.int .i64 x1.2.2)], Item.box b1 [(.int .i64 0), (.int .i64 0)]] := hC1.push2 hq1
 refine WL_assign rfl rfl ?_
 refine WL_nil ?_
 refine W_seq_reg ?_
 refine WL_move rfl rfl ?_
 obtain ⟨x2, hr2, hF⟩ := bind_some hF
 obtain ⟨Fs2, hH2, hn2, hF2, hO2, hb2⟩ := Ctx.lend2 (As := [Item.box b1 [(.int .i64 0), (.int .i64 0)]]) [Item.box b2 [u1, (.int .i64 x1.2.1), (.int .i64 x1.2.2)]] hC2
 refine WL_call Try.call37 rfl rfl (c_S_l18List b2 (a1, x1.2.1, x1.2.2) u1 (RO.lent g1 hC2.keep hF2) hH2 hn2 x2 hr2) ?_
 rintro v1 w3 ⟨_, rfl, hq2⟩
 have hC3 : Ctx [] w0 w3 [Item.own v1 (x2.1 : (List Int)), Item.box b2 [u1, (.int .i64 x2.2.2.1), (.int .i64 x2.2.2.2)], Item.box b1 [(.int .i64 0), (.int .i64 0)]] := hb2 _ _ hq2
 refine WL_assign rfl rfl ?_
 refine WL_nil ?_
 refine W_seq_reg ?_
 refine WL_move rfl rfl ?_
 refine WL_move rfl rfl ?_
 obtain ⟨x3, hr3, hF⟩ := bind_some hF
 have hC4 := hC3.f1
 obtain ⟨Fs3, hH3, hn3, hF3, hO3, hb3⟩ := Ctx.lend2 (As := [Item.own v1 (x2.1 : (List Int)), Item.box b1 [(.int .i64 0), (.int .i64 0)]]) [Item.box b2 [u1, (.int .i64 x2.2.2.1), (.int .i64 x2.2.2.2)]] hC4
 refine WL_call Try.call29 rfl rfl (c_S_l18Window b2 (a1, x2.2.2.1, x2.2.2.2) u1 (RO.lent g1 hC4.keep hF3) hH3 hn3 x3 hr3) ?_
 rintro v2 w4 ⟨_, rfl, hq3⟩
 have hC5 : Ctx [] w0 w4 [Item.own v2 (x3.1 : (Int × Int)), Item.box b2 [u1, (.int .i64 x3.2.2.1), (.int .i64 x3.2.2.2)], Item.own v1 (x2.1 : (List Int)), Item.box b1 [(.int .i64 0), (.int .i64 0)]] := hb3 _ _ hq3
 obtain ⟨rfl, hC6⟩ := st25_own hC5
 refine WL_assign rfl rfl ?_
 refine WL_store_box_aggK (cs' := [(.int .i64 x3.1.1), (.int .i64 x3.1.2)]) (new := [(.int .i64 x3.1.1), (.int .i64 x3.1.2)]) hC6 2 rfl rfl (by intro v hv; simp only [List.mem_cons, List.not_mem_nil, or_false] at hv; rcases hv with rfl | rfl; exact rfl; exact rfl) rfl Try.sizeOf25 rfl rfl (fun w5 hC7 hKp1 => ?_)
 try dsimp only [List.set] at hC7
 refine WL_nil ?_
 refine W_ret ?_
 have hq4 := Option.some.inj hF
 subst hq4
 refine fn_retG2 rfl (rv_tmp rfl) (rv_cell_agg (cs' := [(.int .i64 x3.1.1), (.int .i64 x3.1.2)]) hC7 (i := 2) rfl rfl rfl Try.isAgg25 Try.sizeOf25 rfl) ?_
 have hC8 := own_st25 x3.1.1 x3.1.2 hC7
 have hC9 := hC8.f2
 exact ⟨_, rfl, res2_of hC9⟩

end Go.Gx.Px
