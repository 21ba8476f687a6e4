/- The contracts of the Go functions against the pure functions, printed by program. Conditions: each says them. -/
import Derived.Test.YtngpabaocflipaaGreatC4
set_option linter.unusedVariables false
set_option linter.unusedSimpArgs false
set_option maxRecDepth 100000
set_option maxHeartbeats 4000000
namespace Go.Gx.Px
open Go.Proofs Go.RowKit

theorem c_Q_markRuleS {w0 : World} {Fs : List (List Nat)} (a1 : (List (Int × Int × (List Int)))) (u1 : Value) (a2 : Int) (hH : Hold [Item.own u1 (a1 : (List (Int × Int × (List Int))))] w0 Fs) (hn : Fs.flatten.Nodup) (rr : (Int × (List (Int × Int × (List Int))))) (hF : Q.markRuleS a1 a2 = some rr) :
 Calls Tryz.prog 52 [u1, (.int .i64 a2)].toArray w0 fun e w' => ∃ v, e = .returned v ∧ v = (.int .i64 rr.1) ∧ Ctx Fs.flatten w0 w' [Item.own u1 (rr.2 : (List (Int × Int × (List Int))))] := by
 refine calls_of_W Tryz.func52 rfl rfl ?_
 have hC0 := Ctx.startIn hH hn
 unfold Q.markRuleS at hF
 refine W_seq_reg ?_
 refine WL_assign rfl rfl ?_
 refine WL_nil ?_
 refine W_seq ?_
 refine W_seq_reg ?_
 refine WL_assign rfl rfl ?_
 refine WL_nil ?_
 obtain ⟨r1, hr1, hF⟩ := bind_some hF
 refine W_norm (fun l w => ∃ x4 : (List (Int × Int × (List Int))), ∃ x5 : Int, (x4, x5) = r1 ∧ l = [(1, (.int .i64 x5))] ∧ Ctx Fs.flatten w0 w [Item.own u1 (x4 : (List (Int × Int × (List Int))))]) ?_ ?_
 ·refine W_block ?_
  refine W.sub (l' := [(0, u1), (1, (.int .i64 a2)), (5, (.int .i64 0))]) ?_ ⟨rfl, rfl, rfl, trivial⟩
  refine W_loop (fun k l w => ∃ x1 : (List (Int × Int × (List Int))), ∃ x2 : Int, ∃ x3 : Int, l = [(0, u1), (1, (.int .i64 x2)), (5, (.int .i64 x3))] ∧ Ctx Fs.flatten w0 w [Item.own u1 (x1 : (List (Int × Int × (List Int))))] ∧ Q.markRuleS_l1 k x1 x2 x3 = some r1) FUEL ⟨a1, a2, 0, rfl, hC0, hr1⟩ ?_
  clear hr1
  rintro k1 _ w1 ⟨x1, x2, x3, rfl, hC1, hL1⟩
  cases k1 with
  | zero => rw [Q.markRuleS_l1] at hL1; cases hL1
  | succ k1 =>
   rw [Q.markRuleS_l1] at hL1
   refine W_seq ?_
   refine W_seq_reg ?_
   refine WL_move rfl rfl ?_
   refine WL_move rfl rfl ?_
   refine WL_len Tryz.underlying39 (hC1.ro 0 rfl) rfl rfl ?_
   refine WL_lss rfl rfl rfl ?_
   refine WL_nil ?_
   refine W_cond rfl (fun hc1 => ?_) (fun hc1 => ?_)
   ·replace hL1 := ite_t hL1 hc1
    refine W_skip ?_
    refine nrm_normal ?_
    refine W_seq ?_
    refine W_block ?_
    refine W_seq_reg ?_
    refine WL_move rfl rfl ?_
    refine WL_move rfl rfl ?_
    refine WL_move rfl rfl ?_
    obtain ⟨x6, hx1, hL1⟩ := bind_some hL1
    refine WL_index_own hC1 0 rfl Tryz.underlying39 ty131 hx1 rfl rfl rfl (fun b1 hE1 => ?_)
    refine WL_field Tryz.underlying131 rfl rfl (fun w => ⟨_, Tryz.sizeOf3 w⟩) rfl rfl ?_
    obtain ⟨cs1, hC3⟩ := hC1.openElem hx1
    obtain ⟨v1, he1, hC4⟩ := st131_own (hC3.cellsOwn rfl)
    obtain rfl := cells_of_agg he1
    refine WL_store_hole (fo := 0) (cs' := [(.int .i64 x2), (.int .i64 x6.2.1), v1]) hC4 1 rfl hE1 rfl rfl rfl rfl Tryz.sizeOf3 rfl rfl (fun w2 hC2 => ?_)
    try dsimp only [List.set] at hC2
    have hC5 := hC2.f1
    have hC7 := hC5.f1
    have hC6 := own_st131 x2 x6.2.1 v1 x6.2.2 hC7
    have hC8 := hC6.ownCells.closeElem
    refine WL_nil ?_
    refine W_seq_reg ?_
    refine WL_move rfl rfl ?_
    refine WL_add rfl rfl rfl ?_
    refine WL_assign rfl rfl ?_
    refine WL_nil ?_
    refine W_seq_reg ?_
    refine WL_move rfl rfl ?_
    refine WL_move rfl rfl ?_
    refine WL_move rfl rfl ?_
    obtain ⟨x7, hx2, hL1⟩ := bind_some hL1
    refine WL_index_own hC8 0 rfl Tryz.underlying39 ty131 hx2 rfl rfl rfl (fun b2 hE2 => ?_)
    refine WL_field Tryz.underlying131 rfl rfl (fun w => ⟨_, Tryz.sizeOf3 w⟩) rfl rfl ?_
    obtain ⟨cs2, hC10⟩ := hC8.openElem hx2
    obtain ⟨v2, he2, hC11⟩ := st131_own (hC10.cellsOwn rfl)
    obtain rfl := cells_of_agg he2
    refine WL_store_hole (fo := 1) (cs' := [(.int .i64 x7.1), (.int .i64 (w64 (x2 + 1))), v2]) hC11 1 rfl hE2 rfl rfl rfl rfl Tryz.sizeOf3 rfl rfl (fun w3 hC9 => ?_)
    try dsimp only [List.set] at hC9
    have hC12 := hC9.f1
    have hC14 := hC12.f1
    have hC13 := own_st131 x7.1 (w64 (x2 + 1)) v2 x7.2.2 hC14
    have hC15 := hC13.ownCells.closeElem
    refine WL_nil ?_
    refine W_seq_reg ?_
    refine WL_move rfl rfl ?_
    refine WL_add rfl rfl rfl ?_
    refine WL_assign rfl rfl ?_
    refine WL_nil ?_
    refine W_reg ?_
    refine WL_move rfl rfl ?_
    refine WL_move rfl rfl ?_
    obtain ⟨x8, hx3, hL1⟩ := bind_some hL1
    refine WL_index_own hC15 0 rfl Tryz.underlying39 ty131 hx3 rfl rfl rfl (fun b3 hE3 => ?_)
    refine WL_field Tryz.underlying131 rfl rfl (fun w => ⟨_, Tryz.sizeOf24 w⟩) rfl rfl ?_
    obtain ⟨cs3, hC16⟩ := hC15.openElem hx3
    obtain ⟨v3, he3, hC17⟩ := st131_own (hC16.cellsOwn rfl)
    obtain rfl := cells_of_agg he3
    refine WL_load_hole (fo := 2) hC17 1 rfl hE3 rfl rfl Tryz.isAgg24 rfl rfl ?_
    refine WL_move rfl rfl ?_
    obtain ⟨x9, hr2, hL1⟩ := bind_some hL1
    obtain ⟨Fs1, hH1, hn1, hF1, hO1, hb1⟩ := Ctx.lend2 (As := [Item.hole u1 ((List.set (List.set x1 (Int.toNat x3) (x2, x6.2.1, x6.2.2)) (Int.toNat x3) (x7.1, w64 (x2 + 1), x7.2.2)) : (List (Int × Int × (List Int)))) (Int.toNat x3) [(.int .i64 x8.1), (.int .i64 x8.2.1), v3]]) [Item.own v3 (x8.2.2 : (List Int))] hC17
    refine WL_call Tryz.call44 rfl rfl (c_Q_markIntS x8.2.2 v3 (w64 ((w64 (x2 + 1)) + 1)) hH1 hn1 x9 hr2) ?_
    rintro _ w4 ⟨rfl, hq1⟩
    have hC19 : Ctx Fs.flatten w0 w4 [Item.own v3 (x9.2 : (List Int)), Item.hole u1 ((List.set (List.set x1 (Int.toNat x3) (x2, x6.2.1, x6.2.2)) (Int.toNat x3) (x7.1, w64 (x2 + 1), x7.2.2)) : (List (Int × Int × (List Int)))) (Int.toNat x3) [(.int .i64 x8.1), (.int .i64 x8.2.1), v3]] := hb1 _ _ hq1
    have hC20 := hC19.f1
    have hC22 := hC20.f1
    have hC21 := own_st131 x8.1 x8.2.1 v3 x9.2 hC22
    have hC23 := hC21.ownCells.closeElem
    refine WL_assign rfl rfl ?_
    refine WL_nil ?_
    refine blk_normal ?_
    refine nrm_normal ?_
    refine W_reg ?_
    refine WL_move rfl rfl ?_
    refine WL_add rfl rfl rfl ?_
    refine WL_assign rfl rfl ?_
    refine WL_nil ?_
    refine nrm_sub (l' := [(0, u1), (1, (.int .i64 x9.1)), (5, (.int .i64 (w64 (x3 + 1))))]) ⟨rfl, rfl, rfl, trivial⟩ ?_
    exact ⟨k1, Nat.lt_succ_self _, (List.set (List.set (List.set x1 (Int.toNat x3) (x2, x6.2.1, x6.2.2)) (Int.toNat x3) (x7.1, w64 (x2 + 1), x7.2.2)) (Int.toNat x3) (x8.1, x8.2.1, x9.2)), x9.1, w64 (x3 + 1), rfl, hC23, hL1⟩
   replace hL1 := ite_f hL1 hc1
   refine W_exit ?_
   refine nrm_exit ?_
   refine nrm_exit ?_
   refine blk_exit ?_
   have hq2 := Option.some.inj hL1
   subst hq2
   refine nrm_sub (l' := [(1, (.int .i64 x2))]) ⟨rfl, trivial⟩ ?_
   exact ⟨x1, x2, rfl, rfl, hC1⟩
 rintro l2 _ w5 hs2 ⟨x4, x5, rfl, rfl, hC24⟩
 try dsimp only at hF
 refine nrm_sub' hs2 ?_
 clear hs2
 refine W_seq_reg ?_
 refine WL_move rfl rfl ?_
 refine WL_assign rfl rfl ?_
 refine WL_nil ?_
 refine W_ret ?_
 have hq3 := Option.some.inj hF
 subst hq3
 refine fn_ret1 rfl rfl ?_
 exact ⟨_, rfl, rfl, hC24⟩

theorem c_Q_heldIntS {w0 : World} (a1 : (List Int)) (u1 : Value) (g1 : RO [] w0 u1 a1) (a2 : Int) (rr : Int) (hF : Q.heldIntS a1 a2 = some rr) :
 Calls Tryz.prog 47 [u1, (.int .i64 a2)].toArray w0 fun e w' => ∃ v, e = .returned v ∧ Res w0 rr v w' := by
 refine calls_of_W Tryz.func47 rfl rfl ?_
 have hC0 := Ctx.start w0
 unfold Q.heldIntS at hF
 refine W_seq_reg ?_
 refine WL_assign rfl rfl ?_
 refine WL_nil ?_
 refine W_seq ?_
 refine W_seq_reg ?_
 refine WL_assign rfl rfl ?_
 refine WL_nil ?_
 obtain ⟨r1, hr1, hF⟩ := bind_some hF
 refine W_norm (fun l w => ∃ x3 : Int, .inl x3 = r1 ∧ l = [(1, (.int .i64 x3))] ∧ Below w0.heap.size w0 w ∧ Ctx [] w0 w []) ?_ ?_
 ·refine W_block ?_
  refine W.sub (l' := [(0, u1), (1, (.int .i64 a2)), (5, (.int .i64 0))]) ?_ ⟨rfl, rfl, rfl, trivial⟩
  refine W_loop (fun k l w => ∃ x1 : Int, ∃ x2 : Int, l = [(0, u1), (1, (.int .i64 x1)), (5, (.int .i64 x2))] ∧ Below w0.heap.size w0 w ∧ Ctx [] w0 w [] ∧ Q.heldIntS_l1 a1 k x1 x2 = some r1) FUEL ⟨a2, 0, rfl, (Below.refl _ _), hC0, hr1⟩ ?_
  clear hr1
  rintro k1 _ w1 ⟨x1, x2, rfl, hB1, hC1, hL1⟩
  cases k1 with
  | zero => rw [Q.heldIntS_l1] at hL1; cases hL1
  | succ k1 =>
   rw [Q.heldIntS_l1] at hL1
   refine W_seq ?_
   refine W_seq_reg ?_
   refine WL_move rfl rfl ?_
   refine WL_move rfl rfl ?_
   refine WL_len Tryz.underlying24 g1 rfl rfl ?_
   refine WL_lss rfl rfl rfl ?_
   refine WL_nil ?_
   refine W_cond rfl (fun hc1 => ?_) (fun hc1 => ?_)
   ·replace hL1 := ite_t hL1 hc1
    refine W_skip ?_
    refine nrm_normal ?_
    refine W_seq ?_
    refine W_block ?_
    refine W_seq ?_
    refine W_seq_reg ?_
    refine WL_move rfl rfl ?_
    refine WL_move rfl rfl ?_
    obtain ⟨x4, hx1, hL1⟩ := bind_some hL1
    refine WL_index Tryz.underlying24 ty3 g1 hx1 rfl rfl rfl (fun b1 o1 h1 => ?_)
    refine WL_load ty3 h1 hC1.keep rfl rfl (fun v1 h2 => ?_)
    obtain rfl := ro_int h2
    refine WL_move rfl rfl ?_
    refine WL_neq rfl rfl rfl ?_
    refine WL_nil ?_
    refine W_cond rfl (fun hc2 => ?_) (fun hc2 => ?_)
    ·replace hL1 := ite_t hL1 hc2
     refine W_seq_reg ?_
     refine WL_assign rfl rfl ?_
     refine WL_nil ?_
     refine W_ret ?_
     refine nrm_ret ?_
     refine blk_ret ?_
     refine nrm_ret ?_
     refine nrm_ret ?_
     refine blk_ret ?_
     refine nrm_ret ?_
     refine nrm_ret ?_
     have hq1 := Option.some.inj hL1
     subst hq1
     dsimp only at hF
     have hq2 := Option.some.inj hF
     subst hq2
     refine fn_ret1 rfl rfl ?_
     exact ⟨_, rfl, int_res hC1 _⟩
    replace hL1 := ite_f hL1 hc2
    refine W_skip ?_
    refine nrm_normal ?_
    refine W_reg ?_
    refine WL_move rfl rfl ?_
    refine WL_add rfl rfl rfl ?_
    refine WL_assign rfl rfl ?_
    refine WL_nil ?_
    refine blk_normal ?_
    refine nrm_normal ?_
    refine W_reg ?_
    refine WL_move rfl rfl ?_
    refine WL_add rfl rfl rfl ?_
    refine WL_assign rfl rfl ?_
    refine WL_nil ?_
    refine nrm_sub (l' := [(0, u1), (1, (.int .i64 (w64 (x1 + 1)))), (5, (.int .i64 (w64 (x2 + 1))))]) ⟨rfl, rfl, rfl, trivial⟩ ?_
    exact ⟨k1, Nat.lt_succ_self _, w64 (x1 + 1), w64 (x2 + 1), rfl, (Keep.of hB1).below, hC1, hL1⟩
   replace hL1 := ite_f hL1 hc1
   refine W_exit ?_
   refine nrm_exit ?_
   refine nrm_exit ?_
   refine blk_exit ?_
   have hq3 := Option.some.inj hL1
   subst hq3
   refine nrm_sub (l' := [(1, (.int .i64 x1))]) ⟨rfl, trivial⟩ ?_
   exact ⟨x1, rfl, rfl, (Keep.of hB1).below, hC1⟩
 rintro l2 _ w2 hs2 ⟨x3, rfl, rfl, hB2, hC2⟩
 try dsimp only at hF
 refine nrm_sub' hs2 ?_
 clear hs2
 refine W_seq_reg ?_
 refine WL_move rfl rfl ?_
 refine WL_assign rfl rfl ?_
 refine WL_nil ?_
 refine W_ret ?_
 have hq4 := Option.some.inj hF
 subst hq4
 refine fn_ret1 rfl rfl ?_
 exact ⟨_, rfl, int_res hC2 _⟩

theorem c_Q_heldFactS {w0 : World} (a1 : (List (Int × (List Int)))) (u1 : Value) (g1 : RO [] w0 u1 a1) (a2 : Int) (rr : Int) (hF : Q.heldFactS a1 a2 = some rr) :
 Calls Tryz.prog 54 [u1, (.int .i64 a2)].toArray w0 fun e w' => ∃ v, e = .returned v ∧ Res w0 rr v w' := by
 refine calls_of_W Tryz.func54 rfl rfl ?_
 have hC0 := Ctx.start w0
 unfold Q.heldFactS at hF
 refine W_seq_reg ?_
 refine WL_assign rfl rfl ?_
 refine WL_nil ?_
 refine W_seq ?_
 refine W_seq_reg ?_
 refine WL_assign rfl rfl ?_
 refine WL_nil ?_
 obtain ⟨r1, hr1, hF⟩ := bind_some hF
 refine W_norm (fun l w => ∃ x3 : Int, .inl x3 = r1 ∧ l = [(1, (.int .i64 x3))] ∧ Below w0.heap.size w0 w ∧ Ctx [] w0 w []) ?_ ?_
 ·refine W_block ?_
  refine W.sub (l' := [(0, u1), (1, (.int .i64 a2)), (5, (.int .i64 0))]) ?_ ⟨rfl, rfl, rfl, trivial⟩
  refine W_loop (fun k l w => ∃ x1 : Int, ∃ x2 : Int, l = [(0, u1), (1, (.int .i64 x1)), (5, (.int .i64 x2))] ∧ Below w0.heap.size w0 w ∧ Ctx [] w0 w [] ∧ Q.heldFactS_l1 a1 k x1 x2 = some r1) FUEL ⟨a2, 0, rfl, (Below.refl _ _), hC0, hr1⟩ ?_
  clear hr1
  rintro k1 _ w1 ⟨x1, x2, rfl, hB1, hC1, hL1⟩
  cases k1 with
  | zero => rw [Q.heldFactS_l1] at hL1; cases hL1
  | succ k1 =>
   rw [Q.heldFactS_l1] at hL1
   refine W_seq ?_
   refine W_seq_reg ?_
   refine WL_move rfl rfl ?_
   refine WL_move rfl rfl ?_
   refine WL_len Tryz.underlying31 g1 rfl rfl ?_
   refine WL_lss rfl rfl rfl ?_
   refine WL_nil ?_
   refine W_cond rfl (fun hc1 => ?_) (fun hc1 => ?_)
   ·replace hL1 := ite_t hL1 hc1
    refine W_skip ?_
    refine nrm_normal ?_
    refine W_seq ?_
    refine W_block ?_
    refine W_seq ?_
    refine W_seq_reg ?_
    refine WL_move rfl rfl ?_
    refine WL_move rfl rfl ?_
    obtain ⟨x4, hx1, hL1⟩ := bind_some hL1
    refine WL_index Tryz.underlying31 ty88 g1 hx1 rfl rfl rfl (fun b1 o1 h1 => ?_)
    refine WL_field Tryz.underlying88 rfl rfl (fun w => ⟨_, Tryz.sizeOf3 w⟩) rfl rfl ?_
    refine WL_load ty3 h1.fst hC1.keep rfl rfl (fun v1 h2 => ?_)
    obtain rfl := ro_int h2
    refine WL_move rfl rfl ?_
    refine WL_neq rfl rfl rfl ?_
    refine WL_nil ?_
    refine W_cond rfl (fun hc2 => ?_) (fun hc2 => ?_)
    ·replace hL1 := ite_t hL1 hc2
     refine W_seq_reg ?_
     refine WL_assign rfl rfl ?_
     refine WL_nil ?_
     refine W_ret ?_
     refine nrm_ret ?_
     refine blk_ret ?_
     refine nrm_ret ?_
     refine nrm_ret ?_
     refine blk_ret ?_
     refine nrm_ret ?_
     refine nrm_ret ?_
     have hq1 := Option.some.inj hL1
     subst hq1
     dsimp only at hF
     have hq2 := Option.some.inj hF
     subst hq2
     refine fn_ret1 rfl rfl ?_
     exact ⟨_, rfl, int_res hC1 _⟩
    replace hL1 := ite_f hL1 hc2
    refine W_skip ?_
    refine nrm_normal ?_
    refine W_seq_reg ?_
    refine WL_move rfl rfl ?_
    refine WL_add rfl rfl rfl ?_
    refine WL_assign rfl rfl ?_
    refine WL_nil ?_
    refine W_seq_reg ?_
    refine WL_move rfl rfl ?_
    refine WL_move rfl rfl ?_
    obtain ⟨x5, hx2, hL1⟩ := bind_some hL1
    refine WL_index Tryz.underlying31 ty88 g1 hx2 rfl rfl rfl (fun b2 o2 h3 => ?_)
    refine WL_field Tryz.underlying88 rfl rfl (fun w => ⟨_, Tryz.sizeOf24 w⟩) rfl rfl ?_
    refine WL_load ty24 h3.snd hC1.keep rfl rfl (fun v2 h4 => ?_)
    refine WL_move rfl rfl ?_
    obtain ⟨x6, hr2, hL1⟩ := bind_some hL1
    refine WL_call Tryz.call47 rfl rfl (c_Q_heldIntS x5.2 v2 (h4.now hC1.keep) (w64 (x1 + 1)) x6 hr2) ?_
    intro _ w2 hv1
    obtain ⟨rfl, hB2⟩ := res_int hv1
    have hC2 := hC1.grow hB2
    refine WL_assign rfl rfl ?_
    refine WL_nil ?_
    refine W_seq_reg ?_
    refine WL_move rfl rfl ?_
    refine WL_lss rfl rfl rfl ?_
    refine WL_nil ?_
    refine W_cond rfl (fun hc3 => ?_) (fun hc3 => ?_)
    ·replace hL1 := ite_t hL1 hc3
     refine W_seq_reg ?_
     refine WL_assign rfl rfl ?_
     refine WL_nil ?_
     refine W_ret ?_
     refine blk_ret ?_
     refine nrm_ret ?_
     refine nrm_ret ?_
     refine blk_ret ?_
     refine nrm_ret ?_
     refine nrm_ret ?_
     have hq3 := Option.some.inj hL1
     subst hq3
     dsimp only at hF
     have hq4 := Option.some.inj hF
     subst hq4
     refine fn_ret1 rfl rfl ?_
     exact ⟨_, rfl, int_res hC2 _⟩
    replace hL1 := ite_f hL1 hc3
    refine W_skip ?_
    refine blk_normal ?_
    refine nrm_normal ?_
    refine W_reg ?_
    refine WL_move rfl rfl ?_
    refine WL_add rfl rfl rfl ?_
    refine WL_assign rfl rfl ?_
    refine WL_nil ?_
    refine nrm_sub (l' := [(0, u1), (1, (.int .i64 x6)), (5, (.int .i64 (w64 (x2 + 1))))]) ⟨rfl, rfl, rfl, trivial⟩ ?_
    exact ⟨k1, Nat.lt_succ_self _, x6, w64 (x2 + 1), rfl, ((Keep.of hB1).then hB2).below, hC2, hL1⟩
   replace hL1 := ite_f hL1 hc1
   refine W_exit ?_
   refine nrm_exit ?_
   refine nrm_exit ?_
   refine blk_exit ?_
   have hq5 := Option.some.inj hL1
   subst hq5
   refine nrm_sub (l' := [(1, (.int .i64 x1))]) ⟨rfl, trivial⟩ ?_
   exact ⟨x1, rfl, rfl, (Keep.of hB1).below, hC1⟩
 rintro l2 _ w3 hs2 ⟨x3, rfl, rfl, hB3, hC3⟩
 try dsimp only at hF
 refine nrm_sub' hs2 ?_
 clear hs2
 refine W_seq_reg ?_
 refine WL_move rfl rfl ?_
 refine WL_assign rfl rfl ?_
 refine WL_nil ?_
 refine W_ret ?_
 have hq6 := Option.some.inj hF
 subst hq6
 refine fn_ret1 rfl rfl ?_
 exact ⟨_, rfl, int_res hC3 _⟩

theorem c_Q_FnExactBrokenRules {w0 : World} (a1 : (List Int)) (u1 : Value) (g1 : RO [] w0 u1 a1) (a2 : (List (Int × (List Int) × Int × Int × Int))) (u2 : Value) (g2 : RO [] w0 u2 a2) (a3 : (List (Int × Int × (List Int)))) (u3 : Value) (g3 : RO [] w0 u3 a3) (a4 : (List ((Int × (List Int)) × (List (Int × (List Int)))))) (u4 : Value) (g4 : RO [] w0 u4 a4) (rr : Bool) (hF : Q.FnExactBrokenRules a1 a2 a3 a4 = some rr) :
 Calls Tryz.prog 5 [u1, u2, u3, u4].toArray w0 fun e w' => ∃ v, e = .returned v ∧ Res w0 rr v w' := by
 refine calls_of_W Tryz.func5 rfl rfl ?_
 have hC0 := Ctx.start w0
 unfold Q.FnExactBrokenRules at hF
 refine W_seq_reg ?_
 refine WL_assign rfl rfl ?_
 refine WL_nil ?_
 refine W_seq ?_
 refine W_seq_reg ?_
 refine WL_move rfl rfl ?_
 refine WL_len Tryz.underlying24 g1 rfl rfl ?_
 refine WL_gtr rfl rfl rfl ?_
 refine WL_nil ?_
 refine W_cond rfl (fun hc1 => ?_) (fun hc1 => ?_)
 ·replace hF := ite_t hF hc1
  refine W_seq_reg ?_
  refine WL_assign rfl rfl ?_
  refine WL_nil ?_
  refine W_ret ?_
  refine nrm_ret ?_
  have hq1 := Option.some.inj hF
  subst hq1
  refine fn_ret1 rfl rfl ?_
  exact ⟨_, rfl, bool_res hC0 _⟩
 replace hF := ite_f hF hc1
 refine W_skip ?_
 refine nrm_normal ?_
 refine W_seq_reg ?_
 refine WL_assign rfl rfl ?_
 refine WL_nil ?_
 refine W_seq_reg ?_
 refine WL_move rfl rfl ?_
 refine WL_move rfl rfl ?_
 obtain ⟨x1, hr1, hF⟩ := bind_some hF
 refine WL_call Tryz.call34 rfl rfl (c_Q_szMethodS a2 u2 (g2.now hC0.keep) 1048576 x1 hr1) ?_
 intro _ w1 hv1
 obtain ⟨rfl, hB1⟩ := res_int hv1
 have hC1 := hC0.grow hB1
 refine WL_assign rfl rfl ?_
 refine WL_nil ?_
 refine W_seq ?_
 refine W_seq_reg ?_
 refine WL_move rfl rfl ?_
 refine WL_lss rfl rfl rfl ?_
 refine WL_nil ?_
 refine W_cond rfl (fun hc2 => ?_) (fun hc2 => ?_)
 ·replace hF := ite_t hF hc2
  refine W_seq_reg ?_
  refine WL_assign rfl rfl ?_
  refine WL_nil ?_
  refine W_ret ?_
  refine nrm_ret ?_
  have hq2 := Option.some.inj hF
  subst hq2
  refine fn_ret1 rfl rfl ?_
  exact ⟨_, rfl, bool_res hC1 _⟩
 replace hF := ite_f hF hc2
 refine W_skip ?_
 refine nrm_normal ?_
 refine W_seq_reg ?_
 refine WL_move rfl rfl ?_
 refine WL_move rfl rfl ?_
 obtain ⟨x2, hr2, hF⟩ := bind_some hF
 refine WL_call Tryz.call48 rfl rfl (c_Q_szRuleS a3 u3 (g3.now hC1.keep) x1 x2 hr2) ?_
 intro _ w2 hv2
 obtain ⟨rfl, hB2⟩ := res_int hv2
 have hC2 := hC1.grow hB2
 refine WL_assign rfl rfl ?_
 refine WL_nil ?_
 refine W_seq ?_
 refine W_seq_reg ?_
 refine WL_move rfl rfl ?_
 refine WL_lss rfl rfl rfl ?_
 refine WL_nil ?_
 refine W_cond rfl (fun hc3 => ?_) (fun hc3 => ?_)
 ·replace hF := ite_t hF hc3
  refine W_seq_reg ?_
  refine WL_assign rfl rfl ?_
  refine WL_nil ?_
  refine W_ret ?_
  refine nrm_ret ?_
  have hq3 := Option.some.inj hF
  subst hq3
  refine fn_ret1 rfl rfl ?_
  exact ⟨_, rfl, bool_res hC2 _⟩
 replace hF := ite_f hF hc3
 refine W_skip ?_
 refine nrm_normal ?_
 refine W_seq_reg ?_
 refine WL_move rfl rfl ?_
 refine WL_move rfl rfl ?_
 obtain ⟨x3, hr3, hF⟩ := bind_some hF
 refine WL_call Tryz.call35 rfl rfl (c_Q_szToldS a4 u4 (g4.now hC2.keep) x2 x3 hr3) ?_
 intro _ w3 hv3
 obtain ⟨rfl, hB3⟩ := res_int hv3
 have hC3 := hC2.grow hB3
 refine WL_assign rfl rfl ?_
 refine WL_nil ?_
 refine W_seq ?_
 refine W_seq_reg ?_
 refine WL_move rfl rfl ?_
 refine WL_lss rfl rfl rfl ?_
 refine WL_nil ?_
 refine W_cond rfl (fun hc4 => ?_) (fun hc4 => ?_)
 ·replace hF := ite_t hF hc4
  refine W_seq_reg ?_
  refine WL_assign rfl rfl ?_
  refine WL_nil ?_
  refine W_ret ?_
  refine nrm_ret ?_
  have hq4 := Option.some.inj hF
  subst hq4
  refine fn_ret1 rfl rfl ?_
  exact ⟨_, rfl, bool_res hC3 _⟩
 replace hF := ite_f hF hc4
 refine W_skip ?_
 refine nrm_normal ?_
 refine W_seq_reg ?_
 refine WL_move rfl rfl ?_
 obtain ⟨x4, hr4, hF⟩ := bind_some hF
 refine WL_call Tryz.call37 rfl rfl (c_Q_toIntS a1 u1 (g1.now hC3.keep) x4 hr4) ?_
 rintro v1 w4 ⟨hB4, F1, hv4, hn1, hb1⟩
 have hC4 := hC3.push hB4 (A := Item.own v1 x4) hv4 hn1 hb1
 refine WL_move rfl rfl ?_
 obtain ⟨x5, hr5, hF⟩ := bind_some hF
 refine WL_call Tryz.call38 rfl rfl (c_Q_toMethodS a2 u2 (g2.now hC4.keep) x5 hr5) ?_
 rintro v2 w5 ⟨hB5, F2, hv5, hn2, hb2⟩
 have hC5 := hC4.push hB5 (A := Item.own v2 x5) hv5 hn2 hb2
 refine WL_move rfl rfl ?_
 obtain ⟨x6, hr6, hF⟩ := bind_some hF
 refine WL_call Tryz.call49 rfl rfl (c_Q_toRuleS a3 u3 (g3.now hC5.keep) x6 hr6) ?_
 rintro v3 w6 ⟨hB6, F3, hv6, hn3, hb3⟩
 have hC6 := hC5.push hB6 (A := Item.own v3 x6) hv6 hn3 hb3
 refine WL_move rfl rfl ?_
 obtain ⟨x7, hr7, hF⟩ := bind_some hF
 refine WL_call Tryz.call39 rfl rfl (c_Q_toToldS a4 u4 (g4.now hC6.keep) x7 hr7) ?_
 rintro v4 w7 ⟨hB7, F4, hv7, hn4, hb4⟩
 have hC7 := hC6.push hB7 (A := Item.own v4 x7) hv7 hn4 hb4
 obtain ⟨x8, hr8, hF⟩ := bind_some hF
 refine WL_call Tryz.call26 rfl rfl (c_S_BrokenRules x4 v1 ((hC7.ro 3 rfl).now (Keep.refl _ _)) x5 v2 ((hC7.ro 2 rfl).now (Keep.refl _ _)) x6 v3 ((hC7.ro 1 rfl).now (Keep.refl _ _)) x7 v4 ((hC7.ro 0 rfl).now (Keep.refl _ _)) x8 hr8) ?_
 rintro v5 w9 ⟨hB8, F5, hv8, hn5, hb5⟩
 have hC8 := hC7.push hB8 (A := Item.own v5 x8) hv8 hn5 hb5
 refine WL_assign rfl rfl ?_
 refine WL_nil ?_
 refine W_seq_reg ?_
 refine WL_move rfl rfl ?_
 obtain ⟨x9, hr9, hF⟩ := bind_some hF
 refine WL_call Tryz.call37 rfl rfl (c_Q_toIntS a1 u1 (g1.now hC8.keep) x9 hr9) ?_
 rintro v6 w10 ⟨hB9, F6, hv9, hn6, hb6⟩
 have hC9 := hC8.push hB9 (A := Item.own v6 x9) hv9 hn6 hb6
 refine WL_assign rfl rfl ?_
 refine WL_nil ?_
 refine W_seq_reg ?_
 refine WL_move rfl rfl ?_
 obtain ⟨x10, hr10, hF⟩ := bind_some hF
 refine WL_call Tryz.call38 rfl rfl (c_Q_toMethodS a2 u2 (g2.now hC9.keep) x10 hr10) ?_
 rintro v7 w11 ⟨hB10, F7, hv10, hn7, hb7⟩
 have hC10 := hC9.push hB10 (A := Item.own v7 x10) hv10 hn7 hb7
 refine WL_assign rfl rfl ?_
 refine WL_nil ?_
 refine W_seq_reg ?_
 refine WL_move rfl rfl ?_
 obtain ⟨x11, hr11, hF⟩ := bind_some hF
 refine WL_call Tryz.call49 rfl rfl (c_Q_toRuleS a3 u3 (g3.now hC10.keep) x11 hr11) ?_
 rintro v8 w12 ⟨hB11, F8, hv11, hn8, hb8⟩
 have hC11 := hC10.push hB11 (A := Item.own v8 x11) hv11 hn8 hb8
 refine WL_assign rfl rfl ?_
 refine WL_nil ?_
 refine W_seq_reg ?_
 refine WL_move rfl rfl ?_
 obtain ⟨x12, hr12, hF⟩ := bind_some hF
 refine WL_call Tryz.call39 rfl rfl (c_Q_toToldS a4 u4 (g4.now hC11.keep) x12 hr12) ?_
 rintro v9 w13 ⟨hB12, F9, hv12, hn9, hb9⟩
 have hC12 := hC11.push hB12 (A := Item.own v9 x12) hv12 hn9 hb9
 refine WL_assign rfl rfl ?_
 refine WL_nil ?_
 refine W_seq_reg ?_
 refine WL_move rfl rfl ?_
 refine WL_move rfl rfl ?_
 refine WL_move rfl rfl ?_
 refine WL_move rfl rfl ?_
 obtain ⟨x13, hr13, hF⟩ := bind_some hF
 refine WL_call Tryz.call23 rfl rfl (c_M_BrokenRules x9 v6 ((hC12.ro 3 rfl).now (Keep.refl _ _)) x10 v7 ((hC12.ro 2 rfl).now (Keep.refl _ _)) x11 v8 ((hC12.ro 1 rfl).now (Keep.refl _ _)) x12 v9 ((hC12.ro 0 rfl).now (Keep.refl _ _)) x13 hr13) ?_
 rintro v10 w14 ⟨hB13, F10, hv13, hn10, hb10⟩
 have hC13 := hC12.push hB13 (A := Item.own v10 x13) hv13 hn10 hb10
 refine WL_assign rfl rfl ?_
 refine WL_nil ?_
 refine W_seq ?_
 refine W_seq_reg ?_
 refine WL_move rfl rfl ?_
 refine WL_move rfl rfl ?_
 obtain ⟨x14, hr14, hF⟩ := bind_some hF
 refine WL_call Tryz.call50 rfl rfl (c_Q_eqFactS x13 v10 ((hC13.ro 0 rfl).now (Keep.refl _ _)) x8 v5 ((hC13.ro 5 rfl).now (Keep.refl _ _)) x14 hr14) ?_
 intro _ w15 hv14
 obtain ⟨rfl, hB14⟩ := res_bool hv14
 have hC14 := hC13.grow hB14
 refine WL_not rfl rfl ?_
 refine WL_nil ?_
 refine W_cond rfl (fun hc5 => ?_) (fun hc5 => ?_)
 ·replace hF := ite_t hF hc5
  refine W_seq_reg ?_
  refine WL_assign rfl rfl ?_
  refine WL_nil ?_
  refine W_ret ?_
  refine nrm_ret ?_
  have hq5 := Option.some.inj hF
  subst hq5
  refine fn_ret1 rfl rfl ?_
  exact ⟨_, rfl, bool_res hC14 _⟩
 replace hF := ite_f hF hc5
 refine W_skip ?_
 refine nrm_normal ?_
 refine W_seq ?_
 refine W_seq_reg ?_
 refine WL_move rfl rfl ?_
 refine WL_move rfl rfl ?_
 obtain ⟨x15, hr15, hF⟩ := bind_some hF
 refine WL_call Tryz.call37 rfl rfl (c_Q_toIntS a1 u1 (g1.now hC14.keep) x15 hr15) ?_
 rintro v11 w16 ⟨hB15, F11, hv15, hn11, hb11⟩
 have hC15 := hC14.push hB15 (A := Item.own v11 x15) hv15 hn11 hb11
 obtain ⟨x16, hr16, hF⟩ := bind_some hF
 refine WL_call Tryz.call41 rfl rfl (c_Q_eqIntS x9 v6 ((hC15.ro 5 rfl).now (Keep.refl _ _)) x15 v11 ((hC15.ro 0 rfl).now (Keep.refl _ _)) x16 hr16) ?_
 intro _ w17 hv16
 obtain ⟨rfl, hB16⟩ := res_bool hv16
 have hC16 := hC15.grow hB16
 refine WL_not rfl rfl ?_
 refine WL_nil ?_
 refine W_cond rfl (fun hc6 => ?_) (fun hc6 => ?_)
 ·replace hF := ite_t hF hc6
  refine W_seq_reg ?_
  refine WL_assign rfl rfl ?_
  refine WL_nil ?_
  refine W_ret ?_
  refine nrm_ret ?_
  have hq6 := Option.some.inj hF
  subst hq6
  refine fn_ret1 rfl rfl ?_
  exact ⟨_, rfl, bool_res hC16 _⟩
 replace hF := ite_f hF hc6
 refine W_skip ?_
 refine nrm_normal ?_
 refine W_seq ?_
 refine W_seq_reg ?_
 refine WL_move rfl rfl ?_
 refine WL_move rfl rfl ?_
 obtain ⟨x17, hr17, hF⟩ := bind_some hF
 refine WL_call Tryz.call38 rfl rfl (c_Q_toMethodS a2 u2 (g2.now hC16.keep) x17 hr17) ?_
 rintro v12 w18 ⟨hB17, F12, hv17, hn12, hb12⟩
 have hC17 := hC16.push hB17 (A := Item.own v12 x17) hv17 hn12 hb12
 obtain ⟨x18, hr18, hF⟩ := bind_some hF
 refine WL_call Tryz.call42 rfl rfl (c_Q_eqMethodS x10 v7 ((hC17.ro 5 rfl).now (Keep.refl _ _)) x17 v12 ((hC17.ro 0 rfl).now (Keep.refl _ _)) x18 hr18) ?_
 intro _ w19 hv18
 obtain ⟨rfl, hB18⟩ := res_bool hv18
 have hC18 := hC17.grow hB18
 refine WL_not rfl rfl ?_
 refine WL_nil ?_
 refine W_cond rfl (fun hc7 => ?_) (fun hc7 => ?_)
 ·replace hF := ite_t hF hc7
  refine W_seq_reg ?_
  refine WL_assign rfl rfl ?_
  refine WL_nil ?_
  refine W_ret ?_
  refine nrm_ret ?_
  have hq7 := Option.some.inj hF
  subst hq7
  refine fn_ret1 rfl rfl ?_
  exact ⟨_, rfl, bool_res hC18 _⟩
 replace hF := ite_f hF hc7
 refine W_skip ?_
 refine nrm_normal ?_
 refine W_seq ?_
 refine W_seq_reg ?_
 refine WL_move rfl rfl ?_
 refine WL_move rfl rfl ?_
 obtain ⟨x19, hr19, hF⟩ := bind_some hF
 refine WL_call Tryz.call49 rfl rfl (c_Q_toRuleS a3 u3 (g3.now hC18.keep) x19 hr19) ?_
 rintro v13 w20 ⟨hB19, F13, hv19, hn13, hb13⟩
 have hC19 := hC18.push hB19 (A := Item.own v13 x19) hv19 hn13 hb13
 obtain ⟨x20, hr20, hF⟩ := bind_some hF
 refine WL_call Tryz.call51 rfl rfl (c_Q_eqRuleS x11 v8 ((hC19.ro 5 rfl).now (Keep.refl _ _)) x19 v13 ((hC19.ro 0 rfl).now (Keep.refl _ _)) x20 hr20) ?_
 intro _ w21 hv20
 obtain ⟨rfl, hB20⟩ := res_bool hv20
 have hC20 := hC19.grow hB20
 refine WL_not rfl rfl ?_
 refine WL_nil ?_
 refine W_cond rfl (fun hc8 => ?_) (fun hc8 => ?_)
 ·replace hF := ite_t hF hc8
  refine W_seq_reg ?_
  refine WL_assign rfl rfl ?_
  refine WL_nil ?_
  refine W_ret ?_
  refine nrm_ret ?_
  have hq8 := Option.some.inj hF
  subst hq8
  refine fn_ret1 rfl rfl ?_
  exact ⟨_, rfl, bool_res hC20 _⟩
 replace hF := ite_f hF hc8
 refine W_skip ?_
 refine nrm_normal ?_
 refine W_seq ?_
 refine W_seq_reg ?_
 refine WL_move rfl rfl ?_
 refine WL_move rfl rfl ?_
 obtain ⟨x21, hr21, hF⟩ := bind_some hF
 refine WL_call Tryz.call39 rfl rfl (c_Q_toToldS a4 u4 (g4.now hC20.keep) x21 hr21) ?_
 rintro v14 w22 ⟨hB21, F14, hv21, hn14, hb14⟩
 have hC21 := hC20.push hB21 (A := Item.own v14 x21) hv21 hn14 hb14
 obtain ⟨x22, hr22, hF⟩ := bind_some hF
 refine WL_call Tryz.call43 rfl rfl (c_Q_eqToldS x12 v9 ((hC21.ro 5 rfl).now (Keep.refl _ _)) x21 v14 ((hC21.ro 0 rfl).now (Keep.refl _ _)) x22 hr22) ?_
 intro _ w23 hv22
 obtain ⟨rfl, hB22⟩ := res_bool hv22
 have hC22 := hC21.grow hB22
 refine WL_not rfl rfl ?_
 refine WL_nil ?_
 refine W_cond rfl (fun hc9 => ?_) (fun hc9 => ?_)
 ·replace hF := ite_t hF hc9
  refine W_seq_reg ?_
  refine WL_assign rfl rfl ?_
  refine WL_nil ?_
  refine W_ret ?_
  refine nrm_ret ?_
  have hq9 := Option.some.inj hF
  subst hq9
  refine fn_ret1 rfl rfl ?_
  exact ⟨_, rfl, bool_res hC22 _⟩
 replace hF := ite_f hF hc9
 refine W_skip ?_
 refine nrm_normal ?_
 refine W_seq_reg ?_
 refine WL_assign rfl rfl ?_
 refine WL_nil ?_
 refine W_seq_reg ?_
 refine WL_move rfl rfl ?_
 refine WL_move rfl rfl ?_
 obtain ⟨x23, hr23, hF⟩ := bind_some hF
 have hC23 := hC22.f8
 obtain ⟨Fs1, hH1, hn15, hF1, hO1, hb15⟩ := Ctx.lend2 (As := [Item.own v14 (x21 : (List ((Int × (List Int)) × (List (Int × (List Int)))))), Item.own v13 (x19 : (List (Int × Int × (List Int)))), Item.own v12 (x17 : (List (Int × (List Int) × Int × Int × Int))), Item.own v11 (x15 : (List Int)), Item.own v10 (x13 : (List (Int × (List Int)))), Item.own v9 (x12 : (List ((Int × (List Int)) × (List (Int × (List Int)))))), Item.own v8 (x11 : (List (Int × Int × (List Int)))), Item.own v7 (x10 : (List (Int × (List Int) × Int × Int × Int))), Item.own v5 (x8 : (List (Int × (List Int)))), Item.own v4 (x7 : (List ((Int × (List Int)) × (List (Int × (List Int)))))), Item.own v3 (x6 : (List (Int × Int × (List Int)))), Item.own v2 (x5 : (List (Int × (List Int) × Int × Int × Int))), Item.own v1 (x4 : (List Int))]) [Item.own v6 (x9 : (List Int))] hC23
 refine WL_call Tryz.call44 rfl rfl (c_Q_markIntS x9 v6 1 hH1 hn15 x23 hr23) ?_
 rintro _ w24 ⟨rfl, hq10⟩
 have hC24 : Ctx [] w0 w24 [Item.own v6 (x23.2 : (List Int)), Item.own v14 (x21 : (List ((Int × (List Int)) × (List (Int × (List Int)))))), Item.own v13 (x19 : (List (Int × Int × (List Int)))), Item.own v12 (x17 : (List (Int × (List Int) × Int × Int × Int))), Item.own v11 (x15 : (List Int)), Item.own v10 (x13 : (List (Int × (List Int)))), Item.own v9 (x12 : (List ((Int × (List Int)) × (List (Int × (List Int)))))), Item.own v8 (x11 : (List (Int × Int × (List Int)))), Item.own v7 (x10 : (List (Int × (List Int) × Int × Int × Int))), Item.own v5 (x8 : (List (Int × (List Int)))), Item.own v4 (x7 : (List ((Int × (List Int)) × (List (Int × (List Int)))))), Item.own v3 (x6 : (List (Int × Int × (List Int)))), Item.own v2 (x5 : (List (Int × (List Int) × Int × Int × Int))), Item.own v1 (x4 : (List Int))] := hb15 _ _ hq10
 refine WL_assign rfl rfl ?_
 refine WL_nil ?_
 refine W_seq_reg ?_
 refine WL_move rfl rfl ?_
 refine WL_move rfl rfl ?_
 obtain ⟨x24, hr24, hF⟩ := bind_some hF
 have hC25 := hC24.f8
 obtain ⟨Fs2, hH2, hn16, hF2, hO2, hb16⟩ := Ctx.lend2 (As := [Item.own v6 (x23.2 : (List Int)), Item.own v14 (x21 : (List ((Int × (List Int)) × (List (Int × (List Int)))))), Item.own v13 (x19 : (List (Int × Int × (List Int)))), Item.own v12 (x17 : (List (Int × (List Int) × Int × Int × Int))), Item.own v11 (x15 : (List Int)), Item.own v10 (x13 : (List (Int × (List Int)))), Item.own v9 (x12 : (List ((Int × (List Int)) × (List (Int × (List Int)))))), Item.own v8 (x11 : (List (Int × Int × (List Int)))), Item.own v5 (x8 : (List (Int × (List Int)))), Item.own v4 (x7 : (List ((Int × (List Int)) × (List (Int × (List Int)))))), Item.own v3 (x6 : (List (Int × Int × (List Int)))), Item.own v2 (x5 : (List (Int × (List Int) × Int × Int × Int))), Item.own v1 (x4 : (List Int))]) [Item.own v7 (x10 : (List (Int × (List Int) × Int × Int × Int)))] hC25
 refine WL_call Tryz.call45 rfl rfl (c_Q_markMethodS x10 v7 x23.1 hH2 hn16 x24 hr24) ?_
 rintro _ w25 ⟨rfl, hq11⟩
 have hC26 : Ctx [] w0 w25 [Item.own v7 (x24.2 : (List (Int × (List Int) × Int × Int × Int))), Item.own v6 (x23.2 : (List Int)), Item.own v14 (x21 : (List ((Int × (List Int)) × (List (Int × (List Int)))))), Item.own v13 (x19 : (List (Int × Int × (List Int)))), Item.own v12 (x17 : (List (Int × (List Int) × Int × Int × Int))), Item.own v11 (x15 : (List Int)), Item.own v10 (x13 : (List (Int × (List Int)))), Item.own v9 (x12 : (List ((Int × (List Int)) × (List (Int × (List Int)))))), Item.own v8 (x11 : (List (Int × Int × (List Int)))), Item.own v5 (x8 : (List (Int × (List Int)))), Item.own v4 (x7 : (List ((Int × (List Int)) × (List (Int × (List Int)))))), Item.own v3 (x6 : (List (Int × Int × (List Int)))), Item.own v2 (x5 : (List (Int × (List Int) × Int × Int × Int))), Item.own v1 (x4 : (List Int))] := hb16 _ _ hq11
 refine WL_assign rfl rfl ?_
 refine WL_nil ?_
 refine W_seq_reg ?_
 refine WL_move rfl rfl ?_
 refine WL_move rfl rfl ?_
 obtain ⟨x25, hr25, hF⟩ := bind_some hF
 have hC27 := hC26.f8
 obtain ⟨Fs3, hH3, hn17, hF3, hO3, hb17⟩ := Ctx.lend2 (As := [Item.own v7 (x24.2 : (List (Int × (List Int) × Int × Int × Int))), Item.own v6 (x23.2 : (List Int)), Item.own v14 (x21 : (List ((Int × (List Int)) × (List (Int × (List Int)))))), Item.own v13 (x19 : (List (Int × Int × (List Int)))), Item.own v12 (x17 : (List (Int × (List Int) × Int × Int × Int))), Item.own v11 (x15 : (List Int)), Item.own v10 (x13 : (List (Int × (List Int)))), Item.own v9 (x12 : (List ((Int × (List Int)) × (List (Int × (List Int)))))), Item.own v5 (x8 : (List (Int × (List Int)))), Item.own v4 (x7 : (List ((Int × (List Int)) × (List (Int × (List Int)))))), Item.own v3 (x6 : (List (Int × Int × (List Int)))), Item.own v2 (x5 : (List (Int × (List Int) × Int × Int × Int))), Item.own v1 (x4 : (List Int))]) [Item.own v8 (x11 : (List (Int × Int × (List Int))))] hC27
 refine WL_call Tryz.call52 rfl rfl (c_Q_markRuleS x11 v8 x24.1 hH3 hn17 x25 hr25) ?_
 rintro _ w26 ⟨rfl, hq12⟩
 have hC28 : Ctx [] w0 w26 [Item.own v8 (x25.2 : (List (Int × Int × (List Int)))), Item.own v7 (x24.2 : (List (Int × (List Int) × Int × Int × Int))), Item.own v6 (x23.2 : (List Int)), Item.own v14 (x21 : (List ((Int × (List Int)) × (List (Int × (List Int)))))), Item.own v13 (x19 : (List (Int × Int × (List Int)))), Item.own v12 (x17 : (List (Int × (List Int) × Int × Int × Int))), Item.own v11 (x15 : (List Int)), Item.own v10 (x13 : (List (Int × (List Int)))), Item.own v9 (x12 : (List ((Int × (List Int)) × (List (Int × (List Int)))))), Item.own v5 (x8 : (List (Int × (List Int)))), Item.own v4 (x7 : (List ((Int × (List Int)) × (List (Int × (List Int)))))), Item.own v3 (x6 : (List (Int × Int × (List Int)))), Item.own v2 (x5 : (List (Int × (List Int) × Int × Int × Int))), Item.own v1 (x4 : (List Int))] := hb17 _ _ hq12
 refine WL_assign rfl rfl ?_
 refine WL_nil ?_
 refine W_seq_reg ?_
 refine WL_move rfl rfl ?_
 refine WL_move rfl rfl ?_
 obtain ⟨x26, hr26, hF⟩ := bind_some hF
 have hC29 := hC28.f8
 obtain ⟨Fs4, hH4, hn18, hF4, hO4, hb18⟩ := Ctx.lend2 (As := [Item.own v8 (x25.2 : (List (Int × Int × (List Int)))), Item.own v7 (x24.2 : (List (Int × (List Int) × Int × Int × Int))), Item.own v6 (x23.2 : (List Int)), Item.own v14 (x21 : (List ((Int × (List Int)) × (List (Int × (List Int)))))), Item.own v13 (x19 : (List (Int × Int × (List Int)))), Item.own v12 (x17 : (List (Int × (List Int) × Int × Int × Int))), Item.own v11 (x15 : (List Int)), Item.own v10 (x13 : (List (Int × (List Int)))), Item.own v5 (x8 : (List (Int × (List Int)))), Item.own v4 (x7 : (List ((Int × (List Int)) × (List (Int × (List Int)))))), Item.own v3 (x6 : (List (Int × Int × (List Int)))), Item.own v2 (x5 : (List (Int × (List Int) × Int × Int × Int))), Item.own v1 (x4 : (List Int))]) [Item.own v9 (x12 : (List ((Int × (List Int)) × (List (Int × (List Int))))))] hC29
 refine WL_call Tryz.call46 rfl rfl (c_Q_markToldS x12 v9 x25.1 hH4 hn18 x26 hr26) ?_
 rintro _ w27 ⟨rfl, hq13⟩
 have hC30 : Ctx [] w0 w27 [Item.own v9 (x26.2 : (List ((Int × (List Int)) × (List (Int × (List Int)))))), Item.own v8 (x25.2 : (List (Int × Int × (List Int)))), Item.own v7 (x24.2 : (List (Int × (List Int) × Int × Int × Int))), Item.own v6 (x23.2 : (List Int)), Item.own v14 (x21 : (List ((Int × (List Int)) × (List (Int × (List Int)))))), Item.own v13 (x19 : (List (Int × Int × (List Int)))), Item.own v12 (x17 : (List (Int × (List Int) × Int × Int × Int))), Item.own v11 (x15 : (List Int)), Item.own v10 (x13 : (List (Int × (List Int)))), Item.own v5 (x8 : (List (Int × (List Int)))), Item.own v4 (x7 : (List ((Int × (List Int)) × (List (Int × (List Int)))))), Item.own v3 (x6 : (List (Int × Int × (List Int)))), Item.own v2 (x5 : (List (Int × (List Int) × Int × Int × Int))), Item.own v1 (x4 : (List Int))] := hb18 _ _ hq13
 refine WL_assign rfl rfl ?_
 refine WL_nil ?_
 refine W_seq ?_
 obtain ⟨r1, hr27, hF⟩ := bind_some hF
 refine W_cut (fun l w => ∃ x27 : Bool, x27 = r1 ∧ l = [(0, u1), (1, u2), (2, u3), (3, u4), (10, v5), (15, v10), (103, (.bool x27))] ∧ Below w27.heap.size w27 w ∧ Ctx [] w0 w [Item.own v10 (x13 : (List (Int × (List Int)))), Item.own v5 (x8 : (List (Int × (List Int))))]) ?_ ?_
 ·refine W_reg ?_
  refine WL_move rfl rfl ?_
  refine WL_lss rfl rfl rfl ?_
  refine WL_move rfl rfl ?_
  refine WL_fork (fun hc10 => ?_) (fun hc10 => ?_)
  ·replace hr27 := ite_t hr27 hc10
   refine WL_guard_skip rfl rfl (by simp) rfl ?_
   refine WL_guard_skip rfl rfl (by simp) rfl ?_
   refine WL_guard_skip rfl rfl (by simp) rfl ?_
   refine WL_guard_skip rfl rfl (by simp) rfl ?_
   refine WL_pick_t rfl rfl rfl ?_
   refine WL_nil ?_
   have hq14 := Option.some.inj hr27
   subst hq14
   have hC32 := hC30.f9
   have hC33 := hC32.f9
   have hC34 := hC33.h2
   refine nrm_sub (l' := [(0, u1), (1, u2), (2, u3), (3, u4), (10, v5), (15, v10), (103, (.bool true))]) ⟨rfl, rfl, rfl, rfl, rfl, rfl, rfl, trivial⟩ ?_
   exact ⟨true, rfl, rfl, (Below.refl _ _), hC34⟩
  replace hr27 := ite_f hr27 hc10
  refine WL_guard rfl rfl ?_
  refine WL_move rfl rfl ?_
  refine WL_guard rfl rfl ?_
  refine WL_move rfl rfl ?_
  obtain ⟨x28, hr28, hr27⟩ := bind_some hr27
  refine WL_guard rfl rfl ?_
  refine WL_call Tryz.call50 rfl rfl (c_Q_eqFactS x13 v10 ((hC30.ro 8 rfl).now (Keep.refl _ _)) x8 v5 ((hC30.ro 9 rfl).now (Keep.refl _ _)) x28 hr28) ?_
  intro _ w29 hv23
  obtain ⟨rfl, hB24⟩ := res_bool hv23
  have hC35 := hC30.grow hB24
  refine WL_guard rfl rfl ?_
  refine WL_not rfl rfl ?_
  refine WL_pick_f rfl rfl rfl ?_
  refine WL_nil ?_
  have hq15 := Option.some.inj hr27
  subst hq15
  have hC36 := hC35.f9
  have hC37 := hC36.f9
  have hC38 := hC37.h2
  refine nrm_sub (l' := [(0, u1), (1, u2), (2, u3), (3, u4), (10, v5), (15, v10), (103, (.bool (!x28)))]) ⟨rfl, rfl, rfl, rfl, rfl, rfl, rfl, trivial⟩ ?_
  exact ⟨(!x28), rfl, rfl, (Keep.of hB24).below, hC38⟩
 rintro _ w28 ⟨x27, rfl, rfl, hB23, hC31⟩
 try dsimp only at hF
 refine W_cond rfl (fun hc11 => ?_) (fun hc11 => ?_)
 ·replace hF := ite_t hF hc11
  refine W_seq_reg ?_
  refine WL_assign rfl rfl ?_
  refine WL_nil ?_
  refine W_ret ?_
  refine nrm_ret ?_
  have hq16 := Option.some.inj hF
  subst hq16
  refine fn_ret1 rfl rfl ?_
  exact ⟨_, rfl, bool_res hC31 _⟩
 replace hF := ite_f hF hc11
 refine W_skip ?_
 refine nrm_normal ?_
 refine W_seq_reg ?_
 refine WL_assign rfl rfl ?_
 refine WL_nil ?_
 refine W_seq_reg ?_
 refine WL_move rfl rfl ?_
 refine WL_move rfl rfl ?_
 obtain ⟨x29, hr29, hF⟩ := bind_some hF
 obtain ⟨Fs5, hH5, hn19, hF5, hO5, hb19⟩ := Ctx.lend2 (As := [Item.own v5 (x8 : (List (Int × (List Int))))]) [Item.own v10 (x13 : (List (Int × (List Int))))] hC31
 refine WL_call Tryz.call53 rfl rfl (c_Q_markFactS x13 v10 1 hH5 hn19 x29 hr29) ?_
 rintro _ w30 ⟨rfl, hq17⟩
 have hC40 : Ctx [] w0 w30 [Item.own v10 (x29.2 : (List (Int × (List Int)))), Item.own v5 (x8 : (List (Int × (List Int))))] := hb19 _ _ hq17
 refine WL_assign rfl rfl ?_
 refine WL_nil ?_
 refine W_seq_reg ?_
 refine WL_assign rfl rfl ?_
 refine WL_nil ?_
 refine W_seq_reg ?_
 refine WL_move rfl rfl ?_
 refine WL_move rfl rfl ?_
 obtain ⟨x30, hr30, hF⟩ := bind_some hF
 refine WL_call Tryz.call54 rfl rfl (c_Q_heldFactS x29.2 v10 ((hC40.ro 0 rfl).now (Keep.refl _ _)) 1 x30 hr30) ?_
 intro _ w31 hv24
 obtain ⟨rfl, hB25⟩ := res_int hv24
 have hC41 := hC40.grow hB25
 refine WL_assign rfl rfl ?_
 refine WL_nil ?_
 refine W_seq ?_
 refine W_seq_reg ?_
 refine WL_move rfl rfl ?_
 refine WL_lss rfl rfl rfl ?_
 refine WL_nil ?_
 refine W_cond rfl (fun hc12 => ?_) (fun hc12 => ?_)
 ·replace hF := ite_t hF hc12
  refine W_seq_reg ?_
  refine WL_assign rfl rfl ?_
  refine WL_nil ?_
  refine W_ret ?_
  refine nrm_ret ?_
  have hq18 := Option.some.inj hF
  subst hq18
  refine fn_ret1 rfl rfl ?_
  exact ⟨_, rfl, bool_res hC41 _⟩
 replace hF := ite_f hF hc12
 refine W_skip ?_
 refine nrm_normal ?_
 refine W_seq ?_
 refine W_seq_reg ?_
 refine WL_move rfl rfl ?_
 refine WL_move rfl rfl ?_
 refine WL_neq rfl rfl rfl ?_
 refine WL_nil ?_
 refine W_cond rfl (fun hc13 => ?_) (fun hc13 => ?_)
 ·replace hF := ite_t hF hc13
  refine W_seq_reg ?_
  refine WL_assign rfl rfl ?_
  refine WL_nil ?_
  refine W_ret ?_
  refine nrm_ret ?_
  have hq19 := Option.some.inj hF
  subst hq19
  refine fn_ret1 rfl rfl ?_
  exact ⟨_, rfl, bool_res hC41 _⟩
 replace hF := ite_f hF hc13
 refine W_skip ?_
 refine nrm_normal ?_
 refine W_seq_reg ?_
 refine WL_move rfl rfl ?_
 obtain ⟨x31, hr31, hF⟩ := bind_some hF
 refine WL_call Tryz.call37 rfl rfl (c_Q_toIntS a1 u1 (g1.now hC41.keep) x31 hr31) ?_
 rintro v15 w32 ⟨hB26, F15, hv25, hn20, hb20⟩
 have hC42 := hC41.push hB26 (A := Item.own v15 x31) hv25 hn20 hb20
 refine WL_move rfl rfl ?_
 obtain ⟨x32, hr32, hF⟩ := bind_some hF
 refine WL_call Tryz.call38 rfl rfl (c_Q_toMethodS a2 u2 (g2.now hC42.keep) x32 hr32) ?_
 rintro v16 w33 ⟨hB27, F16, hv26, hn21, hb21⟩
 have hC43 := hC42.push hB27 (A := Item.own v16 x32) hv26 hn21 hb21
 refine WL_move rfl rfl ?_
 obtain ⟨x33, hr33, hF⟩ := bind_some hF
 refine WL_call Tryz.call49 rfl rfl (c_Q_toRuleS a3 u3 (g3.now hC43.keep) x33 hr33) ?_
 rintro v17 w34 ⟨hB28, F17, hv27, hn22, hb22⟩
 have hC44 := hC43.push hB28 (A := Item.own v17 x33) hv27 hn22 hb22
 refine WL_move rfl rfl ?_
 obtain ⟨x34, hr34, hF⟩ := bind_some hF
 refine WL_call Tryz.call39 rfl rfl (c_Q_toToldS a4 u4 (g4.now hC44.keep) x34 hr34) ?_
 rintro v18 w35 ⟨hB29, F18, hv28, hn23, hb23⟩
 have hC45 := hC44.push hB29 (A := Item.own v18 x34) hv28 hn23 hb23
 obtain ⟨x35, hr35, hF⟩ := bind_some hF
 refine WL_call Tryz.call23 rfl rfl (c_M_BrokenRules x31 v15 ((hC45.ro 3 rfl).now (Keep.refl _ _)) x32 v16 ((hC45.ro 2 rfl).now (Keep.refl _ _)) x33 v17 ((hC45.ro 1 rfl).now (Keep.refl _ _)) x34 v18 ((hC45.ro 0 rfl).now (Keep.refl _ _)) x35 hr35) ?_
 rintro v19 w36 ⟨hB30, F19, hv29, hn24, hb24⟩
 have hC46 := hC45.push hB30 (A := Item.own v19 x35) hv29 hn24 hb24
 refine WL_assign rfl rfl ?_
 refine WL_nil ?_
 refine W_seq ?_
 refine W_seq_reg ?_
 refine WL_move rfl rfl ?_
 refine WL_move rfl rfl ?_
 obtain ⟨x36, hr36, hF⟩ := bind_some hF
 refine WL_call Tryz.call50 rfl rfl (c_Q_eqFactS x35 v19 ((hC46.ro 0 rfl).now (Keep.refl _ _)) x8 v5 ((hC46.ro 6 rfl).now (Keep.refl _ _)) x36 hr36) ?_
 intro _ w37 hv30
 obtain ⟨rfl, hB31⟩ := res_bool hv30
 have hC47 := hC46.grow hB31
 refine WL_not rfl rfl ?_
 refine WL_nil ?_
 refine W_cond rfl (fun hc14 => ?_) (fun hc14 => ?_)
 ·replace hF := ite_t hF hc14
  refine W_seq_reg ?_
  refine WL_assign rfl rfl ?_
  refine WL_nil ?_
  refine W_ret ?_
  refine nrm_ret ?_
  have hq20 := Option.some.inj hF
  subst hq20
  refine fn_ret1 rfl rfl ?_
  exact ⟨_, rfl, bool_res hC47 _⟩
 replace hF := ite_f hF hc14
 refine W_skip ?_
 refine nrm_normal ?_
 refine W_seq_reg ?_
 refine WL_assign rfl rfl ?_
 refine WL_nil ?_
 refine W_seq_reg ?_
 refine WL_move rfl rfl ?_
 refine WL_move rfl rfl ?_
 obtain ⟨x37, hr37, hF⟩ := bind_some hF
 refine WL_call Tryz.call54 rfl rfl (c_Q_heldFactS x29.2 v10 ((hC47.ro 5 rfl).now (Keep.refl _ _)) 1 x37 hr37) ?_
 intro _ w38 hv31
 obtain ⟨rfl, hB32⟩ := res_int hv31
 have hC48 := hC47.grow hB32
 refine WL_assign rfl rfl ?_
 refine WL_nil ?_
 refine W_seq ?_
 refine W_seq_reg ?_
 refine WL_move rfl rfl ?_
 refine WL_lss rfl rfl rfl ?_
 refine WL_nil ?_
 refine W_cond rfl (fun hc15 => ?_) (fun hc15 => ?_)
 ·replace hF := ite_t hF hc15
  refine W_seq_reg ?_
  refine WL_assign rfl rfl ?_
  refine WL_nil ?_
  refine W_ret ?_
  refine nrm_ret ?_
  have hq21 := Option.some.inj hF
  subst hq21
  refine fn_ret1 rfl rfl ?_
  exact ⟨_, rfl, bool_res hC48 _⟩
 replace hF := ite_f hF hc15
 refine W_skip ?_
 refine nrm_normal ?_
 refine W_seq ?_
 refine W_seq_reg ?_
 refine WL_move rfl rfl ?_
 refine WL_move rfl rfl ?_
 refine WL_neq rfl rfl rfl ?_
 refine WL_nil ?_
 refine W_cond rfl (fun hc16 => ?_) (fun hc16 => ?_)
 ·replace hF := ite_t hF hc16
  refine W_seq_reg ?_
  refine WL_assign rfl rfl ?_
  refine WL_nil ?_
  refine W_ret ?_
  refine nrm_ret ?_
  have hq22 := Option.some.inj hF
  subst hq22
  refine fn_ret1 rfl rfl ?_
  exact ⟨_, rfl, bool_res hC48 _⟩
 replace hF := ite_f hF hc16
 refine W_skip ?_
 refine nrm_normal ?_
 refine W_seq_reg ?_
 refine WL_assign rfl rfl ?_
 refine WL_nil ?_
 refine W_ret ?_
 have hq23 := Option.some.inj hF
 subst hq23
 refine fn_ret1 rfl rfl ?_
 exact ⟨_, rfl, bool_res hC48 _⟩

end Go.Gx.Px
