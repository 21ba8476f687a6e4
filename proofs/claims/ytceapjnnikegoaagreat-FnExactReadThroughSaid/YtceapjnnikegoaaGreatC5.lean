/- The contracts of the Go functions against the pure functions, printed by program. Conditions: each says them. -/
import Derived.Test.YtceapjnnikegoaaGreatC4
set_option linter.unusedVariables false
set_option linter.unusedSimpArgs false
set_option maxRecDepth 100000
set_option maxHeartbeats 4000000
namespace Go.Gx.Px
open Go.Proofs Go.RowKit

theorem c_Q_markFactS {w0 : World} {Fs : List (List Nat)} (a1 : (List (Int × (List Int)))) (u1 : Value) (a2 : Int) (hH : Hold [Item.own u1 (a1 : (List (Int × (List Int))))] w0 Fs) (hn : Fs.flatten.Nodup) (rr : (Int × (List (Int × (List Int))))) (hF : Q.markFactS a1 a2 = some rr) :
 Calls Tryz.prog 50 [u1, (.int .i64 a2)].toArray w0 fun e w' => ∃ v, e = .returned v ∧ v = (.int .i64 rr.1) ∧ Ctx Fs.flatten w0 w' [Item.own u1 (rr.2 : (List (Int × (List Int))))] := by
 refine calls_of_W Tryz.func50 rfl rfl ?_
 have hC0 := Ctx.startIn hH hn
 unfold Q.markFactS at hF
 refine W_seq_reg ?_
 refine WL_assign rfl rfl ?_
 refine WL_nil ?_
 refine W_seq ?_
 refine W_seq_reg ?_
 refine WL_assign rfl rfl ?_
 refine WL_nil ?_
 obtain ⟨r1, hr1, hF⟩ := bind_some hF
 refine W_norm (fun l w => ∃ x4 : (List (Int × (List Int))), ∃ x5 : Int, (x4, x5) = r1 ∧ l = [(1, (.int .i64 x5))] ∧ Ctx Fs.flatten w0 w [Item.own u1 (x4 : (List (Int × (List Int))))]) ?_ ?_
 ·refine W_block ?_
  refine W.sub (l' := [(0, u1), (1, (.int .i64 a2)), (5, (.int .i64 0))]) ?_ ⟨rfl, rfl, rfl, trivial⟩
  refine W_loop (fun k l w => ∃ x1 : (List (Int × (List Int))), ∃ x2 : Int, ∃ x3 : Int, l = [(0, u1), (1, (.int .i64 x2)), (5, (.int .i64 x3))] ∧ Ctx Fs.flatten w0 w [Item.own u1 (x1 : (List (Int × (List Int))))] ∧ Q.markFactS_l1 k x1 x2 x3 = some r1) FUEL ⟨a1, a2, 0, rfl, hC0, hr1⟩ ?_
  clear hr1
  rintro k1 _ w1 ⟨x1, x2, x3, rfl, hC1, hL1⟩
  cases k1 with
  | zero => rw [Q.markFactS_l1] at hL1; cases hL1
  | succ k1 =>
   rw [Q.markFactS_l1] at hL1
   refine W_seq ?_
   refine W_seq_reg ?_
   refine WL_move rfl rfl ?_
   refine WL_move rfl rfl ?_
   refine WL_len Tryz.underlying34 (hC1.ro 0 rfl) rfl rfl ?_
   refine WL_lss rfl rfl rfl ?_
   refine WL_nil ?_
   refine W_cond rfl (fun hc1 => ?_) (fun hc1 => ?_)
   ·replace hL1 := ite_t hL1 hc1
    refine W_skip ?_
    refine nrm_normal ?_
    refine W_seq ?_
    refine W_block ?_
    refine W_seq_reg ?_
    refine WL_move rfl rfl ?_
    refine WL_move rfl rfl ?_
    refine WL_move rfl rfl ?_
    obtain ⟨x6, hx1, hL1⟩ := bind_some hL1
    refine WL_index_own hC1 0 rfl Tryz.underlying34 ty81 hx1 rfl rfl rfl (fun b1 hE1 => ?_)
    refine WL_field Tryz.underlying81 rfl rfl (fun w => ⟨_, Tryz.sizeOf3 w⟩) rfl rfl ?_
    obtain ⟨cs1, hC3⟩ := hC1.openElem hx1
    obtain ⟨v1, he1, hC4⟩ := st81_own (hC3.cellsOwn rfl)
    obtain rfl := cells_of_agg he1
    refine WL_store_hole (fo := 0) (cs' := [(.int .i64 x2), v1]) hC4 1 rfl hE1 rfl rfl rfl rfl Tryz.sizeOf3 rfl rfl (fun w2 hC2 => ?_)
    try dsimp only [List.set] at hC2
    have hC5 := hC2.f1
    have hC7 := hC5.f1
    have hC6 := own_st81 x2 v1 x6.2 hC7
    have hC8 := hC6.ownCells.closeElem
    refine WL_nil ?_
    refine W_seq_reg ?_
    refine WL_move rfl rfl ?_
    refine WL_add rfl rfl rfl ?_
    refine WL_assign rfl rfl ?_
    refine WL_nil ?_
    refine W_reg ?_
    refine WL_move rfl rfl ?_
    refine WL_move rfl rfl ?_
    obtain ⟨x7, hx2, hL1⟩ := bind_some hL1
    refine WL_index_own hC8 0 rfl Tryz.underlying34 ty81 hx2 rfl rfl rfl (fun b2 hE2 => ?_)
    refine WL_field Tryz.underlying81 rfl rfl (fun w => ⟨_, Tryz.sizeOf22 w⟩) rfl rfl ?_
    obtain ⟨cs2, hC9⟩ := hC8.openElem hx2
    obtain ⟨v2, he2, hC10⟩ := st81_own (hC9.cellsOwn rfl)
    obtain rfl := cells_of_agg he2
    refine WL_load_hole (fo := 1) hC10 1 rfl hE2 rfl rfl Tryz.isAgg22 rfl rfl ?_
    refine WL_move rfl rfl ?_
    obtain ⟨x8, hr2, hL1⟩ := bind_some hL1
    obtain ⟨Fs1, hH1, hn1, hF1, hO1, hb1⟩ := Ctx.lend2 (As := [Item.hole u1 ((List.set x1 (Int.toNat x3) (x2, x6.2)) : (List (Int × (List Int)))) (Int.toNat x3) [(.int .i64 x7.1), v2]]) [Item.own v2 (x7.2 : (List Int))] hC10
    refine WL_call Tryz.call21 rfl rfl (c_Q_markIntS x7.2 v2 (w64 (x2 + 1)) hH1 hn1 x8 hr2) ?_
    rintro _ w3 ⟨rfl, hq1⟩
    have hC12 : Ctx Fs.flatten w0 w3 [Item.own v2 (x8.2 : (List Int)), Item.hole u1 ((List.set x1 (Int.toNat x3) (x2, x6.2)) : (List (Int × (List Int)))) (Int.toNat x3) [(.int .i64 x7.1), v2]] := hb1 _ _ hq1
    have hC13 := hC12.f1
    have hC15 := hC13.f1
    have hC14 := own_st81 x7.1 v2 x8.2 hC15
    have hC16 := hC14.ownCells.closeElem
    refine WL_assign rfl rfl ?_
    refine WL_nil ?_
    refine blk_normal ?_
    refine nrm_normal ?_
    refine W_reg ?_
    refine WL_move rfl rfl ?_
    refine WL_add rfl rfl rfl ?_
    refine WL_assign rfl rfl ?_
    refine WL_nil ?_
    refine nrm_sub (l' := [(0, u1), (1, (.int .i64 x8.1)), (5, (.int .i64 (w64 (x3 + 1))))]) ⟨rfl, rfl, rfl, trivial⟩ ?_
    exact ⟨k1, Nat.lt_succ_self _, (List.set (List.set x1 (Int.toNat x3) (x2, x6.2)) (Int.toNat x3) (x7.1, x8.2)), x8.1, w64 (x3 + 1), rfl, hC16, hL1⟩
   replace hL1 := ite_f hL1 hc1
   refine W_exit ?_
   refine nrm_exit ?_
   refine nrm_exit ?_
   refine blk_exit ?_
   have hq2 := Option.some.inj hL1
   subst hq2
   refine nrm_sub (l' := [(1, (.int .i64 x2))]) ⟨rfl, trivial⟩ ?_
   exact ⟨x1, x2, rfl, rfl, hC1⟩
 rintro l2 _ w4 hs2 ⟨x4, x5, rfl, rfl, hC17⟩
 try dsimp only at hF
 refine nrm_sub' hs2 ?_
 clear hs2
 refine W_seq_reg ?_
 refine WL_move rfl rfl ?_
 refine WL_assign rfl rfl ?_
 refine WL_nil ?_
 refine W_ret ?_
 have hq3 := Option.some.inj hF
 subst hq3
 refine fn_ret1 rfl rfl ?_
 exact ⟨_, rfl, rfl, hC17⟩

theorem c_Q_markSource {w0 : World} {Fs : List (List Nat)} (a1 : ((List (Int × (List Int))) × Int)) (u1 : Value) (a2 : Int) (hH : Hold [Item.own u1 (a1.1 : (List (Int × (List Int))))] w0 Fs) (hn : Fs.flatten.Nodup) (rr : (Int × ((List (Int × (List Int))) × Int))) (hF : Q.markSource a1 a2 = some rr) :
 Calls Tryz.prog 23 [(.agg #[u1, (.int .i64 a1.2)]), (.int .i64 a2)].toArray w0 fun e w' => ∃ v, e = .returned v ∧ v = (.int .i64 rr.1) ∧ Ctx Fs.flatten w0 w' [Item.own u1 (rr.2.1 : (List (Int × (List Int))))] := by
 refine calls_of_W Tryz.func23 rfl rfl ?_
 have hC0 := Ctx.startIn hH hn
 unfold Q.markSource at hF
 refine W_seq_reg ?_
 refine WL_box (cs := [u1, (.int .i64 a1.2)]) hC0 rfl rfl rfl (fun b1 w1 hC1 hB1 => ?_)
 refine WL_assign rfl rfl ?_
 refine WL_nil ?_
 refine W_seq_reg ?_
 refine WL_field Tryz.underlying38 rfl rfl (fun w => ⟨_, Tryz.sizeOf34 w⟩) rfl rfl ?_
 refine WL_load_box hC1 0 rfl rfl Tryz.isAgg34 rfl rfl ?_
 refine WL_move rfl rfl ?_
 obtain ⟨x1, hr1, hF⟩ := bind_some hF
 have hC2 := hC1.f1
 obtain ⟨Fs1, hH1, hn1, hF1, hO1, hb1⟩ := Ctx.lend2 (As := [Item.box b1 [u1, (.int .i64 a1.2)]]) [Item.own u1 (a1.1 : (List (Int × (List Int))))] hC2
 refine WL_call Tryz.call50 rfl rfl (c_Q_markFactS a1.1 u1 a2 hH1 hn1 x1 hr1) ?_
 rintro _ w2 ⟨rfl, hq1⟩
 have hC3 : Ctx Fs.flatten w0 w2 [Item.own u1 (x1.2 : (List (Int × (List Int)))), Item.box b1 [u1, (.int .i64 a1.2)]] := hb1 _ _ hq1
 refine WL_assign rfl rfl ?_
 refine WL_nil ?_
 refine W_seq_reg ?_
 refine WL_move rfl rfl ?_
 refine WL_assign rfl rfl ?_
 refine WL_nil ?_
 refine W_ret ?_
 have hq2 := Option.some.inj hF
 subst hq2
 refine fn_ret1 rfl rfl ?_
 have hC4 := hC3.h1
 exact ⟨_, rfl, rfl, hC4⟩

theorem c_Q_markAccess {w0 : World} {Fs : List (List Nat)} (a1 : (Int × (List Int))) (u1 : Value) (a2 : Int) (hH : Hold [Item.own u1 (a1.2 : (List Int))] w0 Fs) (hn : Fs.flatten.Nodup) (rr : (Int × (Int × (List Int)))) (hF : Q.markAccess a1 a2 = some rr) :
 Calls Tryz.prog 24 [(.agg #[(.int .i64 a1.1), u1]), (.int .i64 a2)].toArray w0 fun e w' => ∃ v, e = .returned v ∧ v = (.int .i64 rr.1) ∧ Ctx Fs.flatten w0 w' [Item.own u1 (rr.2.2 : (List Int))] := by
 refine calls_of_W Tryz.func24 rfl rfl ?_
 have hC0 := Ctx.startIn hH hn
 unfold Q.markAccess at hF
 refine W_seq_reg ?_
 refine WL_box (cs := [(.int .i64 a1.1), u1]) hC0 rfl rfl rfl (fun b1 w1 hC1 hB1 => ?_)
 refine WL_assign rfl rfl ?_
 refine WL_nil ?_
 refine W_seq_reg ?_
 refine WL_field Tryz.underlying45 rfl rfl (fun w => ⟨_, Tryz.sizeOf22 w⟩) rfl rfl ?_
 refine WL_load_box hC1 0 rfl rfl Tryz.isAgg22 rfl rfl ?_
 refine WL_move rfl rfl ?_
 obtain ⟨x1, hr1, hF⟩ := bind_some hF
 have hC2 := hC1.f1
 obtain ⟨Fs1, hH1, hn1, hF1, hO1, hb1⟩ := Ctx.lend2 (As := [Item.box b1 [(.int .i64 a1.1), u1]]) [Item.own u1 (a1.2 : (List Int))] hC2
 refine WL_call Tryz.call21 rfl rfl (c_Q_markIntS a1.2 u1 a2 hH1 hn1 x1 hr1) ?_
 rintro _ w2 ⟨rfl, hq1⟩
 have hC3 : Ctx Fs.flatten w0 w2 [Item.own u1 (x1.2 : (List Int)), Item.box b1 [(.int .i64 a1.1), u1]] := hb1 _ _ hq1
 refine WL_assign rfl rfl ?_
 refine WL_nil ?_
 refine W_seq_reg ?_
 refine WL_move rfl rfl ?_
 refine WL_assign rfl rfl ?_
 refine WL_nil ?_
 refine W_ret ?_
 have hq2 := Option.some.inj hF
 subst hq2
 refine fn_ret1 rfl rfl ?_
 have hC4 := hC3.h1
 exact ⟨_, rfl, rfl, hC4⟩

theorem c_Q_markChangeS {w0 : World} {Fs : List (List Nat)} (a1 : (List (Bool × (Int × (List Int))))) (u1 : Value) (a2 : Int) (hH : Hold [Item.own u1 (a1 : (List (Bool × (Int × (List Int)))))] w0 Fs) (hn : Fs.flatten.Nodup) (rr : (Int × (List (Bool × (Int × (List Int)))))) (hF : Q.markChangeS a1 a2 = some rr) :
 Calls Tryz.prog 25 [u1, (.int .i64 a2)].toArray w0 fun e w' => ∃ v, e = .returned v ∧ v = (.int .i64 rr.1) ∧ Ctx Fs.flatten w0 w' [Item.own u1 (rr.2 : (List (Bool × (Int × (List Int)))))] := by
 refine calls_of_W Tryz.func25 rfl rfl ?_
 have hC0 := Ctx.startIn hH hn
 unfold Q.markChangeS at hF
 refine W_seq_reg ?_
 refine WL_assign rfl rfl ?_
 refine WL_nil ?_
 refine W_seq ?_
 refine W_seq_reg ?_
 refine WL_assign rfl rfl ?_
 refine WL_nil ?_
 obtain ⟨r1, hr1, hF⟩ := bind_some hF
 refine W_norm (fun l w => ∃ x4 : (List (Bool × (Int × (List Int)))), ∃ x5 : Int, (x4, x5) = r1 ∧ l = [(1, (.int .i64 x5))] ∧ Ctx Fs.flatten w0 w [Item.own u1 (x4 : (List (Bool × (Int × (List Int)))))]) ?_ ?_
 ·refine W_block ?_
  refine W.sub (l' := [(0, u1), (1, (.int .i64 a2)), (5, (.int .i64 0))]) ?_ ⟨rfl, rfl, rfl, trivial⟩
  refine W_loop (fun k l w => ∃ x1 : (List (Bool × (Int × (List Int)))), ∃ x2 : Int, ∃ x3 : Int, l = [(0, u1), (1, (.int .i64 x2)), (5, (.int .i64 x3))] ∧ Ctx Fs.flatten w0 w [Item.own u1 (x1 : (List (Bool × (Int × (List Int)))))] ∧ Q.markChangeS_l1 k x1 x2 x3 = some r1) FUEL ⟨a1, a2, 0, rfl, hC0, hr1⟩ ?_
  clear hr1
  rintro k1 _ w1 ⟨x1, x2, x3, rfl, hC1, hL1⟩
  cases k1 with
  | zero => rw [Q.markChangeS_l1] at hL1; cases hL1
  | succ k1 =>
   rw [Q.markChangeS_l1] at hL1
   refine W_seq ?_
   refine W_seq_reg ?_
   refine WL_move rfl rfl ?_
   refine WL_move rfl rfl ?_
   refine WL_len Tryz.underlying47 (hC1.ro 0 rfl) rfl rfl ?_
   refine WL_lss rfl rfl rfl ?_
   refine WL_nil ?_
   refine W_cond rfl (fun hc1 => ?_) (fun hc1 => ?_)
   ·replace hL1 := ite_t hL1 hc1
    refine W_skip ?_
    refine nrm_normal ?_
    refine W_seq ?_
    refine W_block ?_
    refine W_seq_reg ?_
    refine WL_move rfl rfl ?_
    refine WL_move rfl rfl ?_
    refine WL_move rfl rfl ?_
    refine WL_rem (by decide) rfl rfl rfl ?_
    refine WL_eql rfl rfl rfl ?_
    obtain ⟨x6, hx1, hL1⟩ := bind_some hL1
    refine WL_index_own hC1 0 rfl Tryz.underlying47 ty83 hx1 rfl rfl rfl (fun b1 hE1 => ?_)
    refine WL_field Tryz.underlying83 rfl rfl (fun w => ⟨_, Tryz.sizeOf4 w⟩) rfl rfl ?_
    obtain ⟨cs1, hC3⟩ := hC1.openElem hx1
    obtain ⟨v1, he1, hC4⟩ := st83_own (hC3.cellsOwn rfl)
    obtain rfl := cells_of_agg he1
    refine WL_store_hole (fo := 0) (cs' := [(.bool (decide ((x2.tmod 3) = 0))), (.int .i64 x6.2.1), v1]) hC4 1 rfl hE1 rfl rfl rfl rfl Tryz.sizeOf4 rfl rfl (fun w2 hC2 => ?_)
    try dsimp only [List.set] at hC2
    have hC5 := hC2.f1
    have hC7 := hC5.f1
    have hC6 := own_st83 (decide ((x2.tmod 3) = 0)) x6.2.1 v1 x6.2.2 hC7
    have hC8 := hC6.ownCells.closeElem
    refine WL_nil ?_
    refine W_seq_reg ?_
    refine WL_move rfl rfl ?_
    refine WL_add rfl rfl rfl ?_
    refine WL_assign rfl rfl ?_
    refine WL_nil ?_
    refine W_seq_reg ?_
    refine WL_move rfl rfl ?_
    refine WL_move rfl rfl ?_
    refine WL_move rfl rfl ?_
    obtain ⟨x7, hx2, hL1⟩ := bind_some hL1
    refine WL_index_own hC8 0 rfl Tryz.underlying47 ty83 hx2 rfl rfl rfl (fun b2 hE2 => ?_)
    refine WL_field Tryz.underlying83 rfl rfl (fun w => ⟨_, Tryz.sizeOf81 w⟩) rfl rfl ?_
    refine WL_field Tryz.underlying81 rfl rfl (fun w => ⟨_, Tryz.sizeOf3 w⟩) rfl rfl ?_
    obtain ⟨cs2, hC10⟩ := hC8.openElem hx2
    obtain ⟨v2, he2, hC11⟩ := st83_own (hC10.cellsOwn rfl)
    obtain rfl := cells_of_agg he2
    refine WL_store_hole (fo := 1) (cs' := [(.bool x7.1), (.int .i64 (w64 (x2 + 1))), v2]) hC11 1 rfl hE2 rfl rfl rfl rfl Tryz.sizeOf3 rfl rfl (fun w3 hC9 => ?_)
    try dsimp only [List.set] at hC9
    have hC12 := hC9.f1
    have hC14 := hC12.f1
    have hC13 := own_st83 x7.1 (w64 (x2 + 1)) v2 x7.2.2 hC14
    have hC15 := hC13.ownCells.closeElem
    refine WL_nil ?_
    refine W_seq_reg ?_
    refine WL_move rfl rfl ?_
    refine WL_add rfl rfl rfl ?_
    refine WL_assign rfl rfl ?_
    refine WL_nil ?_
    refine W_reg ?_
    refine WL_move rfl rfl ?_
    refine WL_move rfl rfl ?_
    obtain ⟨x8, hx3, hL1⟩ := bind_some hL1
    refine WL_index_own hC15 0 rfl Tryz.underlying47 ty83 hx3 rfl rfl rfl (fun b3 hE3 => ?_)
    refine WL_field Tryz.underlying83 rfl rfl (fun w => ⟨_, Tryz.sizeOf81 w⟩) rfl rfl ?_
    refine WL_field Tryz.underlying81 rfl rfl (fun w => ⟨_, Tryz.sizeOf22 w⟩) rfl rfl ?_
    obtain ⟨cs3, hC16⟩ := hC15.openElem hx3
    obtain ⟨v3, he3, hC17⟩ := st83_own (hC16.cellsOwn rfl)
    obtain rfl := cells_of_agg he3
    refine WL_load_hole (fo := 2) hC17 1 rfl hE3 rfl rfl Tryz.isAgg22 rfl rfl ?_
    refine WL_move rfl rfl ?_
    obtain ⟨x9, hr2, hL1⟩ := bind_some hL1
    obtain ⟨Fs1, hH1, hn1, hF1, hO1, hb1⟩ := Ctx.lend2 (As := [Item.hole u1 ((List.set (List.set x1 (Int.toNat x3) ((decide ((x2.tmod 3) = 0)), (x6.2.1, x6.2.2))) (Int.toNat x3) (x7.1, (w64 (x2 + 1), x7.2.2))) : (List (Bool × (Int × (List Int))))) (Int.toNat x3) [(.bool x8.1), (.int .i64 x8.2.1), v3]]) [Item.own v3 (x8.2.2 : (List Int))] hC17
    refine WL_call Tryz.call21 rfl rfl (c_Q_markIntS x8.2.2 v3 (w64 ((w64 (x2 + 1)) + 1)) hH1 hn1 x9 hr2) ?_
    rintro _ w4 ⟨rfl, hq1⟩
    have hC19 : Ctx Fs.flatten w0 w4 [Item.own v3 (x9.2 : (List Int)), Item.hole u1 ((List.set (List.set x1 (Int.toNat x3) ((decide ((x2.tmod 3) = 0)), (x6.2.1, x6.2.2))) (Int.toNat x3) (x7.1, (w64 (x2 + 1), x7.2.2))) : (List (Bool × (Int × (List Int))))) (Int.toNat x3) [(.bool x8.1), (.int .i64 x8.2.1), v3]] := hb1 _ _ hq1
    have hC20 := hC19.f1
    have hC22 := hC20.f1
    have hC21 := own_st83 x8.1 x8.2.1 v3 x9.2 hC22
    have hC23 := hC21.ownCells.closeElem
    refine WL_assign rfl rfl ?_
    refine WL_nil ?_
    refine blk_normal ?_
    refine nrm_normal ?_
    refine W_reg ?_
    refine WL_move rfl rfl ?_
    refine WL_add rfl rfl rfl ?_
    refine WL_assign rfl rfl ?_
    refine WL_nil ?_
    refine nrm_sub (l' := [(0, u1), (1, (.int .i64 x9.1)), (5, (.int .i64 (w64 (x3 + 1))))]) ⟨rfl, rfl, rfl, trivial⟩ ?_
    exact ⟨k1, Nat.lt_succ_self _, (List.set (List.set (List.set x1 (Int.toNat x3) ((decide ((x2.tmod 3) = 0)), (x6.2.1, x6.2.2))) (Int.toNat x3) (x7.1, (w64 (x2 + 1), x7.2.2))) (Int.toNat x3) (x8.1, (x8.2.1, x9.2))), x9.1, w64 (x3 + 1), rfl, hC23, hL1⟩
   replace hL1 := ite_f hL1 hc1
   refine W_exit ?_
   refine nrm_exit ?_
   refine nrm_exit ?_
   refine blk_exit ?_
   have hq2 := Option.some.inj hL1
   subst hq2
   refine nrm_sub (l' := [(1, (.int .i64 x2))]) ⟨rfl, trivial⟩ ?_
   exact ⟨x1, x2, rfl, rfl, hC1⟩
 rintro l2 _ w5 hs2 ⟨x4, x5, rfl, rfl, hC24⟩
 try dsimp only at hF
 refine nrm_sub' hs2 ?_
 clear hs2
 refine W_seq_reg ?_
 refine WL_move rfl rfl ?_
 refine WL_assign rfl rfl ?_
 refine WL_nil ?_
 refine W_ret ?_
 have hq3 := Option.some.inj hF
 subst hq3
 refine fn_ret1 rfl rfl ?_
 exact ⟨_, rfl, rfl, hC24⟩

theorem c_Q_markReading {w0 : World} {Fs : List (List Nat)} (a1 : ((List (Int × (List Int))) × Int × Int × Int × Bool)) (u1 : Value) (a2 : Int) (hH : Hold [Item.own u1 (a1.1 : (List (Int × (List Int))))] w0 Fs) (hn : Fs.flatten.Nodup) (rr : (Int × ((List (Int × (List Int))) × Int × Int × Int × Bool))) (hF : Q.markReading a1 a2 = some rr) :
 Calls Tryz.prog 26 [(.agg #[u1, (.int .i64 a1.2.1), (.int .i64 a1.2.2.1), (.int .i64 a1.2.2.2.1), (.bool a1.2.2.2.2)]), (.int .i64 a2)].toArray w0 fun e w' => ∃ v, e = .returned v ∧ v = (.int .i64 rr.1) ∧ Ctx Fs.flatten w0 w' [Item.own u1 (rr.2.1 : (List (Int × (List Int))))] := by
 refine calls_of_W Tryz.func26 rfl rfl ?_
 have hC0 := Ctx.startIn hH hn
 unfold Q.markReading at hF
 refine W_seq_reg ?_
 refine WL_box (cs := [u1, (.int .i64 a1.2.1), (.int .i64 a1.2.2.1), (.int .i64 a1.2.2.2.1), (.bool a1.2.2.2.2)]) hC0 rfl rfl rfl (fun b1 w1 hC1 hB1 => ?_)
 refine WL_assign rfl rfl ?_
 refine WL_nil ?_
 refine W_seq_reg ?_
 refine WL_field Tryz.underlying36 rfl rfl (fun w => ⟨_, Tryz.sizeOf34 w⟩) rfl rfl ?_
 refine WL_load_box hC1 0 rfl rfl Tryz.isAgg34 rfl rfl ?_
 refine WL_move rfl rfl ?_
 obtain ⟨x1, hr1, hF⟩ := bind_some hF
 have hC2 := hC1.f1
 obtain ⟨Fs1, hH1, hn1, hF1, hO1, hb1⟩ := Ctx.lend2 (As := [Item.box b1 [u1, (.int .i64 a1.2.1), (.int .i64 a1.2.2.1), (.int .i64 a1.2.2.2.1), (.bool a1.2.2.2.2)]]) [Item.own u1 (a1.1 : (List (Int × (List Int))))] hC2
 refine WL_call Tryz.call50 rfl rfl (c_Q_markFactS a1.1 u1 a2 hH1 hn1 x1 hr1) ?_
 rintro _ w2 ⟨rfl, hq1⟩
 have hC3 : Ctx Fs.flatten w0 w2 [Item.own u1 (x1.2 : (List (Int × (List Int)))), Item.box b1 [u1, (.int .i64 a1.2.1), (.int .i64 a1.2.2.1), (.int .i64 a1.2.2.2.1), (.bool a1.2.2.2.2)]] := hb1 _ _ hq1
 refine WL_assign rfl rfl ?_
 refine WL_nil ?_
 refine W_seq_reg ?_
 refine WL_move rfl rfl ?_
 refine WL_assign rfl rfl ?_
 refine WL_nil ?_
 refine W_ret ?_
 have hq2 := Option.some.inj hF
 subst hq2
 refine fn_ret1 rfl rfl ?_
 have hC4 := hC3.h1
 exact ⟨_, rfl, rfl, hC4⟩

theorem c_Q_heldIntS {w0 : World} (a1 : (List Int)) (u1 : Value) (g1 : RO [] w0 u1 a1) (a2 : Int) (rr : Int) (hF : Q.heldIntS a1 a2 = some rr) :
 Calls Tryz.prog 80 [u1, (.int .i64 a2)].toArray w0 fun e w' => ∃ v, e = .returned v ∧ Res w0 rr v w' := by
 refine calls_of_W Tryz.func80 rfl rfl ?_
 have hC0 := Ctx.start w0
 unfold Q.heldIntS at hF
 refine W_seq_reg ?_
 refine WL_assign rfl rfl ?_
 refine WL_nil ?_
 refine W_seq ?_
 refine W_seq_reg ?_
 refine WL_assign rfl rfl ?_
 refine WL_nil ?_
 obtain ⟨r1, hr1, hF⟩ := bind_some hF
 refine W_norm (fun l w => ∃ x3 : Int, .inl x3 = r1 ∧ l = [(1, (.int .i64 x3))] ∧ Below w0.heap.size w0 w ∧ Ctx [] w0 w []) ?_ ?_
 ·refine W_block ?_
  refine W.sub (l' := [(0, u1), (1, (.int .i64 a2)), (5, (.int .i64 0))]) ?_ ⟨rfl, rfl, rfl, trivial⟩
  refine W_loop (fun k l w => ∃ x1 : Int, ∃ x2 : Int, l = [(0, u1), (1, (.int .i64 x1)), (5, (.int .i64 x2))] ∧ Below w0.heap.size w0 w ∧ Ctx [] w0 w [] ∧ Q.heldIntS_l1 a1 k x1 x2 = some r1) FUEL ⟨a2, 0, rfl, (Below.refl _ _), hC0, hr1⟩ ?_
  clear hr1
  rintro k1 _ w1 ⟨x1, x2, rfl, hB1, hC1, hL1⟩
  cases k1 with
  | zero => rw [Q.heldIntS_l1] at hL1; cases hL1
  | succ k1 =>
   rw [Q.heldIntS_l1] at hL1
   refine W_seq ?_
   refine W_seq_reg ?_
   refine WL_move rfl rfl ?_
   refine WL_move rfl rfl ?_
   refine WL_len Tryz.underlying22 g1 rfl rfl ?_
   refine WL_lss rfl rfl rfl ?_
   refine WL_nil ?_
   refine W_cond rfl (fun hc1 => ?_) (fun hc1 => ?_)
   ·replace hL1 := ite_t hL1 hc1
    refine W_skip ?_
    refine nrm_normal ?_
    refine W_seq ?_
    refine W_block ?_
    refine W_seq ?_
    refine W_seq_reg ?_
    refine WL_move rfl rfl ?_
    refine WL_move rfl rfl ?_
    obtain ⟨x4, hx1, hL1⟩ := bind_some hL1
    refine WL_index Tryz.underlying22 ty3 g1 hx1 rfl rfl rfl (fun b1 o1 h1 => ?_)
    refine WL_load ty3 h1 hC1.keep rfl rfl (fun v1 h2 => ?_)
    obtain rfl := ro_int h2
    refine WL_move rfl rfl ?_
    refine WL_neq rfl rfl rfl ?_
    refine WL_nil ?_
    refine W_cond rfl (fun hc2 => ?_) (fun hc2 => ?_)
    ·replace hL1 := ite_t hL1 hc2
     refine W_seq_reg ?_
     refine WL_assign rfl rfl ?_
     refine WL_nil ?_
     refine W_ret ?_
     refine nrm_ret ?_
     refine blk_ret ?_
     refine nrm_ret ?_
     refine nrm_ret ?_
     refine blk_ret ?_
     refine nrm_ret ?_
     refine nrm_ret ?_
     have hq1 := Option.some.inj hL1
     subst hq1
     dsimp only at hF
     have hq2 := Option.some.inj hF
     subst hq2
     refine fn_ret1 rfl rfl ?_
     exact ⟨_, rfl, int_res hC1 _⟩
    replace hL1 := ite_f hL1 hc2
    refine W_skip ?_
    refine nrm_normal ?_
    refine W_reg ?_
    refine WL_move rfl rfl ?_
    refine WL_add rfl rfl rfl ?_
    refine WL_assign rfl rfl ?_
    refine WL_nil ?_
    refine blk_normal ?_
    refine nrm_normal ?_
    refine W_reg ?_
    refine WL_move rfl rfl ?_
    refine WL_add rfl rfl rfl ?_
    refine WL_assign rfl rfl ?_
    refine WL_nil ?_
    refine nrm_sub (l' := [(0, u1), (1, (.int .i64 (w64 (x1 + 1)))), (5, (.int .i64 (w64 (x2 + 1))))]) ⟨rfl, rfl, rfl, trivial⟩ ?_
    exact ⟨k1, Nat.lt_succ_self _, w64 (x1 + 1), w64 (x2 + 1), rfl, (Keep.of hB1).below, hC1, hL1⟩
   replace hL1 := ite_f hL1 hc1
   refine W_exit ?_
   refine nrm_exit ?_
   refine nrm_exit ?_
   refine blk_exit ?_
   have hq3 := Option.some.inj hL1
   subst hq3
   refine nrm_sub (l' := [(1, (.int .i64 x1))]) ⟨rfl, trivial⟩ ?_
   exact ⟨x1, rfl, rfl, (Keep.of hB1).below, hC1⟩
 rintro l2 _ w2 hs2 ⟨x3, rfl, rfl, hB2, hC2⟩
 try dsimp only at hF
 refine nrm_sub' hs2 ?_
 clear hs2
 refine W_seq_reg ?_
 refine WL_move rfl rfl ?_
 refine WL_assign rfl rfl ?_
 refine WL_nil ?_
 refine W_ret ?_
 have hq4 := Option.some.inj hF
 subst hq4
 refine fn_ret1 rfl rfl ?_
 exact ⟨_, rfl, int_res hC2 _⟩

theorem c_Q_heldFactS {w0 : World} (a1 : (List (Int × (List Int)))) (u1 : Value) (g1 : RO [] w0 u1 a1) (a2 : Int) (rr : Int) (hF : Q.heldFactS a1 a2 = some rr) :
 Calls Tryz.prog 51 [u1, (.int .i64 a2)].toArray w0 fun e w' => ∃ v, e = .returned v ∧ Res w0 rr v w' := by
 refine calls_of_W Tryz.func51 rfl rfl ?_
 have hC0 := Ctx.start w0
 unfold Q.heldFactS at hF
 refine W_seq_reg ?_
 refine WL_assign rfl rfl ?_
 refine WL_nil ?_
 refine W_seq ?_
 refine W_seq_reg ?_
 refine WL_assign rfl rfl ?_
 refine WL_nil ?_
 obtain ⟨r1, hr1, hF⟩ := bind_some hF
 refine W_norm (fun l w => ∃ x3 : Int, .inl x3 = r1 ∧ l = [(1, (.int .i64 x3))] ∧ Below w0.heap.size w0 w ∧ Ctx [] w0 w []) ?_ ?_
 ·refine W_block ?_
  refine W.sub (l' := [(0, u1), (1, (.int .i64 a2)), (5, (.int .i64 0))]) ?_ ⟨rfl, rfl, rfl, trivial⟩
  refine W_loop (fun k l w => ∃ x1 : Int, ∃ x2 : Int, l = [(0, u1), (1, (.int .i64 x1)), (5, (.int .i64 x2))] ∧ Below w0.heap.size w0 w ∧ Ctx [] w0 w [] ∧ Q.heldFactS_l1 a1 k x1 x2 = some r1) FUEL ⟨a2, 0, rfl, (Below.refl _ _), hC0, hr1⟩ ?_
  clear hr1
  rintro k1 _ w1 ⟨x1, x2, rfl, hB1, hC1, hL1⟩
  cases k1 with
  | zero => rw [Q.heldFactS_l1] at hL1; cases hL1
  | succ k1 =>
   rw [Q.heldFactS_l1] at hL1
   refine W_seq ?_
   refine W_seq_reg ?_
   refine WL_move rfl rfl ?_
   refine WL_move rfl rfl ?_
   refine WL_len Tryz.underlying34 g1 rfl rfl ?_
   refine WL_lss rfl rfl rfl ?_
   refine WL_nil ?_
   refine W_cond rfl (fun hc1 => ?_) (fun hc1 => ?_)
   ·replace hL1 := ite_t hL1 hc1
    refine W_skip ?_
    refine nrm_normal ?_
    refine W_seq ?_
    refine W_block ?_
    refine W_seq ?_
    refine W_seq_reg ?_
    refine WL_move rfl rfl ?_
    refine WL_move rfl rfl ?_
    obtain ⟨x4, hx1, hL1⟩ := bind_some hL1
    refine WL_index Tryz.underlying34 ty81 g1 hx1 rfl rfl rfl (fun b1 o1 h1 => ?_)
    refine WL_field Tryz.underlying81 rfl rfl (fun w => ⟨_, Tryz.sizeOf3 w⟩) rfl rfl ?_
    refine WL_load ty3 h1.fst hC1.keep rfl rfl (fun v1 h2 => ?_)
    obtain rfl := ro_int h2
    refine WL_move rfl rfl ?_
    refine WL_neq rfl rfl rfl ?_
    refine WL_nil ?_
    refine W_cond rfl (fun hc2 => ?_) (fun hc2 => ?_)
    ·replace hL1 := ite_t hL1 hc2
     refine W_seq_reg ?_
     refine WL_assign rfl rfl ?_
     refine WL_nil ?_
     refine W_ret ?_
     refine nrm_ret ?_
     refine blk_ret ?_
     refine nrm_ret ?_
     refine nrm_ret ?_
     refine blk_ret ?_
     refine nrm_ret ?_
     refine nrm_ret ?_
     have hq1 := Option.some.inj hL1
     subst hq1
     dsimp only at hF
     have hq2 := Option.some.inj hF
     subst hq2
     refine fn_ret1 rfl rfl ?_
     exact ⟨_, rfl, int_res hC1 _⟩
    replace hL1 := ite_f hL1 hc2
    refine W_skip ?_
    refine nrm_normal ?_
    refine W_seq_reg ?_
    refine WL_move rfl rfl ?_
    refine WL_add rfl rfl rfl ?_
    refine WL_assign rfl rfl ?_
    refine WL_nil ?_
    refine W_seq_reg ?_
    refine WL_move rfl rfl ?_
    refine WL_move rfl rfl ?_
    obtain ⟨x5, hx2, hL1⟩ := bind_some hL1
    refine WL_index Tryz.underlying34 ty81 g1 hx2 rfl rfl rfl (fun b2 o2 h3 => ?_)
    refine WL_field Tryz.underlying81 rfl rfl (fun w => ⟨_, Tryz.sizeOf22 w⟩) rfl rfl ?_
    refine WL_load ty22 h3.snd hC1.keep rfl rfl (fun v2 h4 => ?_)
    refine WL_move rfl rfl ?_
    obtain ⟨x6, hr2, hL1⟩ := bind_some hL1
    refine WL_call Tryz.call80 rfl rfl (c_Q_heldIntS x5.2 v2 (h4.now hC1.keep) (w64 (x1 + 1)) x6 hr2) ?_
    intro _ w2 hv1
    obtain ⟨rfl, hB2⟩ := res_int hv1
    have hC2 := hC1.grow hB2
    refine WL_assign rfl rfl ?_
    refine WL_nil ?_
    refine W_seq_reg ?_
    refine WL_move rfl rfl ?_
    refine WL_lss rfl rfl rfl ?_
    refine WL_nil ?_
    refine W_cond rfl (fun hc3 => ?_) (fun hc3 => ?_)
    ·replace hL1 := ite_t hL1 hc3
     refine W_seq_reg ?_
     refine WL_assign rfl rfl ?_
     refine WL_nil ?_
     refine W_ret ?_
     refine blk_ret ?_
     refine nrm_ret ?_
     refine nrm_ret ?_
     refine blk_ret ?_
     refine nrm_ret ?_
     refine nrm_ret ?_
     have hq3 := Option.some.inj hL1
     subst hq3
     dsimp only at hF
     have hq4 := Option.some.inj hF
     subst hq4
     refine fn_ret1 rfl rfl ?_
     exact ⟨_, rfl, int_res hC2 _⟩
    replace hL1 := ite_f hL1 hc3
    refine W_skip ?_
    refine blk_normal ?_
    refine nrm_normal ?_
    refine W_reg ?_
    refine WL_move rfl rfl ?_
    refine WL_add rfl rfl rfl ?_
    refine WL_assign rfl rfl ?_
    refine WL_nil ?_
    refine nrm_sub (l' := [(0, u1), (1, (.int .i64 x6)), (5, (.int .i64 (w64 (x2 + 1))))]) ⟨rfl, rfl, rfl, trivial⟩ ?_
    exact ⟨k1, Nat.lt_succ_self _, x6, w64 (x2 + 1), rfl, ((Keep.of hB1).then hB2).below, hC2, hL1⟩
   replace hL1 := ite_f hL1 hc1
   refine W_exit ?_
   refine nrm_exit ?_
   refine nrm_exit ?_
   refine blk_exit ?_
   have hq5 := Option.some.inj hL1
   subst hq5
   refine nrm_sub (l' := [(1, (.int .i64 x1))]) ⟨rfl, trivial⟩ ?_
   exact ⟨x1, rfl, rfl, (Keep.of hB1).below, hC1⟩
 rintro l2 _ w3 hs2 ⟨x3, rfl, rfl, hB3, hC3⟩
 try dsimp only at hF
 refine nrm_sub' hs2 ?_
 clear hs2
 refine W_seq_reg ?_
 refine WL_move rfl rfl ?_
 refine WL_assign rfl rfl ?_
 refine WL_nil ?_
 refine W_ret ?_
 have hq6 := Option.some.inj hF
 subst hq6
 refine fn_ret1 rfl rfl ?_
 exact ⟨_, rfl, int_res hC3 _⟩

theorem c_Q_heldReading {w0 : World} (a1 : ((List (Int × (List Int))) × Int × Int × Int × Bool)) (u1 : Value) (g1 : RO [] w0 u1 a1.1) (a2 : Int) (rr : Int) (hF : Q.heldReading a1 a2 = some rr) :
 Calls Tryz.prog 27 [(.agg #[u1, (.int .i64 a1.2.1), (.int .i64 a1.2.2.1), (.int .i64 a1.2.2.2.1), (.bool a1.2.2.2.2)]), (.int .i64 a2)].toArray w0 fun e w' => ∃ v, e = .returned v ∧ Res w0 rr v w' := by
 refine calls_of_W Tryz.func27 rfl rfl ?_
 have hC0 := Ctx.start w0
 unfold Q.heldReading at hF
 refine W_seq_reg ?_
 refine WL_box (cs := [u1, (.int .i64 a1.2.1), (.int .i64 a1.2.2.1), (.int .i64 a1.2.2.2.1), (.bool a1.2.2.2.2)]) hC0 rfl rfl rfl (fun b1 w1 hC1 hB1 => ?_)
 refine WL_assign rfl rfl ?_
 refine WL_nil ?_
 refine W_seq_reg ?_
 refine WL_field Tryz.underlying36 rfl rfl (fun w => ⟨_, Tryz.sizeOf34 w⟩) rfl rfl ?_
 refine WL_load_box hC1 0 rfl rfl Tryz.isAgg34 rfl rfl ?_
 refine WL_move rfl rfl ?_
 obtain ⟨x1, hr1, hF⟩ := bind_some hF
 refine WL_call Tryz.call51 rfl rfl (c_Q_heldFactS a1.1 u1 (g1.now hC1.keep) a2 x1 hr1) ?_
 intro _ w2 hv1
 obtain ⟨rfl, hB2⟩ := res_int hv1
 have hC2 := hC1.grow hB2
 refine WL_assign rfl rfl ?_
 refine WL_nil ?_
 refine W_seq ?_
 refine W_seq_reg ?_
 refine WL_move rfl rfl ?_
 refine WL_lss rfl rfl rfl ?_
 refine WL_nil ?_
 refine W_cond rfl (fun hc1 => ?_) (fun hc1 => ?_)
 ·replace hF := ite_t hF hc1
  refine W_seq_reg ?_
  refine WL_assign rfl rfl ?_
  refine WL_nil ?_
  refine W_ret ?_
  refine nrm_ret ?_
  have hq1 := Option.some.inj hF
  subst hq1
  refine fn_ret1 rfl rfl ?_
  exact ⟨_, rfl, int_res hC2 _⟩
 replace hF := ite_f hF hc1
 refine W_skip ?_
 refine nrm_normal ?_
 refine W_seq_reg ?_
 refine WL_move rfl rfl ?_
 refine WL_assign rfl rfl ?_
 refine WL_nil ?_
 refine W_ret ?_
 have hq2 := Option.some.inj hF
 subst hq2
 refine fn_ret1 rfl rfl ?_
 exact ⟨_, rfl, int_res hC2 _⟩

theorem c_Q_heldSource {w0 : World} (a1 : ((List (Int × (List Int))) × Int)) (u1 : Value) (g1 : RO [] w0 u1 a1.1) (a2 : Int) (rr : Int) (hF : Q.heldSource a1 a2 = some rr) :
 Calls Tryz.prog 28 [(.agg #[u1, (.int .i64 a1.2)]), (.int .i64 a2)].toArray w0 fun e w' => ∃ v, e = .returned v ∧ Res w0 rr v w' := by
 refine calls_of_W Tryz.func28 rfl rfl ?_
 have hC0 := Ctx.start w0
 unfold Q.heldSource at hF
 refine W_seq_reg ?_
 refine WL_box (cs := [u1, (.int .i64 a1.2)]) hC0 rfl rfl rfl (fun b1 w1 hC1 hB1 => ?_)
 refine WL_assign rfl rfl ?_
 refine WL_nil ?_
 refine W_seq_reg ?_
 refine WL_field Tryz.underlying38 rfl rfl (fun w => ⟨_, Tryz.sizeOf34 w⟩) rfl rfl ?_
 refine WL_load_box hC1 0 rfl rfl Tryz.isAgg34 rfl rfl ?_
 refine WL_move rfl rfl ?_
 obtain ⟨x1, hr1, hF⟩ := bind_some hF
 refine WL_call Tryz.call51 rfl rfl (c_Q_heldFactS a1.1 u1 (g1.now hC1.keep) a2 x1 hr1) ?_
 intro _ w2 hv1
 obtain ⟨rfl, hB2⟩ := res_int hv1
 have hC2 := hC1.grow hB2
 refine WL_assign rfl rfl ?_
 refine WL_nil ?_
 refine W_seq ?_
 refine W_seq_reg ?_
 refine WL_move rfl rfl ?_
 refine WL_lss rfl rfl rfl ?_
 refine WL_nil ?_
 refine W_cond rfl (fun hc1 => ?_) (fun hc1 => ?_)
 ·replace hF := ite_t hF hc1
  refine W_seq_reg ?_
  refine WL_assign rfl rfl ?_
  refine WL_nil ?_
  refine W_ret ?_
  refine nrm_ret ?_
  have hq1 := Option.some.inj hF
  subst hq1
  refine fn_ret1 rfl rfl ?_
  exact ⟨_, rfl, int_res hC2 _⟩
 replace hF := ite_f hF hc1
 refine W_skip ?_
 refine nrm_normal ?_
 refine W_seq_reg ?_
 refine WL_move rfl rfl ?_
 refine WL_assign rfl rfl ?_
 refine WL_nil ?_
 refine W_ret ?_
 have hq2 := Option.some.inj hF
 subst hq2
 refine fn_ret1 rfl rfl ?_
 exact ⟨_, rfl, int_res hC2 _⟩

theorem c_Q_FnExactReadThrough {w0 : World} (a1 : (List Int)) (u1 : Value) (g1 : RO [] w0 u1 a1) (a2 : (List (Int × (List Int) × Int × Int × Int))) (u2 : Value) (g2 : RO [] w0 u2 a2) (a3 : ((List (Int × (List Int))) × Int)) (u3 : Value) (g3 : RO [] w0 u3 a3.1) (a4 : (Int × (List Int))) (u4 : Value) (g4 : RO [] w0 u4 a4.2) (a5 : Int) (a6 : (List (Bool × (Int × (List Int))))) (u5 : Value) (g5 : RO [] w0 u5 a6) (a7 : Int) (rr : Bool) (hF : Q.FnExactReadThrough a1 a2 a3 a4 a5 a6 a7 = some rr) :
 Calls Tryz.prog 3 [u1, u2, (.agg #[u3, (.int .i64 a3.2)]), (.agg #[(.int .i64 a4.1), u4]), (.int .i64 a5), u5, (.int .i64 a7)].toArray w0 fun e w' => ∃ v, e = .returned v ∧ Res w0 rr v w' := by
 refine calls_of_W Tryz.func3 rfl rfl ?_
 have hC0 := Ctx.start w0
 unfold Q.FnExactReadThrough at hF
 refine W_seq_reg ?_
 refine WL_box (cs := [u3, (.int .i64 a3.2)]) hC0 rfl rfl rfl (fun b1 w1 hC1 hB1 => ?_)
 refine WL_box (cs := [(.int .i64 a4.1), u4]) hC1 rfl rfl rfl (fun b2 w2 hC2 hB2 => ?_)
 refine WL_assign rfl rfl ?_
 refine WL_nil ?_
 refine W_seq ?_
 refine W_seq_reg ?_
 refine WL_move rfl rfl ?_
 refine WL_len Tryz.underlying22 g1 rfl rfl ?_
 refine WL_gtr rfl rfl rfl ?_
 refine WL_nil ?_
 refine W_cond rfl (fun hc1 => ?_) (fun hc1 => ?_)
 ·replace hF := ite_t hF hc1
  refine W_seq_reg ?_
  refine WL_assign rfl rfl ?_
  refine WL_nil ?_
  refine W_ret ?_
  refine nrm_ret ?_
  have hq1 := Option.some.inj hF
  subst hq1
  refine fn_ret1 rfl rfl ?_
  exact ⟨_, rfl, bool_res hC2 _⟩
 replace hF := ite_f hF hc1
 refine W_skip ?_
 refine nrm_normal ?_
 refine W_seq_reg ?_
 refine WL_assign rfl rfl ?_
 refine WL_nil ?_
 refine W_seq_reg ?_
 refine WL_move rfl rfl ?_
 refine WL_move rfl rfl ?_
 obtain ⟨x1, hr1, hF⟩ := bind_some hF
 refine WL_call Tryz.call4 rfl rfl (c_Q_szMethodS a2 u2 (g2.now hC2.keep) 1048576 x1 hr1) ?_
 intro _ w3 hv1
 obtain ⟨rfl, hB3⟩ := res_int hv1
 have hC3 := hC2.grow hB3
 refine WL_assign rfl rfl ?_
 refine WL_nil ?_
 refine W_seq ?_
 refine W_seq_reg ?_
 refine WL_move rfl rfl ?_
 refine WL_lss rfl rfl rfl ?_
 refine WL_nil ?_
 refine W_cond rfl (fun hc2 => ?_) (fun hc2 => ?_)
 ·replace hF := ite_t hF hc2
  refine W_seq_reg ?_
  refine WL_assign rfl rfl ?_
  refine WL_nil ?_
  refine W_ret ?_
  refine nrm_ret ?_
  have hq2 := Option.some.inj hF
  subst hq2
  refine fn_ret1 rfl rfl ?_
  exact ⟨_, rfl, bool_res hC3 _⟩
 replace hF := ite_f hF hc2
 refine W_skip ?_
 refine nrm_normal ?_
 refine W_seq_reg ?_
 refine WL_load_box_agg [u3, (.int .i64 a3.2)] hC3 1 rfl rfl rfl Tryz.isAgg26 Tryz.sizeOf26 rfl rfl ?_
 refine WL_move rfl rfl ?_
 obtain ⟨x2, hr2, hF⟩ := bind_some hF
 refine WL_call Tryz.call5 rfl rfl (c_Q_szSource (a3.1, a3.2) u3 (g3.now hC3.keep) x1 x2 hr2) ?_
 intro _ w4 hv2
 obtain ⟨rfl, hB4⟩ := res_int hv2
 have hC4 := hC3.grow hB4
 refine WL_assign rfl rfl ?_
 refine WL_nil ?_
 refine W_seq ?_
 refine W_seq_reg ?_
 refine WL_move rfl rfl ?_
 refine WL_lss rfl rfl rfl ?_
 refine WL_nil ?_
 refine W_cond rfl (fun hc3 => ?_) (fun hc3 => ?_)
 ·replace hF := ite_t hF hc3
  refine W_seq_reg ?_
  refine WL_assign rfl rfl ?_
  refine WL_nil ?_
  refine W_ret ?_
  refine nrm_ret ?_
  have hq3 := Option.some.inj hF
  subst hq3
  refine fn_ret1 rfl rfl ?_
  exact ⟨_, rfl, bool_res hC4 _⟩
 replace hF := ite_f hF hc3
 refine W_skip ?_
 refine nrm_normal ?_
 refine W_seq_reg ?_
 refine WL_load_box_agg [(.int .i64 a4.1), u4] hC4 0 rfl rfl rfl Tryz.isAgg28 Tryz.sizeOf28 rfl rfl ?_
 refine WL_move rfl rfl ?_
 obtain ⟨x3, hr3, hF⟩ := bind_some hF
 refine WL_call Tryz.call6 rfl rfl (c_Q_szAccess (a4.1, a4.2) u4 (g4.now hC4.keep) x2 x3 hr3) ?_
 intro _ w5 hv3
 obtain ⟨rfl, hB5⟩ := res_int hv3
 have hC5 := hC4.grow hB5
 refine WL_assign rfl rfl ?_
 refine WL_nil ?_
 refine W_seq ?_
 refine W_seq_reg ?_
 refine WL_move rfl rfl ?_
 refine WL_lss rfl rfl rfl ?_
 refine WL_nil ?_
 refine W_cond rfl (fun hc4 => ?_) (fun hc4 => ?_)
 ·replace hF := ite_t hF hc4
  refine W_seq_reg ?_
  refine WL_assign rfl rfl ?_
  refine WL_nil ?_
  refine W_ret ?_
  refine nrm_ret ?_
  have hq4 := Option.some.inj hF
  subst hq4
  refine fn_ret1 rfl rfl ?_
  exact ⟨_, rfl, bool_res hC5 _⟩
 replace hF := ite_f hF hc4
 refine W_skip ?_
 refine nrm_normal ?_
 refine W_seq_reg ?_
 refine WL_move rfl rfl ?_
 refine WL_move rfl rfl ?_
 obtain ⟨x4, hr4, hF⟩ := bind_some hF
 refine WL_call Tryz.call7 rfl rfl (c_Q_szChangeS a6 u5 (g5.now hC5.keep) x3 x4 hr4) ?_
 intro _ w6 hv4
 obtain ⟨rfl, hB6⟩ := res_int hv4
 have hC6 := hC5.grow hB6
 refine WL_assign rfl rfl ?_
 refine WL_nil ?_
 refine W_seq ?_
 refine W_seq_reg ?_
 refine WL_move rfl rfl ?_
 refine WL_lss rfl rfl rfl ?_
 refine WL_nil ?_
 refine W_cond rfl (fun hc5 => ?_) (fun hc5 => ?_)
 ·replace hF := ite_t hF hc5
  refine W_seq_reg ?_
  refine WL_assign rfl rfl ?_
  refine WL_nil ?_
  refine W_ret ?_
  refine nrm_ret ?_
  have hq5 := Option.some.inj hF
  subst hq5
  refine fn_ret1 rfl rfl ?_
  exact ⟨_, rfl, bool_res hC6 _⟩
 replace hF := ite_f hF hc5
 refine W_skip ?_
 refine nrm_normal ?_
 obtain ⟨r1, hr5, hF⟩ := bind_some hF
 refine W_cut (fun l w => ∃ b3 : Nat, ∃ v1 : Value, ∃ x5 : (List (Int × (List Int))), ∃ x6 : Int, ∃ x7 : Int, ∃ x8 : Int, ∃ x9 : Bool, ∃ b4 : Nat, ∃ v2 : Value, ∃ x10 : (List (Int × (List Int))), ∃ x11 : Int, (x5, x6, x7, x8, x9, x10, x11) = r1 ∧ l = [(0, u1), (1, u2), (4, (.int .i64 a5)), (5, u5), (6, (.int .i64 a7)), (9, (ptr b1 0)), (10, (ptr b2 0)), (16, (ptr b3 0)), (17, (ptr b4 0))] ∧ Ctx [] w0 w [Item.box b4 [v2, (.int .i64 x11)], Item.own v2 (x10 : (List (Int × (List Int)))), Item.box b3 [v1, (.int .i64 x6), (.int .i64 x7), (.int .i64 x8), (.bool x9)], Item.own v1 (x5 : (List (Int × (List Int)))), Item.box b2 [(.int .i64 a4.1), u4], Item.box b1 [u3, (.int .i64 a3.2)]]) ?_ ?_
 ·refine W_drawn 20 rfl hmix (fun w9 hB8 => ?_)
  have hC8 := hC6.grow hB8
  refine WA_tk 0 (by kernel_rfl) rfl rfl (fl_move rfl) ?_
  refine WL_move rfl rfl ?_
  refine WL_nil ?_
  refine WA_tk 2 (by kernel_rfl) rfl rfl (fl_move rfl) ?_
  refine WL_move rfl rfl ?_
  refine WL_nil ?_
  refine WA_tk 8 (by kernel_rfl) rfl rfl (fl_move rfl) ?_
  refine WL_move rfl rfl ?_
  refine WL_nil ?_
  refine WA_tk 9 (by kernel_rfl) rfl rfl (fl_move rfl) ?_
  refine WL_move rfl rfl ?_
  refine WL_nil ?_
  refine WA_tk 11 (by kernel_rfl) rfl rfl (fl_move rfl) ?_
  refine WL_move rfl rfl ?_
  refine WL_nil ?_
  obtain ⟨x12, hr6, hr5⟩ := bind_some hr5
  obtain ⟨x13, hr7, hr5⟩ := bind_some hr5
  obtain ⟨x14, hr8, hr5⟩ := bind_some hr5
  obtain ⟨x15, hr9, hr5⟩ := bind_some hr5
  obtain ⟨x16, hr10, hr5⟩ := bind_some hr5
  obtain ⟨x17, hr11, hr5⟩ := bind_some hr5
  refine WA.sub (l' := [(0, u1), (1, u2), (2, (.agg #[u3, (.int .i64 a3.2)])), (3, (.agg #[(.int .i64 a4.1), u4])), (4, (.int .i64 a5)), (5, u5), (6, (.int .i64 a7)), (9, (ptr b1 0)), (10, (ptr b2 0)), (14, (.bool false)), (15, (.int .i64 x4)), (30, u1), (31, (.int .i64 (List.length a1 : Int))), (32, (.bool (decide (1048576 < (List.length a1 : Int))))), (33, u2), (34, (.int .i64 1048576)), (35, (.int .i64 x1)), (36, (.int .i64 x1)), (37, (.bool (decide (x1 < 0)))), (38, (.agg #[u3, (.int .i64 a3.2)])), (39, (.int .i64 x1)), (40, (.int .i64 x2)), (41, (.int .i64 x2)), (42, (.bool (decide (x2 < 0)))), (43, (.agg #[(.int .i64 a4.1), u4])), (44, (.int .i64 x2)), (45, (.int .i64 x3)), (46, (.int .i64 x3)), (47, (.bool (decide (x3 < 0)))), (48, u5), (49, (.int .i64 x3)), (50, (.int .i64 x4)), (51, (.int .i64 x4)), (52, (.bool (decide (x4 < 0)))), (54, u1), (56, u2), (62, (.int .i64 a5)), (63, u5), (65, (.int .i64 a7))]) ?_ ⟨rfl, rfl, rfl, rfl, rfl, rfl, rfl, rfl, rfl, rfl, rfl, rfl, rfl, rfl, rfl, rfl, rfl, rfl, rfl, rfl, rfl, rfl, rfl, rfl, rfl, rfl, rfl, rfl, rfl, rfl, rfl, rfl, rfl, rfl, rfl, rfl, rfl, rfl, rfl, trivial⟩
  refine WA_postsO [⟨1, [], fun vs => PW.own x12, []⟩, ⟨3, [], fun vs => PW.own x13, []⟩, ⟨4, [], fun vs => PW.val (.agg #[u3, (.int .i64 a3.2)]), []⟩, ⟨5, [], fun vs => PW.own x14, []⟩, ⟨6, [], fun vs => PW.val (.agg #[(.int .i64 a4.1), u4]), []⟩, ⟨7, [], fun vs => PW.own x15, []⟩, ⟨10, [], fun vs => PW.own x16, []⟩, ⟨12, [], fun vs => PW.own2 (x17.1 : ((List (Int × (List Int))) × Int × Int × Int × Bool)) (x17.2 : ((List (Int × (List Int))) × Int)), []⟩, ⟨13, [66], fun vs => PW.val (vs.getD 0 undef), []⟩, ⟨14, [53], fun vs => PW.comp (vs.getD 0 undef) 0, []⟩, ⟨15, [53], fun vs => PW.comp (vs.getD 0 undef) 1, []⟩, ⟨16, [], fun vs => PW.box [(.slice none 0 0), (.int .i64 0), (.int .i64 0), (.int .i64 0), (.bool false)], []⟩, ⟨17, [], fun vs => PW.box [(.slice none 0 0), (.int .i64 0)], []⟩] [[], [], [], [4], [], [6], [], [1, 3, 5, 7, 10], [12], [12, 13], [12, 13], [], []] [15] 2 rfl (by kernel_rfl) (by kernel_rfl) ?_ ⟨?_, ?_, trivial⟩
  ·refine StepsE_cons rfl ?_ ?_
   ·intro w18 hB17
    refine DepsE_nil ?_
    refine ⟨_, rfl, ?_⟩
    refine WL_call Tryz.call9 rfl rfl (c_Q_toIntS a1 u1 (g1.now (hC8.keep.then hB17)) x12 hr6) ?_
    rintro v3 w10 ⟨hB9, F1, hv5, hn1, hb1⟩
    refine WL_nil ?_
    exact FinE_own hB9 rfl rfl hv5 hn1 hb1 (Val.inh hv5)
   refine StepsE_cons rfl ?_ ?_
   ·intro w18 hB17
    refine DepsE_nil ?_
    refine ⟨_, rfl, ?_⟩
    refine WL_call Tryz.call10 rfl rfl (c_Q_toMethodS a2 u2 (g2.now (hC8.keep.then hB17)) x13 hr7) ?_
    rintro v4 w11 ⟨hB10, F2, hv6, hn2, hb2⟩
    refine WL_nil ?_
    exact FinE_own hB10 rfl rfl hv6 hn2 hb2 (Val.inh hv6)
   refine StepsE_cons rfl ?_ ?_
   ·intro w18 hB17
    refine DepsE_nil ?_
    refine ⟨_, rfl, ?_⟩
    refine WL_load_box_agg [u3, (.int .i64 a3.2)] (hC8.grow hB17) 1 rfl rfl rfl Tryz.isAgg26 Tryz.sizeOf26 rfl rfl ?_
    refine WL_nil ?_
    exact FinE_val (Below.refl _ _) rfl rfl ⟨rfl, rfl⟩
   refine StepsE_cons rfl ?_ ?_
   ·intro w18 hB17
    refine DepsE_cons rfl rfl rfl ?_
    rintro _ _ ⟨rfl, rfl⟩ _
    refine DepsE_nil ?_
    refine ⟨_, rfl, ?_⟩
    refine WL_call Tryz.call11 rfl rfl (c_Q_toSource (a3.1, a3.2) u3 (g3.now (hC8.keep.then hB17)) x14 hr8) ?_
    rintro v5 w12 ⟨hB11, F3, hv7, hn3, hb3⟩
    refine WL_nil ?_
    exact FinE_own hB11 rfl rfl hv7 hn3 hb3 (Val.inh hv7)
   refine StepsE_cons rfl ?_ ?_
   ·intro w18 hB17
    refine DepsE_nil ?_
    refine ⟨_, rfl, ?_⟩
    refine WL_load_box_agg [(.int .i64 a4.1), u4] (hC8.grow hB17) 0 rfl rfl rfl Tryz.isAgg28 Tryz.sizeOf28 rfl rfl ?_
    refine WL_nil ?_
    exact FinE_val (Below.refl _ _) rfl rfl ⟨rfl, rfl⟩
   refine StepsE_cons rfl ?_ ?_
   ·intro w18 hB17
    refine DepsE_cons rfl rfl rfl ?_
    rintro _ _ ⟨rfl, rfl⟩ _
    refine DepsE_nil ?_
    refine ⟨_, rfl, ?_⟩
    refine WL_call Tryz.call12 rfl rfl (c_Q_toAccess (a4.1, a4.2) u4 (g4.now (hC8.keep.then hB17)) x15 hr9) ?_
    rintro v7 w13 ⟨hB12, F4, hv8, hn4, hb4⟩
    refine WL_nil ?_
    exact FinE_own hB12 rfl rfl hv8 hn4 hb4 (Val.inh hv8)
   refine StepsE_cons rfl ?_ ?_
   ·intro w18 hB17
    refine DepsE_nil ?_
    refine ⟨_, rfl, ?_⟩
    refine WL_call Tryz.call13 rfl rfl (c_Q_toChangeS a6 u5 (g5.now (hC8.keep.then hB17)) x16 hr10) ?_
    rintro v9 w14 ⟨hB13, F5, hv9, hn5, hb5⟩
    refine WL_nil ?_
    exact FinE_own hB13 rfl rfl hv9 hn5 hb5 (Val.inh hv9)
   refine StepsE_cons rfl ?_ ?_
   ·intro w18 hB17
    refine DepsE_cons rfl rfl rfl ?_
    intro v3 F1 hv5 _
    refine DepsE_cons rfl rfl rfl ?_
    intro v4 F2 hv6 _
    refine DepsE_cons rfl rfl rfl ?_
    intro v5 F3 hv7 _
    obtain ⟨v6, rfl, h1⟩ := ro_st38 (ro_of_own hv7)
    refine DepsE_cons rfl rfl rfl ?_
    intro v7 F4 hv8 _
    obtain ⟨v8, rfl, h2⟩ := ro_st45 (ro_of_own hv8)
    refine DepsE_cons rfl rfl rfl ?_
    intro v9 F5 hv9 _
    refine DepsE_nil ?_
    refine ⟨_, rfl, ?_⟩
    refine WL_call Tryz.call8 rfl rfl (c_S_ReadThrough x12 v3 (ro_of_own hv5) x13 v4 (ro_of_own hv6) x14 v6 (h1.now (Keep.refl _ _)) x15 v8 (h2.now (Keep.refl _ _)) a5 x16 v9 (ro_of_own hv9) a7 x17 hr11) ?_
    rintro _ w15 ⟨hB14, v10, v11, F6, F7, rfl, hv10, hv11, hn6, hb6⟩
    refine WL_nil ?_
    exact FinE_own (F := F6 ++ F7) hB14 rfl rfl ⟨_, _, _, _, rfl, rfl, hv10, hv11⟩ (by simpa using hn6) (fun b h => hb6 b (by simpa using h)) (fun b h => by simp only [List.mem_append] at h; rcases h with h | h <;> first | exact Val.inh hv10 b h | exact Val.inh hv11 b h)
   refine StepsE_cons rfl ?_ ?_
   ·intro w18 hB17
    refine DepsE_cons rfl rfl rfl ?_
    rintro _ _ ⟨v10, v11, F6, F7, rfl, rfl, hv10, hv11⟩ _
    obtain ⟨v12, rfl, h3⟩ := ro_st36 (ro_of_own hv10)
    obtain ⟨v13, rfl, h4⟩ := ro_st38 (ro_of_own hv11)
    refine DepsE_nil ?_
    refine ⟨_, rfl, ?_⟩
    refine WL_move rfl rfl ?_
    refine WL_nil ?_
    exact FinE_val (Below.refl _ _) rfl rfl ⟨rfl, rfl⟩
   refine StepsE_cons rfl ?_ ?_
   ·intro w18 hB17
    refine DepsE_cons rfl rfl rfl ?_
    rintro _ _ ⟨v10, v11, F6, F7, rfl, rfl, hv10, hv11⟩ _
    obtain ⟨v12, rfl, h3⟩ := ro_st36 (ro_of_own hv10)
    obtain ⟨v13, rfl, h4⟩ := ro_st38 (ro_of_own hv11)
    refine DepsE_cons rfl rfl rfl ?_
    rintro _ _ ⟨rfl, rfl⟩ _
    refine DepsE_nil ?_
    refine ⟨_, rfl, ?_⟩
    refine WL_extract rfl rfl rfl ?_
    refine WL_nil ?_
    exact FinE_val (Below.refl _ _) rfl rfl ⟨⟨_, rfl, rfl⟩, rfl⟩
   refine StepsE_cons rfl ?_ ?_
   ·intro w18 hB17
    refine DepsE_cons rfl rfl rfl ?_
    rintro _ _ ⟨v10, v11, F6, F7, rfl, rfl, hv10, hv11⟩ _
    obtain ⟨v12, rfl, h3⟩ := ro_st36 (ro_of_own hv10)
    obtain ⟨v13, rfl, h4⟩ := ro_st38 (ro_of_own hv11)
    refine DepsE_cons rfl rfl rfl ?_
    rintro _ _ ⟨rfl, rfl⟩ _
    refine DepsE_nil ?_
    refine ⟨_, rfl, ?_⟩
    refine WL_extract rfl rfl rfl ?_
    refine WL_nil ?_
    exact FinE_val (Below.refl _ _) rfl rfl ⟨⟨_, rfl, rfl⟩, rfl⟩
   refine StepsE_cons rfl ?_ ?_
   ·intro w18 hB17
    refine DepsE_nil ?_
    refine ⟨_, rfl, ?_⟩
    refine WL_alloc (Ctx.start _) zero36 rfl rfl (fun b5 w16 hC9 hB15 => ?_)
    refine WL_nil ?_
    exact FinE_ctx hC9 rfl rfl (fun F h => ⟨b5, rfl, h⟩)
   refine StepsE_cons rfl ?_ ?_
   ·intro w18 hB17
    refine DepsE_nil ?_
    refine ⟨_, rfl, ?_⟩
    refine WL_alloc (Ctx.start _) zero38 rfl rfl (fun b6 w17 hC10 hB16 => ?_)
    refine WL_nil ?_
    exact FinE_ctx hC10 rfl rfl (fun F h => ⟨b6, rfl, h⟩)
   exact StepsE_nil
  ·intro g' hg'
   obtain rfl : g' = 2 := hg'
   intro w19 hB18
   refine AllE_cons rfl rfl rfl ?_
   intro v3 F1 hv5
   refine AllE_cons rfl rfl rfl ?_
   intro v4 F2 hv6
   refine AllE_cons rfl rfl rfl ?_
   rintro _ _ ⟨rfl, rfl⟩
   refine AllE_cons rfl rfl rfl ?_
   intro v5 F3 hv7
   refine AllE_cons rfl rfl rfl ?_
   rintro _ _ ⟨rfl, rfl⟩
   refine AllE_cons rfl rfl rfl ?_
   intro v7 F4 hv8
   refine AllE_cons rfl rfl rfl ?_
   intro v9 F5 hv9
   refine AllE_cons rfl rfl rfl ?_
   rintro _ _ ⟨v10, v11, F6, F7, rfl, rfl, hv10, hv11⟩
   refine AllE_cons rfl rfl rfl ?_
   rintro _ _ ⟨rfl, rfl⟩
   refine AllE_cons rfl rfl rfl ?_
   rintro _ _ ⟨⟨_, hx1, hx2⟩, rfl⟩
   obtain rfl := Value.tuple.inj hx1
   obtain rfl := Option.some.inj (show (some v10 : Option Value) = some _ from hx2)
   refine AllE_cons rfl rfl rfl ?_
   rintro _ _ ⟨⟨_, hx3, hx4⟩, rfl⟩
   obtain rfl := Value.tuple.inj hx3
   obtain rfl := Option.some.inj (show (some v11 : Option Value) = some _ from hx4)
   refine AllE_cons rfl rfl rfl ?_
   rintro _ F8 ⟨b5, rfl, hv12⟩
   refine AllE_cons rfl rfl rfl ?_
   rintro _ F9 ⟨b6, rfl, hv13⟩
   refine AllE_nil ?_
   intro hn7 hb7
   have hC11 := hC8.pushL hB18 (Bs := [Item.box b6 [(.slice none 0 0), (.int .i64 0)], Item.box b5 [(.slice none 0 0), (.int .i64 0), (.int .i64 0), (.int .i64 0), (.bool false)], Item.own v10 (x17.1 : ((List (Int × (List Int))) × Int × Int × Int × Bool)), Item.own v11 (x17.2 : ((List (Int × (List Int))) × Int)), Item.own v9 (x16 : (List (Bool × (Int × (List Int))))), Item.own v7 (x15 : (Int × (List Int))), Item.own v5 (x14 : ((List (Int × (List Int))) × Int)), Item.own v4 (x13 : (List (Int × (List Int) × Int × Int × Int))), Item.own v3 (x12 : (List Int))]) (Fs := [F9, F8, F6, F7, F5, F4, F3, F2, F1]) ⟨F9, _, rfl, hv13, F8, _, rfl, hv12, F6, _, rfl, hv10, F7, _, rfl, hv11, F5, _, rfl, hv9, F4, _, rfl, hv8, F3, _, rfl, hv7, F2, _, rfl, hv6, F1, _, rfl, hv5, rfl⟩ (by simpa using hn7) (fun b h => (hb7 b (by simpa using h)).1)
   have hC12 := hC11.f6
   obtain ⟨v14, rfl, hC13⟩ := st38_own hC12
   have hC14 := hC13.f6
   obtain ⟨v15, rfl, hC15⟩ := st45_own hC14
   have hC16 := hC15.f4
   obtain ⟨v16, rfl, hC17⟩ := st36_own hC16
   have hC18 := hC17.f5
   obtain ⟨v17, rfl, hC19⟩ := st38_own hC18
   refine WA_one 18 (by kernel_rfl) rfl ?_
   refine WL_store_box_agg (cs' := [v16, (.int .i64 x17.1.2.1), (.int .i64 x17.1.2.2.1), (.int .i64 x17.1.2.2.2.1), (.bool x17.1.2.2.2.2)]) (new := [v16, (.int .i64 x17.1.2.1), (.int .i64 x17.1.2.2.1), (.int .i64 x17.1.2.2.2.1), (.bool x17.1.2.2.2.2)]) hC19 5 rfl rfl (by intro v hv; simp only [List.mem_cons, List.not_mem_nil, or_false] at hv; rcases hv with rfl | rfl | rfl | rfl | rfl; exact (ro_one (hC19.ro 1 rfl)); exact rfl; exact rfl; exact rfl; exact rfl) rfl Tryz.sizeOf36 rfl rfl (fun w20 hC20 => ?_)
   try dsimp only [List.set] at hC20
   refine WL_nil ?_
   refine WA_one 19 (by kernel_rfl) rfl ?_
   refine WL_store_box_agg (cs' := [v17, (.int .i64 x17.2.2)]) (new := [v17, (.int .i64 x17.2.2)]) hC20 4 rfl rfl (by intro v hv; simp only [List.mem_cons, List.not_mem_nil, or_false] at hv; rcases hv with rfl | rfl; exact (ro_one (hC20.ro 0 rfl)); exact rfl) rfl Tryz.sizeOf38 rfl rfl (fun w21 hC21 => ?_)
   try dsimp only [List.set] at hC21
   refine WL_nil ?_
   refine WA_done (by kernel_rfl) ?_
   have hq6 := Option.some.inj hr5
   subst hq6
   have hC22 := hC21.f10
   have hC23 := hC22.f10
   have hC24 := hC23.f3
   have hC25 := hC24.f7
   have hC26 := hC25.f4
   have hC27 := hC26.f7
   have hC28 := hC27.h6
   refine nrm_sub (l' := [(0, u1), (1, u2), (4, (.int .i64 a5)), (5, u5), (6, (.int .i64 a7)), (9, (ptr b1 0)), (10, (ptr b2 0)), (16, (ptr b5 0)), (17, (ptr b6 0))]) ⟨rfl, rfl, rfl, rfl, rfl, rfl, rfl, rfl, rfl, trivial⟩ ?_
   exact ⟨b5, v16, x17.1.1, x17.1.2.1, x17.1.2.2.1, x17.1.2.2.2.1, x17.1.2.2.2.2, b6, v17, x17.2.1, x17.2.2, rfl, rfl, hC28⟩
  intro g' hg'
  obtain rfl : g' = 3 := hg'
  intro w19 hB18
  refine AllE_cons rfl rfl rfl ?_
  intro v3 F1 hv5
  refine AllE_cons rfl rfl rfl ?_
  intro v4 F2 hv6
  refine AllE_cons rfl rfl rfl ?_
  rintro _ _ ⟨rfl, rfl⟩
  refine AllE_cons rfl rfl rfl ?_
  intro v5 F3 hv7
  refine AllE_cons rfl rfl rfl ?_
  rintro _ _ ⟨rfl, rfl⟩
  refine AllE_cons rfl rfl rfl ?_
  intro v7 F4 hv8
  refine AllE_cons rfl rfl rfl ?_
  intro v9 F5 hv9
  refine AllE_cons rfl rfl rfl ?_
  rintro _ _ ⟨v10, v11, F6, F7, rfl, rfl, hv10, hv11⟩
  refine AllE_cons rfl rfl rfl ?_
  rintro _ _ ⟨rfl, rfl⟩
  refine AllE_cons rfl rfl rfl ?_
  rintro _ _ ⟨⟨_, hx1, hx2⟩, rfl⟩
  obtain rfl := Value.tuple.inj hx1
  obtain rfl := Option.some.inj (show (some v10 : Option Value) = some _ from hx2)
  refine AllE_cons rfl rfl rfl ?_
  rintro _ F8 ⟨b5, rfl, hv12⟩
  refine AllE_cons rfl rfl rfl ?_
  rintro _ F9 ⟨b6, rfl, hv13⟩
  refine AllE_nil ?_
  intro hn7 hb7
  have hC11 := hC8.pushL hB18 (Bs := [Item.box b6 [(.slice none 0 0), (.int .i64 0)], Item.box b5 [(.slice none 0 0), (.int .i64 0), (.int .i64 0), (.int .i64 0), (.bool false)], Item.own v10 (x17.1 : ((List (Int × (List Int))) × Int × Int × Int × Bool)), Item.own v11 (x17.2 : ((List (Int × (List Int))) × Int)), Item.own v9 (x16 : (List (Bool × (Int × (List Int))))), Item.own v7 (x15 : (Int × (List Int))), Item.own v5 (x14 : ((List (Int × (List Int))) × Int)), Item.own v4 (x13 : (List (Int × (List Int) × Int × Int × Int))), Item.own v3 (x12 : (List Int))]) (Fs := [F9, F8, F6, F7, F5, F4, F3, F2, F1]) ⟨F9, _, rfl, hv13, F8, _, rfl, hv12, F6, _, rfl, hv10, F7, _, rfl, hv11, F5, _, rfl, hv9, F4, _, rfl, hv8, F3, _, rfl, hv7, F2, _, rfl, hv6, F1, _, rfl, hv5, rfl⟩ (by simpa using hn7) (fun b h => (hb7 b (by simpa using h)).1)
  have hC12 := hC11.f6
  obtain ⟨v14, rfl, hC13⟩ := st38_own hC12
  have hC14 := hC13.f6
  obtain ⟨v15, rfl, hC15⟩ := st45_own hC14
  have hC16 := hC15.f4
  obtain ⟨v16, rfl, hC17⟩ := st36_own hC16
  have hC18 := hC17.f5
  obtain ⟨v17, rfl, hC19⟩ := st38_own hC18
  refine WA_tk 15 (by kernel_rfl) rfl rfl (fl_extract rfl rfl) ?_
  refine WL_extract rfl rfl rfl ?_
  refine WL_nil ?_
  refine WA_one 18 (by kernel_rfl) rfl ?_
  refine WL_store_box_agg (cs' := [v16, (.int .i64 x17.1.2.1), (.int .i64 x17.1.2.2.1), (.int .i64 x17.1.2.2.2.1), (.bool x17.1.2.2.2.2)]) (new := [v16, (.int .i64 x17.1.2.1), (.int .i64 x17.1.2.2.1), (.int .i64 x17.1.2.2.2.1), (.bool x17.1.2.2.2.2)]) hC19 5 rfl rfl (by intro v hv; simp only [List.mem_cons, List.not_mem_nil, or_false] at hv; rcases hv with rfl | rfl | rfl | rfl | rfl; exact (ro_one (hC19.ro 1 rfl)); exact rfl; exact rfl; exact rfl; exact rfl) rfl Tryz.sizeOf36 rfl rfl (fun w20 hC20 => ?_)
  try dsimp only [List.set] at hC20
  refine WL_nil ?_
  refine WA_one 19 (by kernel_rfl) rfl ?_
  refine WL_store_box_agg (cs' := [v17, (.int .i64 x17.2.2)]) (new := [v17, (.int .i64 x17.2.2)]) hC20 4 rfl rfl (by intro v hv; simp only [List.mem_cons, List.not_mem_nil, or_false] at hv; rcases hv with rfl | rfl; exact (ro_one (hC20.ro 0 rfl)); exact rfl) rfl Tryz.sizeOf38 rfl rfl (fun w21 hC21 => ?_)
  try dsimp only [List.set] at hC21
  refine WL_nil ?_
  refine WA_done (by kernel_rfl) ?_
  have hq6 := Option.some.inj hr5
  subst hq6
  have hC22 := hC21.f10
  have hC23 := hC22.f10
  have hC24 := hC23.f3
  have hC25 := hC24.f7
  have hC26 := hC25.f4
  have hC27 := hC26.f7
  have hC28 := hC27.h6
  refine nrm_sub (l' := [(0, u1), (1, u2), (4, (.int .i64 a5)), (5, u5), (6, (.int .i64 a7)), (9, (ptr b1 0)), (10, (ptr b2 0)), (16, (ptr b5 0)), (17, (ptr b6 0))]) ⟨rfl, rfl, rfl, rfl, rfl, rfl, rfl, rfl, rfl, trivial⟩ ?_
  exact ⟨b5, v16, x17.1.1, x17.1.2.1, x17.1.2.2.1, x17.1.2.2.2.1, x17.1.2.2.2.2, b6, v17, x17.2.1, x17.2.2, rfl, rfl, hC28⟩
 rintro _ w7 ⟨b3, v1, x5, x6, x7, x8, x9, b4, v2, x10, x11, rfl, rfl, hC7⟩
 try dsimp only at hF
 refine W_seq_reg ?_
 refine WL_move rfl rfl ?_
 obtain ⟨x18, hr12, hF⟩ := bind_some hF
 refine WL_call Tryz.call9 rfl rfl (c_Q_toIntS a1 u1 (g1.now hC7.keep) x18 hr12) ?_
 rintro v18 w22 ⟨hB19, F10, hv14, hn8, hb8⟩
 have hC29 := hC7.push hB19 (A := Item.own v18 x18) hv14 hn8 hb8
 refine WL_assign rfl rfl ?_
 refine WL_nil ?_
 refine W_seq_reg ?_
 refine WL_move rfl rfl ?_
 obtain ⟨x19, hr13, hF⟩ := bind_some hF
 refine WL_call Tryz.call10 rfl rfl (c_Q_toMethodS a2 u2 (g2.now hC29.keep) x19 hr13) ?_
 rintro v19 w23 ⟨hB20, F11, hv15, hn9, hb9⟩
 have hC30 := hC29.push hB20 (A := Item.own v19 x19) hv15 hn9 hb9
 refine WL_assign rfl rfl ?_
 refine WL_nil ?_
 refine W_seq_reg ?_
 refine WL_load_box_agg [u3, (.int .i64 a3.2)] hC30 7 rfl rfl rfl Tryz.isAgg26 Tryz.sizeOf26 rfl rfl ?_
 obtain ⟨x20, hr14, hF⟩ := bind_some hF
 refine WL_call Tryz.call11 rfl rfl (c_Q_toSource (a3.1, a3.2) u3 (g3.now hC30.keep) x20 hr14) ?_
 rintro v20 w24 ⟨hB21, F12, hv16, hn10, hb10⟩
 have hC31 := hC30.push hB21 (A := Item.own v20 x20) hv16 hn10 hb10
 obtain ⟨v21, rfl, hC32⟩ := st38_own hC31
 refine WL_alloc hC32 zero38 rfl rfl (fun b7 w25 hC33 hB22 => ?_)
 refine WL_store_box_agg (cs' := [v21, (.int .i64 x20.2)]) (new := [v21, (.int .i64 x20.2)]) hC33 0 rfl rfl (by intro v hv; simp only [List.mem_cons, List.not_mem_nil, or_false] at hv; rcases hv with rfl | rfl; exact (ro_one (hC33.ro 1 rfl)); exact rfl) rfl Tryz.sizeOf38 rfl rfl (fun w26 hC34 => ?_)
 try dsimp only [List.set] at hC34
 refine WL_nil ?_
 refine W_seq_reg ?_
 refine WL_load_box_agg [(.int .i64 a4.1), u4] hC34 8 rfl rfl rfl Tryz.isAgg28 Tryz.sizeOf28 rfl rfl ?_
 obtain ⟨x21, hr15, hF⟩ := bind_some hF
 refine WL_call Tryz.call12 rfl rfl (c_Q_toAccess (a4.1, a4.2) u4 (g4.now hC34.keep) x21 hr15) ?_
 rintro v22 w27 ⟨hB23, F13, hv17, hn11, hb11⟩
 have hC35 := hC34.push hB23 (A := Item.own v22 x21) hv17 hn11 hb11
 obtain ⟨v23, rfl, hC36⟩ := st45_own hC35
 refine WL_alloc hC36 zero45 rfl rfl (fun b8 w28 hC37 hB24 => ?_)
 refine WL_store_box_agg (cs' := [(.int .i64 x21.1), v23]) (new := [(.int .i64 x21.1), v23]) hC37 0 rfl rfl (by intro v hv; simp only [List.mem_cons, List.not_mem_nil, or_false] at hv; rcases hv with rfl | rfl; exact rfl; exact (ro_one (hC37.ro 1 rfl))) rfl Tryz.sizeOf45 rfl rfl (fun w29 hC38 => ?_)
 try dsimp only [List.set] at hC38
 refine WL_nil ?_
 refine W_seq_reg ?_
 refine WL_move rfl rfl ?_
 obtain ⟨x22, hr16, hF⟩ := bind_some hF
 refine WL_call Tryz.call13 rfl rfl (c_Q_toChangeS a6 u5 (g5.now hC38.keep) x22 hr16) ?_
 rintro v24 w30 ⟨hB25, F14, hv18, hn12, hb12⟩
 have hC39 := hC38.push hB25 (A := Item.own v24 x22) hv18 hn12 hb12
 refine WL_assign rfl rfl ?_
 refine WL_nil ?_
 refine W_seq_reg ?_
 refine WL_move rfl rfl ?_
 refine WL_move rfl rfl ?_
 refine WL_load_box_agg [v21, (.int .i64 x20.2)] hC39 3 rfl rfl rfl Tryz.isAgg38 Tryz.sizeOf38 rfl rfl ?_
 refine WL_load_box_agg [(.int .i64 x21.1), v23] hC39 1 rfl rfl rfl Tryz.isAgg45 Tryz.sizeOf45 rfl rfl ?_
 refine WL_move rfl rfl ?_
 refine WL_move rfl rfl ?_
 refine WL_move rfl rfl ?_
 obtain ⟨x23, hr17, hF⟩ := bind_some hF
 refine WL_call Tryz.call14 rfl rfl (c_M_ReadThrough x18 v18 ((hC39.ro 6 rfl).now (Keep.refl _ _)) x19 v19 ((hC39.ro 5 rfl).now (Keep.refl _ _)) (x20.1, x20.2) v21 ((hC39.ro 4 rfl).now (Keep.refl _ _)) (x21.1, x21.2) v23 ((hC39.ro 2 rfl).now (Keep.refl _ _)) a5 x22 v24 ((hC39.ro 0 rfl).now (Keep.refl _ _)) a7 x23 hr17) ?_
 rintro _ w31 ⟨hB26, v25, v26, F15, F16, rfl, hv19, hv20, hn13, hb13⟩
 have hC40 := hC39.pushL hB26 (Bs := [Item.own v25 x23.1, Item.own v26 x23.2]) (Fs := [F15, F16]) ⟨F15, _, rfl, hv19, F16, _, rfl, hv20, rfl⟩ (by simpa using hn13) (fun b h => hb13 b (by simpa using h))
 obtain ⟨v27, rfl, hC41⟩ := st36_own hC40
 have hC42 := hC41.f1
 obtain ⟨v28, rfl, hC43⟩ := st38_own hC42
 refine WL_move rfl rfl ?_
 refine WL_extract rfl rfl rfl ?_
 refine WL_extract rfl rfl rfl ?_
 refine WL_alloc hC43 zero36 rfl rfl (fun b9 w32 hC44 hB27 => ?_)
 refine WL_alloc hC44 zero38 rfl rfl (fun b10 w33 hC45 hB28 => ?_)
 refine WL_store_box_agg (cs' := [v27, (.int .i64 x23.1.2.1), (.int .i64 x23.1.2.2.1), (.int .i64 x23.1.2.2.2.1), (.bool x23.1.2.2.2.2)]) (new := [v27, (.int .i64 x23.1.2.1), (.int .i64 x23.1.2.2.1), (.int .i64 x23.1.2.2.2.1), (.bool x23.1.2.2.2.2)]) hC45 1 rfl rfl (by intro v hv; simp only [List.mem_cons, List.not_mem_nil, or_false] at hv; rcases hv with rfl | rfl | rfl | rfl | rfl; exact (ro_one (hC45.ro 3 rfl)); exact rfl; exact rfl; exact rfl; exact rfl) rfl Tryz.sizeOf36 rfl rfl (fun w34 hC46 => ?_)
 try dsimp only [List.set] at hC46
 refine WL_store_box_agg (cs' := [v28, (.int .i64 x23.2.2)]) (new := [v28, (.int .i64 x23.2.2)]) hC46 0 rfl rfl (by intro v hv; simp only [List.mem_cons, List.not_mem_nil, or_false] at hv; rcases hv with rfl | rfl; exact (ro_one (hC46.ro 2 rfl)); exact rfl) rfl Tryz.sizeOf38 rfl rfl (fun w35 hC47 => ?_)
 try dsimp only [List.set] at hC47
 refine WL_nil ?_
 refine W_seq ?_
 obtain ⟨r2, hr18, hF⟩ := bind_some hF
 refine W_cut (fun l w => ∃ x24 : Bool, x24 = r2 ∧ l = [(0, u1), (1, u2), (4, (.int .i64 a5)), (5, u5), (6, (.int .i64 a7)), (9, (ptr b1 0)), (10, (ptr b2 0)), (16, (ptr b3 0)), (17, (ptr b4 0)), (18, v18), (19, v19), (20, (ptr b7 0)), (21, (ptr b8 0)), (22, v24), (23, (ptr b9 0)), (24, (ptr b10 0)), (99, (.bool x24))] ∧ Below w35.heap.size w35 w ∧ Ctx [] w0 w [Item.box b10 [v28, (.int .i64 x23.2.2)], Item.box b9 [v27, (.int .i64 x23.1.2.1), (.int .i64 x23.1.2.2.1), (.int .i64 x23.1.2.2.2.1), (.bool x23.1.2.2.2.2)], Item.own v28 (x23.2.1 : (List (Int × (List Int)))), Item.own v27 (x23.1.1 : (List (Int × (List Int)))), Item.own v24 (x22 : (List (Bool × (Int × (List Int))))), Item.box b8 [(.int .i64 x21.1), v23], Item.own v23 (x21.2 : (List Int)), Item.box b7 [v21, (.int .i64 x20.2)], Item.own v21 (x20.1 : (List (Int × (List Int)))), Item.own v19 (x19 : (List (Int × (List Int) × Int × Int × Int))), Item.own v18 (x18 : (List Int)), Item.box b4 [v2, (.int .i64 x11)], Item.own v2 (x10 : (List (Int × (List Int)))), Item.box b3 [v1, (.int .i64 x6), (.int .i64 x7), (.int .i64 x8), (.bool x9)], Item.own v1 (x5 : (List (Int × (List Int)))), Item.box b2 [(.int .i64 a4.1), u4], Item.box b1 [u3, (.int .i64 a3.2)]]) ?_ ?_
 ·refine W_reg ?_
  refine WL_load_box_agg [v27, (.int .i64 x23.1.2.1), (.int .i64 x23.1.2.2.1), (.int .i64 x23.1.2.2.2.1), (.bool x23.1.2.2.2.2)] hC47 1 rfl rfl rfl Tryz.isAgg36 Tryz.sizeOf36 rfl rfl ?_
  refine WL_load_box_agg [v1, (.int .i64 x6), (.int .i64 x7), (.int .i64 x8), (.bool x9)] hC47 13 rfl rfl rfl Tryz.isAgg36 Tryz.sizeOf36 rfl rfl ?_
  obtain ⟨x25, hr19, hr18⟩ := bind_some hr18
  refine WL_call Tryz.call15 rfl rfl (c_Q_eqReading (x23.1.1, x23.1.2.1, x23.1.2.2.1, x23.1.2.2.2.1, x23.1.2.2.2.2) v27 ((hC47.ro 3 rfl).now (Keep.refl _ _)) (x5, x6, x7, x8, x9) v1 ((hC47.ro 14 rfl).now (Keep.refl _ _)) x25 hr19) ?_
  intro _ w37 hv21
  obtain ⟨rfl, hB30⟩ := res_bool hv21
  have hC49 := hC47.grow hB30
  refine WL_not rfl rfl ?_
  refine WL_move rfl rfl ?_
  refine WL_fork (fun hc6 => ?_) (fun hc6 => ?_)
  ·replace hr18 := ite_t hr18 hc6
   refine WL_guard_skip rfl rfl (by simp) rfl ?_
   refine WL_guard_skip rfl rfl (by simp) rfl ?_
   refine WL_guard_skip rfl rfl (by simp) rfl ?_
   refine WL_guard_skip rfl rfl (by simp) rfl ?_
   refine WL_pick_t rfl rfl rfl ?_
   refine WL_nil ?_
   have hq7 := Option.some.inj hr18
   subst hq7
   refine nrm_sub (l' := [(0, u1), (1, u2), (4, (.int .i64 a5)), (5, u5), (6, (.int .i64 a7)), (9, (ptr b1 0)), (10, (ptr b2 0)), (16, (ptr b3 0)), (17, (ptr b4 0)), (18, v18), (19, v19), (20, (ptr b7 0)), (21, (ptr b8 0)), (22, v24), (23, (ptr b9 0)), (24, (ptr b10 0)), (99, (.bool true))]) ⟨rfl, rfl, rfl, rfl, rfl, rfl, rfl, rfl, rfl, rfl, rfl, rfl, rfl, rfl, rfl, rfl, rfl, trivial⟩ ?_
   exact ⟨true, rfl, rfl, (Keep.of hB30).below, hC49⟩
  replace hr18 := ite_f hr18 hc6
  refine WL_guard rfl rfl ?_
  refine WL_load_box_agg [v28, (.int .i64 x23.2.2)] hC49 0 rfl rfl rfl Tryz.isAgg38 Tryz.sizeOf38 rfl rfl ?_
  refine WL_guard rfl rfl ?_
  refine WL_load_box_agg [v2, (.int .i64 x11)] hC49 11 rfl rfl rfl Tryz.isAgg38 Tryz.sizeOf38 rfl rfl ?_
  obtain ⟨x26, hr20, hr18⟩ := bind_some hr18
  refine WL_guard rfl rfl ?_
  refine WL_call Tryz.call16 rfl rfl (c_Q_eqSource (x23.2.1, x23.2.2) v28 ((hC49.ro 2 rfl).now (Keep.refl _ _)) (x10, x11) v2 ((hC49.ro 12 rfl).now (Keep.refl _ _)) x26 hr20) ?_
  intro _ w38 hv22
  obtain ⟨rfl, hB31⟩ := res_bool hv22
  have hC50 := hC49.grow hB31
  refine WL_guard rfl rfl ?_
  refine WL_not rfl rfl ?_
  refine WL_pick_f rfl rfl rfl ?_
  refine WL_nil ?_
  have hq8 := Option.some.inj hr18
  subst hq8
  refine nrm_sub (l' := [(0, u1), (1, u2), (4, (.int .i64 a5)), (5, u5), (6, (.int .i64 a7)), (9, (ptr b1 0)), (10, (ptr b2 0)), (16, (ptr b3 0)), (17, (ptr b4 0)), (18, v18), (19, v19), (20, (ptr b7 0)), (21, (ptr b8 0)), (22, v24), (23, (ptr b9 0)), (24, (ptr b10 0)), (99, (.bool (!x26)))]) ⟨rfl, rfl, rfl, rfl, rfl, rfl, rfl, rfl, rfl, rfl, rfl, rfl, rfl, rfl, rfl, rfl, rfl, trivial⟩ ?_
  exact ⟨(!x26), rfl, rfl, ((Keep.of hB30).then hB31).below, hC50⟩
 rintro _ w36 ⟨x24, rfl, rfl, hB29, hC48⟩
 try dsimp only at hF
 refine W_cond rfl (fun hc7 => ?_) (fun hc7 => ?_)
 ·replace hF := ite_t hF hc7
  refine W_seq_reg ?_
  refine WL_assign rfl rfl ?_
  refine WL_nil ?_
  refine W_ret ?_
  refine nrm_ret ?_
  have hq9 := Option.some.inj hF
  subst hq9
  refine fn_ret1 rfl rfl ?_
  exact ⟨_, rfl, bool_res hC48 _⟩
 replace hF := ite_f hF hc7
 refine W_skip ?_
 refine nrm_normal ?_
 refine W_seq ?_
 refine W_seq_reg ?_
 refine WL_move rfl rfl ?_
 refine WL_move rfl rfl ?_
 obtain ⟨x27, hr21, hF⟩ := bind_some hF
 refine WL_call Tryz.call9 rfl rfl (c_Q_toIntS a1 u1 (g1.now hC48.keep) x27 hr21) ?_
 rintro v29 w39 ⟨hB32, F17, hv23, hn14, hb14⟩
 have hC51 := hC48.push hB32 (A := Item.own v29 x27) hv23 hn14 hb14
 obtain ⟨x28, hr22, hF⟩ := bind_some hF
 refine WL_call Tryz.call17 rfl rfl (c_Q_eqIntS x18 v18 ((hC51.ro 11 rfl).now (Keep.refl _ _)) x27 v29 ((hC51.ro 0 rfl).now (Keep.refl _ _)) x28 hr22) ?_
 intro _ w40 hv24
 obtain ⟨rfl, hB33⟩ := res_bool hv24
 have hC52 := hC51.grow hB33
 refine WL_not rfl rfl ?_
 refine WL_nil ?_
 refine W_cond rfl (fun hc8 => ?_) (fun hc8 => ?_)
 ·replace hF := ite_t hF hc8
  refine W_seq_reg ?_
  refine WL_assign rfl rfl ?_
  refine WL_nil ?_
  refine W_ret ?_
  refine nrm_ret ?_
  have hq10 := Option.some.inj hF
  subst hq10
  refine fn_ret1 rfl rfl ?_
  exact ⟨_, rfl, bool_res hC52 _⟩
 replace hF := ite_f hF hc8
 refine W_skip ?_
 refine nrm_normal ?_
 refine W_seq ?_
 refine W_seq_reg ?_
 refine WL_move rfl rfl ?_
 refine WL_move rfl rfl ?_
 obtain ⟨x29, hr23, hF⟩ := bind_some hF
 refine WL_call Tryz.call10 rfl rfl (c_Q_toMethodS a2 u2 (g2.now hC52.keep) x29 hr23) ?_
 rintro v30 w41 ⟨hB34, F18, hv25, hn15, hb15⟩
 have hC53 := hC52.push hB34 (A := Item.own v30 x29) hv25 hn15 hb15
 obtain ⟨x30, hr24, hF⟩ := bind_some hF
 refine WL_call Tryz.call18 rfl rfl (c_Q_eqMethodS x19 v19 ((hC53.ro 11 rfl).now (Keep.refl _ _)) x29 v30 ((hC53.ro 0 rfl).now (Keep.refl _ _)) x30 hr24) ?_
 intro _ w42 hv26
 obtain ⟨rfl, hB35⟩ := res_bool hv26
 have hC54 := hC53.grow hB35
 refine WL_not rfl rfl ?_
 refine WL_nil ?_
 refine W_cond rfl (fun hc9 => ?_) (fun hc9 => ?_)
 ·replace hF := ite_t hF hc9
  refine W_seq_reg ?_
  refine WL_assign rfl rfl ?_
  refine WL_nil ?_
  refine W_ret ?_
  refine nrm_ret ?_
  have hq11 := Option.some.inj hF
  subst hq11
  refine fn_ret1 rfl rfl ?_
  exact ⟨_, rfl, bool_res hC54 _⟩
 replace hF := ite_f hF hc9
 refine W_skip ?_
 refine nrm_normal ?_
 refine W_seq ?_
 refine W_seq ?_
 refine W_drawn 5 rfl hmix (fun w43 hB36 => ?_)
 have hC55 := hC54.grow hB36
 obtain ⟨x31, hr25, hF⟩ := bind_some hF
 refine WA.sub (l' := [(0, u1), (1, u2), (4, (.int .i64 a5)), (5, u5), (6, (.int .i64 a7)), (9, (ptr b1 0)), (10, (ptr b2 0)), (16, (ptr b3 0)), (17, (ptr b4 0)), (18, v18), (19, v19), (20, (ptr b7 0)), (21, (ptr b8 0)), (22, v24), (23, (ptr b9 0)), (24, (ptr b10 0)), (99, (.bool x24)), (100, v18), (101, u1), (102, v29), (103, (.bool x28)), (104, (.bool (!x28))), (105, v19), (106, u2), (107, v30), (108, (.bool x30)), (109, (.bool (!x30)))]) ?_ ⟨rfl, rfl, rfl, rfl, rfl, rfl, rfl, rfl, rfl, rfl, rfl, rfl, rfl, rfl, rfl, rfl, rfl, rfl, rfl, rfl, rfl, rfl, rfl, rfl, rfl, rfl, rfl, trivial⟩
 refine WA_postsE [⟨0, [], fun vs => PW.val (.agg #[v21, (.int .i64 x20.2)]), []⟩, ⟨1, [], fun vs => PW.val (.agg #[u3, (.int .i64 a3.2)]), []⟩, ⟨2, [], fun vs => PW.own x31, []⟩] [[], [], [1]] 2 rfl (by kernel_rfl) (by kernel_rfl) rfl ?_ ?_
 ·refine StepsE_cons rfl ?_ ?_
  ·intro w45 hB38
   refine DepsE_nil ?_
   refine ⟨_, rfl, ?_⟩
   refine WL_load_box_agg [v21, (.int .i64 x20.2)] (hC55.grow hB38) 9 rfl rfl rfl Tryz.isAgg38 Tryz.sizeOf38 rfl rfl ?_
   refine WL_nil ?_
   exact FinE_val (Below.refl _ _) rfl rfl ⟨rfl, rfl⟩
  refine StepsE_cons rfl ?_ ?_
  ·intro w45 hB38
   refine DepsE_nil ?_
   refine ⟨_, rfl, ?_⟩
   refine WL_load_box_agg [u3, (.int .i64 a3.2)] (hC55.grow hB38) 18 rfl rfl rfl Tryz.isAgg26 Tryz.sizeOf26 rfl rfl ?_
   refine WL_nil ?_
   exact FinE_val (Below.refl _ _) rfl rfl ⟨rfl, rfl⟩
  refine StepsE_cons rfl ?_ ?_
  ·intro w45 hB38
   refine DepsE_cons rfl rfl rfl ?_
   rintro _ _ ⟨rfl, rfl⟩ _
   refine DepsE_nil ?_
   refine ⟨_, rfl, ?_⟩
   refine WL_call Tryz.call11 rfl rfl (c_Q_toSource (a3.1, a3.2) u3 (g3.now (hC55.keep.then hB38)) x31 hr25) ?_
   rintro v31 w44 ⟨hB37, F19, hv27, hn16, hb16⟩
   refine WL_nil ?_
   exact FinE_own hB37 rfl rfl hv27 hn16 hb16 (Val.inh hv27)
  exact StepsE_nil
 intro w46 hB39
 refine AllE_cons rfl rfl rfl ?_
 rintro _ _ ⟨rfl, rfl⟩
 refine AllE_cons rfl rfl rfl ?_
 rintro _ _ ⟨rfl, rfl⟩
 refine AllE_cons rfl rfl rfl ?_
 intro v31 F19 hv27
 refine AllE_nil ?_
 intro hn17 hb17
 have hC56 := hC55.pushL hB39 (Bs := [Item.own v31 (x31 : ((List (Int × (List Int))) × Int))]) (Fs := [F19]) ⟨F19, _, rfl, hv27, rfl⟩ (by simpa using hn17) (fun b h => (hb17 b (by simpa using h)).1)
 obtain ⟨v33, rfl, hC57⟩ := st38_own hC56
 obtain ⟨x32, hr26, hF⟩ := bind_some hF
 refine WA_one 3 (by kernel_rfl) rfl ?_
 refine WL_call Tryz.call16 rfl rfl (c_Q_eqSource (x20.1, x20.2) v21 ((hC57.ro 11 rfl).now (Keep.refl _ _)) x31 v33 ((hC57.ro 0 rfl).now (Keep.refl _ _)) x32 hr26) ?_
 intro _ w47 hv28
 obtain ⟨rfl, hB40⟩ := res_bool hv28
 have hC58 := hC57.grow hB40
 refine WL_nil ?_
 refine WA_tk 4 (by kernel_rfl) rfl rfl (fl_not rfl) ?_
 refine WL_not rfl rfl ?_
 refine WL_nil ?_
 refine WA_done (by kernel_rfl) ?_
 refine nrm_normal ?_
 refine W_cond rfl (fun hc10 => ?_) (fun hc10 => ?_)
 ·replace hF := ite_t hF hc10
  refine W_seq_reg ?_
  refine WL_assign rfl rfl ?_
  refine WL_nil ?_
  refine W_ret ?_
  refine nrm_ret ?_
  have hq12 := Option.some.inj hF
  subst hq12
  refine fn_ret1 rfl rfl ?_
  exact ⟨_, rfl, bool_res hC58 _⟩
 replace hF := ite_f hF hc10
 refine W_skip ?_
 refine nrm_normal ?_
 refine W_seq ?_
 refine W_seq ?_
 refine W_drawn 5 rfl hmix (fun w48 hB41 => ?_)
 have hC59 := hC58.grow hB41
 obtain ⟨x33, hr27, hF⟩ := bind_some hF
 refine WA.sub (l' := [(0, u1), (1, u2), (4, (.int .i64 a5)), (5, u5), (6, (.int .i64 a7)), (9, (ptr b1 0)), (10, (ptr b2 0)), (16, (ptr b3 0)), (17, (ptr b4 0)), (18, v18), (19, v19), (20, (ptr b7 0)), (21, (ptr b8 0)), (22, v24), (23, (ptr b9 0)), (24, (ptr b10 0)), (99, (.bool x24)), (100, v18), (101, u1), (102, v29), (103, (.bool x28)), (104, (.bool (!x28))), (105, v19), (106, u2), (107, v30), (108, (.bool x30)), (109, (.bool (!x30))), (110, (.agg #[v21, (.int .i64 x20.2)])), (111, (.agg #[u3, (.int .i64 a3.2)])), (112, (.agg #[v33, (.int .i64 x31.2)])), (113, (.bool x32)), (114, (.bool (!x32)))]) ?_ ⟨rfl, rfl, rfl, rfl, rfl, rfl, rfl, rfl, rfl, rfl, rfl, rfl, rfl, rfl, rfl, rfl, rfl, rfl, rfl, rfl, rfl, rfl, rfl, rfl, rfl, rfl, rfl, rfl, rfl, rfl, rfl, rfl, trivial⟩
 refine WA_postsE [⟨0, [], fun vs => PW.val (.agg #[(.int .i64 x21.1), v23]), []⟩, ⟨1, [], fun vs => PW.val (.agg #[(.int .i64 a4.1), u4]), []⟩, ⟨2, [], fun vs => PW.own x33, []⟩] [[], [], [1]] 2 rfl (by kernel_rfl) (by kernel_rfl) rfl ?_ ?_
 ·refine StepsE_cons rfl ?_ ?_
  ·intro w50 hB43
   refine DepsE_nil ?_
   refine ⟨_, rfl, ?_⟩
   refine WL_load_box_agg [(.int .i64 x21.1), v23] (hC59.grow hB43) 8 rfl rfl rfl Tryz.isAgg45 Tryz.sizeOf45 rfl rfl ?_
   refine WL_nil ?_
   exact FinE_val (Below.refl _ _) rfl rfl ⟨rfl, rfl⟩
  refine StepsE_cons rfl ?_ ?_
  ·intro w50 hB43
   refine DepsE_nil ?_
   refine ⟨_, rfl, ?_⟩
   refine WL_load_box_agg [(.int .i64 a4.1), u4] (hC59.grow hB43) 18 rfl rfl rfl Tryz.isAgg28 Tryz.sizeOf28 rfl rfl ?_
   refine WL_nil ?_
   exact FinE_val (Below.refl _ _) rfl rfl ⟨rfl, rfl⟩
  refine StepsE_cons rfl ?_ ?_
  ·intro w50 hB43
   refine DepsE_cons rfl rfl rfl ?_
   rintro _ _ ⟨rfl, rfl⟩ _
   refine DepsE_nil ?_
   refine ⟨_, rfl, ?_⟩
   refine WL_call Tryz.call12 rfl rfl (c_Q_toAccess (a4.1, a4.2) u4 (g4.now (hC59.keep.then hB43)) x33 hr27) ?_
   rintro v34 w49 ⟨hB42, F20, hv29, hn18, hb18⟩
   refine WL_nil ?_
   exact FinE_own hB42 rfl rfl hv29 hn18 hb18 (Val.inh hv29)
  exact StepsE_nil
 intro w51 hB44
 refine AllE_cons rfl rfl rfl ?_
 rintro _ _ ⟨rfl, rfl⟩
 refine AllE_cons rfl rfl rfl ?_
 rintro _ _ ⟨rfl, rfl⟩
 refine AllE_cons rfl rfl rfl ?_
 intro v34 F20 hv29
 refine AllE_nil ?_
 intro hn19 hb19
 have hC60 := hC59.pushL hB44 (Bs := [Item.own v34 (x33 : (Int × (List Int)))]) (Fs := [F20]) ⟨F20, _, rfl, hv29, rfl⟩ (by simpa using hn19) (fun b h => (hb19 b (by simpa using h)).1)
 obtain ⟨v36, rfl, hC61⟩ := st45_own hC60
 obtain ⟨x34, hr28, hF⟩ := bind_some hF
 refine WA_one 3 (by kernel_rfl) rfl ?_
 refine WL_call Tryz.call19 rfl rfl (c_Q_eqAccess (x21.1, x21.2) v23 ((hC61.ro 10 rfl).now (Keep.refl _ _)) x33 v36 ((hC61.ro 0 rfl).now (Keep.refl _ _)) x34 hr28) ?_
 intro _ w52 hv30
 obtain ⟨rfl, hB45⟩ := res_bool hv30
 have hC62 := hC61.grow hB45
 refine WL_nil ?_
 refine WA_tk 4 (by kernel_rfl) rfl rfl (fl_not rfl) ?_
 refine WL_not rfl rfl ?_
 refine WL_nil ?_
 refine WA_done (by kernel_rfl) ?_
 refine nrm_normal ?_
 refine W_cond rfl (fun hc11 => ?_) (fun hc11 => ?_)
 ·replace hF := ite_t hF hc11
  refine W_seq_reg ?_
  refine WL_assign rfl rfl ?_
  refine WL_nil ?_
  refine W_ret ?_
  refine nrm_ret ?_
  have hq13 := Option.some.inj hF
  subst hq13
  refine fn_ret1 rfl rfl ?_
  exact ⟨_, rfl, bool_res hC62 _⟩
 replace hF := ite_f hF hc11
 refine W_skip ?_
 refine nrm_normal ?_
 refine W_seq ?_
 refine W_seq_reg ?_
 refine WL_move rfl rfl ?_
 refine WL_move rfl rfl ?_
 obtain ⟨x35, hr29, hF⟩ := bind_some hF
 refine WL_call Tryz.call13 rfl rfl (c_Q_toChangeS a6 u5 (g5.now hC62.keep) x35 hr29) ?_
 rintro v37 w53 ⟨hB46, F21, hv31, hn20, hb20⟩
 have hC63 := hC62.push hB46 (A := Item.own v37 x35) hv31 hn20 hb20
 obtain ⟨x36, hr30, hF⟩ := bind_some hF
 refine WL_call Tryz.call20 rfl rfl (c_Q_eqChangeS x22 v24 ((hC63.ro 9 rfl).now (Keep.refl _ _)) x35 v37 ((hC63.ro 0 rfl).now (Keep.refl _ _)) x36 hr30) ?_
 intro _ w54 hv32
 obtain ⟨rfl, hB47⟩ := res_bool hv32
 have hC64 := hC63.grow hB47
 refine WL_not rfl rfl ?_
 refine WL_nil ?_
 refine W_cond rfl (fun hc12 => ?_) (fun hc12 => ?_)
 ·replace hF := ite_t hF hc12
  refine W_seq_reg ?_
  refine WL_assign rfl rfl ?_
  refine WL_nil ?_
  refine W_ret ?_
  refine nrm_ret ?_
  have hq14 := Option.some.inj hF
  subst hq14
  refine fn_ret1 rfl rfl ?_
  exact ⟨_, rfl, bool_res hC64 _⟩
 replace hF := ite_f hF hc12
 refine W_skip ?_
 refine nrm_normal ?_
 refine W_seq_reg ?_
 refine WL_assign rfl rfl ?_
 refine WL_nil ?_
 refine W_seq_reg ?_
 refine WL_move rfl rfl ?_
 refine WL_move rfl rfl ?_
 obtain ⟨x37, hr31, hF⟩ := bind_some hF
 have hC65 := hC64.f15
 obtain ⟨Fs1, hH1, hn21, hF1, hO1, hb21⟩ := Ctx.lend2 (As := [Item.own v37 (x35 : (List (Bool × (Int × (List Int))))), Item.own v36 (x33.2 : (List Int)), Item.own v33 (x31.1 : (List (Int × (List Int)))), Item.own v30 (x29 : (List (Int × (List Int) × Int × Int × Int))), Item.own v29 (x27 : (List Int)), Item.box b10 [v28, (.int .i64 x23.2.2)], Item.box b9 [v27, (.int .i64 x23.1.2.1), (.int .i64 x23.1.2.2.1), (.int .i64 x23.1.2.2.2.1), (.bool x23.1.2.2.2.2)], Item.own v28 (x23.2.1 : (List (Int × (List Int)))), Item.own v27 (x23.1.1 : (List (Int × (List Int)))), Item.own v24 (x22 : (List (Bool × (Int × (List Int))))), Item.box b8 [(.int .i64 x21.1), v23], Item.own v23 (x21.2 : (List Int)), Item.box b7 [v21, (.int .i64 x20.2)], Item.own v21 (x20.1 : (List (Int × (List Int)))), Item.own v19 (x19 : (List (Int × (List Int) × Int × Int × Int))), Item.box b4 [v2, (.int .i64 x11)], Item.own v2 (x10 : (List (Int × (List Int)))), Item.box b3 [v1, (.int .i64 x6), (.int .i64 x7), (.int .i64 x8), (.bool x9)], Item.own v1 (x5 : (List (Int × (List Int)))), Item.box b2 [(.int .i64 a4.1), u4], Item.box b1 [u3, (.int .i64 a3.2)]]) [Item.own v18 (x18 : (List Int))] hC65
 refine WL_call Tryz.call21 rfl rfl (c_Q_markIntS x18 v18 1 hH1 hn21 x37 hr31) ?_
 rintro _ w55 ⟨rfl, hq15⟩
 have hC66 : Ctx [] w0 w55 [Item.own v18 (x37.2 : (List Int)), Item.own v37 (x35 : (List (Bool × (Int × (List Int))))), Item.own v36 (x33.2 : (List Int)), Item.own v33 (x31.1 : (List (Int × (List Int)))), Item.own v30 (x29 : (List (Int × (List Int) × Int × Int × Int))), Item.own v29 (x27 : (List Int)), Item.box b10 [v28, (.int .i64 x23.2.2)], Item.box b9 [v27, (.int .i64 x23.1.2.1), (.int .i64 x23.1.2.2.1), (.int .i64 x23.1.2.2.2.1), (.bool x23.1.2.2.2.2)], Item.own v28 (x23.2.1 : (List (Int × (List Int)))), Item.own v27 (x23.1.1 : (List (Int × (List Int)))), Item.own v24 (x22 : (List (Bool × (Int × (List Int))))), Item.box b8 [(.int .i64 x21.1), v23], Item.own v23 (x21.2 : (List Int)), Item.box b7 [v21, (.int .i64 x20.2)], Item.own v21 (x20.1 : (List (Int × (List Int)))), Item.own v19 (x19 : (List (Int × (List Int) × Int × Int × Int))), Item.box b4 [v2, (.int .i64 x11)], Item.own v2 (x10 : (List (Int × (List Int)))), Item.box b3 [v1, (.int .i64 x6), (.int .i64 x7), (.int .i64 x8), (.bool x9)], Item.own v1 (x5 : (List (Int × (List Int)))), Item.box b2 [(.int .i64 a4.1), u4], Item.box b1 [u3, (.int .i64 a3.2)]] := hb21 _ _ hq15
 refine WL_assign rfl rfl ?_
 refine WL_nil ?_
 refine W_seq_reg ?_
 refine WL_move rfl rfl ?_
 refine WL_move rfl rfl ?_
 obtain ⟨x38, hr32, hF⟩ := bind_some hF
 have hC67 := hC66.f15
 obtain ⟨Fs2, hH2, hn22, hF2, hO2, hb22⟩ := Ctx.lend2 (As := [Item.own v18 (x37.2 : (List Int)), Item.own v37 (x35 : (List (Bool × (Int × (List Int))))), Item.own v36 (x33.2 : (List Int)), Item.own v33 (x31.1 : (List (Int × (List Int)))), Item.own v30 (x29 : (List (Int × (List Int) × Int × Int × Int))), Item.own v29 (x27 : (List Int)), Item.box b10 [v28, (.int .i64 x23.2.2)], Item.box b9 [v27, (.int .i64 x23.1.2.1), (.int .i64 x23.1.2.2.1), (.int .i64 x23.1.2.2.2.1), (.bool x23.1.2.2.2.2)], Item.own v28 (x23.2.1 : (List (Int × (List Int)))), Item.own v27 (x23.1.1 : (List (Int × (List Int)))), Item.own v24 (x22 : (List (Bool × (Int × (List Int))))), Item.box b8 [(.int .i64 x21.1), v23], Item.own v23 (x21.2 : (List Int)), Item.box b7 [v21, (.int .i64 x20.2)], Item.own v21 (x20.1 : (List (Int × (List Int)))), Item.box b4 [v2, (.int .i64 x11)], Item.own v2 (x10 : (List (Int × (List Int)))), Item.box b3 [v1, (.int .i64 x6), (.int .i64 x7), (.int .i64 x8), (.bool x9)], Item.own v1 (x5 : (List (Int × (List Int)))), Item.box b2 [(.int .i64 a4.1), u4], Item.box b1 [u3, (.int .i64 a3.2)]]) [Item.own v19 (x19 : (List (Int × (List Int) × Int × Int × Int)))] hC67
 refine WL_call Tryz.call22 rfl rfl (c_Q_markMethodS x19 v19 x37.1 hH2 hn22 x38 hr32) ?_
 rintro _ w56 ⟨rfl, hq16⟩
 have hC68 : Ctx [] w0 w56 [Item.own v19 (x38.2 : (List (Int × (List Int) × Int × Int × Int))), Item.own v18 (x37.2 : (List Int)), Item.own v37 (x35 : (List (Bool × (Int × (List Int))))), Item.own v36 (x33.2 : (List Int)), Item.own v33 (x31.1 : (List (Int × (List Int)))), Item.own v30 (x29 : (List (Int × (List Int) × Int × Int × Int))), Item.own v29 (x27 : (List Int)), Item.box b10 [v28, (.int .i64 x23.2.2)], Item.box b9 [v27, (.int .i64 x23.1.2.1), (.int .i64 x23.1.2.2.1), (.int .i64 x23.1.2.2.2.1), (.bool x23.1.2.2.2.2)], Item.own v28 (x23.2.1 : (List (Int × (List Int)))), Item.own v27 (x23.1.1 : (List (Int × (List Int)))), Item.own v24 (x22 : (List (Bool × (Int × (List Int))))), Item.box b8 [(.int .i64 x21.1), v23], Item.own v23 (x21.2 : (List Int)), Item.box b7 [v21, (.int .i64 x20.2)], Item.own v21 (x20.1 : (List (Int × (List Int)))), Item.box b4 [v2, (.int .i64 x11)], Item.own v2 (x10 : (List (Int × (List Int)))), Item.box b3 [v1, (.int .i64 x6), (.int .i64 x7), (.int .i64 x8), (.bool x9)], Item.own v1 (x5 : (List (Int × (List Int)))), Item.box b2 [(.int .i64 a4.1), u4], Item.box b1 [u3, (.int .i64 a3.2)]] := hb22 _ _ hq16
 refine WL_assign rfl rfl ?_
 refine WL_nil ?_
 refine W_seq_reg ?_
 refine WL_load_box_agg [v21, (.int .i64 x20.2)] hC68 14 rfl rfl rfl Tryz.isAgg38 Tryz.sizeOf38 rfl rfl ?_
 refine WL_move rfl rfl ?_
 obtain ⟨x39, hr33, hF⟩ := bind_some hF
 have hC69 := hC68.f15
 obtain ⟨Fs3, hH3, hn23, hF3, hO3, hb23⟩ := Ctx.lend2 (As := [Item.own v19 (x38.2 : (List (Int × (List Int) × Int × Int × Int))), Item.own v18 (x37.2 : (List Int)), Item.own v37 (x35 : (List (Bool × (Int × (List Int))))), Item.own v36 (x33.2 : (List Int)), Item.own v33 (x31.1 : (List (Int × (List Int)))), Item.own v30 (x29 : (List (Int × (List Int) × Int × Int × Int))), Item.own v29 (x27 : (List Int)), Item.box b10 [v28, (.int .i64 x23.2.2)], Item.box b9 [v27, (.int .i64 x23.1.2.1), (.int .i64 x23.1.2.2.1), (.int .i64 x23.1.2.2.2.1), (.bool x23.1.2.2.2.2)], Item.own v28 (x23.2.1 : (List (Int × (List Int)))), Item.own v27 (x23.1.1 : (List (Int × (List Int)))), Item.own v24 (x22 : (List (Bool × (Int × (List Int))))), Item.box b8 [(.int .i64 x21.1), v23], Item.own v23 (x21.2 : (List Int)), Item.box b7 [v21, (.int .i64 x20.2)], Item.box b4 [v2, (.int .i64 x11)], Item.own v2 (x10 : (List (Int × (List Int)))), Item.box b3 [v1, (.int .i64 x6), (.int .i64 x7), (.int .i64 x8), (.bool x9)], Item.own v1 (x5 : (List (Int × (List Int)))), Item.box b2 [(.int .i64 a4.1), u4], Item.box b1 [u3, (.int .i64 a3.2)]]) [Item.own v21 (x20.1 : (List (Int × (List Int))))] hC69
 refine WL_call Tryz.call23 rfl rfl (c_Q_markSource (x20.1, x20.2) v21 x38.1 hH3 hn23 x39 hr33) ?_
 rintro _ w57 ⟨rfl, hq17⟩
 have hC70 : Ctx [] w0 w57 [Item.own v21 (x39.2.1 : (List (Int × (List Int)))), Item.own v19 (x38.2 : (List (Int × (List Int) × Int × Int × Int))), Item.own v18 (x37.2 : (List Int)), Item.own v37 (x35 : (List (Bool × (Int × (List Int))))), Item.own v36 (x33.2 : (List Int)), Item.own v33 (x31.1 : (List (Int × (List Int)))), Item.own v30 (x29 : (List (Int × (List Int) × Int × Int × Int))), Item.own v29 (x27 : (List Int)), Item.box b10 [v28, (.int .i64 x23.2.2)], Item.box b9 [v27, (.int .i64 x23.1.2.1), (.int .i64 x23.1.2.2.1), (.int .i64 x23.1.2.2.2.1), (.bool x23.1.2.2.2.2)], Item.own v28 (x23.2.1 : (List (Int × (List Int)))), Item.own v27 (x23.1.1 : (List (Int × (List Int)))), Item.own v24 (x22 : (List (Bool × (Int × (List Int))))), Item.box b8 [(.int .i64 x21.1), v23], Item.own v23 (x21.2 : (List Int)), Item.box b7 [v21, (.int .i64 x20.2)], Item.box b4 [v2, (.int .i64 x11)], Item.own v2 (x10 : (List (Int × (List Int)))), Item.box b3 [v1, (.int .i64 x6), (.int .i64 x7), (.int .i64 x8), (.bool x9)], Item.own v1 (x5 : (List (Int × (List Int)))), Item.box b2 [(.int .i64 a4.1), u4], Item.box b1 [u3, (.int .i64 a3.2)]] := hb23 _ _ hq17
 refine WL_assign rfl rfl ?_
 refine WL_nil ?_
 refine W_seq_reg ?_
 refine WL_load_box_agg [(.int .i64 x21.1), v23] hC70 13 rfl rfl rfl Tryz.isAgg45 Tryz.sizeOf45 rfl rfl ?_
 refine WL_move rfl rfl ?_
 obtain ⟨x40, hr34, hF⟩ := bind_some hF
 have hC71 := hC70.f14
 obtain ⟨Fs4, hH4, hn24, hF4, hO4, hb24⟩ := Ctx.lend2 (As := [Item.own v21 (x39.2.1 : (List (Int × (List Int)))), Item.own v19 (x38.2 : (List (Int × (List Int) × Int × Int × Int))), Item.own v18 (x37.2 : (List Int)), Item.own v37 (x35 : (List (Bool × (Int × (List Int))))), Item.own v36 (x33.2 : (List Int)), Item.own v33 (x31.1 : (List (Int × (List Int)))), Item.own v30 (x29 : (List (Int × (List Int) × Int × Int × Int))), Item.own v29 (x27 : (List Int)), Item.box b10 [v28, (.int .i64 x23.2.2)], Item.box b9 [v27, (.int .i64 x23.1.2.1), (.int .i64 x23.1.2.2.1), (.int .i64 x23.1.2.2.2.1), (.bool x23.1.2.2.2.2)], Item.own v28 (x23.2.1 : (List (Int × (List Int)))), Item.own v27 (x23.1.1 : (List (Int × (List Int)))), Item.own v24 (x22 : (List (Bool × (Int × (List Int))))), Item.box b8 [(.int .i64 x21.1), v23], Item.box b7 [v21, (.int .i64 x20.2)], Item.box b4 [v2, (.int .i64 x11)], Item.own v2 (x10 : (List (Int × (List Int)))), Item.box b3 [v1, (.int .i64 x6), (.int .i64 x7), (.int .i64 x8), (.bool x9)], Item.own v1 (x5 : (List (Int × (List Int)))), Item.box b2 [(.int .i64 a4.1), u4], Item.box b1 [u3, (.int .i64 a3.2)]]) [Item.own v23 (x21.2 : (List Int))] hC71
 refine WL_call Tryz.call24 rfl rfl (c_Q_markAccess (x21.1, x21.2) v23 x39.1 hH4 hn24 x40 hr34) ?_
 rintro _ w58 ⟨rfl, hq18⟩
 have hC72 : Ctx [] w0 w58 [Item.own v23 (x40.2.2 : (List Int)), Item.own v21 (x39.2.1 : (List (Int × (List Int)))), Item.own v19 (x38.2 : (List (Int × (List Int) × Int × Int × Int))), Item.own v18 (x37.2 : (List Int)), Item.own v37 (x35 : (List (Bool × (Int × (List Int))))), Item.own v36 (x33.2 : (List Int)), Item.own v33 (x31.1 : (List (Int × (List Int)))), Item.own v30 (x29 : (List (Int × (List Int) × Int × Int × Int))), Item.own v29 (x27 : (List Int)), Item.box b10 [v28, (.int .i64 x23.2.2)], Item.box b9 [v27, (.int .i64 x23.1.2.1), (.int .i64 x23.1.2.2.1), (.int .i64 x23.1.2.2.2.1), (.bool x23.1.2.2.2.2)], Item.own v28 (x23.2.1 : (List (Int × (List Int)))), Item.own v27 (x23.1.1 : (List (Int × (List Int)))), Item.own v24 (x22 : (List (Bool × (Int × (List Int))))), Item.box b8 [(.int .i64 x21.1), v23], Item.box b7 [v21, (.int .i64 x20.2)], Item.box b4 [v2, (.int .i64 x11)], Item.own v2 (x10 : (List (Int × (List Int)))), Item.box b3 [v1, (.int .i64 x6), (.int .i64 x7), (.int .i64 x8), (.bool x9)], Item.own v1 (x5 : (List (Int × (List Int)))), Item.box b2 [(.int .i64 a4.1), u4], Item.box b1 [u3, (.int .i64 a3.2)]] := hb24 _ _ hq18
 refine WL_assign rfl rfl ?_
 refine WL_nil ?_
 refine W_seq_reg ?_
 refine WL_move rfl rfl ?_
 refine WL_move rfl rfl ?_
 obtain ⟨x41, hr35, hF⟩ := bind_some hF
 have hC73 := hC72.f13
 obtain ⟨Fs5, hH5, hn25, hF5, hO5, hb25⟩ := Ctx.lend2 (As := [Item.own v23 (x40.2.2 : (List Int)), Item.own v21 (x39.2.1 : (List (Int × (List Int)))), Item.own v19 (x38.2 : (List (Int × (List Int) × Int × Int × Int))), Item.own v18 (x37.2 : (List Int)), Item.own v37 (x35 : (List (Bool × (Int × (List Int))))), Item.own v36 (x33.2 : (List Int)), Item.own v33 (x31.1 : (List (Int × (List Int)))), Item.own v30 (x29 : (List (Int × (List Int) × Int × Int × Int))), Item.own v29 (x27 : (List Int)), Item.box b10 [v28, (.int .i64 x23.2.2)], Item.box b9 [v27, (.int .i64 x23.1.2.1), (.int .i64 x23.1.2.2.1), (.int .i64 x23.1.2.2.2.1), (.bool x23.1.2.2.2.2)], Item.own v28 (x23.2.1 : (List (Int × (List Int)))), Item.own v27 (x23.1.1 : (List (Int × (List Int)))), Item.box b8 [(.int .i64 x21.1), v23], Item.box b7 [v21, (.int .i64 x20.2)], Item.box b4 [v2, (.int .i64 x11)], Item.own v2 (x10 : (List (Int × (List Int)))), Item.box b3 [v1, (.int .i64 x6), (.int .i64 x7), (.int .i64 x8), (.bool x9)], Item.own v1 (x5 : (List (Int × (List Int)))), Item.box b2 [(.int .i64 a4.1), u4], Item.box b1 [u3, (.int .i64 a3.2)]]) [Item.own v24 (x22 : (List (Bool × (Int × (List Int)))))] hC73
 refine WL_call Tryz.call25 rfl rfl (c_Q_markChangeS x22 v24 x40.1 hH5 hn25 x41 hr35) ?_
 rintro _ w59 ⟨rfl, hq19⟩
 have hC74 : Ctx [] w0 w59 [Item.own v24 (x41.2 : (List (Bool × (Int × (List Int))))), Item.own v23 (x40.2.2 : (List Int)), Item.own v21 (x39.2.1 : (List (Int × (List Int)))), Item.own v19 (x38.2 : (List (Int × (List Int) × Int × Int × Int))), Item.own v18 (x37.2 : (List Int)), Item.own v37 (x35 : (List (Bool × (Int × (List Int))))), Item.own v36 (x33.2 : (List Int)), Item.own v33 (x31.1 : (List (Int × (List Int)))), Item.own v30 (x29 : (List (Int × (List Int) × Int × Int × Int))), Item.own v29 (x27 : (List Int)), Item.box b10 [v28, (.int .i64 x23.2.2)], Item.box b9 [v27, (.int .i64 x23.1.2.1), (.int .i64 x23.1.2.2.1), (.int .i64 x23.1.2.2.2.1), (.bool x23.1.2.2.2.2)], Item.own v28 (x23.2.1 : (List (Int × (List Int)))), Item.own v27 (x23.1.1 : (List (Int × (List Int)))), Item.box b8 [(.int .i64 x21.1), v23], Item.box b7 [v21, (.int .i64 x20.2)], Item.box b4 [v2, (.int .i64 x11)], Item.own v2 (x10 : (List (Int × (List Int)))), Item.box b3 [v1, (.int .i64 x6), (.int .i64 x7), (.int .i64 x8), (.bool x9)], Item.own v1 (x5 : (List (Int × (List Int)))), Item.box b2 [(.int .i64 a4.1), u4], Item.box b1 [u3, (.int .i64 a3.2)]] := hb25 _ _ hq19
 refine WL_assign rfl rfl ?_
 refine WL_nil ?_
 refine W_seq ?_
 obtain ⟨r3, hr36, hF⟩ := bind_some hF
 refine W_cut (fun l w => ∃ x42 : Bool, x42 = r3 ∧ l = [(0, u1), (1, u2), (4, (.int .i64 a5)), (5, u5), (6, (.int .i64 a7)), (9, (ptr b1 0)), (10, (ptr b2 0)), (16, (ptr b3 0)), (17, (ptr b4 0)), (23, (ptr b9 0)), (24, (ptr b10 0)), (153, (.bool x42))] ∧ Below w59.heap.size w59 w ∧ Ctx [] w0 w [Item.box b10 [v28, (.int .i64 x23.2.2)], Item.box b9 [v27, (.int .i64 x23.1.2.1), (.int .i64 x23.1.2.2.1), (.int .i64 x23.1.2.2.2.1), (.bool x23.1.2.2.2.2)], Item.own v28 (x23.2.1 : (List (Int × (List Int)))), Item.own v27 (x23.1.1 : (List (Int × (List Int)))), Item.box b4 [v2, (.int .i64 x11)], Item.own v2 (x10 : (List (Int × (List Int)))), Item.box b3 [v1, (.int .i64 x6), (.int .i64 x7), (.int .i64 x8), (.bool x9)], Item.own v1 (x5 : (List (Int × (List Int)))), Item.box b2 [(.int .i64 a4.1), u4], Item.box b1 [u3, (.int .i64 a3.2)]]) ?_ ?_
 ·refine W_reg ?_
  refine WL_move rfl rfl ?_
  refine WL_lss rfl rfl rfl ?_
  refine WL_move rfl rfl ?_
  refine WL_fork (fun hc13 => ?_) (fun hc13 => ?_)
  ·replace hr36 := ite_t hr36 hc13
   refine WL_guard_skip rfl rfl (by simp) rfl ?_
   refine WL_guard_skip rfl rfl (by simp) rfl ?_
   refine WL_guard_skip rfl rfl (by simp) rfl ?_
   refine WL_guard_skip rfl rfl (by simp) rfl ?_
   refine WL_pick_t rfl rfl rfl ?_
   refine WL_move rfl rfl ?_
   refine WL_guard_skip rfl rfl (by simp) rfl ?_
   refine WL_guard_skip rfl rfl (by simp) rfl ?_
   refine WL_guard_skip rfl rfl (by simp) rfl ?_
   refine WL_guard_skip rfl rfl (by simp) rfl ?_
   refine WL_pick_t rfl rfl rfl ?_
   refine WL_nil ?_
   have hq20 := Option.some.inj hr36
   subst hq20
   have hC76 := hC74.f21
   have hC77 := hC76.f21
   have hC78 := hC77.f21
   have hC79 := hC78.f21
   have hC80 := hC79.f21
   have hC81 := hC80.f21
   have hC82 := hC81.f19
   have hC83 := hC82.f19
   have hC84 := hC83.f19
   have hC85 := hC84.f19
   have hC86 := hC85.h10
   refine nrm_sub (l' := [(0, u1), (1, u2), (4, (.int .i64 a5)), (5, u5), (6, (.int .i64 a7)), (9, (ptr b1 0)), (10, (ptr b2 0)), (16, (ptr b3 0)), (17, (ptr b4 0)), (23, (ptr b9 0)), (24, (ptr b10 0)), (153, (.bool true))]) ⟨rfl, rfl, rfl, rfl, rfl, rfl, rfl, rfl, rfl, rfl, rfl, rfl, trivial⟩ ?_
   exact ⟨true, rfl, rfl, (Below.refl _ _), hC86⟩
  replace hr36 := ite_f hr36 hc13
  refine WL_guard rfl rfl ?_
  refine WL_load_box_agg [v27, (.int .i64 x23.1.2.1), (.int .i64 x23.1.2.2.1), (.int .i64 x23.1.2.2.2.1), (.bool x23.1.2.2.2.2)] hC74 11 rfl rfl rfl Tryz.isAgg36 Tryz.sizeOf36 rfl rfl ?_
  refine WL_guard rfl rfl ?_
  refine WL_load_box_agg [v1, (.int .i64 x6), (.int .i64 x7), (.int .i64 x8), (.bool x9)] hC74 18 rfl rfl rfl Tryz.isAgg36 Tryz.sizeOf36 rfl rfl ?_
  obtain ⟨x43, hr37, hr36⟩ := bind_some hr36
  refine WL_guard rfl rfl ?_
  refine WL_call Tryz.call15 rfl rfl (c_Q_eqReading (x23.1.1, x23.1.2.1, x23.1.2.2.1, x23.1.2.2.2.1, x23.1.2.2.2.2) v27 ((hC74.ro 13 rfl).now (Keep.refl _ _)) (x5, x6, x7, x8, x9) v1 ((hC74.ro 19 rfl).now (Keep.refl _ _)) x43 hr37) ?_
  intro _ w61 hv33
  obtain ⟨rfl, hB49⟩ := res_bool hv33
  have hC87 := hC74.grow hB49
  refine WL_guard rfl rfl ?_
  refine WL_not rfl rfl ?_
  refine WL_pick_f rfl rfl rfl ?_
  refine WL_move rfl rfl ?_
  refine WL_fork (fun hc14 => ?_) (fun hc14 => ?_)
  ·replace hr36 := ite_t hr36 hc14
   refine WL_guard_skip rfl rfl (by simp) rfl ?_
   refine WL_guard_skip rfl rfl (by simp) rfl ?_
   refine WL_guard_skip rfl rfl (by simp) rfl ?_
   refine WL_guard_skip rfl rfl (by simp) rfl ?_
   refine WL_pick_t rfl rfl rfl ?_
   refine WL_nil ?_
   have hq21 := Option.some.inj hr36
   subst hq21
   have hC88 := hC87.f21
   have hC89 := hC88.f21
   have hC90 := hC89.f21
   have hC91 := hC90.f21
   have hC92 := hC91.f21
   have hC93 := hC92.f21
   have hC94 := hC93.f19
   have hC95 := hC94.f19
   have hC96 := hC95.f19
   have hC97 := hC96.f19
   have hC98 := hC97.h10
   refine nrm_sub (l' := [(0, u1), (1, u2), (4, (.int .i64 a5)), (5, u5), (6, (.int .i64 a7)), (9, (ptr b1 0)), (10, (ptr b2 0)), (16, (ptr b3 0)), (17, (ptr b4 0)), (23, (ptr b9 0)), (24, (ptr b10 0)), (153, (.bool true))]) ⟨rfl, rfl, rfl, rfl, rfl, rfl, rfl, rfl, rfl, rfl, rfl, rfl, trivial⟩ ?_
   exact ⟨true, rfl, rfl, (Keep.of hB49).below, hC98⟩
  replace hr36 := ite_f hr36 hc14
  refine WL_guard rfl rfl ?_
  refine WL_load_box_agg [v28, (.int .i64 x23.2.2)] hC87 10 rfl rfl rfl Tryz.isAgg38 Tryz.sizeOf38 rfl rfl ?_
  refine WL_guard rfl rfl ?_
  refine WL_load_box_agg [v2, (.int .i64 x11)] hC87 16 rfl rfl rfl Tryz.isAgg38 Tryz.sizeOf38 rfl rfl ?_
  obtain ⟨x44, hr38, hr36⟩ := bind_some hr36
  refine WL_guard rfl rfl ?_
  refine WL_call Tryz.call16 rfl rfl (c_Q_eqSource (x23.2.1, x23.2.2) v28 ((hC87.ro 12 rfl).now (Keep.refl _ _)) (x10, x11) v2 ((hC87.ro 17 rfl).now (Keep.refl _ _)) x44 hr38) ?_
  intro _ w62 hv34
  obtain ⟨rfl, hB50⟩ := res_bool hv34
  have hC99 := hC87.grow hB50
  refine WL_guard rfl rfl ?_
  refine WL_not rfl rfl ?_
  refine WL_pick_f rfl rfl rfl ?_
  refine WL_nil ?_
  have hq22 := Option.some.inj hr36
  subst hq22
  have hC100 := hC99.f21
  have hC101 := hC100.f21
  have hC102 := hC101.f21
  have hC103 := hC102.f21
  have hC104 := hC103.f21
  have hC105 := hC104.f21
  have hC106 := hC105.f19
  have hC107 := hC106.f19
  have hC108 := hC107.f19
  have hC109 := hC108.f19
  have hC110 := hC109.h10
  refine nrm_sub (l' := [(0, u1), (1, u2), (4, (.int .i64 a5)), (5, u5), (6, (.int .i64 a7)), (9, (ptr b1 0)), (10, (ptr b2 0)), (16, (ptr b3 0)), (17, (ptr b4 0)), (23, (ptr b9 0)), (24, (ptr b10 0)), (153, (.bool (!x44)))]) ⟨rfl, rfl, rfl, rfl, rfl, rfl, rfl, rfl, rfl, rfl, rfl, rfl, trivial⟩ ?_
  exact ⟨(!x44), rfl, rfl, ((Keep.of hB49).then hB50).below, hC110⟩
 rintro _ w60 ⟨x42, rfl, rfl, hB48, hC75⟩
 try dsimp only at hF
 refine W_cond rfl (fun hc15 => ?_) (fun hc15 => ?_)
 ·replace hF := ite_t hF hc15
  refine W_seq_reg ?_
  refine WL_assign rfl rfl ?_
  refine WL_nil ?_
  refine W_ret ?_
  refine nrm_ret ?_
  have hq23 := Option.some.inj hF
  subst hq23
  refine fn_ret1 rfl rfl ?_
  exact ⟨_, rfl, bool_res hC75 _⟩
 replace hF := ite_f hF hc15
 refine W_skip ?_
 refine nrm_normal ?_
 refine W_seq_reg ?_
 refine WL_assign rfl rfl ?_
 refine WL_nil ?_
 refine W_seq_reg ?_
 refine WL_load_box_agg [v27, (.int .i64 x23.1.2.1), (.int .i64 x23.1.2.2.1), (.int .i64 x23.1.2.2.2.1), (.bool x23.1.2.2.2.2)] hC75 1 rfl rfl rfl Tryz.isAgg36 Tryz.sizeOf36 rfl rfl ?_
 refine WL_move rfl rfl ?_
 obtain ⟨x45, hr39, hF⟩ := bind_some hF
 have hC111 := hC75.f3
 obtain ⟨Fs6, hH6, hn26, hF6, hO6, hb26⟩ := Ctx.lend2 (As := [Item.box b10 [v28, (.int .i64 x23.2.2)], Item.box b9 [v27, (.int .i64 x23.1.2.1), (.int .i64 x23.1.2.2.1), (.int .i64 x23.1.2.2.2.1), (.bool x23.1.2.2.2.2)], Item.own v28 (x23.2.1 : (List (Int × (List Int)))), Item.box b4 [v2, (.int .i64 x11)], Item.own v2 (x10 : (List (Int × (List Int)))), Item.box b3 [v1, (.int .i64 x6), (.int .i64 x7), (.int .i64 x8), (.bool x9)], Item.own v1 (x5 : (List (Int × (List Int)))), Item.box b2 [(.int .i64 a4.1), u4], Item.box b1 [u3, (.int .i64 a3.2)]]) [Item.own v27 (x23.1.1 : (List (Int × (List Int))))] hC111
 refine WL_call Tryz.call26 rfl rfl (c_Q_markReading (x23.1.1, x23.1.2.1, x23.1.2.2.1, x23.1.2.2.2.1, x23.1.2.2.2.2) v27 1 hH6 hn26 x45 hr39) ?_
 rintro _ w63 ⟨rfl, hq24⟩
 have hC112 : Ctx [] w0 w63 [Item.own v27 (x45.2.1 : (List (Int × (List Int)))), Item.box b10 [v28, (.int .i64 x23.2.2)], Item.box b9 [v27, (.int .i64 x23.1.2.1), (.int .i64 x23.1.2.2.1), (.int .i64 x23.1.2.2.2.1), (.bool x23.1.2.2.2.2)], Item.own v28 (x23.2.1 : (List (Int × (List Int)))), Item.box b4 [v2, (.int .i64 x11)], Item.own v2 (x10 : (List (Int × (List Int)))), Item.box b3 [v1, (.int .i64 x6), (.int .i64 x7), (.int .i64 x8), (.bool x9)], Item.own v1 (x5 : (List (Int × (List Int)))), Item.box b2 [(.int .i64 a4.1), u4], Item.box b1 [u3, (.int .i64 a3.2)]] := hb26 _ _ hq24
 refine WL_assign rfl rfl ?_
 refine WL_nil ?_
 refine W_seq_reg ?_
 refine WL_load_box_agg [v28, (.int .i64 x23.2.2)] hC112 1 rfl rfl rfl Tryz.isAgg38 Tryz.sizeOf38 rfl rfl ?_
 refine WL_move rfl rfl ?_
 obtain ⟨x46, hr40, hF⟩ := bind_some hF
 have hC113 := hC112.f3
 obtain ⟨Fs7, hH7, hn27, hF7, hO7, hb27⟩ := Ctx.lend2 (As := [Item.own v27 (x45.2.1 : (List (Int × (List Int)))), Item.box b10 [v28, (.int .i64 x23.2.2)], Item.box b9 [v27, (.int .i64 x23.1.2.1), (.int .i64 x23.1.2.2.1), (.int .i64 x23.1.2.2.2.1), (.bool x23.1.2.2.2.2)], Item.box b4 [v2, (.int .i64 x11)], Item.own v2 (x10 : (List (Int × (List Int)))), Item.box b3 [v1, (.int .i64 x6), (.int .i64 x7), (.int .i64 x8), (.bool x9)], Item.own v1 (x5 : (List (Int × (List Int)))), Item.box b2 [(.int .i64 a4.1), u4], Item.box b1 [u3, (.int .i64 a3.2)]]) [Item.own v28 (x23.2.1 : (List (Int × (List Int))))] hC113
 refine WL_call Tryz.call23 rfl rfl (c_Q_markSource (x23.2.1, x23.2.2) v28 x45.1 hH7 hn27 x46 hr40) ?_
 rintro _ w65 ⟨rfl, hq25⟩
 have hC114 : Ctx [] w0 w65 [Item.own v28 (x46.2.1 : (List (Int × (List Int)))), Item.own v27 (x45.2.1 : (List (Int × (List Int)))), Item.box b10 [v28, (.int .i64 x23.2.2)], Item.box b9 [v27, (.int .i64 x23.1.2.1), (.int .i64 x23.1.2.2.1), (.int .i64 x23.1.2.2.2.1), (.bool x23.1.2.2.2.2)], Item.box b4 [v2, (.int .i64 x11)], Item.own v2 (x10 : (List (Int × (List Int)))), Item.box b3 [v1, (.int .i64 x6), (.int .i64 x7), (.int .i64 x8), (.bool x9)], Item.own v1 (x5 : (List (Int × (List Int)))), Item.box b2 [(.int .i64 a4.1), u4], Item.box b1 [u3, (.int .i64 a3.2)]] := hb27 _ _ hq25
 refine WL_assign rfl rfl ?_
 refine WL_nil ?_
 refine W_seq_reg ?_
 refine WL_assign rfl rfl ?_
 refine WL_nil ?_
 refine W_seq_reg ?_
 refine WL_load_box_agg [v27, (.int .i64 x23.1.2.1), (.int .i64 x23.1.2.2.1), (.int .i64 x23.1.2.2.2.1), (.bool x23.1.2.2.2.2)] hC114 3 rfl rfl rfl Tryz.isAgg36 Tryz.sizeOf36 rfl rfl ?_
 refine WL_move rfl rfl ?_
 obtain ⟨x47, hr41, hF⟩ := bind_some hF
 refine WL_call Tryz.call27 rfl rfl (c_Q_heldReading (x45.2.1, x23.1.2.1, x23.1.2.2.1, x23.1.2.2.2.1, x23.1.2.2.2.2) v27 ((hC114.ro 1 rfl).now (Keep.refl _ _)) 1 x47 hr41) ?_
 intro _ w66 hv35
 obtain ⟨rfl, hB51⟩ := res_int hv35
 have hC115 := hC114.grow hB51
 refine WL_assign rfl rfl ?_
 refine WL_nil ?_
 refine W_seq ?_
 refine W_seq_reg ?_
 refine WL_move rfl rfl ?_
 refine WL_lss rfl rfl rfl ?_
 refine WL_nil ?_
 refine W_cond rfl (fun hc16 => ?_) (fun hc16 => ?_)
 ·replace hF := ite_t hF hc16
  refine W_seq_reg ?_
  refine WL_assign rfl rfl ?_
  refine WL_nil ?_
  refine W_ret ?_
  refine nrm_ret ?_
  have hq26 := Option.some.inj hF
  subst hq26
  refine fn_ret1 rfl rfl ?_
  exact ⟨_, rfl, bool_res hC115 _⟩
 replace hF := ite_f hF hc16
 refine W_skip ?_
 refine nrm_normal ?_
 refine W_seq_reg ?_
 refine WL_load_box_agg [v28, (.int .i64 x23.2.2)] hC115 2 rfl rfl rfl Tryz.isAgg38 Tryz.sizeOf38 rfl rfl ?_
 refine WL_move rfl rfl ?_
 obtain ⟨x48, hr42, hF⟩ := bind_some hF
 refine WL_call Tryz.call28 rfl rfl (c_Q_heldSource (x46.2.1, x23.2.2) v28 ((hC115.ro 0 rfl).now (Keep.refl _ _)) x47 x48 hr42) ?_
 intro _ w67 hv36
 obtain ⟨rfl, hB52⟩ := res_int hv36
 have hC116 := hC115.grow hB52
 refine WL_assign rfl rfl ?_
 refine WL_nil ?_
 refine W_seq ?_
 refine W_seq_reg ?_
 refine WL_move rfl rfl ?_
 refine WL_lss rfl rfl rfl ?_
 refine WL_nil ?_
 refine W_cond rfl (fun hc17 => ?_) (fun hc17 => ?_)
 ·replace hF := ite_t hF hc17
  refine W_seq_reg ?_
  refine WL_assign rfl rfl ?_
  refine WL_nil ?_
  refine W_ret ?_
  refine nrm_ret ?_
  have hq27 := Option.some.inj hF
  subst hq27
  refine fn_ret1 rfl rfl ?_
  exact ⟨_, rfl, bool_res hC116 _⟩
 replace hF := ite_f hF hc17
 refine W_skip ?_
 refine nrm_normal ?_
 refine W_seq ?_
 refine W_seq_reg ?_
 refine WL_move rfl rfl ?_
 refine WL_move rfl rfl ?_
 refine WL_neq rfl rfl rfl ?_
 refine WL_nil ?_
 refine W_cond rfl (fun hc18 => ?_) (fun hc18 => ?_)
 ·replace hF := ite_t hF hc18
  refine W_seq_reg ?_
  refine WL_assign rfl rfl ?_
  refine WL_nil ?_
  refine W_ret ?_
  refine nrm_ret ?_
  have hq28 := Option.some.inj hF
  subst hq28
  refine fn_ret1 rfl rfl ?_
  exact ⟨_, rfl, bool_res hC116 _⟩
 replace hF := ite_f hF hc18
 refine W_skip ?_
 refine nrm_normal ?_
 obtain ⟨r4, hr43, hF⟩ := bind_some hF
 refine W_cut (fun l w => ∃ b11 : Nat, ∃ v38 : Value, ∃ x49 : (List (Int × (List Int))), ∃ x50 : Int, ∃ x51 : Int, ∃ x52 : Int, ∃ x53 : Bool, ∃ b12 : Nat, ∃ v39 : Value, ∃ x54 : (List (Int × (List Int))), ∃ x55 : Int, (x49, x50, x51, x52, x53, x54, x55) = r4 ∧ l = [(16, (ptr b3 0)), (17, (ptr b4 0)), (23, (ptr b9 0)), (24, (ptr b10 0)), (26, (.int .i64 x46.1)), (28, (ptr b11 0)), (29, (ptr b12 0))] ∧ Ctx [] w0 w [Item.box b12 [v39, (.int .i64 x55)], Item.own v39 (x54 : (List (Int × (List Int)))), Item.box b11 [v38, (.int .i64 x50), (.int .i64 x51), (.int .i64 x52), (.bool x53)], Item.own v38 (x49 : (List (Int × (List Int)))), Item.own v28 (x46.2.1 : (List (Int × (List Int)))), Item.own v27 (x45.2.1 : (List (Int × (List Int)))), Item.box b10 [v28, (.int .i64 x23.2.2)], Item.box b9 [v27, (.int .i64 x23.1.2.1), (.int .i64 x23.1.2.2.1), (.int .i64 x23.1.2.2.2.1), (.bool x23.1.2.2.2.2)], Item.box b4 [v2, (.int .i64 x11)], Item.own v2 (x10 : (List (Int × (List Int)))), Item.box b3 [v1, (.int .i64 x6), (.int .i64 x7), (.int .i64 x8), (.bool x9)], Item.own v1 (x5 : (List (Int × (List Int))))]) ?_ ?_
 ·refine W_drawn 20 rfl hmix (fun w69 hB54 => ?_)
  have hC118 := hC116.grow hB54
  refine WA_tk 0 (by kernel_rfl) rfl rfl (fl_move rfl) ?_
  refine WL_move rfl rfl ?_
  refine WL_nil ?_
  refine WA_tk 2 (by kernel_rfl) rfl rfl (fl_move rfl) ?_
  refine WL_move rfl rfl ?_
  refine WL_nil ?_
  refine WA_tk 8 (by kernel_rfl) rfl rfl (fl_move rfl) ?_
  refine WL_move rfl rfl ?_
  refine WL_nil ?_
  refine WA_tk 9 (by kernel_rfl) rfl rfl (fl_move rfl) ?_
  refine WL_move rfl rfl ?_
  refine WL_nil ?_
  refine WA_tk 11 (by kernel_rfl) rfl rfl (fl_move rfl) ?_
  refine WL_move rfl rfl ?_
  refine WL_nil ?_
  obtain ⟨x56, hr44, hr43⟩ := bind_some hr43
  obtain ⟨x57, hr45, hr43⟩ := bind_some hr43
  obtain ⟨x58, hr46, hr43⟩ := bind_some hr43
  obtain ⟨x59, hr47, hr43⟩ := bind_some hr43
  obtain ⟨x60, hr48, hr43⟩ := bind_some hr43
  obtain ⟨x61, hr49, hr43⟩ := bind_some hr43
  refine WA.sub (l' := [(0, u1), (1, u2), (4, (.int .i64 a5)), (5, u5), (6, (.int .i64 a7)), (9, (ptr b1 0)), (10, (ptr b2 0)), (16, (ptr b3 0)), (17, (ptr b4 0)), (23, (ptr b9 0)), (24, (ptr b10 0)), (26, (.int .i64 x46.1)), (27, (.int .i64 x48)), (153, (.bool x42)), (154, (.agg #[v27, (.int .i64 x23.1.2.1), (.int .i64 x23.1.2.2.1), (.int .i64 x23.1.2.2.2.1), (.bool x23.1.2.2.2.2)])), (155, (.int .i64 1)), (156, (.int .i64 x45.1)), (157, (.agg #[v28, (.int .i64 x23.2.2)])), (158, (.int .i64 x45.1)), (159, (.int .i64 x46.1)), (160, (.agg #[v27, (.int .i64 x23.1.2.1), (.int .i64 x23.1.2.2.1), (.int .i64 x23.1.2.2.2.1), (.bool x23.1.2.2.2.2)])), (161, (.int .i64 1)), (162, (.int .i64 x47)), (163, (.int .i64 x47)), (164, (.bool (decide (x47 < 0)))), (165, (.agg #[v28, (.int .i64 x23.2.2)])), (166, (.int .i64 x47)), (167, (.int .i64 x48)), (168, (.int .i64 x48)), (169, (.bool (decide (x48 < 0)))), (170, (.int .i64 x48)), (171, (.int .i64 x46.1)), (172, (.bool (!decide (x48 = x46.1)))), (174, u1), (176, u2), (182, (.int .i64 a5)), (183, u5), (185, (.int .i64 a7))]) ?_ ⟨rfl, rfl, rfl, rfl, rfl, rfl, rfl, rfl, rfl, rfl, rfl, rfl, rfl, rfl, rfl, rfl, rfl, rfl, rfl, rfl, rfl, rfl, rfl, rfl, rfl, rfl, rfl, rfl, rfl, rfl, rfl, rfl, rfl, rfl, rfl, rfl, rfl, rfl, trivial⟩
  refine WA_postsO [⟨1, [], fun vs => PW.own x56, []⟩, ⟨3, [], fun vs => PW.own x57, []⟩, ⟨4, [], fun vs => PW.val (.agg #[u3, (.int .i64 a3.2)]), []⟩, ⟨5, [], fun vs => PW.own x58, []⟩, ⟨6, [], fun vs => PW.val (.agg #[(.int .i64 a4.1), u4]), []⟩, ⟨7, [], fun vs => PW.own x59, []⟩, ⟨10, [], fun vs => PW.own x60, []⟩, ⟨12, [], fun vs => PW.own2 (x61.1 : ((List (Int × (List Int))) × Int × Int × Int × Bool)) (x61.2 : ((List (Int × (List Int))) × Int)), []⟩, ⟨13, [186], fun vs => PW.val (vs.getD 0 undef), []⟩, ⟨14, [173], fun vs => PW.comp (vs.getD 0 undef) 0, []⟩, ⟨15, [173], fun vs => PW.comp (vs.getD 0 undef) 1, []⟩, ⟨16, [], fun vs => PW.box [(.slice none 0 0), (.int .i64 0), (.int .i64 0), (.int .i64 0), (.bool false)], []⟩, ⟨17, [], fun vs => PW.box [(.slice none 0 0), (.int .i64 0)], []⟩] [[], [], [], [4], [], [6], [], [1, 3, 5, 7, 10], [12], [12, 13], [12, 13], [], []] [15] 2 rfl (by kernel_rfl) (by kernel_rfl) ?_ ⟨?_, ?_, trivial⟩
  ·refine StepsE_cons rfl ?_ ?_
   ·intro w78 hB63
    refine DepsE_nil ?_
    refine ⟨_, rfl, ?_⟩
    refine WL_call Tryz.call9 rfl rfl (c_Q_toIntS a1 u1 (g1.now (hC118.keep.then hB63)) x56 hr44) ?_
    rintro v40 w70 ⟨hB55, F22, hv37, hn28, hb28⟩
    refine WL_nil ?_
    exact FinE_own hB55 rfl rfl hv37 hn28 hb28 (Val.inh hv37)
   refine StepsE_cons rfl ?_ ?_
   ·intro w78 hB63
    refine DepsE_nil ?_
    refine ⟨_, rfl, ?_⟩
    refine WL_call Tryz.call10 rfl rfl (c_Q_toMethodS a2 u2 (g2.now (hC118.keep.then hB63)) x57 hr45) ?_
    rintro v41 w71 ⟨hB56, F23, hv38, hn29, hb29⟩
    refine WL_nil ?_
    exact FinE_own hB56 rfl rfl hv38 hn29 hb29 (Val.inh hv38)
   refine StepsE_cons rfl ?_ ?_
   ·intro w78 hB63
    refine DepsE_nil ?_
    refine ⟨_, rfl, ?_⟩
    refine WL_load_box_agg [u3, (.int .i64 a3.2)] (hC118.grow hB63) 9 rfl rfl rfl Tryz.isAgg26 Tryz.sizeOf26 rfl rfl ?_
    refine WL_nil ?_
    exact FinE_val (Below.refl _ _) rfl rfl ⟨rfl, rfl⟩
   refine StepsE_cons rfl ?_ ?_
   ·intro w78 hB63
    refine DepsE_cons rfl rfl rfl ?_
    rintro _ _ ⟨rfl, rfl⟩ _
    refine DepsE_nil ?_
    refine ⟨_, rfl, ?_⟩
    refine WL_call Tryz.call11 rfl rfl (c_Q_toSource (a3.1, a3.2) u3 (g3.now (hC118.keep.then hB63)) x58 hr46) ?_
    rintro v42 w72 ⟨hB57, F24, hv39, hn30, hb30⟩
    refine WL_nil ?_
    exact FinE_own hB57 rfl rfl hv39 hn30 hb30 (Val.inh hv39)
   refine StepsE_cons rfl ?_ ?_
   ·intro w78 hB63
    refine DepsE_nil ?_
    refine ⟨_, rfl, ?_⟩
    refine WL_load_box_agg [(.int .i64 a4.1), u4] (hC118.grow hB63) 8 rfl rfl rfl Tryz.isAgg28 Tryz.sizeOf28 rfl rfl ?_
    refine WL_nil ?_
    exact FinE_val (Below.refl _ _) rfl rfl ⟨rfl, rfl⟩
   refine StepsE_cons rfl ?_ ?_
   ·intro w78 hB63
    refine DepsE_cons rfl rfl rfl ?_
    rintro _ _ ⟨rfl, rfl⟩ _
    refine DepsE_nil ?_
    refine ⟨_, rfl, ?_⟩
    refine WL_call Tryz.call12 rfl rfl (c_Q_toAccess (a4.1, a4.2) u4 (g4.now (hC118.keep.then hB63)) x59 hr47) ?_
    rintro v44 w73 ⟨hB58, F25, hv40, hn31, hb31⟩
    refine WL_nil ?_
    exact FinE_own hB58 rfl rfl hv40 hn31 hb31 (Val.inh hv40)
   refine StepsE_cons rfl ?_ ?_
   ·intro w78 hB63
    refine DepsE_nil ?_
    refine ⟨_, rfl, ?_⟩
    refine WL_call Tryz.call13 rfl rfl (c_Q_toChangeS a6 u5 (g5.now (hC118.keep.then hB63)) x60 hr48) ?_
    rintro v46 w74 ⟨hB59, F26, hv41, hn32, hb32⟩
    refine WL_nil ?_
    exact FinE_own hB59 rfl rfl hv41 hn32 hb32 (Val.inh hv41)
   refine StepsE_cons rfl ?_ ?_
   ·intro w78 hB63
    refine DepsE_cons rfl rfl rfl ?_
    intro v40 F22 hv37 _
    refine DepsE_cons rfl rfl rfl ?_
    intro v41 F23 hv38 _
    refine DepsE_cons rfl rfl rfl ?_
    intro v42 F24 hv39 _
    obtain ⟨v43, rfl, h7⟩ := ro_st38 (ro_of_own hv39)
    refine DepsE_cons rfl rfl rfl ?_
    intro v44 F25 hv40 _
    obtain ⟨v45, rfl, h8⟩ := ro_st45 (ro_of_own hv40)
    refine DepsE_cons rfl rfl rfl ?_
    intro v46 F26 hv41 _
    refine DepsE_nil ?_
    refine ⟨_, rfl, ?_⟩
    refine WL_call Tryz.call14 rfl rfl (c_M_ReadThrough x56 v40 (ro_of_own hv37) x57 v41 (ro_of_own hv38) x58 v43 (h7.now (Keep.refl _ _)) x59 v45 (h8.now (Keep.refl _ _)) a5 x60 v46 (ro_of_own hv41) a7 x61 hr49) ?_
    rintro _ w75 ⟨hB60, v47, v48, F27, F28, rfl, hv42, hv43, hn33, hb33⟩
    refine WL_nil ?_
    exact FinE_own (F := F27 ++ F28) hB60 rfl rfl ⟨_, _, _, _, rfl, rfl, hv42, hv43⟩ (by simpa using hn33) (fun b h => hb33 b (by simpa using h)) (fun b h => by simp only [List.mem_append] at h; rcases h with h | h <;> first | exact Val.inh hv42 b h | exact Val.inh hv43 b h)
   refine StepsE_cons rfl ?_ ?_
   ·intro w78 hB63
    refine DepsE_cons rfl rfl rfl ?_
    rintro _ _ ⟨v47, v48, F27, F28, rfl, rfl, hv42, hv43⟩ _
    obtain ⟨v49, rfl, h9⟩ := ro_st36 (ro_of_own hv42)
    obtain ⟨v50, rfl, h10⟩ := ro_st38 (ro_of_own hv43)
    refine DepsE_nil ?_
    refine ⟨_, rfl, ?_⟩
    refine WL_move rfl rfl ?_
    refine WL_nil ?_
    exact FinE_val (Below.refl _ _) rfl rfl ⟨rfl, rfl⟩
   refine StepsE_cons rfl ?_ ?_
   ·intro w78 hB63
    refine DepsE_cons rfl rfl rfl ?_
    rintro _ _ ⟨v47, v48, F27, F28, rfl, rfl, hv42, hv43⟩ _
    obtain ⟨v49, rfl, h9⟩ := ro_st36 (ro_of_own hv42)
    obtain ⟨v50, rfl, h10⟩ := ro_st38 (ro_of_own hv43)
    refine DepsE_cons rfl rfl rfl ?_
    rintro _ _ ⟨rfl, rfl⟩ _
    refine DepsE_nil ?_
    refine ⟨_, rfl, ?_⟩
    refine WL_extract rfl rfl rfl ?_
    refine WL_nil ?_
    exact FinE_val (Below.refl _ _) rfl rfl ⟨⟨_, rfl, rfl⟩, rfl⟩
   refine StepsE_cons rfl ?_ ?_
   ·intro w78 hB63
    refine DepsE_cons rfl rfl rfl ?_
    rintro _ _ ⟨v47, v48, F27, F28, rfl, rfl, hv42, hv43⟩ _
    obtain ⟨v49, rfl, h9⟩ := ro_st36 (ro_of_own hv42)
    obtain ⟨v50, rfl, h10⟩ := ro_st38 (ro_of_own hv43)
    refine DepsE_cons rfl rfl rfl ?_
    rintro _ _ ⟨rfl, rfl⟩ _
    refine DepsE_nil ?_
    refine ⟨_, rfl, ?_⟩
    refine WL_extract rfl rfl rfl ?_
    refine WL_nil ?_
    exact FinE_val (Below.refl _ _) rfl rfl ⟨⟨_, rfl, rfl⟩, rfl⟩
   refine StepsE_cons rfl ?_ ?_
   ·intro w78 hB63
    refine DepsE_nil ?_
    refine ⟨_, rfl, ?_⟩
    refine WL_alloc (Ctx.start _) zero36 rfl rfl (fun b13 w76 hC119 hB61 => ?_)
    refine WL_nil ?_
    exact FinE_ctx hC119 rfl rfl (fun F h => ⟨b13, rfl, h⟩)
   refine StepsE_cons rfl ?_ ?_
   ·intro w78 hB63
    refine DepsE_nil ?_
    refine ⟨_, rfl, ?_⟩
    refine WL_alloc (Ctx.start _) zero38 rfl rfl (fun b14 w77 hC120 hB62 => ?_)
    refine WL_nil ?_
    exact FinE_ctx hC120 rfl rfl (fun F h => ⟨b14, rfl, h⟩)
   exact StepsE_nil
  ·intro g' hg'
   obtain rfl : g' = 2 := hg'
   intro w79 hB64
   refine AllE_cons rfl rfl rfl ?_
   intro v40 F22 hv37
   refine AllE_cons rfl rfl rfl ?_
   intro v41 F23 hv38
   refine AllE_cons rfl rfl rfl ?_
   rintro _ _ ⟨rfl, rfl⟩
   refine AllE_cons rfl rfl rfl ?_
   intro v42 F24 hv39
   refine AllE_cons rfl rfl rfl ?_
   rintro _ _ ⟨rfl, rfl⟩
   refine AllE_cons rfl rfl rfl ?_
   intro v44 F25 hv40
   refine AllE_cons rfl rfl rfl ?_
   intro v46 F26 hv41
   refine AllE_cons rfl rfl rfl ?_
   rintro _ _ ⟨v47, v48, F27, F28, rfl, rfl, hv42, hv43⟩
   refine AllE_cons rfl rfl rfl ?_
   rintro _ _ ⟨rfl, rfl⟩
   refine AllE_cons rfl rfl rfl ?_
   rintro _ _ ⟨⟨_, hx5, hx6⟩, rfl⟩
   obtain rfl := Value.tuple.inj hx5
   obtain rfl := Option.some.inj (show (some v47 : Option Value) = some _ from hx6)
   refine AllE_cons rfl rfl rfl ?_
   rintro _ _ ⟨⟨_, hx7, hx8⟩, rfl⟩
   obtain rfl := Value.tuple.inj hx7
   obtain rfl := Option.some.inj (show (some v48 : Option Value) = some _ from hx8)
   refine AllE_cons rfl rfl rfl ?_
   rintro _ F29 ⟨b13, rfl, hv44⟩
   refine AllE_cons rfl rfl rfl ?_
   rintro _ F30 ⟨b14, rfl, hv45⟩
   refine AllE_nil ?_
   intro hn34 hb34
   have hC121 := hC118.pushL hB64 (Bs := [Item.box b14 [(.slice none 0 0), (.int .i64 0)], Item.box b13 [(.slice none 0 0), (.int .i64 0), (.int .i64 0), (.int .i64 0), (.bool false)], Item.own v47 (x61.1 : ((List (Int × (List Int))) × Int × Int × Int × Bool)), Item.own v48 (x61.2 : ((List (Int × (List Int))) × Int)), Item.own v46 (x60 : (List (Bool × (Int × (List Int))))), Item.own v44 (x59 : (Int × (List Int))), Item.own v42 (x58 : ((List (Int × (List Int))) × Int)), Item.own v41 (x57 : (List (Int × (List Int) × Int × Int × Int))), Item.own v40 (x56 : (List Int))]) (Fs := [F30, F29, F27, F28, F26, F25, F24, F23, F22]) ⟨F30, _, rfl, hv45, F29, _, rfl, hv44, F27, _, rfl, hv42, F28, _, rfl, hv43, F26, _, rfl, hv41, F25, _, rfl, hv40, F24, _, rfl, hv39, F23, _, rfl, hv38, F22, _, rfl, hv37, rfl⟩ (by simpa using hn34) (fun b h => (hb34 b (by simpa using h)).1)
   have hC122 := hC121.f6
   obtain ⟨v51, rfl, hC123⟩ := st38_own hC122
   have hC124 := hC123.f6
   obtain ⟨v52, rfl, hC125⟩ := st45_own hC124
   have hC126 := hC125.f4
   obtain ⟨v53, rfl, hC127⟩ := st36_own hC126
   have hC128 := hC127.f5
   obtain ⟨v54, rfl, hC129⟩ := st38_own hC128
   refine WA_one 18 (by kernel_rfl) rfl ?_
   refine WL_store_box_agg (cs' := [v53, (.int .i64 x61.1.2.1), (.int .i64 x61.1.2.2.1), (.int .i64 x61.1.2.2.2.1), (.bool x61.1.2.2.2.2)]) (new := [v53, (.int .i64 x61.1.2.1), (.int .i64 x61.1.2.2.1), (.int .i64 x61.1.2.2.2.1), (.bool x61.1.2.2.2.2)]) hC129 5 rfl rfl (by intro v hv; simp only [List.mem_cons, List.not_mem_nil, or_false] at hv; rcases hv with rfl | rfl | rfl | rfl | rfl; exact (ro_one (hC129.ro 1 rfl)); exact rfl; exact rfl; exact rfl; exact rfl) rfl Tryz.sizeOf36 rfl rfl (fun w80 hC130 => ?_)
   try dsimp only [List.set] at hC130
   refine WL_nil ?_
   refine WA_one 19 (by kernel_rfl) rfl ?_
   refine WL_store_box_agg (cs' := [v54, (.int .i64 x61.2.2)]) (new := [v54, (.int .i64 x61.2.2)]) hC130 4 rfl rfl (by intro v hv; simp only [List.mem_cons, List.not_mem_nil, or_false] at hv; rcases hv with rfl | rfl; exact (ro_one (hC130.ro 0 rfl)); exact rfl) rfl Tryz.sizeOf38 rfl rfl (fun w81 hC131 => ?_)
   try dsimp only [List.set] at hC131
   refine WL_nil ?_
   refine WA_done (by kernel_rfl) ?_
   have hq29 := Option.some.inj hr43
   subst hq29
   have hC132 := hC131.f16
   have hC133 := hC132.f16
   have hC134 := hC133.f16
   have hC135 := hC134.f16
   have hC136 := hC135.f16
   have hC137 := hC136.f16
   have hC138 := hC137.f16
   have hC139 := hC138.f16
   have hC140 := hC139.f9
   have hC141 := hC140.f13
   have hC142 := hC141.f10
   have hC143 := hC142.f13
   have hC144 := hC143.h12
   refine nrm_sub (l' := [(16, (ptr b3 0)), (17, (ptr b4 0)), (23, (ptr b9 0)), (24, (ptr b10 0)), (26, (.int .i64 x46.1)), (28, (ptr b13 0)), (29, (ptr b14 0))]) ⟨rfl, rfl, rfl, rfl, rfl, rfl, rfl, trivial⟩ ?_
   exact ⟨b13, v53, x61.1.1, x61.1.2.1, x61.1.2.2.1, x61.1.2.2.2.1, x61.1.2.2.2.2, b14, v54, x61.2.1, x61.2.2, rfl, rfl, hC144⟩
  intro g' hg'
  obtain rfl : g' = 3 := hg'
  intro w79 hB64
  refine AllE_cons rfl rfl rfl ?_
  intro v40 F22 hv37
  refine AllE_cons rfl rfl rfl ?_
  intro v41 F23 hv38
  refine AllE_cons rfl rfl rfl ?_
  rintro _ _ ⟨rfl, rfl⟩
  refine AllE_cons rfl rfl rfl ?_
  intro v42 F24 hv39
  refine AllE_cons rfl rfl rfl ?_
  rintro _ _ ⟨rfl, rfl⟩
  refine AllE_cons rfl rfl rfl ?_
  intro v44 F25 hv40
  refine AllE_cons rfl rfl rfl ?_
  intro v46 F26 hv41
  refine AllE_cons rfl rfl rfl ?_
  rintro _ _ ⟨v47, v48, F27, F28, rfl, rfl, hv42, hv43⟩
  refine AllE_cons rfl rfl rfl ?_
  rintro _ _ ⟨rfl, rfl⟩
  refine AllE_cons rfl rfl rfl ?_
  rintro _ _ ⟨⟨_, hx5, hx6⟩, rfl⟩
  obtain rfl := Value.tuple.inj hx5
  obtain rfl := Option.some.inj (show (some v47 : Option Value) = some _ from hx6)
  refine AllE_cons rfl rfl rfl ?_
  rintro _ F29 ⟨b13, rfl, hv44⟩
  refine AllE_cons rfl rfl rfl ?_
  rintro _ F30 ⟨b14, rfl, hv45⟩
  refine AllE_nil ?_
  intro hn34 hb34
  have hC121 := hC118.pushL hB64 (Bs := [Item.box b14 [(.slice none 0 0), (.int .i64 0)], Item.box b13 [(.slice none 0 0), (.int .i64 0), (.int .i64 0), (.int .i64 0), (.bool false)], Item.own v47 (x61.1 : ((List (Int × (List Int))) × Int × Int × Int × Bool)), Item.own v48 (x61.2 : ((List (Int × (List Int))) × Int)), Item.own v46 (x60 : (List (Bool × (Int × (List Int))))), Item.own v44 (x59 : (Int × (List Int))), Item.own v42 (x58 : ((List (Int × (List Int))) × Int)), Item.own v41 (x57 : (List (Int × (List Int) × Int × Int × Int))), Item.own v40 (x56 : (List Int))]) (Fs := [F30, F29, F27, F28, F26, F25, F24, F23, F22]) ⟨F30, _, rfl, hv45, F29, _, rfl, hv44, F27, _, rfl, hv42, F28, _, rfl, hv43, F26, _, rfl, hv41, F25, _, rfl, hv40, F24, _, rfl, hv39, F23, _, rfl, hv38, F22, _, rfl, hv37, rfl⟩ (by simpa using hn34) (fun b h => (hb34 b (by simpa using h)).1)
  have hC122 := hC121.f6
  obtain ⟨v51, rfl, hC123⟩ := st38_own hC122
  have hC124 := hC123.f6
  obtain ⟨v52, rfl, hC125⟩ := st45_own hC124
  have hC126 := hC125.f4
  obtain ⟨v53, rfl, hC127⟩ := st36_own hC126
  have hC128 := hC127.f5
  obtain ⟨v54, rfl, hC129⟩ := st38_own hC128
  refine WA_tk 15 (by kernel_rfl) rfl rfl (fl_extract rfl rfl) ?_
  refine WL_extract rfl rfl rfl ?_
  refine WL_nil ?_
  refine WA_one 18 (by kernel_rfl) rfl ?_
  refine WL_store_box_agg (cs' := [v53, (.int .i64 x61.1.2.1), (.int .i64 x61.1.2.2.1), (.int .i64 x61.1.2.2.2.1), (.bool x61.1.2.2.2.2)]) (new := [v53, (.int .i64 x61.1.2.1), (.int .i64 x61.1.2.2.1), (.int .i64 x61.1.2.2.2.1), (.bool x61.1.2.2.2.2)]) hC129 5 rfl rfl (by intro v hv; simp only [List.mem_cons, List.not_mem_nil, or_false] at hv; rcases hv with rfl | rfl | rfl | rfl | rfl; exact (ro_one (hC129.ro 1 rfl)); exact rfl; exact rfl; exact rfl; exact rfl) rfl Tryz.sizeOf36 rfl rfl (fun w80 hC130 => ?_)
  try dsimp only [List.set] at hC130
  refine WL_nil ?_
  refine WA_one 19 (by kernel_rfl) rfl ?_
  refine WL_store_box_agg (cs' := [v54, (.int .i64 x61.2.2)]) (new := [v54, (.int .i64 x61.2.2)]) hC130 4 rfl rfl (by intro v hv; simp only [List.mem_cons, List.not_mem_nil, or_false] at hv; rcases hv with rfl | rfl; exact (ro_one (hC130.ro 0 rfl)); exact rfl) rfl Tryz.sizeOf38 rfl rfl (fun w81 hC131 => ?_)
  try dsimp only [List.set] at hC131
  refine WL_nil ?_
  refine WA_done (by kernel_rfl) ?_
  have hq29 := Option.some.inj hr43
  subst hq29
  have hC132 := hC131.f16
  have hC133 := hC132.f16
  have hC134 := hC133.f16
  have hC135 := hC134.f16
  have hC136 := hC135.f16
  have hC137 := hC136.f16
  have hC138 := hC137.f16
  have hC139 := hC138.f16
  have hC140 := hC139.f9
  have hC141 := hC140.f13
  have hC142 := hC141.f10
  have hC143 := hC142.f13
  have hC144 := hC143.h12
  refine nrm_sub (l' := [(16, (ptr b3 0)), (17, (ptr b4 0)), (23, (ptr b9 0)), (24, (ptr b10 0)), (26, (.int .i64 x46.1)), (28, (ptr b13 0)), (29, (ptr b14 0))]) ⟨rfl, rfl, rfl, rfl, rfl, rfl, rfl, trivial⟩ ?_
  exact ⟨b13, v53, x61.1.1, x61.1.2.1, x61.1.2.2.1, x61.1.2.2.2.1, x61.1.2.2.2.2, b14, v54, x61.2.1, x61.2.2, rfl, rfl, hC144⟩
 rintro _ w68 ⟨b11, v38, x49, x50, x51, x52, x53, b12, v39, x54, x55, rfl, rfl, hC117⟩
 try dsimp only at hF
 refine W_seq ?_
 obtain ⟨r5, hr50, hF⟩ := bind_some hF
 refine W_cut (fun l w => ∃ x62 : Bool, x62 = r5 ∧ l = [(23, (ptr b9 0)), (24, (ptr b10 0)), (26, (.int .i64 x46.1)), (198, (.bool x62))] ∧ Below w68.heap.size w68 w ∧ Ctx [] w0 w [Item.own v28 (x46.2.1 : (List (Int × (List Int)))), Item.own v27 (x45.2.1 : (List (Int × (List Int)))), Item.box b10 [v28, (.int .i64 x23.2.2)], Item.box b9 [v27, (.int .i64 x23.1.2.1), (.int .i64 x23.1.2.2.1), (.int .i64 x23.1.2.2.2.1), (.bool x23.1.2.2.2.2)]]) ?_ ?_
 ·refine W_reg ?_
  refine WL_load_box_agg [v38, (.int .i64 x50), (.int .i64 x51), (.int .i64 x52), (.bool x53)] hC117 2 rfl rfl rfl Tryz.isAgg36 Tryz.sizeOf36 rfl rfl ?_
  refine WL_load_box_agg [v1, (.int .i64 x6), (.int .i64 x7), (.int .i64 x8), (.bool x9)] hC117 10 rfl rfl rfl Tryz.isAgg36 Tryz.sizeOf36 rfl rfl ?_
  obtain ⟨x63, hr51, hr50⟩ := bind_some hr50
  refine WL_call Tryz.call15 rfl rfl (c_Q_eqReading (x49, x50, x51, x52, x53) v38 ((hC117.ro 3 rfl).now (Keep.refl _ _)) (x5, x6, x7, x8, x9) v1 ((hC117.ro 11 rfl).now (Keep.refl _ _)) x63 hr51) ?_
  intro _ w83 hv46
  obtain ⟨rfl, hB66⟩ := res_bool hv46
  have hC146 := hC117.grow hB66
  refine WL_not rfl rfl ?_
  refine WL_move rfl rfl ?_
  refine WL_fork (fun hc19 => ?_) (fun hc19 => ?_)
  ·replace hr50 := ite_t hr50 hc19
   refine WL_guard_skip rfl rfl (by simp) rfl ?_
   refine WL_guard_skip rfl rfl (by simp) rfl ?_
   refine WL_guard_skip rfl rfl (by simp) rfl ?_
   refine WL_guard_skip rfl rfl (by simp) rfl ?_
   refine WL_pick_t rfl rfl rfl ?_
   refine WL_nil ?_
   have hq30 := Option.some.inj hr50
   subst hq30
   have hC147 := hC146.f7
   have hC148 := hC147.f7
   have hC149 := hC148.f7
   have hC150 := hC149.f7
   have hC151 := hC150.h4
   refine nrm_sub (l' := [(23, (ptr b9 0)), (24, (ptr b10 0)), (26, (.int .i64 x46.1)), (198, (.bool true))]) ⟨rfl, rfl, rfl, rfl, trivial⟩ ?_
   exact ⟨true, rfl, rfl, (Keep.of hB66).below, hC151⟩
  replace hr50 := ite_f hr50 hc19
  refine WL_guard rfl rfl ?_
  refine WL_load_box_agg [v39, (.int .i64 x55)] hC146 0 rfl rfl rfl Tryz.isAgg38 Tryz.sizeOf38 rfl rfl ?_
  refine WL_guard rfl rfl ?_
  refine WL_load_box_agg [v2, (.int .i64 x11)] hC146 8 rfl rfl rfl Tryz.isAgg38 Tryz.sizeOf38 rfl rfl ?_
  obtain ⟨x64, hr52, hr50⟩ := bind_some hr50
  refine WL_guard rfl rfl ?_
  refine WL_call Tryz.call16 rfl rfl (c_Q_eqSource (x54, x55) v39 ((hC146.ro 1 rfl).now (Keep.refl _ _)) (x10, x11) v2 ((hC146.ro 9 rfl).now (Keep.refl _ _)) x64 hr52) ?_
  intro _ w84 hv47
  obtain ⟨rfl, hB67⟩ := res_bool hv47
  have hC152 := hC146.grow hB67
  refine WL_guard rfl rfl ?_
  refine WL_not rfl rfl ?_
  refine WL_pick_f rfl rfl rfl ?_
  refine WL_nil ?_
  have hq31 := Option.some.inj hr50
  subst hq31
  have hC153 := hC152.f7
  have hC154 := hC153.f7
  have hC155 := hC154.f7
  have hC156 := hC155.f7
  have hC157 := hC156.h4
  refine nrm_sub (l' := [(23, (ptr b9 0)), (24, (ptr b10 0)), (26, (.int .i64 x46.1)), (198, (.bool (!x64)))]) ⟨rfl, rfl, rfl, rfl, trivial⟩ ?_
  exact ⟨(!x64), rfl, rfl, ((Keep.of hB66).then hB67).below, hC157⟩
 rintro _ w82 ⟨x62, rfl, rfl, hB65, hC145⟩
 try dsimp only at hF
 refine W_cond rfl (fun hc20 => ?_) (fun hc20 => ?_)
 ·replace hF := ite_t hF hc20
  refine W_seq_reg ?_
  refine WL_assign rfl rfl ?_
  refine WL_nil ?_
  refine W_ret ?_
  refine nrm_ret ?_
  have hq32 := Option.some.inj hF
  subst hq32
  refine fn_ret1 rfl rfl ?_
  exact ⟨_, rfl, bool_res hC145 _⟩
 replace hF := ite_f hF hc20
 refine W_skip ?_
 refine nrm_normal ?_
 refine W_seq_reg ?_
 refine WL_assign rfl rfl ?_
 refine WL_nil ?_
 refine W_seq_reg ?_
 refine WL_load_box_agg [v27, (.int .i64 x23.1.2.1), (.int .i64 x23.1.2.2.1), (.int .i64 x23.1.2.2.2.1), (.bool x23.1.2.2.2.2)] hC145 3 rfl rfl rfl Tryz.isAgg36 Tryz.sizeOf36 rfl rfl ?_
 refine WL_move rfl rfl ?_
 obtain ⟨x65, hr53, hF⟩ := bind_some hF
 refine WL_call Tryz.call27 rfl rfl (c_Q_heldReading (x45.2.1, x23.1.2.1, x23.1.2.2.1, x23.1.2.2.2.1, x23.1.2.2.2.2) v27 ((hC145.ro 1 rfl).now (Keep.refl _ _)) 1 x65 hr53) ?_
 intro _ w85 hv48
 obtain ⟨rfl, hB68⟩ := res_int hv48
 have hC158 := hC145.grow hB68
 refine WL_assign rfl rfl ?_
 refine WL_nil ?_
 refine W_seq ?_
 refine W_seq_reg ?_
 refine WL_move rfl rfl ?_
 refine WL_lss rfl rfl rfl ?_
 refine WL_nil ?_
 refine W_cond rfl (fun hc21 => ?_) (fun hc21 => ?_)
 ·replace hF := ite_t hF hc21
  refine W_seq_reg ?_
  refine WL_assign rfl rfl ?_
  refine WL_nil ?_
  refine W_ret ?_
  refine nrm_ret ?_
  have hq33 := Option.some.inj hF
  subst hq33
  refine fn_ret1 rfl rfl ?_
  exact ⟨_, rfl, bool_res hC158 _⟩
 replace hF := ite_f hF hc21
 refine W_skip ?_
 refine nrm_normal ?_
 refine W_seq_reg ?_
 refine WL_load_box_agg [v28, (.int .i64 x23.2.2)] hC158 2 rfl rfl rfl Tryz.isAgg38 Tryz.sizeOf38 rfl rfl ?_
 refine WL_move rfl rfl ?_
 obtain ⟨x66, hr54, hF⟩ := bind_some hF
 refine WL_call Tryz.call28 rfl rfl (c_Q_heldSource (x46.2.1, x23.2.2) v28 ((hC158.ro 0 rfl).now (Keep.refl _ _)) x65 x66 hr54) ?_
 intro _ w86 hv49
 obtain ⟨rfl, hB69⟩ := res_int hv49
 have hC159 := hC158.grow hB69
 refine WL_assign rfl rfl ?_
 refine WL_nil ?_
 refine W_seq ?_
 refine W_seq_reg ?_
 refine WL_move rfl rfl ?_
 refine WL_lss rfl rfl rfl ?_
 refine WL_nil ?_
 refine W_cond rfl (fun hc22 => ?_) (fun hc22 => ?_)
 ·replace hF := ite_t hF hc22
  refine W_seq_reg ?_
  refine WL_assign rfl rfl ?_
  refine WL_nil ?_
  refine W_ret ?_
  refine nrm_ret ?_
  have hq34 := Option.some.inj hF
  subst hq34
  refine fn_ret1 rfl rfl ?_
  exact ⟨_, rfl, bool_res hC159 _⟩
 replace hF := ite_f hF hc22
 refine W_skip ?_
 refine nrm_normal ?_
 refine W_seq ?_
 refine W_seq_reg ?_
 refine WL_move rfl rfl ?_
 refine WL_move rfl rfl ?_
 refine WL_neq rfl rfl rfl ?_
 refine WL_nil ?_
 refine W_cond rfl (fun hc23 => ?_) (fun hc23 => ?_)
 ·replace hF := ite_t hF hc23
  refine W_seq_reg ?_
  refine WL_assign rfl rfl ?_
  refine WL_nil ?_
  refine W_ret ?_
  refine nrm_ret ?_
  have hq35 := Option.some.inj hF
  subst hq35
  refine fn_ret1 rfl rfl ?_
  exact ⟨_, rfl, bool_res hC159 _⟩
 replace hF := ite_f hF hc23
 refine W_skip ?_
 refine nrm_normal ?_
 refine W_seq_reg ?_
 refine WL_assign rfl rfl ?_
 refine WL_nil ?_
 refine W_ret ?_
 have hq36 := Option.some.inj hF
 subst hq36
 refine fn_ret1 rfl rfl ?_
 exact ⟨_, rfl, bool_res hC159 _⟩

end Go.Gx.Px
