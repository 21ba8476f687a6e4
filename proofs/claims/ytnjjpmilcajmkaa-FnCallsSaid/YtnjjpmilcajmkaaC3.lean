/- The contracts of the Go functions against the pure functions, printed by program. Conditions: each says them. -/
import Derived.Test.YtnjjpmilcajmkaaC2
set_option linter.unusedVariables false
set_option linter.unusedSimpArgs false
set_option maxRecDepth 100000
set_option maxHeartbeats 4000000
namespace Go.Gx.Px
open Go.Proofs Go.RowKit

theorem c_S_DrawRunCalls {w0 : World} (a1 : (List UInt8)) (u1 : Value) (g1 : RO [] w0 u1 a1) (rr : (((List Int) × Int × Int) × (List (Int × Int × Int × Bool)) × (List Int))) (hF : S.DrawRunCalls a1 = some rr) :
 Calls Try.prog 43 [u1].toArray w0 fun e w' => ∃ v, e = .returned v ∧ Res3 w0 rr.1 rr.2.1 rr.2.2 v w' := by
 refine calls_of_W Try.func43 rfl rfl ?_
 have hC0 := Ctx.start w0
 unfold S.DrawRunCalls at hF
 refine W_seq_reg ?_
 refine WL_alloc hC0 zero26 rfl rfl (fun b1 w1 hC1 hB1 => ?_)
 refine WL_assign rfl rfl ?_
 refine WL_assign rfl rfl ?_
 refine WL_nil ?_
 refine W_seq_reg ?_
 refine WL_move rfl rfl ?_
 obtain ⟨x1, hr1, hF⟩ := bind_some hF
 refine WL_call Try.call98 rfl rfl (c_S_l1New a1 u1 (g1.now hC1.keep) x1 hr1) ?_
 rintro _ w2 ⟨b2, rfl, hq1⟩
 have hC2 : Ctx [] w0 w2 [Item.box b2 [u1, (.int .i64 x1.2.1), (.int .i64 x1.2.2)], Item.box b1 [(.slice none 0 0), (.int .i64 0), (.int .i64 0)]] := hC1.push2 hq1
 refine WL_assign rfl rfl ?_
 refine WL_nil ?_
 refine W_seq_reg ?_
 refine WL_move rfl rfl ?_
 obtain ⟨x2, hr2, hF⟩ := bind_some hF
 obtain ⟨Fs2, hH2, hn2, hF2, hO2, hb2⟩ := Ctx.lend2 (As := [Item.box b1 [(.slice none 0 0), (.int .i64 0), (.int .i64 0)]]) [Item.box b2 [u1, (.int .i64 x1.2.1), (.int .i64 x1.2.2)]] hC2
 refine WL_call Try.call99 rfl rfl (c_S_l27Ledger b2 (a1, x1.2.1, x1.2.2) u1 (RO.lent g1 hC2.keep hF2) hH2 hn2 x2 hr2) ?_
 rintro v1 w3 ⟨_, rfl, hq2⟩
 have hC3 : Ctx [] w0 w3 [Item.own v1 (x2.1 : ((List Int) × Int × Int)), Item.box b2 [u1, (.int .i64 x2.2.2.1), (.int .i64 x2.2.2.2)], Item.box b1 [(.slice none 0 0), (.int .i64 0), (.int .i64 0)]] := hb2 _ _ hq2
 obtain ⟨v2, rfl, hC4⟩ := st26_own hC3
 refine WL_alloc hC4 zero26 rfl rfl (fun b3 w4 hC5 hB2 => ?_)
 refine WL_store_box_agg (cs' := [v2, (.int .i64 x2.1.2.1), (.int .i64 x2.1.2.2)]) (new := [v2, (.int .i64 x2.1.2.1), (.int .i64 x2.1.2.2)]) hC5 0 rfl rfl (by intro v hv; simp only [List.mem_cons, List.not_mem_nil, or_false] at hv; rcases hv with rfl | rfl | rfl; exact (ro_one (hC5.ro 1 rfl)); exact rfl; exact rfl) rfl Try.sizeOf26 rfl rfl (fun w5 hC6 => ?_)
 try dsimp only [List.set] at hC6
 refine WL_nil ?_
 refine W_seq_reg ?_
 refine WL_buildSlice (vs := []) hC6 Try.underlying60 ty35 rfl rfl rfl rfl (by simp) rfl rfl (fun b4 w6 hC7 hB3 => ?_)
 have hC8 := hC7.row0 (α := (Int × Int × Int × Bool))
 have hC9 := hC8.front 1 rfl
 dsimp only [List.eraseIdx, List.cons_append, List.nil_append, List.append_nil] at hC9
 have hC10 : Ctx [] w0 w6 (Item.own (.slice (some ⟨b4, 0, none⟩) 0 0) (([] : List (Int × Int × Int × Bool)) : List (Int × Int × Int × Bool)) :: [Item.box b3 [v2, (.int .i64 x2.1.2.1), (.int .i64 x2.1.2.2)], Item.own v2 (x2.1.1 : (List Int)), Item.box b2 [u1, (.int .i64 x2.2.2.1), (.int .i64 x2.2.2.2)], Item.box b1 [(.slice none 0 0), (.int .i64 0), (.int .i64 0)]]) := hC9.rowOwn (by simp [maxLen])
 refine WL_assign rfl rfl ?_
 refine WL_nil ?_
 refine W_seq ?_
 refine W_seq_reg ?_
 refine WL_move rfl rfl ?_
 obtain ⟨x3, hr3, hF⟩ := bind_some hF
 have hC11 := hC10.f3
 obtain ⟨Fs3, hH3, hn3, hF3, hO3, hb3⟩ := Ctx.lend2 (As := [Item.own (.slice (some ⟨b4, 0, none⟩) 0 0) (([] : List (Int × Int × Int × Bool)) : (List (Int × Int × Int × Bool))), Item.box b3 [v2, (.int .i64 x2.1.2.1), (.int .i64 x2.1.2.2)], Item.own v2 (x2.1.1 : (List Int)), Item.box b1 [(.slice none 0 0), (.int .i64 0), (.int .i64 0)]]) [Item.box b2 [u1, (.int .i64 x2.2.2.1), (.int .i64 x2.2.2.2)]] hC11
 refine WL_call Try.call104 rfl rfl (c_S_l1Below b2 (a1, x2.2.2.1, x2.2.2.2) u1 (RO.lent g1 hC11.keep hF3) 4 hH3 hn3 x3 hr3) ?_
 rintro _ w7 ⟨rfl, hq3⟩
 have hC12 : Ctx [] w0 w7 [Item.box b2 [u1, (.int .i64 x3.2.2.1), (.int .i64 x3.2.2.2)], Item.own (.slice (some ⟨b4, 0, none⟩) 0 0) (([] : List (Int × Int × Int × Bool)) : (List (Int × Int × Int × Bool))), Item.box b3 [v2, (.int .i64 x2.1.2.1), (.int .i64 x2.1.2.2)], Item.own v2 (x2.1.1 : (List Int)), Item.box b1 [(.slice none 0 0), (.int .i64 0), (.int .i64 0)]] := hb3 _ _ hq3
 refine WL_assign rfl rfl ?_
 refine WL_nil ?_
 obtain ⟨r1, hr4, hF⟩ := bind_some hF
 refine W_norm (fun l w => ∃ x8 : Int, ∃ x9 : Int, ∃ v4 : Value, ∃ x10 : (List (Int × Int × Int × Bool)), (x8, x9, x10) = r1 ∧ l = [(2, (ptr b1 0)), (5, (ptr b2 0)), (6, (ptr b3 0)), (7, v4)] ∧ Ctx [] w0 w [Item.box b2 [u1, (.int .i64 x8), (.int .i64 x9)], Item.own v4 (x10 : (List (Int × Int × Int × Bool))), Item.box b3 [v2, (.int .i64 x2.1.2.1), (.int .i64 x2.1.2.2)], Item.own v2 (x2.1.1 : (List Int)), Item.box b1 [(.slice none 0 0), (.int .i64 0), (.int .i64 0)]]) ?_ ?_
 ·refine W_block ?_
  refine W.sub (l' := [(2, (ptr b1 0)), (5, (ptr b2 0)), (6, (ptr b3 0)), (7, (.slice (some ⟨b4, 0, none⟩) 0 0)), (8, (.int .i64 x3.1))]) ?_ ⟨rfl, rfl, rfl, rfl, rfl, trivial⟩
  refine W_loop (fun k l w => ∃ x4 : Int, ∃ x5 : Int, ∃ v3 : Value, ∃ x6 : (List (Int × Int × Int × Bool)), ∃ x7 : Int, l = [(2, (ptr b1 0)), (5, (ptr b2 0)), (6, (ptr b3 0)), (7, v3), (8, (.int .i64 x7))] ∧ Ctx [] w0 w [Item.box b2 [u1, (.int .i64 x4), (.int .i64 x5)], Item.own v3 (x6 : (List (Int × Int × Int × Bool))), Item.box b3 [v2, (.int .i64 x2.1.2.1), (.int .i64 x2.1.2.2)], Item.own v2 (x2.1.1 : (List Int)), Item.box b1 [(.slice none 0 0), (.int .i64 0), (.int .i64 0)]] ∧ S.DrawRunCalls_l1 a1 k x4 x5 x6 x7 = some r1) FUEL ⟨x3.2.2.1, x3.2.2.2, (.slice (some ⟨b4, 0, none⟩) 0 0), ([] : List (Int × Int × Int × Bool)), x3.1, rfl, hC12, hr4⟩ ?_
  clear hr4
  rintro k1 _ w9 ⟨x4, x5, v3, x6, x7, rfl, hC13, hL1⟩
  cases k1 with
  | zero => rw [S.DrawRunCalls_l1] at hL1; cases hL1
  | succ k1 =>
   rw [S.DrawRunCalls_l1] at hL1
   refine W_seq ?_
   refine W_seq_reg ?_
   refine WL_move rfl rfl ?_
   refine WL_gtr rfl rfl rfl ?_
   refine WL_nil ?_
   refine W_cond rfl (fun hc1 => ?_) (fun hc1 => ?_)
   ·replace hL1 := ite_t hL1 hc1
    refine W_skip ?_
    refine nrm_normal ?_
    refine W_seq ?_
    refine W_block ?_
    refine W_seq_reg ?_
    refine WL_move rfl rfl ?_
    obtain ⟨x11, hr5, hL1⟩ := bind_some hL1
    obtain ⟨Fs4, hH4, hn4, hF4, hO4, hb4⟩ := Ctx.lend2 (As := [Item.own v3 (x6 : (List (Int × Int × Int × Bool))), Item.box b3 [v2, (.int .i64 x2.1.2.1), (.int .i64 x2.1.2.2)], Item.own v2 (x2.1.1 : (List Int)), Item.box b1 [(.slice none 0 0), (.int .i64 0), (.int .i64 0)]]) [Item.box b2 [u1, (.int .i64 x4), (.int .i64 x5)]] hC13
    refine WL_call Try.call100 rfl rfl (c_S_l27Call b2 (a1, x4, x5) u1 (RO.lent g1 hC13.keep hF4) hH4 hn4 x11 hr5) ?_
    rintro v5 w10 ⟨_, rfl, hq4⟩
    have hC14 : Ctx [] w0 w10 [Item.own v5 (x11.1 : (Int × Int × Int × Bool)), Item.box b2 [u1, (.int .i64 x11.2.2.1), (.int .i64 x11.2.2.2)], Item.own v3 (x6 : (List (Int × Int × Int × Bool))), Item.box b3 [v2, (.int .i64 x2.1.2.1), (.int .i64 x2.1.2.2)], Item.own v2 (x2.1.1 : (List Int)), Item.box b1 [(.slice none 0 0), (.int .i64 0), (.int .i64 0)]] := hb4 _ _ hq4
    obtain ⟨rfl, hC15⟩ := st35_own hC14
    refine WL_alloc hC15 zero35 rfl rfl (fun b5 w11 hC16 hB5 => ?_)
    refine WL_store_box_agg (cs' := [(.int .i64 x11.1.1), (.int .i64 x11.1.2.1), (.int .i64 x11.1.2.2.1), (.bool x11.1.2.2.2)]) (new := [(.int .i64 x11.1.1), (.int .i64 x11.1.2.1), (.int .i64 x11.1.2.2.1), (.bool x11.1.2.2.2)]) hC16 0 rfl rfl (by intro v hv; simp only [List.mem_cons, List.not_mem_nil, or_false] at hv; rcases hv with rfl | rfl | rfl | rfl; exact rfl; exact rfl; exact rfl; exact rfl) rfl Try.sizeOf35 rfl rfl (fun w12 hC17 => ?_)
    try dsimp only [List.set] at hC17
    refine WL_nil ?_
    refine W_reg ?_
    refine WL_move rfl rfl ?_
    refine WL_load_box_agg [(.int .i64 x11.1.1), (.int .i64 x11.1.2.1), (.int .i64 x11.1.2.2.1), (.bool x11.1.2.2.2)] hC17 0 rfl rfl rfl Try.isAgg35 Try.sizeOf35 rfl rfl ?_
    refine WL_buildSlice (vs := [(.agg #[(.int .i64 x11.1.1), (.int .i64 x11.1.2.1), (.int .i64 x11.1.2.2.1), (.bool x11.1.2.2.2)])]) hC17 Try.underlying60 ty35 rfl rfl rfl rfl (by intro v hv; simp only [List.mem_cons, List.not_mem_nil, or_false] at hv; rcases hv with rfl <;> rfl) rfl rfl (fun b6 w13 hC18 hB6 => ?_)
    have hC19 := hC18.row0 (α := (Int × Int × Int × Bool))
    have hC20 := own_st35 x11.1.1 x11.1.2.1 x11.1.2.2.1 x11.1.2.2.2 hC19
    have hC21 := hC20.row1
    have hC22 := hC21.front 1 rfl
    dsimp only [List.eraseIdx, List.cons_append, List.nil_append, List.append_nil] at hC22
    have hC23 : Ctx [] w0 w13 (Item.own (.slice (some ⟨b6, 0, none⟩) 1 1) ([(x11.1.1, x11.1.2.1, x11.1.2.2.1, x11.1.2.2.2)] : List (Int × Int × Int × Bool)) :: [Item.box b5 [(.int .i64 x11.1.1), (.int .i64 x11.1.2.1), (.int .i64 x11.1.2.2.1), (.bool x11.1.2.2.2)], Item.box b2 [u1, (.int .i64 x11.2.2.1), (.int .i64 x11.2.2.2)], Item.own v3 (x6 : (List (Int × Int × Int × Bool))), Item.box b3 [v2, (.int .i64 x2.1.2.1), (.int .i64 x2.1.2.2)], Item.own v2 (x2.1.1 : (List Int)), Item.box b1 [(.slice none 0 0), (.int .i64 0), (.int .i64 0)]]) := hC22.rowOwn (by simp [maxLen])
    obtain ⟨x12, hx1, hL1⟩ := bind_some hL1
    refine WL_append_flat (α := (Int × Int × Int × Bool)) hC23 3 rfl (hC23.ro 0 rfl) (Keep.refl _ _) Try.underlying60 ty35 rfl hx1 rfl rfl rfl (fun v6 w14 hC24 => ?_)
    try dsimp only [List.set] at hC24
    refine WL_assign rfl rfl ?_
    refine WL_nil ?_
    refine blk_normal ?_
    refine nrm_normal ?_
    refine W_reg ?_
    refine WL_move rfl rfl ?_
    refine WL_sub rfl rfl rfl ?_
    refine WL_assign rfl rfl ?_
    refine WL_nil ?_
    have hC25 := hC24.f6
    have hC26 := hC25.f6
    have hC27 := hC26.f6
    have hC28 := hC27.f6
    have hC29 := hC28.f6
    have hC30 := hC29.h5
    refine nrm_sub (l' := [(2, (ptr b1 0)), (5, (ptr b2 0)), (6, (ptr b3 0)), (7, v6), (8, (.int .i64 (w64 (x7 - 1))))]) ⟨rfl, rfl, rfl, rfl, rfl, trivial⟩ ?_
    exact ⟨k1, Nat.lt_succ_self _, x11.2.2.1, x11.2.2.2, v6, x12, w64 (x7 - 1), rfl, hC30, hL1⟩
   replace hL1 := ite_f hL1 hc1
   refine W_exit ?_
   refine nrm_exit ?_
   refine nrm_exit ?_
   refine blk_exit ?_
   have hq5 := Option.some.inj hL1
   subst hq5
   refine nrm_sub (l' := [(2, (ptr b1 0)), (5, (ptr b2 0)), (6, (ptr b3 0)), (7, v3)]) ⟨rfl, rfl, rfl, rfl, trivial⟩ ?_
   exact ⟨x4, x5, v3, x6, rfl, rfl, hC13⟩
 rintro l2 _ w15 hs2 ⟨x8, x9, v4, x10, rfl, rfl, hC31⟩
 try dsimp only at hF
 refine nrm_sub' hs2 ?_
 clear hs2
 refine W_seq_reg ?_
 refine WL_move rfl rfl ?_
 obtain ⟨x13, hr6, hF⟩ := bind_some hF
 obtain ⟨Fs5, hH5, hn5, hF5, hO5, hb5⟩ := Ctx.lend2 (As := [Item.own v4 (x10 : (List (Int × Int × Int × Bool))), Item.box b3 [v2, (.int .i64 x2.1.2.1), (.int .i64 x2.1.2.2)], Item.own v2 (x2.1.1 : (List Int)), Item.box b1 [(.slice none 0 0), (.int .i64 0), (.int .i64 0)]]) [Item.box b2 [u1, (.int .i64 x8), (.int .i64 x9)]] hC31
 refine WL_call Try.call106 rfl rfl (c_S_l27Fates b2 (a1, x8, x9) u1 (RO.lent g1 hC31.keep hF5) hH5 hn5 x13 hr6) ?_
 rintro v7 w16 ⟨_, rfl, hq6⟩
 have hC32 : Ctx [] w0 w16 [Item.own v7 (x13.1 : (List Int)), Item.box b2 [u1, (.int .i64 x13.2.2.1), (.int .i64 x13.2.2.2)], Item.own v4 (x10 : (List (Int × Int × Int × Bool))), Item.box b3 [v2, (.int .i64 x2.1.2.1), (.int .i64 x2.1.2.2)], Item.own v2 (x2.1.1 : (List Int)), Item.box b1 [(.slice none 0 0), (.int .i64 0), (.int .i64 0)]] := hb5 _ _ hq6
 refine WL_assign rfl rfl ?_
 refine WL_nil ?_
 obtain ⟨r2, hr7, hF⟩ := bind_some hF
 refine W_cut (fun l w => ∃ x14 : Int, ∃ x15 : Int, ∃ v8 : Value, ∃ x16 : (List Int), ∃ x17 : Int, ∃ x18 : Int, ∃ v9 : Value, ∃ x19 : (List (Int × Int × Int × Bool)), ∃ v10 : Value, ∃ x20 : (List Int), (x14, x15, x16, x17, x18, x19, x20) = r2 ∧ l = [(2, (ptr b1 0)), (3, v9), (4, v10)] ∧ Ctx [] w0 w [Item.own v10 (x20 : (List Int)), Item.own v9 (x19 : (List (Int × Int × Int × Bool))), Item.own v8 (x16 : (List Int)), Item.box b1 [v8, (.int .i64 x17), (.int .i64 x18)]]) ?_ ?_
 ·refine W_drawn 9 rfl hmix (fun w18 hB9 => ?_)
  have hC34 := hC32.grow hB9
  refine WA_tk 1 (by kernel_rfl) rfl rfl (fl_move rfl) ?_
  refine WL_move rfl rfl ?_
  refine WL_nil ?_
  refine WA_tk 2 (by kernel_rfl) rfl rfl (fl_move rfl) ?_
  refine WL_move rfl rfl ?_
  refine WL_nil ?_
  refine WA_tk 3 (by kernel_rfl) rfl rfl (fl_move rfl) ?_
  refine WL_move rfl rfl ?_
  refine WL_nil ?_
  refine WA_all2 (i := 0) (j := 4) (by kernel_rfl) rfl rfl ?_ ?_
  ·refine WL_load_box_agg [v2, (.int .i64 x2.1.2.1), (.int .i64 x2.1.2.2)] hC34 3 rfl rfl rfl Try.isAgg26 Try.sizeOf26 rfl rfl ?_
   refine WL_nil ?_
   obtain ⟨x21, hr8, hr7⟩ := bind_some hr7
   refine WA_one 4 (by kernel_rfl) rfl ?_
   have hC35 := hC34.f1
   obtain ⟨Fs6, hH6, hn6, hF6, hO6, hb6⟩ := Ctx.lend2 (As := [Item.own v7 (x13.1 : (List Int)), Item.own v4 (x10 : (List (Int × Int × Int × Bool))), Item.box b3 [v2, (.int .i64 x2.1.2.1), (.int .i64 x2.1.2.2)], Item.own v2 (x2.1.1 : (List Int)), Item.box b1 [(.slice none 0 0), (.int .i64 0), (.int .i64 0)]]) [Item.box b2 [u1, (.int .i64 x13.2.2.1), (.int .i64 x13.2.2.2)]] hC35
   refine WL_call Try.call106 rfl rfl (c_S_l27Fates b2 (a1, x13.2.2.1, x13.2.2.2) u1 (RO.lent g1 hC35.keep hF6) hH6 hn6 x21 hr8) ?_
   rintro v11 w19 ⟨_, rfl, hq7⟩
   have hC36 : Ctx [] w0 w19 [Item.own v11 (x21.1 : (List Int)), Item.box b2 [u1, (.int .i64 x21.2.2.1), (.int .i64 x21.2.2.2)], Item.own v7 (x13.1 : (List Int)), Item.own v4 (x10 : (List (Int × Int × Int × Bool))), Item.box b3 [v2, (.int .i64 x2.1.2.1), (.int .i64 x2.1.2.2)], Item.own v2 (x2.1.1 : (List Int)), Item.box b1 [(.slice none 0 0), (.int .i64 0), (.int .i64 0)]] := hb6 _ _ hq7
   refine WL_nil ?_
   obtain ⟨x22, hx2, hr7⟩ := bind_some hr7
   refine WA_one 5 (by kernel_rfl) rfl ?_
   refine WL_append_flat (α := Int) hC36 2 rfl (hC36.ro 0 rfl) (Keep.refl _ _) Try.underlying22 ty3 rfl hx2 rfl rfl rfl (fun v12 w20 hC37 => ?_)
   try dsimp only [List.set] at hC37
   refine WL_nil ?_
   refine WA_one 6 (by kernel_rfl) rfl ?_
   refine WL_store_box_agg (cs' := [v2, (.int .i64 x2.1.2.1), (.int .i64 x2.1.2.2)]) (new := [v2, (.int .i64 x2.1.2.1), (.int .i64 x2.1.2.2)]) hC37 6 rfl rfl (by intro v hv; simp only [List.mem_cons, List.not_mem_nil, or_false] at hv; rcases hv with rfl | rfl | rfl; exact (ro_one (hC37.ro 5 rfl)); exact rfl; exact rfl) rfl Try.sizeOf26 rfl rfl (fun w21 hC38 => ?_)
   try dsimp only [List.set] at hC38
   refine WL_nil ?_
   refine WA_tk 7 (by kernel_rfl) rfl rfl (fl_assign rfl) ?_
   refine WL_assign rfl rfl ?_
   refine WL_nil ?_
   refine WA_tk 8 (by kernel_rfl) rfl rfl (fl_assign rfl) ?_
   refine WL_assign rfl rfl ?_
   refine WL_nil ?_
   refine WA_done (by kernel_rfl) ?_
   have hq8 := Option.some.inj hr7
   subst hq8
   have hC39 := hC38.f6
   have hC40 := hC39.f6
   have hC41 := hC40.f5
   have hC42 := hC41.f5
   have hC43 := hC42.h4
   refine nrm_sub (l' := [(2, (ptr b1 0)), (3, v4), (4, v12)]) ⟨rfl, rfl, rfl, trivial⟩ ?_
   exact ⟨x21.2.2.1, x21.2.2.2, v2, x2.1.1, x2.1.2.1, x2.1.2.2, v4, x10, v12, x22, rfl, rfl, hC43⟩
  obtain ⟨x21, hr8, hr7⟩ := bind_some hr7
  have hC35 := hC34.f1
  obtain ⟨Fs6, hH6, hn6, hF6, hO6, hb6⟩ := Ctx.lend2 (As := [Item.own v7 (x13.1 : (List Int)), Item.own v4 (x10 : (List (Int × Int × Int × Bool))), Item.box b3 [v2, (.int .i64 x2.1.2.1), (.int .i64 x2.1.2.2)], Item.own v2 (x2.1.1 : (List Int)), Item.box b1 [(.slice none 0 0), (.int .i64 0), (.int .i64 0)]]) [Item.box b2 [u1, (.int .i64 x13.2.2.1), (.int .i64 x13.2.2.2)]] hC35
  refine WL_call Try.call106 rfl rfl (c_S_l27Fates b2 (a1, x13.2.2.1, x13.2.2.2) u1 (RO.lent g1 hC35.keep hF6) hH6 hn6 x21 hr8) ?_
  rintro v11 w19 ⟨_, rfl, hq7⟩
  have hC36 : Ctx [] w0 w19 [Item.own v11 (x21.1 : (List Int)), Item.box b2 [u1, (.int .i64 x21.2.2.1), (.int .i64 x21.2.2.2)], Item.own v7 (x13.1 : (List Int)), Item.own v4 (x10 : (List (Int × Int × Int × Bool))), Item.box b3 [v2, (.int .i64 x2.1.2.1), (.int .i64 x2.1.2.2)], Item.own v2 (x2.1.1 : (List Int)), Item.box b1 [(.slice none 0 0), (.int .i64 0), (.int .i64 0)]] := hb6 _ _ hq7
  refine WL_nil ?_
  refine WA_all2 (i := 0) (j := 5) (by kernel_rfl) rfl rfl ?_ ?_
  ·refine WL_load_box_agg [v2, (.int .i64 x2.1.2.1), (.int .i64 x2.1.2.2)] hC36 4 rfl rfl rfl Try.isAgg26 Try.sizeOf26 rfl rfl ?_
   refine WL_nil ?_
   obtain ⟨x22, hx2, hr7⟩ := bind_some hr7
   refine WA_one 5 (by kernel_rfl) rfl ?_
   refine WL_append_flat (α := Int) hC36 2 rfl (hC36.ro 0 rfl) (Keep.refl _ _) Try.underlying22 ty3 rfl hx2 rfl rfl rfl (fun v12 w20 hC37 => ?_)
   try dsimp only [List.set] at hC37
   refine WL_nil ?_
   refine WA_one 6 (by kernel_rfl) rfl ?_
   refine WL_store_box_agg (cs' := [v2, (.int .i64 x2.1.2.1), (.int .i64 x2.1.2.2)]) (new := [v2, (.int .i64 x2.1.2.1), (.int .i64 x2.1.2.2)]) hC37 6 rfl rfl (by intro v hv; simp only [List.mem_cons, List.not_mem_nil, or_false] at hv; rcases hv with rfl | rfl | rfl; exact (ro_one (hC37.ro 5 rfl)); exact rfl; exact rfl) rfl Try.sizeOf26 rfl rfl (fun w21 hC38 => ?_)
   try dsimp only [List.set] at hC38
   refine WL_nil ?_
   refine WA_tk 7 (by kernel_rfl) rfl rfl (fl_assign rfl) ?_
   refine WL_assign rfl rfl ?_
   refine WL_nil ?_
   refine WA_tk 8 (by kernel_rfl) rfl rfl (fl_assign rfl) ?_
   refine WL_assign rfl rfl ?_
   refine WL_nil ?_
   refine WA_done (by kernel_rfl) ?_
   have hq8 := Option.some.inj hr7
   subst hq8
   have hC39 := hC38.f6
   have hC40 := hC39.f6
   have hC41 := hC40.f5
   have hC42 := hC41.f5
   have hC43 := hC42.h4
   refine nrm_sub (l' := [(2, (ptr b1 0)), (3, v4), (4, v12)]) ⟨rfl, rfl, rfl, trivial⟩ ?_
   exact ⟨x21.2.2.1, x21.2.2.2, v2, x2.1.1, x2.1.2.1, x2.1.2.2, v4, x10, v12, x22, rfl, rfl, hC43⟩
  obtain ⟨x22, hx2, hr7⟩ := bind_some hr7
  refine WL_append_flat (α := Int) hC36 2 rfl (hC36.ro 0 rfl) (Keep.refl _ _) Try.underlying22 ty3 rfl hx2 rfl rfl rfl (fun v12 w20 hC37 => ?_)
  try dsimp only [List.set] at hC37
  refine WL_nil ?_
  refine WA_one 0 (by kernel_rfl) rfl ?_
  refine WL_load_box_agg [v2, (.int .i64 x2.1.2.1), (.int .i64 x2.1.2.2)] hC37 4 rfl rfl rfl Try.isAgg26 Try.sizeOf26 rfl rfl ?_
  refine WL_nil ?_
  refine WA_one 6 (by kernel_rfl) rfl ?_
  refine WL_store_box_agg (cs' := [v2, (.int .i64 x2.1.2.1), (.int .i64 x2.1.2.2)]) (new := [v2, (.int .i64 x2.1.2.1), (.int .i64 x2.1.2.2)]) hC37 6 rfl rfl (by intro v hv; simp only [List.mem_cons, List.not_mem_nil, or_false] at hv; rcases hv with rfl | rfl | rfl; exact (ro_one (hC37.ro 5 rfl)); exact rfl; exact rfl) rfl Try.sizeOf26 rfl rfl (fun w21 hC38 => ?_)
  try dsimp only [List.set] at hC38
  refine WL_nil ?_
  refine WA_tk 7 (by kernel_rfl) rfl rfl (fl_assign rfl) ?_
  refine WL_assign rfl rfl ?_
  refine WL_nil ?_
  refine WA_tk 8 (by kernel_rfl) rfl rfl (fl_assign rfl) ?_
  refine WL_assign rfl rfl ?_
  refine WL_nil ?_
  refine WA_done (by kernel_rfl) ?_
  have hq8 := Option.some.inj hr7
  subst hq8
  have hC39 := hC38.f6
  have hC40 := hC39.f6
  have hC41 := hC40.f5
  have hC42 := hC41.f5
  have hC43 := hC42.h4
  refine nrm_sub (l' := [(2, (ptr b1 0)), (3, v4), (4, v12)]) ⟨rfl, rfl, rfl, trivial⟩ ?_
  exact ⟨x21.2.2.1, x21.2.2.2, v2, x2.1.1, x2.1.2.1, x2.1.2.2, v4, x10, v12, x22, rfl, rfl, hC43⟩
 rintro _ w17 ⟨x14, x15, v8, x16, x17, x18, v9, x19, v10, x20, rfl, rfl, hC33⟩
 try dsimp only at hF
 refine W_ret ?_
 have hq9 := Option.some.inj hF
 subst hq9
 refine fn_retG3 rfl (rv_cell_agg (cs' := [v8, (.int .i64 x17), (.int .i64 x18)]) hC33 (i := 3) rfl rfl rfl Try.isAgg26 Try.sizeOf26 rfl) (rv_tmp rfl) (rv_tmp rfl) ?_
 have hC45 := hC33.f1
 have hC47 := hC45.f2
 have hC46 := own_st26 v8 x16 x17 x18 hC47
 exact ⟨_, rfl, res3_of hC46⟩

theorem c_M_RunCalls {w0 : World} (a1 : ((List Int) × Int × Int)) (u1 : Value) (g1 : RO [] w0 u1 a1.1) (a2 : (List (Int × Int × Int × Bool))) (u2 : Value) (g2 : RO [] w0 u2 a2) (a3 : (List Int)) (u3 : Value) (g3 : RO [] w0 u3 a3) (rr : (((List Int) × Int × Int) × (List (Int × Int × Int × Bool)))) (hF : M.RunCalls a1 a2 a3 = some rr) :
 Calls Try.prog 44 [(.agg #[u1, (.int .i64 a1.2.1), (.int .i64 a1.2.2)]), u2, u3].toArray w0 fun e w' => ∃ v, e = .returned v ∧ Res2 w0 rr.1 rr.2 v w' := by
 refine calls_of_W Try.func44 rfl rfl ?_
 have hC0 := Ctx.start w0
 unfold M.RunCalls at hF
 refine W_seq_reg ?_
 refine WL_box (cs := [u1, (.int .i64 a1.2.1), (.int .i64 a1.2.2)]) hC0 rfl rfl rfl (fun b1 w1 hC1 hB1 => ?_)
 refine WL_alloc hC1 zero26 rfl rfl (fun b2 w2 hC2 hB2 => ?_)
 refine WL_assign rfl rfl ?_
 refine WL_nil ?_
 refine W_seq_reg ?_
 refine WL_load_box_agg [u1, (.int .i64 a1.2.1), (.int .i64 a1.2.2)] hC2 1 rfl rfl rfl Try.isAgg26 Try.sizeOf26 rfl rfl ?_
 obtain ⟨x1, hr1, hF⟩ := bind_some hF
 refine WL_call Try.call93 rfl rfl (c_M_copyLedger (a1.1, a1.2.1, a1.2.2) u1 (g1.now hC2.keep) x1 hr1) ?_
 rintro v1 w3 ⟨hB3, F1, hv1, hn1, hb1⟩
 have hC3 := hC2.push hB3 (A := Item.own v1 x1) hv1 hn1 hb1
 obtain ⟨v2, rfl, hC4⟩ := st26_own hC3
 refine WL_alloc hC4 zero26 rfl rfl (fun b3 w4 hC5 hB4 => ?_)
 refine WL_store_box_agg (cs' := [v2, (.int .i64 x1.2.1), (.int .i64 x1.2.2)]) (new := [v2, (.int .i64 x1.2.1), (.int .i64 x1.2.2)]) hC5 0 rfl rfl (by intro v hv; simp only [List.mem_cons, List.not_mem_nil, or_false] at hv; rcases hv with rfl | rfl | rfl; exact (ro_one (hC5.ro 1 rfl)); exact rfl; exact rfl) rfl Try.sizeOf26 rfl rfl (fun w5 hC6 => ?_)
 try dsimp only [List.set] at hC6
 refine WL_nil ?_
 refine W_seq_reg ?_
 refine WL_buildSlice (vs := []) hC6 Try.underlying60 ty35 rfl rfl rfl rfl (by simp) rfl rfl (fun b4 w6 hC7 hB5 => ?_)
 have hC8 := hC7.row0 (α := (Int × Int × Int × Bool))
 have hC9 := hC8.front 1 rfl
 dsimp only [List.eraseIdx, List.cons_append, List.nil_append, List.append_nil] at hC9
 have hC10 : Ctx [] w0 w6 (Item.own (.slice (some ⟨b4, 0, none⟩) 0 0) (([] : List (Int × Int × Int × Bool)) : List (Int × Int × Int × Bool)) :: [Item.box b3 [v2, (.int .i64 x1.2.1), (.int .i64 x1.2.2)], Item.own v2 (x1.1 : (List Int)), Item.box b2 [(.slice none 0 0), (.int .i64 0), (.int .i64 0)], Item.box b1 [u1, (.int .i64 a1.2.1), (.int .i64 a1.2.2)]]) := hC9.rowOwn (by simp [maxLen])
 refine WL_assign rfl rfl ?_
 refine WL_nil ?_
 refine W_seq ?_
 refine W_seq_reg ?_
 refine WL_move rfl rfl ?_
 refine WL_len Try.underlying60 g2 rfl rfl ?_
 refine WL_move rfl rfl ?_
 refine WL_nil ?_
 obtain ⟨r1, hr2, hF⟩ := bind_some hF
 refine W_norm (fun l w => ∃ v5 : Value, ∃ x7 : (List Int), ∃ x8 : Int, ∃ x9 : Int, ∃ v6 : Value, ∃ x10 : (List (Int × Int × Int × Bool)), (x7, x8, x9, x10) = r1 ∧ l = [(6, (ptr b2 0)), (8, (ptr b3 0)), (9, v6)] ∧ Ctx [] w0 w [Item.own v6 (x10 : (List (Int × Int × Int × Bool))), Item.box b3 [v5, (.int .i64 x8), (.int .i64 x9)], Item.own v5 (x7 : (List Int)), Item.box b2 [(.slice none 0 0), (.int .i64 0), (.int .i64 0)]]) ?_ ?_
 ·refine W_block ?_
  have hC52 := hC10.f3
  have hC53 := hC52.f3
  have hC54 := hC53.f3
  have hC55 := hC54.f3
  have hC56 := hC55.h4
  refine W.sub (l' := [(1, u2), (2, u3), (6, (ptr b2 0)), (8, (ptr b3 0)), (9, (.slice (some ⟨b4, 0, none⟩) 0 0)), (17, u2), (18, (.int .i64 (List.length a2 : Int))), (19, (.int .i64 0))]) ?_ ⟨rfl, rfl, rfl, rfl, rfl, rfl, rfl, rfl, trivial⟩
  refine W_loop (fun k l w => ∃ v3 : Value, ∃ x2 : (List Int), ∃ x3 : Int, ∃ x4 : Int, ∃ v4 : Value, ∃ x5 : (List (Int × Int × Int × Bool)), ∃ x6 : Int, l = [(1, u2), (2, u3), (6, (ptr b2 0)), (8, (ptr b3 0)), (9, v4), (17, u2), (18, (.int .i64 (List.length a2 : Int))), (19, (.int .i64 x6))] ∧ Ctx [] w0 w [Item.own v4 (x5 : (List (Int × Int × Int × Bool))), Item.box b3 [v3, (.int .i64 x3), (.int .i64 x4)], Item.own v3 (x2 : (List Int)), Item.box b2 [(.slice none 0 0), (.int .i64 0), (.int .i64 0)]] ∧ M.RunCalls_l1 a2 a3 k x2 x3 x4 x5 x6 = some r1) FUEL ⟨v2, x1.1, x1.2.1, x1.2.2, (.slice (some ⟨b4, 0, none⟩) 0 0), ([] : List (Int × Int × Int × Bool)), 0, rfl, hC56, hr2⟩ ?_
  clear hr2
  rintro k1 _ w7 ⟨v3, x2, x3, x4, v4, x5, x6, rfl, hC11, hL1⟩
  cases k1 with
  | zero => rw [M.RunCalls_l1] at hL1; cases hL1
  | succ k1 =>
   rw [M.RunCalls_l1] at hL1
   refine W_seq_reg ?_
   refine WL_lss rfl rfl rfl ?_
   refine WL_nil ?_
   refine W_seq ?_
   refine W_cond rfl (fun hc1 => ?_) (fun hc1 => ?_)
   ·replace hL1 := ite_t hL1 hc1
    refine W_skip ?_
    refine nrm_normal ?_
    refine W_seq ?_
    refine W_block ?_
    refine W_seq_reg ?_
    refine WL_move rfl rfl ?_
    obtain ⟨x11, hx1, hL1⟩ := bind_some hL1
    refine WL_index Try.underlying60 ty35 g2 hx1 rfl rfl rfl (fun b5 o1 h1 => ?_)
    refine WL_load ty35 h1 hC11.keep rfl rfl (fun v7 h2 => ?_)
    obtain rfl := ro_st35 h2
    refine WL_alloc hC11 zero35 rfl rfl (fun b6 w9 hC12 hB7 => ?_)
    refine WL_assign rfl rfl ?_
    refine WL_store_box_agg (cs' := [(.int .i64 x11.1), (.int .i64 x11.2.1), (.int .i64 x11.2.2.1), (.bool x11.2.2.2)]) (new := [(.int .i64 x11.1), (.int .i64 x11.2.1), (.int .i64 x11.2.2.1), (.bool x11.2.2.2)]) hC12 0 rfl rfl (by intro v hv; simp only [List.mem_cons, List.not_mem_nil, or_false] at hv; rcases hv with rfl | rfl | rfl | rfl; exact rfl; exact rfl; exact rfl; exact rfl) rfl Try.sizeOf35 rfl rfl (fun w10 hC13 => ?_)
    try dsimp only [List.set] at hC13
    refine WL_nil ?_
    refine W_seq_reg ?_
    refine WL_buildSlice (vs := []) hC13 Try.underlying22 ty3 rfl rfl rfl rfl (by simp) rfl rfl (fun b7 w11 hC14 hB8 => ?_)
    have hC15 := hC14.row0 (α := Int)
    have hC16 := hC15.front 1 rfl
    dsimp only [List.eraseIdx, List.cons_append, List.nil_append, List.append_nil] at hC16
    have hC17 : Ctx [] w0 w11 (Item.own (.slice (some ⟨b7, 0, none⟩) 0 0) (([] : List Int) : List Int) :: [Item.box b6 [(.int .i64 x11.1), (.int .i64 x11.2.1), (.int .i64 x11.2.2.1), (.bool x11.2.2.2)], Item.own v4 (x5 : (List (Int × Int × Int × Bool))), Item.box b3 [v3, (.int .i64 x3), (.int .i64 x4)], Item.own v3 (x2 : (List Int)), Item.box b2 [(.slice none 0 0), (.int .i64 0), (.int .i64 0)]]) := hC16.rowOwn (by simp [maxLen])
    refine WL_assign rfl rfl ?_
    refine WL_nil ?_
    refine W_seq ?_
    refine W_seq_reg ?_
    refine WL_move rfl rfl ?_
    refine WL_assign rfl rfl ?_
    refine WL_nil ?_
    obtain ⟨r2, hr3, hL1⟩ := bind_some hL1
    refine W_norm (fun l w => ∃ v9 : Value, ∃ x14 : (List Int), x14 = r2 ∧ l = [(1, u2), (2, u3), (6, (ptr b2 0)), (8, (ptr b3 0)), (9, v4), (11, (ptr b6 0)), (12, v9), (17, u2), (18, (.int .i64 (List.length a2 : Int))), (19, (.int .i64 x6))] ∧ Ctx [] w0 w [Item.own v9 (x14 : (List Int)), Item.box b6 [(.int .i64 x11.1), (.int .i64 x11.2.1), (.int .i64 x11.2.2.1), (.bool x11.2.2.2)], Item.own v4 (x5 : (List (Int × Int × Int × Bool))), Item.box b3 [v3, (.int .i64 x3), (.int .i64 x4)], Item.own v3 (x2 : (List Int)), Item.box b2 [(.slice none 0 0), (.int .i64 0), (.int .i64 0)]]) ?_ ?_
    ·refine W_block ?_
     refine W.sub (l' := [(1, u2), (2, u3), (6, (ptr b2 0)), (8, (ptr b3 0)), (9, v4), (11, (ptr b6 0)), (12, (.slice (some ⟨b7, 0, none⟩) 0 0)), (13, (.int .i64 x6)), (17, u2), (18, (.int .i64 (List.length a2 : Int))), (19, (.int .i64 x6))]) ?_ ⟨rfl, rfl, rfl, rfl, rfl, rfl, rfl, rfl, rfl, rfl, rfl, trivial⟩
     refine W_loop (fun k l w => ∃ v8 : Value, ∃ x12 : (List Int), ∃ x13 : Int, l = [(1, u2), (2, u3), (6, (ptr b2 0)), (8, (ptr b3 0)), (9, v4), (11, (ptr b6 0)), (12, v8), (13, (.int .i64 x13)), (17, u2), (18, (.int .i64 (List.length a2 : Int))), (19, (.int .i64 x6))] ∧ Ctx [] w0 w [Item.own v8 (x12 : (List Int)), Item.box b6 [(.int .i64 x11.1), (.int .i64 x11.2.1), (.int .i64 x11.2.2.1), (.bool x11.2.2.2)], Item.own v4 (x5 : (List (Int × Int × Int × Bool))), Item.box b3 [v3, (.int .i64 x3), (.int .i64 x4)], Item.own v3 (x2 : (List Int)), Item.box b2 [(.slice none 0 0), (.int .i64 0), (.int .i64 0)]] ∧ M.RunCalls_l2 a3 a2 k x12 x13 = some r2) FUEL ⟨(.slice (some ⟨b7, 0, none⟩) 0 0), ([] : List Int), x6, rfl, hC17, hr3⟩ ?_
     clear hr3
     rintro k2 _ w12 ⟨v8, x12, x13, rfl, hC18, hL2⟩
     cases k2 with
     | zero => rw [M.RunCalls_l2] at hL2; cases hL2
     | succ k2 =>
      rw [M.RunCalls_l2] at hL2
      refine W_seq ?_
      refine W_seq_reg ?_
      refine WL_move rfl rfl ?_
      refine WL_move rfl rfl ?_
      refine WL_len Try.underlying22 g3 rfl rfl ?_
      refine WL_lss rfl rfl rfl ?_
      refine WL_nil ?_
      refine W_cond rfl (fun hc2 => ?_) (fun hc2 => ?_)
      ·replace hL2 := ite_t hL2 hc2
       refine W_skip ?_
       refine nrm_normal ?_
       refine W_seq ?_
       refine W_block ?_
       refine W_reg ?_
       refine WL_move rfl rfl ?_
       refine WL_move rfl rfl ?_
       refine WL_move rfl rfl ?_
       obtain ⟨x15, hx2, hL2⟩ := bind_some hL2
       refine WL_index Try.underlying22 ty3 g3 hx2 rfl rfl rfl (fun b8 o2 h3 => ?_)
       refine WL_load ty3 h3 hC18.keep rfl rfl (fun v10 h4 => ?_)
       obtain rfl := ro_int h4
       refine WL_buildSlice (vs := [(.int .i64 x15)]) hC18 Try.underlying22 ty3 rfl rfl rfl rfl (by intro v hv; simp only [List.mem_cons, List.not_mem_nil, or_false] at hv; rcases hv with rfl <;> rfl) rfl rfl (fun b9 w13 hC19 hB10 => ?_)
       have hC20 := hC19.row0 (α := Int)
       have hC21 := hC20.triv (int_val (x15))
       have hC22 := hC21.row1
       have hC23 := hC22.front 1 rfl
       dsimp only [List.eraseIdx, List.cons_append, List.nil_append, List.append_nil] at hC23
       have hC24 : Ctx [] w0 w13 (Item.own (.slice (some ⟨b9, 0, none⟩) 1 1) ([x15] : List Int) :: [Item.own v8 (x12 : (List Int)), Item.box b6 [(.int .i64 x11.1), (.int .i64 x11.2.1), (.int .i64 x11.2.2.1), (.bool x11.2.2.2)], Item.own v4 (x5 : (List (Int × Int × Int × Bool))), Item.box b3 [v3, (.int .i64 x3), (.int .i64 x4)], Item.own v3 (x2 : (List Int)), Item.box b2 [(.slice none 0 0), (.int .i64 0), (.int .i64 0)]]) := hC23.rowOwn (by simp [maxLen])
       obtain ⟨x16, hx3, hL2⟩ := bind_some hL2
       refine WL_append_flat (α := Int) hC24 1 rfl (hC24.ro 0 rfl) (Keep.refl _ _) Try.underlying22 ty3 rfl hx3 rfl rfl rfl (fun v11 w14 hC25 => ?_)
       try dsimp only [List.set] at hC25
       refine WL_assign rfl rfl ?_
       refine WL_nil ?_
       refine blk_normal ?_
       refine nrm_normal ?_
       refine W_reg ?_
       refine WL_move rfl rfl ?_
       refine WL_move rfl rfl ?_
       refine WL_len Try.underlying60 g2 rfl rfl ?_
       refine WL_add rfl rfl rfl ?_
       refine WL_assign rfl rfl ?_
       refine WL_nil ?_
       have hC26 := hC25.f6
       have hC27 := hC26.f6
       have hC28 := hC27.f6
       have hC29 := hC28.f6
       have hC30 := hC29.f6
       have hC31 := hC30.f6
       have hC32 := hC31.h6
       refine nrm_sub (l' := [(1, u2), (2, u3), (6, (ptr b2 0)), (8, (ptr b3 0)), (9, v4), (11, (ptr b6 0)), (12, v11), (13, (.int .i64 (w64 (x13 + (List.length a2 : Int))))), (17, u2), (18, (.int .i64 (List.length a2 : Int))), (19, (.int .i64 x6))]) ⟨rfl, rfl, rfl, rfl, rfl, rfl, rfl, rfl, rfl, rfl, rfl, trivial⟩ ?_
       exact ⟨k2, Nat.lt_succ_self _, v11, x16, w64 (x13 + (List.length a2 : Int)), rfl, hC32, hL2⟩
      replace hL2 := ite_f hL2 hc2
      refine W_exit ?_
      refine nrm_exit ?_
      refine nrm_exit ?_
      refine blk_exit ?_
      have hq1 := Option.some.inj hL2
      subst hq1
      refine nrm_sub (l' := [(1, u2), (2, u3), (6, (ptr b2 0)), (8, (ptr b3 0)), (9, v4), (11, (ptr b6 0)), (12, v8), (17, u2), (18, (.int .i64 (List.length a2 : Int))), (19, (.int .i64 x6))]) ⟨rfl, rfl, rfl, rfl, rfl, rfl, rfl, rfl, rfl, rfl, trivial⟩ ?_
      exact ⟨v8, x12, rfl, rfl, hC18⟩
    rintro l3 _ w15 hs3 ⟨v9, x14, rfl, rfl, hC33⟩
    try dsimp only at hL1
    refine nrm_sub' hs3 ?_
    clear hs3
    refine W_seq_reg ?_
    refine WL_load_box_agg [v3, (.int .i64 x3), (.int .i64 x4)] hC33 3 rfl rfl rfl Try.isAgg26 Try.sizeOf26 rfl rfl ?_
    refine WL_load_box_agg [(.int .i64 x11.1), (.int .i64 x11.2.1), (.int .i64 x11.2.2.1), (.bool x11.2.2.2)] hC33 1 rfl rfl rfl Try.isAgg35 Try.sizeOf35 rfl rfl ?_
    refine WL_move rfl rfl ?_
    obtain ⟨x17, hr4, hL1⟩ := bind_some hL1
    refine WL_call Try.call38 rfl rfl (c_M_FinishCall (x2, x3, x4) v3 ((hC33.ro 4 rfl).now (Keep.refl _ _)) (x11.1, x11.2.1, x11.2.2.1, x11.2.2.2) x14 v9 ((hC33.ro 0 rfl).now (Keep.refl _ _)) x17 hr4) ?_
    rintro _ w16 ⟨hB12, v12, v13, F2, F3, rfl, hv2, hv3, hn2, hb2⟩
    have hC34 := hC33.pushL hB12 (Bs := [Item.own v12 x17.1, Item.own v13 x17.2]) (Fs := [F2, F3]) ⟨F2, _, rfl, hv2, F3, _, rfl, hv3, rfl⟩ (by simpa using hn2) (fun b h => hb2 b (by simpa using h))
    obtain ⟨v14, rfl, hC35⟩ := st26_own hC34
    have hC36 := hC35.f1
    obtain ⟨rfl, hC37⟩ := st35_own hC36
    refine WL_move rfl rfl ?_
    refine WL_extract rfl rfl rfl ?_
    refine WL_extract rfl rfl rfl ?_
    refine WL_store_box_agg (cs' := [v14, (.int .i64 x17.1.2.1), (.int .i64 x17.1.2.2)]) (new := [v14, (.int .i64 x17.1.2.1), (.int .i64 x17.1.2.2)]) hC37 4 rfl rfl (by intro v hv; simp only [List.mem_cons, List.not_mem_nil, or_false] at hv; rcases hv with rfl | rfl | rfl; exact (ro_one (hC37.ro 0 rfl)); exact rfl; exact rfl) rfl Try.sizeOf26 rfl rfl (fun w17 hC38 => ?_)
    try dsimp only [List.set] at hC38
    refine WL_store_box_agg (cs' := [(.int .i64 x17.2.1), (.int .i64 x17.2.2.1), (.int .i64 x17.2.2.2.1), (.bool x17.2.2.2.2)]) (new := [(.int .i64 x17.2.1), (.int .i64 x17.2.2.1), (.int .i64 x17.2.2.2.1), (.bool x17.2.2.2.2)]) hC38 2 rfl rfl (by intro v hv; simp only [List.mem_cons, List.not_mem_nil, or_false] at hv; rcases hv with rfl | rfl | rfl | rfl; exact rfl; exact rfl; exact rfl; exact rfl) rfl Try.sizeOf35 rfl rfl (fun w18 hC39 => ?_)
    try dsimp only [List.set] at hC39
    refine WL_nil ?_
    refine W_reg ?_
    refine WL_move rfl rfl ?_
    refine WL_load_box_agg [(.int .i64 x17.2.1), (.int .i64 x17.2.2.1), (.int .i64 x17.2.2.2.1), (.bool x17.2.2.2.2)] hC39 2 rfl rfl rfl Try.isAgg35 Try.sizeOf35 rfl rfl ?_
    refine WL_buildSlice (vs := [(.agg #[(.int .i64 x17.2.1), (.int .i64 x17.2.2.1), (.int .i64 x17.2.2.2.1), (.bool x17.2.2.2.2)])]) hC39 Try.underlying60 ty35 rfl rfl rfl rfl (by intro v hv; simp only [List.mem_cons, List.not_mem_nil, or_false] at hv; rcases hv with rfl <;> rfl) rfl rfl (fun b10 w19 hC40 hB13 => ?_)
    have hC41 := hC40.row0 (α := (Int × Int × Int × Bool))
    have hC42 := own_st35 x17.2.1 x17.2.2.1 x17.2.2.2.1 x17.2.2.2.2 hC41
    have hC43 := hC42.row1
    have hC44 := hC43.front 1 rfl
    dsimp only [List.eraseIdx, List.cons_append, List.nil_append, List.append_nil] at hC44
    have hC45 : Ctx [] w0 w19 (Item.own (.slice (some ⟨b10, 0, none⟩) 1 1) ([(x17.2.1, x17.2.2.1, x17.2.2.2.1, x17.2.2.2.2)] : List (Int × Int × Int × Bool)) :: [Item.own v14 (x17.1.1 : (List Int)), Item.own v9 (x14 : (List Int)), Item.box b6 [(.int .i64 x17.2.1), (.int .i64 x17.2.2.1), (.int .i64 x17.2.2.2.1), (.bool x17.2.2.2.2)], Item.own v4 (x5 : (List (Int × Int × Int × Bool))), Item.box b3 [v14, (.int .i64 x17.1.2.1), (.int .i64 x17.1.2.2)], Item.own v3 (x2 : (List Int)), Item.box b2 [(.slice none 0 0), (.int .i64 0), (.int .i64 0)]]) := hC44.rowOwn (by simp [maxLen])
    obtain ⟨x18, hx4, hL1⟩ := bind_some hL1
    refine WL_append_flat (α := (Int × Int × Int × Bool)) hC45 4 rfl (hC45.ro 0 rfl) (Keep.refl _ _) Try.underlying60 ty35 rfl hx4 rfl rfl rfl (fun v15 w20 hC46 => ?_)
    try dsimp only [List.set] at hC46
    refine WL_assign rfl rfl ?_
    refine WL_nil ?_
    refine blk_normal ?_
    refine nrm_normal ?_
    refine W_reg ?_
    refine WL_add rfl rfl rfl ?_
    refine WL_move rfl rfl ?_
    refine WL_nil ?_
    have hC47 := hC46.f7
    have hC48 := hC47.f2
    have hC49 := hC48.f6
    have hC50 := hC49.f6
    have hC51 := hC50.h4
    refine nrm_sub (l' := [(1, u2), (2, u3), (6, (ptr b2 0)), (8, (ptr b3 0)), (9, v15), (17, u2), (18, (.int .i64 (List.length a2 : Int))), (19, (.int .i64 (w64 (x6 + 1))))]) ⟨rfl, rfl, rfl, rfl, rfl, rfl, rfl, rfl, trivial⟩ ?_
    exact ⟨k1, Nat.lt_succ_self _, v14, x17.1.1, x17.1.2.1, x17.1.2.2, v15, x18, w64 (x6 + 1), rfl, hC51, hL1⟩
   replace hL1 := ite_f hL1 hc1
   refine W_exit ?_
   refine nrm_exit ?_
   refine nrm_exit ?_
   refine blk_exit ?_
   have hq2 := Option.some.inj hL1
   subst hq2
   refine nrm_sub (l' := [(6, (ptr b2 0)), (8, (ptr b3 0)), (9, v4)]) ⟨rfl, rfl, rfl, trivial⟩ ?_
   exact ⟨v3, x2, x3, x4, v4, x5, rfl, rfl, hC11⟩
 rintro l4 _ w21 hs4 ⟨v5, x7, x8, x9, v6, x10, rfl, rfl, hC57⟩
 try dsimp only at hF
 refine nrm_sub' hs4 ?_
 clear hs4
 refine W_seq_reg ?_
 refine WL_load_box_agg [v5, (.int .i64 x8), (.int .i64 x9)] hC57 1 rfl rfl rfl Try.isAgg26 Try.sizeOf26 rfl rfl ?_
 refine WL_move rfl rfl ?_
 refine WL_store_box_agg (cs' := [v5, (.int .i64 x8), (.int .i64 x9)]) (new := [v5, (.int .i64 x8), (.int .i64 x9)]) hC57 3 rfl rfl (by intro v hv; simp only [List.mem_cons, List.not_mem_nil, or_false] at hv; rcases hv with rfl | rfl | rfl; exact (ro_one (hC57.ro 2 rfl)); exact rfl; exact rfl) rfl Try.sizeOf26 rfl rfl (fun w22 hC58 => ?_)
 try dsimp only [List.set] at hC58
 refine WL_assign rfl rfl ?_
 refine WL_nil ?_
 refine W_ret ?_
 have hq3 := Option.some.inj hF
 subst hq3
 refine fn_retG2 rfl (rv_cell_agg (cs' := [v5, (.int .i64 x8), (.int .i64 x9)]) hC58 (i := 3) rfl rfl rfl Try.isAgg26 Try.sizeOf26 rfl) (rv_tmp rfl) ?_
 have hC61 := hC58.f2
 have hC60 := own_st26 v5 x7 x8 x9 hC61
 exact ⟨_, rfl, res2_of hC60⟩

theorem c_S_RunCalls {w0 : World} (a1 : ((List Int) × Int × Int)) (u1 : Value) (g1 : RO [] w0 u1 a1.1) (a2 : (List (Int × Int × Int × Bool))) (u2 : Value) (g2 : RO [] w0 u2 a2) (a3 : (List Int)) (u3 : Value) (g3 : RO [] w0 u3 a3) (rr : (((List Int) × Int × Int) × (List (Int × Int × Int × Bool)))) (hF : S.RunCalls a1 a2 a3 = some rr) :
 Calls Try.prog 45 [(.agg #[u1, (.int .i64 a1.2.1), (.int .i64 a1.2.2)]), u2, u3].toArray w0 fun e w' => ∃ v, e = .returned v ∧ Res2 w0 rr.1 rr.2 v w' := by
 refine calls_of_W Try.func45 rfl rfl ?_
 have hC0 := Ctx.start w0
 unfold S.RunCalls at hF
 refine W_seq_reg ?_
 refine WL_box (cs := [u1, (.int .i64 a1.2.1), (.int .i64 a1.2.2)]) hC0 rfl rfl rfl (fun b1 w1 hC1 hB1 => ?_)
 refine WL_alloc hC1 zero26 rfl rfl (fun b2 w2 hC2 hB2 => ?_)
 refine WL_assign rfl rfl ?_
 refine WL_nil ?_
 refine W_seq_reg ?_
 refine WL_load_box_agg [u1, (.int .i64 a1.2.1), (.int .i64 a1.2.2)] hC2 1 rfl rfl rfl Try.isAgg26 Try.sizeOf26 rfl rfl ?_
 obtain ⟨x1, hr1, hF⟩ := bind_some hF
 refine WL_call Try.call89 rfl rfl (c_S_l27Copy (a1.1, a1.2.1, a1.2.2) u1 (g1.now hC2.keep) x1 hr1) ?_
 rintro v1 w3 ⟨hB3, F1, hv1, hn1, hb1⟩
 have hC3 := hC2.push hB3 (A := Item.own v1 x1) hv1 hn1 hb1
 obtain ⟨v2, rfl, hC4⟩ := st26_own hC3
 refine WL_alloc hC4 zero26 rfl rfl (fun b3 w4 hC5 hB4 => ?_)
 refine WL_store_box_agg (cs' := [v2, (.int .i64 x1.2.1), (.int .i64 x1.2.2)]) (new := [v2, (.int .i64 x1.2.1), (.int .i64 x1.2.2)]) hC5 0 rfl rfl (by intro v hv; simp only [List.mem_cons, List.not_mem_nil, or_false] at hv; rcases hv with rfl | rfl | rfl; exact (ro_one (hC5.ro 1 rfl)); exact rfl; exact rfl) rfl Try.sizeOf26 rfl rfl (fun w5 hC6 => ?_)
 try dsimp only [List.set] at hC6
 refine WL_nil ?_
 refine W_seq_reg ?_
 refine WL_buildSlice (vs := []) hC6 Try.underlying60 ty35 rfl rfl rfl rfl (by simp) rfl rfl (fun b4 w6 hC7 hB5 => ?_)
 have hC8 := hC7.row0 (α := (Int × Int × Int × Bool))
 have hC9 := hC8.front 1 rfl
 dsimp only [List.eraseIdx, List.cons_append, List.nil_append, List.append_nil] at hC9
 have hC10 : Ctx [] w0 w6 (Item.own (.slice (some ⟨b4, 0, none⟩) 0 0) (([] : List (Int × Int × Int × Bool)) : List (Int × Int × Int × Bool)) :: [Item.box b3 [v2, (.int .i64 x1.2.1), (.int .i64 x1.2.2)], Item.own v2 (x1.1 : (List Int)), Item.box b2 [(.slice none 0 0), (.int .i64 0), (.int .i64 0)], Item.box b1 [u1, (.int .i64 a1.2.1), (.int .i64 a1.2.2)]]) := hC9.rowOwn (by simp [maxLen])
 refine WL_assign rfl rfl ?_
 refine WL_nil ?_
 refine W_seq ?_
 refine W_seq_reg ?_
 refine WL_assign rfl rfl ?_
 refine WL_nil ?_
 obtain ⟨r1, hr2, hF⟩ := bind_some hF
 refine W_norm (fun l w => ∃ v5 : Value, ∃ x7 : (List Int), ∃ x8 : Int, ∃ x9 : Int, ∃ v6 : Value, ∃ x10 : (List (Int × Int × Int × Bool)), (x7, x8, x9, x10) = r1 ∧ l = [(6, (ptr b2 0)), (8, (ptr b3 0)), (9, v6)] ∧ Ctx [] w0 w [Item.own v6 (x10 : (List (Int × Int × Int × Bool))), Item.box b3 [v5, (.int .i64 x8), (.int .i64 x9)], Item.own v5 (x7 : (List Int)), Item.box b2 [(.slice none 0 0), (.int .i64 0), (.int .i64 0)]]) ?_ ?_
 ·refine W_block ?_
  have hC63 := hC10.f3
  have hC64 := hC63.f3
  have hC65 := hC64.f3
  have hC66 := hC65.f3
  have hC67 := hC66.h4
  refine W.sub (l' := [(1, u2), (2, u3), (6, (ptr b2 0)), (8, (ptr b3 0)), (9, (.slice (some ⟨b4, 0, none⟩) 0 0)), (10, (.int .i64 0))]) ?_ ⟨rfl, rfl, rfl, rfl, rfl, rfl, trivial⟩
  refine W_loop (fun k l w => ∃ v3 : Value, ∃ x2 : (List Int), ∃ x3 : Int, ∃ x4 : Int, ∃ v4 : Value, ∃ x5 : (List (Int × Int × Int × Bool)), ∃ x6 : Int, l = [(1, u2), (2, u3), (6, (ptr b2 0)), (8, (ptr b3 0)), (9, v4), (10, (.int .i64 x6))] ∧ Ctx [] w0 w [Item.own v4 (x5 : (List (Int × Int × Int × Bool))), Item.box b3 [v3, (.int .i64 x3), (.int .i64 x4)], Item.own v3 (x2 : (List Int)), Item.box b2 [(.slice none 0 0), (.int .i64 0), (.int .i64 0)]] ∧ S.RunCalls_l1 a2 a3 k x2 x3 x4 x5 x6 = some r1) FUEL ⟨v2, x1.1, x1.2.1, x1.2.2, (.slice (some ⟨b4, 0, none⟩) 0 0), ([] : List (Int × Int × Int × Bool)), 0, rfl, hC67, hr2⟩ ?_
  clear hr2
  rintro k1 _ w7 ⟨v3, x2, x3, x4, v4, x5, x6, rfl, hC11, hL1⟩
  cases k1 with
  | zero => rw [S.RunCalls_l1] at hL1; cases hL1
  | succ k1 =>
   rw [S.RunCalls_l1] at hL1
   refine W_seq ?_
   refine W_seq_reg ?_
   refine WL_move rfl rfl ?_
   refine WL_move rfl rfl ?_
   refine WL_len Try.underlying60 g2 rfl rfl ?_
   refine WL_lss rfl rfl rfl ?_
   refine WL_nil ?_
   refine W_cond rfl (fun hc1 => ?_) (fun hc1 => ?_)
   ·replace hL1 := ite_t hL1 hc1
    refine W_skip ?_
    refine nrm_normal ?_
    refine W_seq ?_
    refine W_block ?_
    refine W_seq_reg ?_
    refine WL_buildSlice (vs := []) hC11 Try.underlying22 ty3 rfl rfl rfl rfl (by simp) rfl rfl (fun b5 w9 hC12 hB7 => ?_)
    have hC13 := hC12.row0 (α := Int)
    have hC14 := hC13.front 1 rfl
    dsimp only [List.eraseIdx, List.cons_append, List.nil_append, List.append_nil] at hC14
    have hC15 : Ctx [] w0 w9 (Item.own (.slice (some ⟨b5, 0, none⟩) 0 0) (([] : List Int) : List Int) :: [Item.own v4 (x5 : (List (Int × Int × Int × Bool))), Item.box b3 [v3, (.int .i64 x3), (.int .i64 x4)], Item.own v3 (x2 : (List Int)), Item.box b2 [(.slice none 0 0), (.int .i64 0), (.int .i64 0)]]) := hC14.rowOwn (by simp [maxLen])
    refine WL_assign rfl rfl ?_
    refine WL_nil ?_
    refine W_seq ?_
    refine W_seq_reg ?_
    refine WL_move rfl rfl ?_
    refine WL_assign rfl rfl ?_
    refine WL_nil ?_
    obtain ⟨r2, hr3, hL1⟩ := bind_some hL1
    refine W_norm (fun l w => ∃ v8 : Value, ∃ x13 : (List Int), x13 = r2 ∧ l = [(1, u2), (2, u3), (6, (ptr b2 0)), (8, (ptr b3 0)), (9, v4), (10, (.int .i64 x6)), (11, v8)] ∧ Ctx [] w0 w [Item.own v8 (x13 : (List Int)), Item.own v4 (x5 : (List (Int × Int × Int × Bool))), Item.box b3 [v3, (.int .i64 x3), (.int .i64 x4)], Item.own v3 (x2 : (List Int)), Item.box b2 [(.slice none 0 0), (.int .i64 0), (.int .i64 0)]]) ?_ ?_
    ·refine W_block ?_
     refine W.sub (l' := [(1, u2), (2, u3), (6, (ptr b2 0)), (8, (ptr b3 0)), (9, v4), (10, (.int .i64 x6)), (11, (.slice (some ⟨b5, 0, none⟩) 0 0)), (12, (.int .i64 x6))]) ?_ ⟨rfl, rfl, rfl, rfl, rfl, rfl, rfl, rfl, trivial⟩
     refine W_loop (fun k l w => ∃ v7 : Value, ∃ x11 : (List Int), ∃ x12 : Int, l = [(1, u2), (2, u3), (6, (ptr b2 0)), (8, (ptr b3 0)), (9, v4), (10, (.int .i64 x6)), (11, v7), (12, (.int .i64 x12))] ∧ Ctx [] w0 w [Item.own v7 (x11 : (List Int)), Item.own v4 (x5 : (List (Int × Int × Int × Bool))), Item.box b3 [v3, (.int .i64 x3), (.int .i64 x4)], Item.own v3 (x2 : (List Int)), Item.box b2 [(.slice none 0 0), (.int .i64 0), (.int .i64 0)]] ∧ S.RunCalls_l2 a3 a2 k x11 x12 = some r2) FUEL ⟨(.slice (some ⟨b5, 0, none⟩) 0 0), ([] : List Int), x6, rfl, hC15, hr3⟩ ?_
     clear hr3
     rintro k2 _ w10 ⟨v7, x11, x12, rfl, hC16, hL2⟩
     cases k2 with
     | zero => rw [S.RunCalls_l2] at hL2; cases hL2
     | succ k2 =>
      rw [S.RunCalls_l2] at hL2
      refine W_seq ?_
      refine W_seq_reg ?_
      refine WL_move rfl rfl ?_
      refine WL_move rfl rfl ?_
      refine WL_len Try.underlying22 g3 rfl rfl ?_
      refine WL_lss rfl rfl rfl ?_
      refine WL_nil ?_
      refine W_cond rfl (fun hc2 => ?_) (fun hc2 => ?_)
      ·replace hL2 := ite_t hL2 hc2
       refine W_skip ?_
       refine nrm_normal ?_
       refine W_seq ?_
       refine W_block ?_
       refine W_reg ?_
       refine WL_move rfl rfl ?_
       refine WL_move rfl rfl ?_
       refine WL_move rfl rfl ?_
       obtain ⟨x14, hx1, hL2⟩ := bind_some hL2
       refine WL_index Try.underlying22 ty3 g3 hx1 rfl rfl rfl (fun b6 o1 h1 => ?_)
       refine WL_load ty3 h1 hC16.keep rfl rfl (fun v9 h2 => ?_)
       obtain rfl := ro_int h2
       refine WL_buildSlice (vs := [(.int .i64 x14)]) hC16 Try.underlying22 ty3 rfl rfl rfl rfl (by intro v hv; simp only [List.mem_cons, List.not_mem_nil, or_false] at hv; rcases hv with rfl <;> rfl) rfl rfl (fun b7 w11 hC17 hB9 => ?_)
       have hC18 := hC17.row0 (α := Int)
       have hC19 := hC18.triv (int_val (x14))
       have hC20 := hC19.row1
       have hC21 := hC20.front 1 rfl
       dsimp only [List.eraseIdx, List.cons_append, List.nil_append, List.append_nil] at hC21
       have hC22 : Ctx [] w0 w11 (Item.own (.slice (some ⟨b7, 0, none⟩) 1 1) ([x14] : List Int) :: [Item.own v7 (x11 : (List Int)), Item.own v4 (x5 : (List (Int × Int × Int × Bool))), Item.box b3 [v3, (.int .i64 x3), (.int .i64 x4)], Item.own v3 (x2 : (List Int)), Item.box b2 [(.slice none 0 0), (.int .i64 0), (.int .i64 0)]]) := hC21.rowOwn (by simp [maxLen])
       obtain ⟨x15, hx2, hL2⟩ := bind_some hL2
       refine WL_append_flat (α := Int) hC22 1 rfl (hC22.ro 0 rfl) (Keep.refl _ _) Try.underlying22 ty3 rfl hx2 rfl rfl rfl (fun v10 w12 hC23 => ?_)
       try dsimp only [List.set] at hC23
       refine WL_assign rfl rfl ?_
       refine WL_nil ?_
       refine blk_normal ?_
       refine nrm_normal ?_
       refine W_reg ?_
       refine WL_move rfl rfl ?_
       refine WL_move rfl rfl ?_
       refine WL_len Try.underlying60 g2 rfl rfl ?_
       refine WL_add rfl rfl rfl ?_
       refine WL_assign rfl rfl ?_
       refine WL_nil ?_
       have hC24 := hC23.f5
       have hC25 := hC24.f5
       have hC26 := hC25.f5
       have hC27 := hC26.f5
       have hC28 := hC27.f5
       have hC29 := hC28.h5
       refine nrm_sub (l' := [(1, u2), (2, u3), (6, (ptr b2 0)), (8, (ptr b3 0)), (9, v4), (10, (.int .i64 x6)), (11, v10), (12, (.int .i64 (w64 (x12 + (List.length a2 : Int)))))]) ⟨rfl, rfl, rfl, rfl, rfl, rfl, rfl, rfl, trivial⟩ ?_
       exact ⟨k2, Nat.lt_succ_self _, v10, x15, w64 (x12 + (List.length a2 : Int)), rfl, hC29, hL2⟩
      replace hL2 := ite_f hL2 hc2
      refine W_exit ?_
      refine nrm_exit ?_
      refine nrm_exit ?_
      refine blk_exit ?_
      have hq1 := Option.some.inj hL2
      subst hq1
      refine nrm_sub (l' := [(1, u2), (2, u3), (6, (ptr b2 0)), (8, (ptr b3 0)), (9, v4), (10, (.int .i64 x6)), (11, v7)]) ⟨rfl, rfl, rfl, rfl, rfl, rfl, rfl, trivial⟩ ?_
      exact ⟨v7, x11, rfl, rfl, hC16⟩
    rintro l3 _ w13 hs3 ⟨v8, x13, rfl, rfl, hC30⟩
    try dsimp only at hL1
    refine nrm_sub' hs3 ?_
    clear hs3
    obtain ⟨r3, hr4, hL1⟩ := bind_some hL1
    refine W_cut (fun l w => ∃ b8 : Nat, ∃ v11 : Value, ∃ x16 : (List Int), ∃ x17 : Int, ∃ x18 : Int, ∃ b9 : Nat, ∃ x19 : Int, ∃ x20 : Int, ∃ x21 : Int, ∃ x22 : Bool, (x16, x17, x18, x19, x20, x21, x22) = r3 ∧ l = [(1, u2), (2, u3), (6, (ptr b2 0)), (8, (ptr b3 0)), (9, v4), (10, (.int .i64 x6)), (13, (ptr b8 0)), (14, (ptr b9 0))] ∧ Ctx [] w0 w [Item.box b9 [(.int .i64 x19), (.int .i64 x20), (.int .i64 x21), (.bool x22)], Item.box b8 [v11, (.int .i64 x17), (.int .i64 x18)], Item.own v11 (x16 : (List Int)), Item.own v4 (x5 : (List (Int × Int × Int × Bool))), Item.box b3 [v3, (.int .i64 x3), (.int .i64 x4)], Item.own v3 (x2 : (List Int)), Item.box b2 [(.slice none 0 0), (.int .i64 0), (.int .i64 0)]]) ?_ ?_
    ·refine W_drawn 14 rfl hmix (fun w15 hB12 => ?_)
     have hC32 := hC30.grow hB12
     refine WA_tk 1 (by kernel_rfl) rfl rfl (fl_move rfl) ?_
     refine WL_move rfl rfl ?_
     refine WL_nil ?_
     refine WA_tk 2 (by kernel_rfl) rfl rfl (fl_move rfl) ?_
     refine WL_move rfl rfl ?_
     refine WL_nil ?_
     obtain ⟨x23, hx3, hr4⟩ := bind_some hr4
     refine WA_tk 3 (by kernel_rfl) rfl rfl (fl_index Try.underlying60 ty35 g2 hx3 rfl rfl) ?_
     refine WL_index Try.underlying60 ty35 g2 hx3 rfl rfl rfl (fun b10 o2 h3 => ?_)
     refine WL_nil ?_
     refine WA_tk 5 (by kernel_rfl) rfl rfl (fl_move rfl) ?_
     refine WL_move rfl rfl ?_
     refine WL_nil ?_
     obtain ⟨x24, hr5, hr4⟩ := bind_some hr4
     refine WA.sub (l' := [(1, u2), (2, u3), (6, (ptr b2 0)), (8, (ptr b3 0)), (9, v4), (10, (.int .i64 x6)), (11, v8), (43, u2), (44, (.int .i64 x6)), (45, (ptr b10 o2)), (47, v8)]) ?_ ⟨rfl, rfl, rfl, rfl, rfl, rfl, rfl, rfl, rfl, rfl, rfl, trivial⟩
     refine WA_postsO [⟨0, [], fun vs => PW.val (.agg #[v3, (.int .i64 x3), (.int .i64 x4)]), []⟩, ⟨4, [], fun vs => PW.val (.agg #[(.int .i64 x23.1), (.int .i64 x23.2.1), (.int .i64 x23.2.2.1), (.bool x23.2.2.2)]), []⟩, ⟨6, [], fun vs => PW.own2 (x24.1 : ((List Int) × Int × Int)) (x24.2 : (Int × Int × Int × Bool)), []⟩, ⟨7, [48], fun vs => PW.val (vs.getD 0 undef), []⟩, ⟨8, [41], fun vs => PW.comp (vs.getD 0 undef) 0, []⟩, ⟨9, [41], fun vs => PW.comp (vs.getD 0 undef) 1, []⟩, ⟨10, [], fun vs => PW.box [(.slice none 0 0), (.int .i64 0), (.int .i64 0)], []⟩, ⟨11, [], fun vs => PW.box [(.int .i64 0), (.int .i64 0), (.int .i64 0), (.bool false)], []⟩] [[], [], [0, 4], [6], [6, 7], [6, 7], [], []] [9] 2 rfl (by kernel_rfl) (by kernel_rfl) ?_ ⟨?_, ?_, trivial⟩
     ·refine StepsE_cons rfl ?_ ?_
      ·intro w19 hB16
       refine DepsE_nil ?_
       refine ⟨_, rfl, ?_⟩
       refine WL_load_box_agg [v3, (.int .i64 x3), (.int .i64 x4)] (hC32.grow hB16) 2 rfl rfl rfl Try.isAgg26 Try.sizeOf26 rfl rfl ?_
       refine WL_nil ?_
       exact FinE_val (Below.refl _ _) rfl rfl ⟨rfl, rfl⟩
      refine StepsE_cons rfl ?_ ?_
      ·intro w19 hB16
       refine DepsE_nil ?_
       refine ⟨_, rfl, ?_⟩
       refine WL_load ty35 h3 (hC32.keep.then hB16) rfl rfl (fun v12 h4 => ?_)
       obtain rfl := ro_st35 h4
       refine WL_nil ?_
       exact FinE_val (Below.refl _ _) rfl rfl ⟨rfl, rfl⟩
      refine StepsE_cons rfl ?_ ?_
      ·intro w19 hB16
       refine DepsE_cons rfl rfl rfl ?_
       rintro _ _ ⟨rfl, rfl⟩ _
       refine DepsE_cons rfl rfl rfl ?_
       rintro _ _ ⟨rfl, rfl⟩ _
       refine DepsE_nil ?_
       refine ⟨_, rfl, ?_⟩
       refine WL_call Try.call36 rfl rfl (c_S_FinishCall (x2, x3, x4) v3 ((hC32.grow hB16).ro 3 rfl) x23 x13 v8 ((hC32.grow hB16).ro 0 rfl) x24 hr5) ?_
       rintro _ w16 ⟨hB13, v13, v14, F2, F3, rfl, hv2, hv3, hn2, hb2⟩
       refine WL_nil ?_
       exact FinE_own (F := F2 ++ F3) hB13 rfl rfl ⟨_, _, _, _, rfl, rfl, hv2, hv3⟩ (by simpa using hn2) (fun b h => hb2 b (by simpa using h)) (fun b h => by simp only [List.mem_append] at h; rcases h with h | h <;> first | exact Val.inh hv2 b h | exact Val.inh hv3 b h)
      refine StepsE_cons rfl ?_ ?_
      ·intro w19 hB16
       refine DepsE_cons rfl rfl rfl ?_
       rintro _ _ ⟨v13, v14, F2, F3, rfl, rfl, hv2, hv3⟩ _
       obtain ⟨v15, rfl, h5⟩ := ro_st26 (ro_of_own hv2)
       obtain rfl := ro_st35 (ro_of_own hv3)
       refine DepsE_nil ?_
       refine ⟨_, rfl, ?_⟩
       refine WL_move rfl rfl ?_
       refine WL_nil ?_
       exact FinE_val (Below.refl _ _) rfl rfl ⟨rfl, rfl⟩
      refine StepsE_cons rfl ?_ ?_
      ·intro w19 hB16
       refine DepsE_cons rfl rfl rfl ?_
       rintro _ _ ⟨v13, v14, F2, F3, rfl, rfl, hv2, hv3⟩ _
       obtain ⟨v15, rfl, h5⟩ := ro_st26 (ro_of_own hv2)
       obtain rfl := ro_st35 (ro_of_own hv3)
       refine DepsE_cons rfl rfl rfl ?_
       rintro _ _ ⟨rfl, rfl⟩ _
       refine DepsE_nil ?_
       refine ⟨_, rfl, ?_⟩
       refine WL_extract rfl rfl rfl ?_
       refine WL_nil ?_
       exact FinE_val (Below.refl _ _) rfl rfl ⟨⟨_, rfl, rfl⟩, rfl⟩
      refine StepsE_cons rfl ?_ ?_
      ·intro w19 hB16
       refine DepsE_cons rfl rfl rfl ?_
       rintro _ _ ⟨v13, v14, F2, F3, rfl, rfl, hv2, hv3⟩ _
       obtain ⟨v15, rfl, h5⟩ := ro_st26 (ro_of_own hv2)
       obtain rfl := ro_st35 (ro_of_own hv3)
       refine DepsE_cons rfl rfl rfl ?_
       rintro _ _ ⟨rfl, rfl⟩ _
       refine DepsE_nil ?_
       refine ⟨_, rfl, ?_⟩
       refine WL_extract rfl rfl rfl ?_
       refine WL_nil ?_
       exact FinE_val (Below.refl _ _) rfl rfl ⟨⟨_, rfl, rfl⟩, rfl⟩
      refine StepsE_cons rfl ?_ ?_
      ·intro w19 hB16
       refine DepsE_nil ?_
       refine ⟨_, rfl, ?_⟩
       refine WL_alloc (Ctx.start _) zero26 rfl rfl (fun b11 w17 hC33 hB14 => ?_)
       refine WL_nil ?_
       exact FinE_ctx hC33 rfl rfl (fun F h => ⟨b11, rfl, h⟩)
      refine StepsE_cons rfl ?_ ?_
      ·intro w19 hB16
       refine DepsE_nil ?_
       refine ⟨_, rfl, ?_⟩
       refine WL_alloc (Ctx.start _) zero35 rfl rfl (fun b12 w18 hC34 hB15 => ?_)
       refine WL_nil ?_
       exact FinE_ctx hC34 rfl rfl (fun F h => ⟨b12, rfl, h⟩)
      exact StepsE_nil
     ·intro g' hg'
      obtain rfl : g' = 2 := hg'
      intro w20 hB17
      refine AllE_cons rfl rfl rfl ?_
      rintro _ _ ⟨rfl, rfl⟩
      refine AllE_cons rfl rfl rfl ?_
      rintro _ _ ⟨rfl, rfl⟩
      refine AllE_cons rfl rfl rfl ?_
      rintro _ _ ⟨v13, v14, F2, F3, rfl, rfl, hv2, hv3⟩
      refine AllE_cons rfl rfl rfl ?_
      rintro _ _ ⟨rfl, rfl⟩
      refine AllE_cons rfl rfl rfl ?_
      rintro _ _ ⟨⟨_, hx4, hx5⟩, rfl⟩
      obtain rfl := Value.tuple.inj hx4
      obtain rfl := Option.some.inj (show (some v13 : Option Value) = some _ from hx5)
      refine AllE_cons rfl rfl rfl ?_
      rintro _ _ ⟨⟨_, hx6, hx7⟩, rfl⟩
      obtain rfl := Value.tuple.inj hx6
      obtain rfl := Option.some.inj (show (some v14 : Option Value) = some _ from hx7)
      refine AllE_cons rfl rfl rfl ?_
      rintro _ F4 ⟨b11, rfl, hv4⟩
      refine AllE_cons rfl rfl rfl ?_
      rintro _ F5 ⟨b12, rfl, hv5⟩
      refine AllE_nil ?_
      intro hn3 hb3
      have hC35 := hC32.pushL hB17 (Bs := [Item.box b12 [(.int .i64 0), (.int .i64 0), (.int .i64 0), (.bool false)], Item.box b11 [(.slice none 0 0), (.int .i64 0), (.int .i64 0)], Item.own v13 (x24.1 : ((List Int) × Int × Int)), Item.own v14 (x24.2 : (Int × Int × Int × Bool))]) (Fs := [F5, F4, F2, F3]) ⟨F5, _, rfl, hv5, F4, _, rfl, hv4, F2, _, rfl, hv2, F3, _, rfl, hv3, rfl⟩ (by simpa using hn3) (fun b h => (hb3 b (by simpa using h)).1)
      have hC36 := hC35.f2
      obtain ⟨v16, rfl, hC37⟩ := st26_own hC36
      have hC38 := hC37.f3
      obtain ⟨rfl, hC39⟩ := st35_own hC38
      refine WA_one 12 (by kernel_rfl) rfl ?_
      refine WL_store_box_agg (cs' := [v16, (.int .i64 x24.1.2.1), (.int .i64 x24.1.2.2)]) (new := [v16, (.int .i64 x24.1.2.1), (.int .i64 x24.1.2.2)]) hC39 2 rfl rfl (by intro v hv; simp only [List.mem_cons, List.not_mem_nil, or_false] at hv; rcases hv with rfl | rfl | rfl; exact (ro_one (hC39.ro 0 rfl)); exact rfl; exact rfl) rfl Try.sizeOf26 rfl rfl (fun w21 hC40 => ?_)
      try dsimp only [List.set] at hC40
      refine WL_nil ?_
      refine WA_one 13 (by kernel_rfl) rfl ?_
      refine WL_store_box_agg (cs' := [(.int .i64 x24.2.1), (.int .i64 x24.2.2.1), (.int .i64 x24.2.2.2.1), (.bool x24.2.2.2.2)]) (new := [(.int .i64 x24.2.1), (.int .i64 x24.2.2.1), (.int .i64 x24.2.2.2.1), (.bool x24.2.2.2.2)]) hC40 1 rfl rfl (by intro v hv; simp only [List.mem_cons, List.not_mem_nil, or_false] at hv; rcases hv with rfl | rfl | rfl | rfl; exact rfl; exact rfl; exact rfl; exact rfl) rfl Try.sizeOf35 rfl rfl (fun w22 hC41 => ?_)
      try dsimp only [List.set] at hC41
      refine WL_nil ?_
      refine WA_done (by kernel_rfl) ?_
      have hq2 := Option.some.inj hr4
      subst hq2
      have hC42 := hC41.f7
      have hC43 := hC42.f7
      have hC44 := hC43.f7
      have hC45 := hC44.f7
      have hC46 := hC45.f4
      have hC47 := hC46.f6
      have hC48 := hC47.f6
      have hC49 := hC48.h7
      refine nrm_sub (l' := [(1, u2), (2, u3), (6, (ptr b2 0)), (8, (ptr b3 0)), (9, v4), (10, (.int .i64 x6)), (13, (ptr b11 0)), (14, (ptr b12 0))]) ⟨rfl, rfl, rfl, rfl, rfl, rfl, rfl, rfl, trivial⟩ ?_
      exact ⟨b11, v16, x24.1.1, x24.1.2.1, x24.1.2.2, b12, x24.2.1, x24.2.2.1, x24.2.2.2.1, x24.2.2.2.2, rfl, rfl, hC49⟩
     intro g' hg'
     obtain rfl : g' = 3 := hg'
     intro w20 hB17
     refine AllE_cons rfl rfl rfl ?_
     rintro _ _ ⟨rfl, rfl⟩
     refine AllE_cons rfl rfl rfl ?_
     rintro _ _ ⟨rfl, rfl⟩
     refine AllE_cons rfl rfl rfl ?_
     rintro _ _ ⟨v13, v14, F2, F3, rfl, rfl, hv2, hv3⟩
     refine AllE_cons rfl rfl rfl ?_
     rintro _ _ ⟨rfl, rfl⟩
     refine AllE_cons rfl rfl rfl ?_
     rintro _ _ ⟨⟨_, hx4, hx5⟩, rfl⟩
     obtain rfl := Value.tuple.inj hx4
     obtain rfl := Option.some.inj (show (some v13 : Option Value) = some _ from hx5)
     refine AllE_cons rfl rfl rfl ?_
     rintro _ F4 ⟨b11, rfl, hv4⟩
     refine AllE_cons rfl rfl rfl ?_
     rintro _ F5 ⟨b12, rfl, hv5⟩
     refine AllE_nil ?_
     intro hn3 hb3
     have hC35 := hC32.pushL hB17 (Bs := [Item.box b12 [(.int .i64 0), (.int .i64 0), (.int .i64 0), (.bool false)], Item.box b11 [(.slice none 0 0), (.int .i64 0), (.int .i64 0)], Item.own v13 (x24.1 : ((List Int) × Int × Int)), Item.own v14 (x24.2 : (Int × Int × Int × Bool))]) (Fs := [F5, F4, F2, F3]) ⟨F5, _, rfl, hv5, F4, _, rfl, hv4, F2, _, rfl, hv2, F3, _, rfl, hv3, rfl⟩ (by simpa using hn3) (fun b h => (hb3 b (by simpa using h)).1)
     have hC36 := hC35.f2
     obtain ⟨v16, rfl, hC37⟩ := st26_own hC36
     have hC38 := hC37.f3
     obtain ⟨rfl, hC39⟩ := st35_own hC38
     refine WA_tk 9 (by kernel_rfl) rfl rfl (fl_extract rfl rfl) ?_
     refine WL_extract rfl rfl rfl ?_
     refine WL_nil ?_
     refine WA_one 12 (by kernel_rfl) rfl ?_
     refine WL_store_box_agg (cs' := [v16, (.int .i64 x24.1.2.1), (.int .i64 x24.1.2.2)]) (new := [v16, (.int .i64 x24.1.2.1), (.int .i64 x24.1.2.2)]) hC39 2 rfl rfl (by intro v hv; simp only [List.mem_cons, List.not_mem_nil, or_false] at hv; rcases hv with rfl | rfl | rfl; exact (ro_one (hC39.ro 0 rfl)); exact rfl; exact rfl) rfl Try.sizeOf26 rfl rfl (fun w21 hC40 => ?_)
     try dsimp only [List.set] at hC40
     refine WL_nil ?_
     refine WA_one 13 (by kernel_rfl) rfl ?_
     refine WL_store_box_agg (cs' := [(.int .i64 x24.2.1), (.int .i64 x24.2.2.1), (.int .i64 x24.2.2.2.1), (.bool x24.2.2.2.2)]) (new := [(.int .i64 x24.2.1), (.int .i64 x24.2.2.1), (.int .i64 x24.2.2.2.1), (.bool x24.2.2.2.2)]) hC40 1 rfl rfl (by intro v hv; simp only [List.mem_cons, List.not_mem_nil, or_false] at hv; rcases hv with rfl | rfl | rfl | rfl; exact rfl; exact rfl; exact rfl; exact rfl) rfl Try.sizeOf35 rfl rfl (fun w22 hC41 => ?_)
     try dsimp only [List.set] at hC41
     refine WL_nil ?_
     refine WA_done (by kernel_rfl) ?_
     have hq2 := Option.some.inj hr4
     subst hq2
     have hC42 := hC41.f7
     have hC43 := hC42.f7
     have hC44 := hC43.f7
     have hC45 := hC44.f7
     have hC46 := hC45.f4
     have hC47 := hC46.f6
     have hC48 := hC47.f6
     have hC49 := hC48.h7
     refine nrm_sub (l' := [(1, u2), (2, u3), (6, (ptr b2 0)), (8, (ptr b3 0)), (9, v4), (10, (.int .i64 x6)), (13, (ptr b11 0)), (14, (ptr b12 0))]) ⟨rfl, rfl, rfl, rfl, rfl, rfl, rfl, rfl, trivial⟩ ?_
     exact ⟨b11, v16, x24.1.1, x24.1.2.1, x24.1.2.2, b12, x24.2.1, x24.2.2.1, x24.2.2.2.1, x24.2.2.2.2, rfl, rfl, hC49⟩
    rintro _ w14 ⟨b8, v11, x16, x17, x18, b9, x19, x20, x21, x22, rfl, rfl, hC31⟩
    try dsimp only at hL1
    refine W_seq_reg ?_
    refine WL_load_box_agg [v11, (.int .i64 x17), (.int .i64 x18)] hC31 1 rfl rfl rfl Try.isAgg26 Try.sizeOf26 rfl rfl ?_
    refine WL_store_box_agg (cs' := [v11, (.int .i64 x17), (.int .i64 x18)]) (new := [v11, (.int .i64 x17), (.int .i64 x18)]) hC31 4 rfl rfl (by intro v hv; simp only [List.mem_cons, List.not_mem_nil, or_false] at hv; rcases hv with rfl | rfl | rfl; exact (ro_one (hC31.ro 2 rfl)); exact rfl; exact rfl) rfl Try.sizeOf26 rfl rfl (fun w23 hC50 => ?_)
    try dsimp only [List.set] at hC50
    refine WL_nil ?_
    refine W_reg ?_
    refine WL_move rfl rfl ?_
    refine WL_load_box_agg [(.int .i64 x19), (.int .i64 x20), (.int .i64 x21), (.bool x22)] hC50 0 rfl rfl rfl Try.isAgg35 Try.sizeOf35 rfl rfl ?_
    refine WL_buildSlice (vs := [(.agg #[(.int .i64 x19), (.int .i64 x20), (.int .i64 x21), (.bool x22)])]) hC50 Try.underlying60 ty35 rfl rfl rfl rfl (by intro v hv; simp only [List.mem_cons, List.not_mem_nil, or_false] at hv; rcases hv with rfl <;> rfl) rfl rfl (fun b13 w24 hC51 hB18 => ?_)
    have hC52 := hC51.row0 (α := (Int × Int × Int × Bool))
    have hC53 := own_st35 x19 x20 x21 x22 hC52
    have hC54 := hC53.row1
    have hC55 := hC54.front 1 rfl
    dsimp only [List.eraseIdx, List.cons_append, List.nil_append, List.append_nil] at hC55
    have hC56 : Ctx [] w0 w24 (Item.own (.slice (some ⟨b13, 0, none⟩) 1 1) ([(x19, x20, x21, x22)] : List (Int × Int × Int × Bool)) :: [Item.box b9 [(.int .i64 x19), (.int .i64 x20), (.int .i64 x21), (.bool x22)], Item.box b8 [v11, (.int .i64 x17), (.int .i64 x18)], Item.own v11 (x16 : (List Int)), Item.own v4 (x5 : (List (Int × Int × Int × Bool))), Item.box b3 [v11, (.int .i64 x17), (.int .i64 x18)], Item.own v3 (x2 : (List Int)), Item.box b2 [(.slice none 0 0), (.int .i64 0), (.int .i64 0)]]) := hC55.rowOwn (by simp [maxLen])
    obtain ⟨x25, hx8, hL1⟩ := bind_some hL1
    refine WL_append_flat (α := (Int × Int × Int × Bool)) hC56 4 rfl (hC56.ro 0 rfl) (Keep.refl _ _) Try.underlying60 ty35 rfl hx8 rfl rfl rfl (fun v17 w25 hC57 => ?_)
    try dsimp only [List.set] at hC57
    refine WL_assign rfl rfl ?_
    refine WL_nil ?_
    refine blk_normal ?_
    refine nrm_normal ?_
    refine W_reg ?_
    refine WL_move rfl rfl ?_
    refine WL_add rfl rfl rfl ?_
    refine WL_assign rfl rfl ?_
    refine WL_nil ?_
    have hC58 := hC57.f7
    have hC59 := hC58.f4
    have hC60 := hC59.f6
    have hC61 := hC60.f6
    have hC62 := hC61.h4
    refine nrm_sub (l' := [(1, u2), (2, u3), (6, (ptr b2 0)), (8, (ptr b3 0)), (9, v17), (10, (.int .i64 (w64 (x6 + 1))))]) ⟨rfl, rfl, rfl, rfl, rfl, rfl, trivial⟩ ?_
    exact ⟨k1, Nat.lt_succ_self _, v11, x16, x17, x18, v17, x25, w64 (x6 + 1), rfl, hC62, hL1⟩
   replace hL1 := ite_f hL1 hc1
   refine W_exit ?_
   refine nrm_exit ?_
   refine nrm_exit ?_
   refine blk_exit ?_
   have hq3 := Option.some.inj hL1
   subst hq3
   refine nrm_sub (l' := [(6, (ptr b2 0)), (8, (ptr b3 0)), (9, v4)]) ⟨rfl, rfl, rfl, trivial⟩ ?_
   exact ⟨v3, x2, x3, x4, v4, x5, rfl, rfl, hC11⟩
 rintro l5 _ w26 hs5 ⟨v5, x7, x8, x9, v6, x10, rfl, rfl, hC68⟩
 try dsimp only at hF
 refine nrm_sub' hs5 ?_
 clear hs5
 refine W_seq_reg ?_
 refine WL_load_box_agg [v5, (.int .i64 x8), (.int .i64 x9)] hC68 1 rfl rfl rfl Try.isAgg26 Try.sizeOf26 rfl rfl ?_
 refine WL_move rfl rfl ?_
 refine WL_store_box_agg (cs' := [v5, (.int .i64 x8), (.int .i64 x9)]) (new := [v5, (.int .i64 x8), (.int .i64 x9)]) hC68 3 rfl rfl (by intro v hv; simp only [List.mem_cons, List.not_mem_nil, or_false] at hv; rcases hv with rfl | rfl | rfl; exact (ro_one (hC68.ro 2 rfl)); exact rfl; exact rfl) rfl Try.sizeOf26 rfl rfl (fun w27 hC69 => ?_)
 try dsimp only [List.set] at hC69
 refine WL_assign rfl rfl ?_
 refine WL_nil ?_
 refine W_ret ?_
 have hq4 := Option.some.inj hF
 subst hq4
 refine fn_retG2 rfl (rv_cell_agg (cs' := [v5, (.int .i64 x8), (.int .i64 x9)]) hC69 (i := 3) rfl rfl rfl Try.isAgg26 Try.sizeOf26 rfl) (rv_tmp rfl) ?_
 have hC72 := hC69.f2
 have hC71 := own_st26 v5 x7 x8 x9 hC72
 exact ⟨_, rfl, res2_of hC71⟩

theorem c_Q_FnCalls {w0 : World} (a1 : (List UInt8)) (u1 : Value) (g1 : RO [] w0 u1 a1) (rr : Bool) (hF : Q.FnCalls a1 = some rr) :
 Calls Try.prog 7 [u1].toArray w0 fun e w' => ∃ v, e = .returned v ∧ Res w0 rr v w' := by
 refine calls_of_W Try.func7 rfl rfl ?_
 have hC0 := Ctx.start w0
 unfold Q.FnCalls at hF
 refine W_seq_reg ?_
 refine WL_assign rfl rfl ?_
 refine WL_nil ?_
 refine W_seq ?_
 refine W_seq_reg ?_
 refine WL_move rfl rfl ?_
 obtain ⟨x1, hr1, hF⟩ := bind_some hF
 refine WL_call Try.call26 rfl rfl (c_Q_big a1 u1 (g1.now hC0.keep) x1 hr1) ?_
 intro _ w1 hv1
 obtain ⟨rfl, hB1⟩ := res_bool hv1
 have hC1 := hC0.grow hB1
 refine WL_nil ?_
 refine W_cond rfl (fun hc1 => ?_) (fun hc1 => ?_)
 ·replace hF := ite_t hF hc1
  refine W_seq_reg ?_
  refine WL_assign rfl rfl ?_
  refine WL_nil ?_
  refine W_ret ?_
  refine nrm_ret ?_
  have hq1 := Option.some.inj hF
  subst hq1
  refine fn_ret1 rfl rfl ?_
  exact ⟨_, rfl, bool_res hC1 _⟩
 replace hF := ite_f hF hc1
 refine W_skip ?_
 refine nrm_normal ?_
 refine W_seq_reg ?_
 refine WL_move rfl rfl ?_
 obtain ⟨x2, hr2, hF⟩ := bind_some hF
 refine WL_call Try.call41 rfl rfl (c_S_DrawFinishCall a1 u1 (g1.now hC1.keep) x2 hr2) ?_
 rintro _ w2 ⟨hB2, v1, v2, v3, F1, F2, F3, rfl, hv2, hv3, hv4, hn1, hb1⟩
 have hC2 := hC1.pushL hB2 (Bs := [Item.own v1 x2.1, Item.own v2 x2.2.1, Item.own v3 x2.2.2]) (Fs := [F1, F2, F3]) ⟨F1, _, rfl, hv2, F2, _, rfl, hv3, F3, _, rfl, hv4, rfl⟩ (by simpa using hn1) (fun b h => hb1 b (by simpa using h))
 obtain ⟨v4, rfl, hC3⟩ := st26_own hC2
 have hC4 := hC3.f1
 obtain ⟨rfl, hC5⟩ := st35_own hC4
 refine WL_move rfl rfl ?_
 refine WL_extract rfl rfl rfl ?_
 refine WL_extract rfl rfl rfl ?_
 refine WL_extract rfl rfl rfl ?_
 refine WL_alloc hC5 zero26 rfl rfl (fun b1 w3 hC6 hB3 => ?_)
 refine WL_alloc hC6 zero35 rfl rfl (fun b2 w4 hC7 hB4 => ?_)
 refine WL_store_box_agg (cs' := [v4, (.int .i64 x2.1.2.1), (.int .i64 x2.1.2.2)]) (new := [v4, (.int .i64 x2.1.2.1), (.int .i64 x2.1.2.2)]) hC7 1 rfl rfl (by intro v hv; simp only [List.mem_cons, List.not_mem_nil, or_false] at hv; rcases hv with rfl | rfl | rfl; exact (ro_one (hC7.ro 2 rfl)); exact rfl; exact rfl) rfl Try.sizeOf26 rfl rfl (fun w5 hC8 => ?_)
 try dsimp only [List.set] at hC8
 refine WL_store_box_agg (cs' := [(.int .i64 x2.2.1.1), (.int .i64 x2.2.1.2.1), (.int .i64 x2.2.1.2.2.1), (.bool x2.2.1.2.2.2)]) (new := [(.int .i64 x2.2.1.1), (.int .i64 x2.2.1.2.1), (.int .i64 x2.2.1.2.2.1), (.bool x2.2.1.2.2.2)]) hC8 0 rfl rfl (by intro v hv; simp only [List.mem_cons, List.not_mem_nil, or_false] at hv; rcases hv with rfl | rfl | rfl | rfl; exact rfl; exact rfl; exact rfl; exact rfl) rfl Try.sizeOf35 rfl rfl (fun w6 hC9 => ?_)
 try dsimp only [List.set] at hC9
 refine WL_assign rfl rfl ?_
 refine WL_nil ?_
 refine W_seq_reg ?_
 refine WL_load_box_agg [v4, (.int .i64 x2.1.2.1), (.int .i64 x2.1.2.2)] hC9 1 rfl rfl rfl Try.isAgg26 Try.sizeOf26 rfl rfl ?_
 refine WL_load_box_agg [(.int .i64 x2.2.1.1), (.int .i64 x2.2.1.2.1), (.int .i64 x2.2.1.2.2.1), (.bool x2.2.1.2.2.2)] hC9 0 rfl rfl rfl Try.isAgg35 Try.sizeOf35 rfl rfl ?_
 refine WL_move rfl rfl ?_
 obtain ⟨x3, hr3, hF⟩ := bind_some hF
 refine WL_call Try.call38 rfl rfl (c_M_FinishCall (x2.1.1, x2.1.2.1, x2.1.2.2) v4 ((hC9.ro 2 rfl).now (Keep.refl _ _)) (x2.2.1.1, x2.2.1.2.1, x2.2.1.2.2.1, x2.2.1.2.2.2) x2.2.2 v3 ((hC9.ro 3 rfl).now (Keep.refl _ _)) x3 hr3) ?_
 rintro _ w7 ⟨hB5, v5, v6, F4, F5, rfl, hv5, hv6, hn2, hb2⟩
 have hC10 := hC9.pushL hB5 (Bs := [Item.own v5 x3.1, Item.own v6 x3.2]) (Fs := [F4, F5]) ⟨F4, _, rfl, hv5, F5, _, rfl, hv6, rfl⟩ (by simpa using hn2) (fun b h => hb2 b (by simpa using h))
 obtain ⟨v7, rfl, hC11⟩ := st26_own hC10
 have hC12 := hC11.f1
 obtain ⟨rfl, hC13⟩ := st35_own hC12
 refine WL_move rfl rfl ?_
 refine WL_extract rfl rfl rfl ?_
 refine WL_extract rfl rfl rfl ?_
 refine WL_alloc hC13 zero26 rfl rfl (fun b3 w9 hC14 hB6 => ?_)
 refine WL_alloc hC14 zero35 rfl rfl (fun b4 w10 hC15 hB7 => ?_)
 refine WL_store_box_agg (cs' := [v7, (.int .i64 x3.1.2.1), (.int .i64 x3.1.2.2)]) (new := [v7, (.int .i64 x3.1.2.1), (.int .i64 x3.1.2.2)]) hC15 1 rfl rfl (by intro v hv; simp only [List.mem_cons, List.not_mem_nil, or_false] at hv; rcases hv with rfl | rfl | rfl; exact (ro_one (hC15.ro 2 rfl)); exact rfl; exact rfl) rfl Try.sizeOf26 rfl rfl (fun w11 hC16 => ?_)
 try dsimp only [List.set] at hC16
 refine WL_store_box_agg (cs' := [(.int .i64 x3.2.1), (.int .i64 x3.2.2.1), (.int .i64 x3.2.2.2.1), (.bool x3.2.2.2.2)]) (new := [(.int .i64 x3.2.1), (.int .i64 x3.2.2.1), (.int .i64 x3.2.2.2.1), (.bool x3.2.2.2.2)]) hC16 0 rfl rfl (by intro v hv; simp only [List.mem_cons, List.not_mem_nil, or_false] at hv; rcases hv with rfl | rfl | rfl | rfl; exact rfl; exact rfl; exact rfl; exact rfl) rfl Try.sizeOf35 rfl rfl (fun w12 hC17 => ?_)
 try dsimp only [List.set] at hC17
 refine WL_nil ?_
 refine W_seq_reg ?_
 refine WL_load_box_agg [v4, (.int .i64 x2.1.2.1), (.int .i64 x2.1.2.2)] hC17 4 rfl rfl rfl Try.isAgg26 Try.sizeOf26 rfl rfl ?_
 refine WL_load_box_agg [(.int .i64 x2.2.1.1), (.int .i64 x2.2.1.2.1), (.int .i64 x2.2.1.2.2.1), (.bool x2.2.1.2.2.2)] hC17 3 rfl rfl rfl Try.isAgg35 Try.sizeOf35 rfl rfl ?_
 refine WL_move rfl rfl ?_
 obtain ⟨x4, hr4, hF⟩ := bind_some hF
 refine WL_call Try.call36 rfl rfl (c_S_FinishCall (x2.1.1, x2.1.2.1, x2.1.2.2) v4 ((hC17.ro 5 rfl).now (Keep.refl _ _)) (x2.2.1.1, x2.2.1.2.1, x2.2.1.2.2.1, x2.2.1.2.2.2) x2.2.2 v3 ((hC17.ro 6 rfl).now (Keep.refl _ _)) x4 hr4) ?_
 rintro _ w13 ⟨hB8, v8, v9, F6, F7, rfl, hv7, hv8, hn3, hb3⟩
 have hC18 := hC17.pushL hB8 (Bs := [Item.own v8 x4.1, Item.own v9 x4.2]) (Fs := [F6, F7]) ⟨F6, _, rfl, hv7, F7, _, rfl, hv8, rfl⟩ (by simpa using hn3) (fun b h => hb3 b (by simpa using h))
 obtain ⟨v10, rfl, hC19⟩ := st26_own hC18
 have hC20 := hC19.f1
 obtain ⟨rfl, hC21⟩ := st35_own hC20
 refine WL_move rfl rfl ?_
 refine WL_extract rfl rfl rfl ?_
 refine WL_extract rfl rfl rfl ?_
 refine WL_alloc hC21 zero26 rfl rfl (fun b5 w14 hC22 hB9 => ?_)
 refine WL_alloc hC22 zero35 rfl rfl (fun b6 w15 hC23 hB10 => ?_)
 refine WL_store_box_agg (cs' := [v10, (.int .i64 x4.1.2.1), (.int .i64 x4.1.2.2)]) (new := [v10, (.int .i64 x4.1.2.1), (.int .i64 x4.1.2.2)]) hC23 1 rfl rfl (by intro v hv; simp only [List.mem_cons, List.not_mem_nil, or_false] at hv; rcases hv with rfl | rfl | rfl; exact (ro_one (hC23.ro 2 rfl)); exact rfl; exact rfl) rfl Try.sizeOf26 rfl rfl (fun w16 hC24 => ?_)
 try dsimp only [List.set] at hC24
 refine WL_store_box_agg (cs' := [(.int .i64 x4.2.1), (.int .i64 x4.2.2.1), (.int .i64 x4.2.2.2.1), (.bool x4.2.2.2.2)]) (new := [(.int .i64 x4.2.1), (.int .i64 x4.2.2.1), (.int .i64 x4.2.2.2.1), (.bool x4.2.2.2.2)]) hC24 0 rfl rfl (by intro v hv; simp only [List.mem_cons, List.not_mem_nil, or_false] at hv; rcases hv with rfl | rfl | rfl | rfl; exact rfl; exact rfl; exact rfl; exact rfl) rfl Try.sizeOf35 rfl rfl (fun w17 hC25 => ?_)
 try dsimp only [List.set] at hC25
 refine WL_nil ?_
 refine W_seq ?_
 obtain ⟨r1, hr5, hF⟩ := bind_some hF
 refine W_cut (fun l w => ∃ x5 : Bool, x5 = r1 ∧ l = [(0, u1), (3, (ptr b1 0)), (4, (ptr b2 0)), (7, (ptr b4 0)), (8, (ptr b5 0)), (64, (.bool x5))] ∧ Below w17.heap.size w17 w ∧ Ctx [] w0 w [Item.box b5 [v10, (.int .i64 x4.1.2.1), (.int .i64 x4.1.2.2)], Item.own v10 (x4.1.1 : (List Int)), Item.box b4 [(.int .i64 x3.2.1), (.int .i64 x3.2.2.1), (.int .i64 x3.2.2.2.1), (.bool x3.2.2.2.2)], Item.box b2 [(.int .i64 x2.2.1.1), (.int .i64 x2.2.1.2.1), (.int .i64 x2.2.1.2.2.1), (.bool x2.2.1.2.2.2)], Item.box b1 [v4, (.int .i64 x2.1.2.1), (.int .i64 x2.1.2.2)], Item.own v4 (x2.1.1 : (List Int))]) ?_ ?_
 ·refine W_reg ?_
  refine WL_load_box_agg [(.int .i64 x3.2.1), (.int .i64 x3.2.2.1), (.int .i64 x3.2.2.2.1), (.bool x3.2.2.2.2)] hC25 3 rfl rfl rfl Try.isAgg35 Try.sizeOf35 rfl rfl ?_
  refine WL_load_box_agg [(.int .i64 x4.2.1), (.int .i64 x4.2.2.1), (.int .i64 x4.2.2.2.1), (.bool x4.2.2.2.2)] hC25 0 rfl rfl rfl Try.isAgg35 Try.sizeOf35 rfl rfl ?_
  refine WL_agg_neq Try.underlying35 Try.stoodInHeld35 Try.eqGuardType35 (fun w => (eqF_int (by decide) Try.underlying3 rfl rfl (eqF_int (by decide) Try.underlying3 rfl rfl (eqF_int (by decide) Try.underlying3 rfl rfl (eqF_bool (by decide) Try.underlying4 rfl rfl eqF_nil))))) rfl rfl rfl ?_
  refine WL_move rfl rfl ?_
  refine WL_fork (fun hc2 => ?_) (fun hc2 => ?_)
  ·replace hr5 := ite_t hr5 hc2
   refine WL_guard_skip rfl rfl (by simp) rfl ?_
   refine WL_guard_skip rfl rfl (by simp) rfl ?_
   refine WL_guard_skip rfl rfl (by simp) rfl ?_
   refine WL_guard_skip rfl rfl (by simp) rfl ?_
   refine WL_guard_skip rfl rfl (by simp) rfl ?_
   refine WL_guard_skip rfl rfl (by simp) rfl ?_
   refine WL_pick_t rfl rfl rfl ?_
   refine WL_move rfl rfl ?_
   refine WL_guard_skip rfl rfl (by simp) rfl ?_
   refine WL_guard_skip rfl rfl (by simp) rfl ?_
   refine WL_guard_skip rfl rfl (by simp) rfl ?_
   refine WL_guard_skip rfl rfl (by simp) rfl ?_
   refine WL_guard_skip rfl rfl (by simp) rfl ?_
   refine WL_pick_t rfl rfl rfl ?_
   refine WL_move rfl rfl ?_
   refine WL_guard_skip rfl rfl (by simp) rfl ?_
   refine WL_guard_skip rfl rfl (by simp) rfl ?_
   refine WL_guard_skip rfl rfl (by simp) rfl ?_
   refine WL_guard_skip rfl rfl (by simp) rfl ?_
   refine WL_guard_skip rfl rfl (by simp) rfl ?_
   refine WL_pick_t rfl rfl rfl ?_
   refine WL_nil ?_
   have hq2 := Option.some.inj hr5
   subst hq2
   have hC27 := hC25.f8
   have hC28 := hC27.f8
   have hC29 := hC28.f8
   have hC30 := hC29.f6
   have hC31 := hC30.f6
   have hC32 := hC31.f6
   have hC33 := hC32.h6
   refine nrm_sub (l' := [(0, u1), (3, (ptr b1 0)), (4, (ptr b2 0)), (7, (ptr b4 0)), (8, (ptr b5 0)), (64, (.bool true))]) ⟨rfl, rfl, rfl, rfl, rfl, rfl, trivial⟩ ?_
   exact ⟨true, rfl, rfl, (Below.refl _ _), hC33⟩
  replace hr5 := ite_f hr5 hc2
  refine WL_guard rfl rfl ?_
  refine WL_field Try.underlying26 rfl rfl (fun w => ⟨_, Try.sizeOf22 w⟩) rfl rfl ?_
  refine WL_guard rfl rfl ?_
  refine WL_load_box hC25 4 rfl rfl Try.isAgg22 rfl rfl ?_
  refine WL_guard rfl rfl ?_
  refine WL_field Try.underlying26 rfl rfl (fun w => ⟨_, Try.sizeOf22 w⟩) rfl rfl ?_
  refine WL_guard rfl rfl ?_
  refine WL_load_box hC25 1 rfl rfl Try.isAgg22 rfl rfl ?_
  obtain ⟨x6, hr6, hr5⟩ := bind_some hr5
  refine WL_guard rfl rfl ?_
  refine WL_call Try.call28 rfl rfl (c_Q_sameInts x3.1.1 v7 ((hC25.ro 5 rfl).now (Keep.refl _ _)) x4.1.1 v10 ((hC25.ro 2 rfl).now (Keep.refl _ _)) x6 hr6) ?_
  intro _ w19 hv9
  obtain ⟨rfl, hB12⟩ := res_bool hv9
  have hC34 := hC25.grow hB12
  refine WL_guard rfl rfl ?_
  refine WL_not rfl rfl ?_
  refine WL_pick_f rfl rfl rfl ?_
  refine WL_move rfl rfl ?_
  refine WL_fork (fun hc3 => ?_) (fun hc3 => ?_)
  ·replace hr5 := ite_t hr5 hc3
   refine WL_guard_skip rfl rfl (by simp) rfl ?_
   refine WL_guard_skip rfl rfl (by simp) rfl ?_
   refine WL_guard_skip rfl rfl (by simp) rfl ?_
   refine WL_guard_skip rfl rfl (by simp) rfl ?_
   refine WL_guard_skip rfl rfl (by simp) rfl ?_
   refine WL_pick_t rfl rfl rfl ?_
   refine WL_move rfl rfl ?_
   refine WL_guard_skip rfl rfl (by simp) rfl ?_
   refine WL_guard_skip rfl rfl (by simp) rfl ?_
   refine WL_guard_skip rfl rfl (by simp) rfl ?_
   refine WL_guard_skip rfl rfl (by simp) rfl ?_
   refine WL_guard_skip rfl rfl (by simp) rfl ?_
   refine WL_pick_t rfl rfl rfl ?_
   refine WL_nil ?_
   have hq3 := Option.some.inj hr5
   subst hq3
   have hC35 := hC34.f8
   have hC36 := hC35.f8
   have hC37 := hC36.f8
   have hC38 := hC37.f6
   have hC39 := hC38.f6
   have hC40 := hC39.f6
   have hC41 := hC40.h6
   refine nrm_sub (l' := [(0, u1), (3, (ptr b1 0)), (4, (ptr b2 0)), (7, (ptr b4 0)), (8, (ptr b5 0)), (64, (.bool true))]) ⟨rfl, rfl, rfl, rfl, rfl, rfl, trivial⟩ ?_
   exact ⟨true, rfl, rfl, (Keep.of hB12).below, hC41⟩
  replace hr5 := ite_f hr5 hc3
  refine WL_guard rfl rfl ?_
  refine WL_field Try.underlying26 rfl rfl (fun w => ⟨_, Try.sizeOf3 w⟩) rfl rfl ?_
  refine WL_guard rfl rfl ?_
  refine WL_load_box hC34 4 rfl rfl Try.isAgg3 rfl rfl ?_
  refine WL_guard rfl rfl ?_
  refine WL_field Try.underlying26 rfl rfl (fun w => ⟨_, Try.sizeOf3 w⟩) rfl rfl ?_
  refine WL_guard rfl rfl ?_
  refine WL_load_box hC34 1 rfl rfl Try.isAgg3 rfl rfl ?_
  refine WL_guard rfl rfl ?_
  refine WL_neq rfl rfl rfl ?_
  refine WL_pick_f rfl rfl rfl ?_
  refine WL_move rfl rfl ?_
  refine WL_fork (fun hc4 => ?_) (fun hc4 => ?_)
  ·replace hr5 := ite_t hr5 hc4
   refine WL_guard_skip rfl rfl (by simp) rfl ?_
   refine WL_guard_skip rfl rfl (by simp) rfl ?_
   refine WL_guard_skip rfl rfl (by simp) rfl ?_
   refine WL_guard_skip rfl rfl (by simp) rfl ?_
   refine WL_guard_skip rfl rfl (by simp) rfl ?_
   refine WL_pick_t rfl rfl rfl ?_
   refine WL_nil ?_
   have hq4 := Option.some.inj hr5
   subst hq4
   have hC42 := hC34.f8
   have hC43 := hC42.f8
   have hC44 := hC43.f8
   have hC45 := hC44.f6
   have hC46 := hC45.f6
   have hC47 := hC46.f6
   have hC48 := hC47.h6
   refine nrm_sub (l' := [(0, u1), (3, (ptr b1 0)), (4, (ptr b2 0)), (7, (ptr b4 0)), (8, (ptr b5 0)), (64, (.bool true))]) ⟨rfl, rfl, rfl, rfl, rfl, rfl, trivial⟩ ?_
   exact ⟨true, rfl, rfl, (Keep.of hB12).below, hC48⟩
  replace hr5 := ite_f hr5 hc4
  refine WL_guard rfl rfl ?_
  refine WL_field Try.underlying26 rfl rfl (fun w => ⟨_, Try.sizeOf3 w⟩) rfl rfl ?_
  refine WL_guard rfl rfl ?_
  refine WL_load_box hC34 4 rfl rfl Try.isAgg3 rfl rfl ?_
  refine WL_guard rfl rfl ?_
  refine WL_field Try.underlying26 rfl rfl (fun w => ⟨_, Try.sizeOf3 w⟩) rfl rfl ?_
  refine WL_guard rfl rfl ?_
  refine WL_load_box hC34 1 rfl rfl Try.isAgg3 rfl rfl ?_
  refine WL_guard rfl rfl ?_
  refine WL_neq rfl rfl rfl ?_
  refine WL_pick_f rfl rfl rfl ?_
  refine WL_nil ?_
  have hq5 := Option.some.inj hr5
  subst hq5
  have hC49 := hC34.f8
  have hC50 := hC49.f8
  have hC51 := hC50.f8
  have hC52 := hC51.f6
  have hC53 := hC52.f6
  have hC54 := hC53.f6
  have hC55 := hC54.h6
  refine nrm_sub (l' := [(0, u1), (3, (ptr b1 0)), (4, (ptr b2 0)), (7, (ptr b4 0)), (8, (ptr b5 0)), (64, (.bool (!decide (x3.1.2.2 = x4.1.2.2))))]) ⟨rfl, rfl, rfl, rfl, rfl, rfl, trivial⟩ ?_
  exact ⟨(!decide (x3.1.2.2 = x4.1.2.2)), rfl, rfl, (Keep.of hB12).below, hC55⟩
 rintro _ w18 ⟨x5, rfl, rfl, hB11, hC26⟩
 try dsimp only at hF
 refine W_cond rfl (fun hc5 => ?_) (fun hc5 => ?_)
 ·replace hF := ite_t hF hc5
  refine W_seq_reg ?_
  refine WL_assign rfl rfl ?_
  refine WL_nil ?_
  refine W_ret ?_
  refine nrm_ret ?_
  have hq6 := Option.some.inj hF
  subst hq6
  refine fn_ret1 rfl rfl ?_
  exact ⟨_, rfl, bool_res hC26 _⟩
 replace hF := ite_f hF hc5
 refine W_skip ?_
 refine nrm_normal ?_
 refine W_seq ?_
 obtain ⟨r2, hr7, hF⟩ := bind_some hF
 refine W_cut (fun l w => ∃ x7 : Bool, x7 = r2 ∧ l = [(0, u1), (3, (ptr b1 0)), (4, (ptr b2 0)), (7, (ptr b4 0)), (8, (ptr b5 0)), (96, (.bool x7))] ∧ Below w18.heap.size w18 w ∧ Ctx [] w0 w [Item.box b5 [v10, (.int .i64 x4.1.2.1), (.int .i64 x4.1.2.2)], Item.own v10 (x4.1.1 : (List Int)), Item.box b4 [(.int .i64 x3.2.1), (.int .i64 x3.2.2.1), (.int .i64 x3.2.2.2.1), (.bool x3.2.2.2.2)], Item.box b2 [(.int .i64 x2.2.1.1), (.int .i64 x2.2.1.2.1), (.int .i64 x2.2.1.2.2.1), (.bool x2.2.1.2.2.2)], Item.box b1 [v4, (.int .i64 x2.1.2.1), (.int .i64 x2.1.2.2)], Item.own v4 (x2.1.1 : (List Int))]) ?_ ?_
 ·refine W_reg ?_
  refine WL_load_box_agg [v4, (.int .i64 x2.1.2.1), (.int .i64 x2.1.2.2)] hC26 4 rfl rfl rfl Try.isAgg26 Try.sizeOf26 rfl rfl ?_
  obtain ⟨x8, hr8, hr7⟩ := bind_some hr7
  refine WL_call Try.call42 rfl rfl (c_S_IsLedger (x2.1.1, x2.1.2.1, x2.1.2.2) v4 ((hC26.ro 5 rfl).now (Keep.refl _ _)) x8 hr8) ?_
  intro _ w21 hv10
  obtain ⟨rfl, hB14⟩ := res_bool hv10
  have hC57 := hC26.grow hB14
  refine WL_move rfl rfl ?_
  refine WL_fork (fun hc6 => ?_) (fun hc6 => ?_)
  ·replace hr7 := ite_t hr7 hc6
   refine WL_guard rfl rfl ?_
   refine WL_field Try.underlying35 rfl rfl (fun w => ⟨_, Try.sizeOf3 w⟩) rfl rfl ?_
   refine WL_guard rfl rfl ?_
   refine WL_load_box hC57 3 rfl rfl Try.isAgg3 rfl rfl ?_
   refine WL_guard rfl rfl ?_
   refine WL_geq rfl rfl rfl ?_
   refine WL_pick_t rfl rfl rfl ?_
   refine WL_move rfl rfl ?_
   refine WL_fork (fun hc7 => ?_) (fun hc7 => ?_)
   ·replace hr7 := ite_t hr7 hc7
    refine WL_guard rfl rfl ?_
    refine WL_field Try.underlying35 rfl rfl (fun w => ⟨_, Try.sizeOf3 w⟩) rfl rfl ?_
    refine WL_guard rfl rfl ?_
    refine WL_load_box hC57 3 rfl rfl Try.isAgg3 rfl rfl ?_
    refine WL_guard rfl rfl ?_
    refine WL_leq rfl rfl rfl ?_
    refine WL_pick_t rfl rfl rfl ?_
    refine WL_move rfl rfl ?_
    refine WL_fork (fun hc8 => ?_) (fun hc8 => ?_)
    ·replace hr7 := ite_t hr7 hc8
     refine WL_guard rfl rfl ?_
     refine WL_field Try.underlying35 rfl rfl (fun w => ⟨_, Try.sizeOf3 w⟩) rfl rfl ?_
     refine WL_guard rfl rfl ?_
     refine WL_load_box hC57 3 rfl rfl Try.isAgg3 rfl rfl ?_
     refine WL_guard rfl rfl ?_
     refine WL_geq rfl rfl rfl ?_
     refine WL_pick_t rfl rfl rfl ?_
     refine WL_move rfl rfl ?_
     refine WL_fork (fun hc9 => ?_) (fun hc9 => ?_)
     ·replace hr7 := ite_t hr7 hc9
      refine WL_guard rfl rfl ?_
      refine WL_field Try.underlying35 rfl rfl (fun w => ⟨_, Try.sizeOf3 w⟩) rfl rfl ?_
      refine WL_guard rfl rfl ?_
      refine WL_load_box hC57 3 rfl rfl Try.isAgg3 rfl rfl ?_
      refine WL_guard rfl rfl ?_
      refine WL_leq rfl rfl rfl ?_
      refine WL_pick_t rfl rfl rfl ?_
      refine WL_move rfl rfl ?_
      refine WL_fork (fun hc10 => ?_) (fun hc10 => ?_)
      ·replace hr7 := ite_t hr7 hc10
       refine WL_guard rfl rfl ?_
       refine WL_field Try.underlying35 rfl rfl (fun w => ⟨_, Try.sizeOf4 w⟩) rfl rfl ?_
       refine WL_guard rfl rfl ?_
       refine WL_load_box hC57 3 rfl rfl Try.isAgg4 rfl rfl ?_
       refine WL_guard rfl rfl ?_
       refine WL_not rfl rfl ?_
       refine WL_pick_t rfl rfl rfl ?_
       refine WL_move rfl rfl ?_
       refine WL_fork (fun hc11 => ?_) (fun hc11 => ?_)
       ·replace hr7 := ite_t hr7 hc11
        refine WL_guard rfl rfl ?_
        refine WL_field Try.underlying26 rfl rfl (fun w => ⟨_, Try.sizeOf3 w⟩) rfl rfl ?_
        refine WL_guard rfl rfl ?_
        refine WL_load_box hC57 4 rfl rfl Try.isAgg3 rfl rfl ?_
        refine WL_guard rfl rfl ?_
        refine WL_lss rfl rfl rfl ?_
        refine WL_pick_t rfl rfl rfl ?_
        refine WL_nil ?_
        have hq7 := Option.some.inj hr7
        subst hq7
        refine nrm_sub (l' := [(0, u1), (3, (ptr b1 0)), (4, (ptr b2 0)), (7, (ptr b4 0)), (8, (ptr b5 0)), (96, (.bool (decide (x2.1.2.1 < 900000000))))]) ⟨rfl, rfl, rfl, rfl, rfl, rfl, trivial⟩ ?_
        exact ⟨(decide (x2.1.2.1 < 900000000)), rfl, rfl, (Keep.of hB14).below, hC57⟩
       replace hr7 := ite_f hr7 hc11
       refine WL_guard_skip rfl rfl (by simp) rfl ?_
       refine WL_guard_skip rfl rfl (by simp) rfl ?_
       refine WL_guard_skip rfl rfl (by simp) rfl ?_
       refine WL_pick_f rfl rfl rfl ?_
       refine WL_nil ?_
       have hq8 := Option.some.inj hr7
       subst hq8
       refine nrm_sub (l' := [(0, u1), (3, (ptr b1 0)), (4, (ptr b2 0)), (7, (ptr b4 0)), (8, (ptr b5 0)), (96, (.bool false))]) ⟨rfl, rfl, rfl, rfl, rfl, rfl, trivial⟩ ?_
       exact ⟨false, rfl, rfl, (Keep.of hB14).below, hC57⟩
      replace hr7 := ite_f hr7 hc10
      refine WL_guard_skip rfl rfl (by simp) rfl ?_
      refine WL_guard_skip rfl rfl (by simp) rfl ?_
      refine WL_guard_skip rfl rfl (by simp) rfl ?_
      refine WL_pick_f rfl rfl rfl ?_
      refine WL_move rfl rfl ?_
      refine WL_guard_skip rfl rfl (by simp) rfl ?_
      refine WL_guard_skip rfl rfl (by simp) rfl ?_
      refine WL_guard_skip rfl rfl (by simp) rfl ?_
      refine WL_pick_f rfl rfl rfl ?_
      refine WL_nil ?_
      have hq9 := Option.some.inj hr7
      subst hq9
      refine nrm_sub (l' := [(0, u1), (3, (ptr b1 0)), (4, (ptr b2 0)), (7, (ptr b4 0)), (8, (ptr b5 0)), (96, (.bool false))]) ⟨rfl, rfl, rfl, rfl, rfl, rfl, trivial⟩ ?_
      exact ⟨false, rfl, rfl, (Keep.of hB14).below, hC57⟩
     replace hr7 := ite_f hr7 hc9
     refine WL_guard_skip rfl rfl (by simp) rfl ?_
     refine WL_guard_skip rfl rfl (by simp) rfl ?_
     refine WL_guard_skip rfl rfl (by simp) rfl ?_
     refine WL_pick_f rfl rfl rfl ?_
     refine WL_move rfl rfl ?_
     refine WL_guard_skip rfl rfl (by simp) rfl ?_
     refine WL_guard_skip rfl rfl (by simp) rfl ?_
     refine WL_guard_skip rfl rfl (by simp) rfl ?_
     refine WL_pick_f rfl rfl rfl ?_
     refine WL_move rfl rfl ?_
     refine WL_guard_skip rfl rfl (by simp) rfl ?_
     refine WL_guard_skip rfl rfl (by simp) rfl ?_
     refine WL_guard_skip rfl rfl (by simp) rfl ?_
     refine WL_pick_f rfl rfl rfl ?_
     refine WL_nil ?_
     have hq10 := Option.some.inj hr7
     subst hq10
     refine nrm_sub (l' := [(0, u1), (3, (ptr b1 0)), (4, (ptr b2 0)), (7, (ptr b4 0)), (8, (ptr b5 0)), (96, (.bool false))]) ⟨rfl, rfl, rfl, rfl, rfl, rfl, trivial⟩ ?_
     exact ⟨false, rfl, rfl, (Keep.of hB14).below, hC57⟩
    replace hr7 := ite_f hr7 hc8
    refine WL_guard_skip rfl rfl (by simp) rfl ?_
    refine WL_guard_skip rfl rfl (by simp) rfl ?_
    refine WL_guard_skip rfl rfl (by simp) rfl ?_
    refine WL_pick_f rfl rfl rfl ?_
    refine WL_move rfl rfl ?_
    refine WL_guard_skip rfl rfl (by simp) rfl ?_
    refine WL_guard_skip rfl rfl (by simp) rfl ?_
    refine WL_guard_skip rfl rfl (by simp) rfl ?_
    refine WL_pick_f rfl rfl rfl ?_
    refine WL_move rfl rfl ?_
    refine WL_guard_skip rfl rfl (by simp) rfl ?_
    refine WL_guard_skip rfl rfl (by simp) rfl ?_
    refine WL_guard_skip rfl rfl (by simp) rfl ?_
    refine WL_pick_f rfl rfl rfl ?_
    refine WL_move rfl rfl ?_
    refine WL_guard_skip rfl rfl (by simp) rfl ?_
    refine WL_guard_skip rfl rfl (by simp) rfl ?_
    refine WL_guard_skip rfl rfl (by simp) rfl ?_
    refine WL_pick_f rfl rfl rfl ?_
    refine WL_nil ?_
    have hq11 := Option.some.inj hr7
    subst hq11
    refine nrm_sub (l' := [(0, u1), (3, (ptr b1 0)), (4, (ptr b2 0)), (7, (ptr b4 0)), (8, (ptr b5 0)), (96, (.bool false))]) ⟨rfl, rfl, rfl, rfl, rfl, rfl, trivial⟩ ?_
    exact ⟨false, rfl, rfl, (Keep.of hB14).below, hC57⟩
   replace hr7 := ite_f hr7 hc7
   refine WL_guard_skip rfl rfl (by simp) rfl ?_
   refine WL_guard_skip rfl rfl (by simp) rfl ?_
   refine WL_guard_skip rfl rfl (by simp) rfl ?_
   refine WL_pick_f rfl rfl rfl ?_
   refine WL_move rfl rfl ?_
   refine WL_guard_skip rfl rfl (by simp) rfl ?_
   refine WL_guard_skip rfl rfl (by simp) rfl ?_
   refine WL_guard_skip rfl rfl (by simp) rfl ?_
   refine WL_pick_f rfl rfl rfl ?_
   refine WL_move rfl rfl ?_
   refine WL_guard_skip rfl rfl (by simp) rfl ?_
   refine WL_guard_skip rfl rfl (by simp) rfl ?_
   refine WL_guard_skip rfl rfl (by simp) rfl ?_
   refine WL_pick_f rfl rfl rfl ?_
   refine WL_move rfl rfl ?_
   refine WL_guard_skip rfl rfl (by simp) rfl ?_
   refine WL_guard_skip rfl rfl (by simp) rfl ?_
   refine WL_guard_skip rfl rfl (by simp) rfl ?_
   refine WL_pick_f rfl rfl rfl ?_
   refine WL_move rfl rfl ?_
   refine WL_guard_skip rfl rfl (by simp) rfl ?_
   refine WL_guard_skip rfl rfl (by simp) rfl ?_
   refine WL_guard_skip rfl rfl (by simp) rfl ?_
   refine WL_pick_f rfl rfl rfl ?_
   refine WL_nil ?_
   have hq12 := Option.some.inj hr7
   subst hq12
   refine nrm_sub (l' := [(0, u1), (3, (ptr b1 0)), (4, (ptr b2 0)), (7, (ptr b4 0)), (8, (ptr b5 0)), (96, (.bool false))]) ⟨rfl, rfl, rfl, rfl, rfl, rfl, trivial⟩ ?_
   exact ⟨false, rfl, rfl, (Keep.of hB14).below, hC57⟩
  replace hr7 := ite_f hr7 hc6
  refine WL_guard_skip rfl rfl (by simp) rfl ?_
  refine WL_guard_skip rfl rfl (by simp) rfl ?_
  refine WL_guard_skip rfl rfl (by simp) rfl ?_
  refine WL_pick_f rfl rfl rfl ?_
  refine WL_move rfl rfl ?_
  refine WL_guard_skip rfl rfl (by simp) rfl ?_
  refine WL_guard_skip rfl rfl (by simp) rfl ?_
  refine WL_guard_skip rfl rfl (by simp) rfl ?_
  refine WL_pick_f rfl rfl rfl ?_
  refine WL_move rfl rfl ?_
  refine WL_guard_skip rfl rfl (by simp) rfl ?_
  refine WL_guard_skip rfl rfl (by simp) rfl ?_
  refine WL_guard_skip rfl rfl (by simp) rfl ?_
  refine WL_pick_f rfl rfl rfl ?_
  refine WL_move rfl rfl ?_
  refine WL_guard_skip rfl rfl (by simp) rfl ?_
  refine WL_guard_skip rfl rfl (by simp) rfl ?_
  refine WL_guard_skip rfl rfl (by simp) rfl ?_
  refine WL_pick_f rfl rfl rfl ?_
  refine WL_move rfl rfl ?_
  refine WL_guard_skip rfl rfl (by simp) rfl ?_
  refine WL_guard_skip rfl rfl (by simp) rfl ?_
  refine WL_guard_skip rfl rfl (by simp) rfl ?_
  refine WL_pick_f rfl rfl rfl ?_
  refine WL_move rfl rfl ?_
  refine WL_guard_skip rfl rfl (by simp) rfl ?_
  refine WL_guard_skip rfl rfl (by simp) rfl ?_
  refine WL_guard_skip rfl rfl (by simp) rfl ?_
  refine WL_pick_f rfl rfl rfl ?_
  refine WL_nil ?_
  have hq13 := Option.some.inj hr7
  subst hq13
  refine nrm_sub (l' := [(0, u1), (3, (ptr b1 0)), (4, (ptr b2 0)), (7, (ptr b4 0)), (8, (ptr b5 0)), (96, (.bool false))]) ⟨rfl, rfl, rfl, rfl, rfl, rfl, trivial⟩ ?_
  exact ⟨false, rfl, rfl, (Keep.of hB14).below, hC57⟩
 rintro _ w20 ⟨x7, rfl, rfl, hB13, hC56⟩
 try dsimp only at hF
 refine W_cond rfl (fun hc12 => ?_) (fun hc12 => ?_)
 ·replace hF := ite_t hF hc12
  obtain ⟨r3, hr9, hF⟩ := bind_some hF
  refine W_cut (fun l w => ∃ x9 : Bool, x9 = r3 ∧ l = [(0, u1), (125, (.bool x9))] ∧ Below w20.heap.size w20 w ∧ Ctx [] w0 w []) ?_ ?_
  ·refine W_drawn 29 rfl hmix (fun w23 hB16 => ?_)
   have hC59 := hC56.grow hB16
   refine WA_tk 0 (by kernel_rfl) rfl rfl (fl_field Try.underlying35 rfl rfl (fun w => ⟨_, Try.sizeOf4 w⟩) rfl) ?_
   refine WL_field Try.underlying35 rfl rfl (fun w => ⟨_, Try.sizeOf4 w⟩) rfl rfl ?_
   refine WL_nil ?_
   refine WA_one 1 (by kernel_rfl) rfl ?_
   refine WL_load_box hC59 2 rfl rfl Try.isAgg4 rfl rfl ?_
   refine WL_nil ?_
   refine WA_tk 2 (by kernel_rfl) rfl rfl (fl_not rfl) ?_
   refine WL_not rfl rfl ?_
   refine WL_nil ?_
   refine WA_tk 3 (by kernel_rfl) rfl rfl (fl_move rfl) ?_
   refine WL_move rfl rfl ?_
   refine WL_nil ?_
   refine WA_fork (fun hc13 => ?_) (fun hc13 => ?_)
   ·replace hr9 := ite_t hr9 hc13
    refine WA_sk 4 (by kernel_rfl) rfl rfl rfl rfl (by simp) rfl rfl ?_
    refine WA_sk 5 (by kernel_rfl) rfl rfl rfl rfl (by simp) rfl rfl ?_
    refine WA_sk 6 (by kernel_rfl) rfl rfl rfl rfl (by simp) rfl rfl ?_
    refine WA_sk 7 (by kernel_rfl) rfl rfl rfl rfl (by simp) rfl rfl ?_
    refine WA_sk 8 (by kernel_rfl) rfl rfl rfl rfl (by simp) rfl rfl ?_
    refine WA_sk 9 (by kernel_rfl) rfl rfl rfl rfl (by simp) rfl rfl ?_
    refine WA_tk 10 (by kernel_rfl) rfl rfl (fl_pick_t rfl rfl) ?_
    refine WL_pick_t rfl rfl rfl ?_
    refine WL_nil ?_
    refine WA_tk 11 (by kernel_rfl) rfl rfl (fl_move rfl) ?_
    refine WL_move rfl rfl ?_
    refine WL_nil ?_
    refine WA_sk 12 (by kernel_rfl) rfl rfl rfl rfl (by simp) rfl rfl ?_
    refine WA_sk 13 (by kernel_rfl) rfl rfl rfl rfl (by simp) rfl rfl ?_
    refine WA_sk 14 (by kernel_rfl) rfl rfl rfl rfl (by simp) rfl rfl ?_
    refine WA_sk 15 (by kernel_rfl) rfl rfl rfl rfl (by simp) rfl rfl ?_
    refine WA_sk 16 (by kernel_rfl) rfl rfl rfl rfl (by simp) rfl rfl ?_
    refine WA_sk 17 (by kernel_rfl) rfl rfl rfl rfl (by simp) rfl rfl ?_
    refine WA_sk 18 (by kernel_rfl) rfl rfl rfl rfl (by simp) rfl rfl ?_
    refine WA_sk 19 (by kernel_rfl) rfl rfl rfl rfl (by simp) rfl rfl ?_
    refine WA_sk 20 (by kernel_rfl) rfl rfl rfl rfl (by simp) rfl rfl ?_
    refine WA_sk 21 (by kernel_rfl) rfl rfl rfl rfl (by simp) rfl rfl ?_
    refine WA_sk 22 (by kernel_rfl) rfl rfl rfl rfl (by simp) rfl rfl ?_
    refine WA_sk 23 (by kernel_rfl) rfl rfl rfl rfl (by simp) rfl rfl ?_
    refine WA_sk 24 (by kernel_rfl) rfl rfl rfl rfl (by simp) rfl rfl ?_
    refine WA_sk 25 (by kernel_rfl) rfl rfl rfl rfl (by simp) rfl rfl ?_
    refine WA_sk 26 (by kernel_rfl) rfl rfl rfl rfl (by simp) rfl rfl ?_
    refine WA_sk 27 (by kernel_rfl) rfl rfl rfl rfl (by simp) rfl rfl ?_
    refine WA_tk 28 (by kernel_rfl) rfl rfl (fl_pick_t rfl rfl) ?_
    refine WL_pick_t rfl rfl rfl ?_
    refine WL_nil ?_
    refine WA_done (by kernel_rfl) ?_
    have hq14 := Option.some.inj hr9
    subst hq14
    have hC60 := hC59.h0
    refine nrm_sub (l' := [(0, u1), (125, (.bool true))]) ⟨rfl, rfl, trivial⟩ ?_
    exact ⟨true, rfl, rfl, (Keep.of hB16).below, hC60⟩
   replace hr9 := ite_f hr9 hc13
   refine WA_takeG 4 rfl (by kernel_rfl) (by kernel_rfl) (by kernel_rfl) rfl rfl rfl (fl_field Try.underlying26 rfl rfl (fun w => ⟨_, Try.sizeOf22 w⟩) rfl) ?_
   refine WL_guard rfl rfl ?_
   refine WL_field Try.underlying26 rfl rfl (fun w => ⟨_, Try.sizeOf22 w⟩) rfl rfl ?_
   refine WL_nil ?_
   refine WA_takeG 6 rfl (by kernel_rfl) (by kernel_rfl) (by kernel_rfl) rfl rfl rfl (fl_field Try.underlying35 rfl rfl (fun w => ⟨_, Try.sizeOf3 w⟩) rfl) ?_
   refine WL_guard rfl rfl ?_
   refine WL_field Try.underlying35 rfl rfl (fun w => ⟨_, Try.sizeOf3 w⟩) rfl rfl ?_
   refine WL_nil ?_
   refine WA.sub (l' := [(0, u1), (3, (ptr b1 0)), (4, (ptr b2 0)), (7, (ptr b4 0)), (8, (ptr b5 0)), (96, (.bool x7)), (97, (ptr b4 3)), (98, (.bool x3.2.2.2.2)), (99, (.bool (!x3.2.2.2.2))), (100, (.bool false)), (101, (ptr b5 0)), (103, (ptr b2 0))]) ?_ ⟨rfl, rfl, rfl, rfl, rfl, rfl, rfl, rfl, rfl, rfl, rfl, rfl, trivial⟩
   refine WA_postsE [⟨5, [], fun vs => PW.val v10, []⟩, ⟨7, [], fun vs => PW.val (.int .i64 x2.2.1.1), []⟩] [[], []] 21 rfl (by kernel_rfl) (by kernel_rfl) rfl ?_ ?_
   ·refine StepsE_cons rfl ?_ ?_
    ·intro w24 hB17
     refine DepsE_nil ?_
     refine ⟨_, rfl, ?_⟩
     refine WL_guard rfl rfl ?_
     refine WL_load_box (hC59.grow hB17) 0 rfl rfl Try.isAgg22 rfl rfl ?_
     refine WL_nil ?_
     exact FinE_val (Below.refl _ _) rfl rfl ⟨rfl, rfl⟩
    refine StepsE_cons rfl ?_ ?_
    ·intro w24 hB17
     refine DepsE_nil ?_
     refine ⟨_, rfl, ?_⟩
     refine WL_guard rfl rfl ?_
     refine WL_load_box (hC59.grow hB17) 3 rfl rfl Try.isAgg3 rfl rfl ?_
     refine WL_nil ?_
     exact FinE_val (Below.refl _ _) rfl rfl ⟨rfl, rfl⟩
    exact StepsE_nil
   intro w25 hB18
   refine AllE_cons rfl rfl rfl ?_
   rintro _ _ ⟨rfl, rfl⟩
   refine AllE_cons rfl rfl rfl ?_
   rintro _ _ ⟨rfl, rfl⟩
   refine AllE_nil ?_
   intro hn4 hb4
   have hC61 := hC59.grow hB18
   obtain ⟨x10, hr10, hr9⟩ := bind_some hr9
   refine WA_one 8 (by kernel_rfl) rfl ?_
   refine WL_guard rfl rfl ?_
   refine WL_call Try.call30 rfl rfl (c_Q_has x4.1.1 v10 ((hC61.ro 1 rfl).now (Keep.refl _ _)) x2.2.1.1 x10 hr10) ?_
   intro _ w26 hv11
   obtain ⟨rfl, hB19⟩ := res_bool hv11
   have hC62 := hC61.grow hB19
   refine WL_nil ?_
   refine WA_takeG 9 rfl (by kernel_rfl) (by kernel_rfl) (by kernel_rfl) rfl rfl rfl (fl_not rfl) ?_
   refine WL_guard rfl rfl ?_
   refine WL_not rfl rfl ?_
   refine WL_nil ?_
   refine WA_tk 10 (by kernel_rfl) rfl rfl (fl_pick_f rfl rfl) ?_
   refine WL_pick_f rfl rfl rfl ?_
   refine WL_nil ?_
   refine WA_tk 11 (by kernel_rfl) rfl rfl (fl_move rfl) ?_
   refine WL_move rfl rfl ?_
   refine WL_nil ?_
   refine WA_fork (fun hc14 => ?_) (fun hc14 => ?_)
   ·replace hr9 := ite_t hr9 hc14
    refine WA_sk 12 (by kernel_rfl) rfl rfl rfl rfl (by simp) rfl rfl ?_
    refine WA_sk 13 (by kernel_rfl) rfl rfl rfl rfl (by simp) rfl rfl ?_
    refine WA_sk 14 (by kernel_rfl) rfl rfl rfl rfl (by simp) rfl rfl ?_
    refine WA_sk 15 (by kernel_rfl) rfl rfl rfl rfl (by simp) rfl rfl ?_
    refine WA_sk 16 (by kernel_rfl) rfl rfl rfl rfl (by simp) rfl rfl ?_
    refine WA_sk 17 (by kernel_rfl) rfl rfl rfl rfl (by simp) rfl rfl ?_
    refine WA_sk 18 (by kernel_rfl) rfl rfl rfl rfl (by simp) rfl rfl ?_
    refine WA_sk 19 (by kernel_rfl) rfl rfl rfl rfl (by simp) rfl rfl ?_
    refine WA_sk 20 (by kernel_rfl) rfl rfl rfl rfl (by simp) rfl rfl ?_
    refine WA_sk 21 (by kernel_rfl) rfl rfl rfl rfl (by simp) rfl rfl ?_
    refine WA_sk 22 (by kernel_rfl) rfl rfl rfl rfl (by simp) rfl rfl ?_
    refine WA_sk 23 (by kernel_rfl) rfl rfl rfl rfl (by simp) rfl rfl ?_
    refine WA_sk 24 (by kernel_rfl) rfl rfl rfl rfl (by simp) rfl rfl ?_
    refine WA_sk 25 (by kernel_rfl) rfl rfl rfl rfl (by simp) rfl rfl ?_
    refine WA_sk 26 (by kernel_rfl) rfl rfl rfl rfl (by simp) rfl rfl ?_
    refine WA_sk 27 (by kernel_rfl) rfl rfl rfl rfl (by simp) rfl rfl ?_
    refine WA_tk 28 (by kernel_rfl) rfl rfl (fl_pick_t rfl rfl) ?_
    refine WL_pick_t rfl rfl rfl ?_
    refine WL_nil ?_
    refine WA_done (by kernel_rfl) ?_
    have hq15 := Option.some.inj hr9
    subst hq15
    have hC63 := hC62.h0
    refine nrm_sub (l' := [(0, u1), (125, (.bool true))]) ⟨rfl, rfl, trivial⟩ ?_
    exact ⟨true, rfl, rfl, (((Keep.of hB16).then hB18).then hB19).below, hC63⟩
   replace hr9 := ite_f hr9 hc14
   refine WA_takeG 12 rfl (by kernel_rfl) (by kernel_rfl) (by kernel_rfl) rfl rfl rfl (fl_field Try.underlying26 rfl rfl (fun w => ⟨_, Try.sizeOf3 w⟩) rfl) ?_
   refine WL_guard rfl rfl ?_
   refine WL_field Try.underlying26 rfl rfl (fun w => ⟨_, Try.sizeOf3 w⟩) rfl rfl ?_
   refine WL_nil ?_
   refine WA_takeG 14 rfl (by kernel_rfl) (by kernel_rfl) (by kernel_rfl) rfl rfl rfl (fl_field Try.underlying26 rfl rfl (fun w => ⟨_, Try.sizeOf3 w⟩) rfl) ?_
   refine WL_guard rfl rfl ?_
   refine WL_field Try.underlying26 rfl rfl (fun w => ⟨_, Try.sizeOf3 w⟩) rfl rfl ?_
   refine WL_nil ?_
   refine WA_takeG 16 rfl (by kernel_rfl) (by kernel_rfl) (by kernel_rfl) rfl rfl rfl (fl_field Try.underlying35 rfl rfl (fun w => ⟨_, Try.sizeOf3 w⟩) rfl) ?_
   refine WL_guard rfl rfl ?_
   refine WL_field Try.underlying35 rfl rfl (fun w => ⟨_, Try.sizeOf3 w⟩) rfl rfl ?_
   refine WL_nil ?_
   refine WA_takeG 18 rfl (by kernel_rfl) (by kernel_rfl) (by kernel_rfl) rfl rfl rfl (fl_field Try.underlying26 rfl rfl (fun w => ⟨_, Try.sizeOf22 w⟩) rfl) ?_
   refine WL_guard rfl rfl ?_
   refine WL_field Try.underlying26 rfl rfl (fun w => ⟨_, Try.sizeOf22 w⟩) rfl rfl ?_
   refine WL_nil ?_
   refine WA_takeG 20 rfl (by kernel_rfl) (by kernel_rfl) (by kernel_rfl) rfl rfl rfl (fl_field Try.underlying35 rfl rfl (fun w => ⟨_, Try.sizeOf3 w⟩) rfl) ?_
   refine WL_guard rfl rfl ?_
   refine WL_field Try.underlying35 rfl rfl (fun w => ⟨_, Try.sizeOf3 w⟩) rfl rfl ?_
   refine WL_nil ?_
   obtain ⟨x11, hr11, hr9⟩ := bind_some hr9
   obtain ⟨x12, hr12, hr9⟩ := bind_some hr9
   refine WA.sub (l' := [(0, u1), (3, (ptr b1 0)), (4, (ptr b2 0)), (7, (ptr b4 0)), (8, (ptr b5 0)), (96, (.bool x7)), (97, (ptr b4 3)), (98, (.bool x3.2.2.2.2)), (99, (.bool (!x3.2.2.2.2))), (100, (.bool false)), (101, (ptr b5 0)), (102, v10), (103, (ptr b2 0)), (104, (.int .i64 x2.2.1.1)), (105, (.bool x10)), (106, (.bool (!x10))), (107, (.bool (!x10))), (108, (.bool false)), (109, (ptr b5 1)), (111, (ptr b1 1)), (113, (ptr b2 1)), (115, (ptr b1 0)), (117, (ptr b2 0))]) ?_ ⟨rfl, rfl, rfl, rfl, rfl, rfl, rfl, rfl, rfl, rfl, rfl, rfl, rfl, rfl, rfl, rfl, rfl, rfl, rfl, rfl, rfl, rfl, rfl, trivial⟩
   refine WA_postsE [⟨13, [], fun vs => PW.val (.int .i64 x4.1.2.1), []⟩, ⟨15, [], fun vs => PW.val (.int .i64 x2.1.2.1), []⟩, ⟨17, [], fun vs => PW.val (.int .i64 x2.2.1.2.1), []⟩, ⟨19, [], fun vs => PW.val v4, []⟩, ⟨21, [], fun vs => PW.val (.int .i64 x2.2.1.1), []⟩, ⟨22, [], fun vs => PW.val (.bool x11), []⟩, ⟨23, [], fun vs => PW.val (.bool (!x11)), []⟩, ⟨24, [], fun vs => PW.val (.int .i64 x12), []⟩, ⟨25, [], fun vs => PW.val (.int .i64 (w64 (x2.2.1.2.1 * x12))), []⟩, ⟨26, [], fun vs => PW.val (.int .i64 (w64 (x2.1.2.1 + (w64 (x2.2.1.2.1 * x12))))), []⟩] [[], [], [], [], [], [19, 21], [22], [23], [17, 24], [15, 25]] 2 rfl (by kernel_rfl) (by kernel_rfl) rfl ?_ ?_
   ·refine StepsE_cons rfl ?_ ?_
    ·intro w29 hB22
     refine DepsE_nil ?_
     refine ⟨_, rfl, ?_⟩
     refine WL_guard rfl rfl ?_
     refine WL_load_box (hC62.grow hB22) 0 rfl rfl Try.isAgg3 rfl rfl ?_
     refine WL_nil ?_
     exact FinE_val (Below.refl _ _) rfl rfl ⟨rfl, rfl⟩
    refine StepsE_cons rfl ?_ ?_
    ·intro w29 hB22
     refine DepsE_nil ?_
     refine ⟨_, rfl, ?_⟩
     refine WL_guard rfl rfl ?_
     refine WL_load_box (hC62.grow hB22) 4 rfl rfl Try.isAgg3 rfl rfl ?_
     refine WL_nil ?_
     exact FinE_val (Below.refl _ _) rfl rfl ⟨rfl, rfl⟩
    refine StepsE_cons rfl ?_ ?_
    ·intro w29 hB22
     refine DepsE_nil ?_
     refine ⟨_, rfl, ?_⟩
     refine WL_guard rfl rfl ?_
     refine WL_load_box (hC62.grow hB22) 3 rfl rfl Try.isAgg3 rfl rfl ?_
     refine WL_nil ?_
     exact FinE_val (Below.refl _ _) rfl rfl ⟨rfl, rfl⟩
    refine StepsE_cons rfl ?_ ?_
    ·intro w29 hB22
     refine DepsE_nil ?_
     refine ⟨_, rfl, ?_⟩
     refine WL_guard rfl rfl ?_
     refine WL_load_box (hC62.grow hB22) 4 rfl rfl Try.isAgg22 rfl rfl ?_
     refine WL_nil ?_
     exact FinE_val (Below.refl _ _) rfl rfl ⟨rfl, rfl⟩
    refine StepsE_cons rfl ?_ ?_
    ·intro w29 hB22
     refine DepsE_nil ?_
     refine ⟨_, rfl, ?_⟩
     refine WL_guard rfl rfl ?_
     refine WL_load_box (hC62.grow hB22) 3 rfl rfl Try.isAgg3 rfl rfl ?_
     refine WL_nil ?_
     exact FinE_val (Below.refl _ _) rfl rfl ⟨rfl, rfl⟩
    refine StepsE_cons rfl ?_ ?_
    ·intro w29 hB22
     refine DepsE_cons rfl rfl rfl ?_
     rintro _ _ ⟨rfl, rfl⟩ _
     refine DepsE_cons rfl rfl rfl ?_
     rintro _ _ ⟨rfl, rfl⟩ _
     refine DepsE_nil ?_
     refine ⟨_, rfl, ?_⟩
     refine WL_guard rfl rfl ?_
     refine WL_call Try.call30 rfl rfl (c_Q_has x2.1.1 v4 ((hC62.grow hB22).ro 5 rfl) x2.2.1.1 x11 hr11) ?_
     intro _ w27 hv12
     obtain ⟨rfl, hB20⟩ := res_bool hv12
     refine WL_nil ?_
     exact FinE_val hB20 rfl rfl ⟨rfl, rfl⟩
    refine StepsE_cons rfl ?_ ?_
    ·intro w29 hB22
     refine DepsE_cons rfl rfl rfl ?_
     rintro _ _ ⟨rfl, rfl⟩ _
     refine DepsE_nil ?_
     refine ⟨_, rfl, ?_⟩
     refine WL_guard rfl rfl ?_
     refine WL_not rfl rfl ?_
     refine WL_nil ?_
     exact FinE_val (Below.refl _ _) rfl rfl ⟨rfl, rfl⟩
    refine StepsE_cons rfl ?_ ?_
    ·intro w29 hB22
     refine DepsE_cons rfl rfl rfl ?_
     rintro _ _ ⟨rfl, rfl⟩ _
     refine DepsE_nil ?_
     refine ⟨_, rfl, ?_⟩
     refine WL_guard rfl rfl ?_
     refine WL_call Try.call29 rfl rfl (c_Q_btoi (!x11) x12 hr12) ?_
     intro _ w28 hv13
     obtain ⟨rfl, hB21⟩ := res_int hv13
     refine WL_nil ?_
     exact FinE_val hB21 rfl rfl ⟨rfl, rfl⟩
    refine StepsE_cons rfl ?_ ?_
    ·intro w29 hB22
     refine DepsE_cons rfl rfl rfl ?_
     rintro _ _ ⟨rfl, rfl⟩ _
     refine DepsE_cons rfl rfl rfl ?_
     rintro _ _ ⟨rfl, rfl⟩ _
     refine DepsE_nil ?_
     refine ⟨_, rfl, ?_⟩
     refine WL_guard rfl rfl ?_
     refine WL_mul rfl rfl rfl ?_
     refine WL_nil ?_
     exact FinE_val (Below.refl _ _) rfl rfl ⟨rfl, rfl⟩
    refine StepsE_cons rfl ?_ ?_
    ·intro w29 hB22
     refine DepsE_cons rfl rfl rfl ?_
     rintro _ _ ⟨rfl, rfl⟩ _
     refine DepsE_cons rfl rfl rfl ?_
     rintro _ _ ⟨rfl, rfl⟩ _
     refine DepsE_nil ?_
     refine ⟨_, rfl, ?_⟩
     refine WL_guard rfl rfl ?_
     refine WL_add rfl rfl rfl ?_
     refine WL_nil ?_
     exact FinE_val (Below.refl _ _) rfl rfl ⟨rfl, rfl⟩
    exact StepsE_nil
   intro w30 hB23
   refine AllE_cons rfl rfl rfl ?_
   rintro _ _ ⟨rfl, rfl⟩
   refine AllE_cons rfl rfl rfl ?_
   rintro _ _ ⟨rfl, rfl⟩
   refine AllE_cons rfl rfl rfl ?_
   rintro _ _ ⟨rfl, rfl⟩
   refine AllE_cons rfl rfl rfl ?_
   rintro _ _ ⟨rfl, rfl⟩
   refine AllE_cons rfl rfl rfl ?_
   rintro _ _ ⟨rfl, rfl⟩
   refine AllE_cons rfl rfl rfl ?_
   rintro _ _ ⟨rfl, rfl⟩
   refine AllE_cons rfl rfl rfl ?_
   rintro _ _ ⟨rfl, rfl⟩
   refine AllE_cons rfl rfl rfl ?_
   rintro _ _ ⟨rfl, rfl⟩
   refine AllE_cons rfl rfl rfl ?_
   rintro _ _ ⟨rfl, rfl⟩
   refine AllE_cons rfl rfl rfl ?_
   rintro _ _ ⟨rfl, rfl⟩
   refine AllE_nil ?_
   intro hn5 hb5
   have hC64 := hC62.grow hB23
   refine WA_takeG 27 rfl (by kernel_rfl) (by kernel_rfl) (by kernel_rfl) rfl rfl rfl (fl_neq rfl rfl) ?_
   refine WL_guard rfl rfl ?_
   refine WL_neq rfl rfl rfl ?_
   refine WL_nil ?_
   refine WA_tk 28 (by kernel_rfl) rfl rfl (fl_pick_f rfl rfl) ?_
   refine WL_pick_f rfl rfl rfl ?_
   refine WL_nil ?_
   refine WA_done (by kernel_rfl) ?_
   have hq16 := Option.some.inj hr9
   subst hq16
   have hC65 := hC64.h0
   refine nrm_sub (l' := [(0, u1), (125, (.bool (!decide (x4.1.2.1 = (w64 (x2.1.2.1 + (w64 (x2.2.1.2.1 * x12))))))))]) ⟨rfl, rfl, trivial⟩ ?_
   exact ⟨(!decide (x4.1.2.1 = (w64 (x2.1.2.1 + (w64 (x2.2.1.2.1 * x12)))))), rfl, rfl, ((((Keep.of hB16).then hB18).then hB19).then hB23).below, hC65⟩
  rintro _ w22 ⟨x9, rfl, rfl, hB15, hC58⟩
  try dsimp only at hF
  refine W_cond rfl (fun hc15 => ?_) (fun hc15 => ?_)
  ·replace hF := ite_t hF hc15
   refine W_seq_reg ?_
   refine WL_assign rfl rfl ?_
   refine WL_nil ?_
   refine W_ret ?_
   refine nrm_ret ?_
   have hq17 := Option.some.inj hF
   subst hq17
   refine fn_ret1 rfl rfl ?_
   exact ⟨_, rfl, bool_res hC58 _⟩
  replace hF := ite_f hF hc15
  refine W_skip ?_
  refine nrm_normal ?_
  refine W_seq_reg ?_
  refine WL_move rfl rfl ?_
  obtain ⟨x13, hr13, hF⟩ := bind_some hF
  refine WL_call Try.call43 rfl rfl (c_S_DrawRunCalls a1 u1 (g1.now hC58.keep) x13 hr13) ?_
  rintro _ w31 ⟨hB24, v11, v12, v13, F8, F9, F10, rfl, hv14, hv15, hv16, hn6, hb6⟩
  have hC66 := hC58.pushL hB24 (Bs := [Item.own v11 x13.1, Item.own v12 x13.2.1, Item.own v13 x13.2.2]) (Fs := [F8, F9, F10]) ⟨F8, _, rfl, hv14, F9, _, rfl, hv15, F10, _, rfl, hv16, rfl⟩ (by simpa using hn6) (fun b h => hb6 b (by simpa using h))
  obtain ⟨v14, rfl, hC67⟩ := st26_own hC66
  refine WL_move rfl rfl ?_
  refine WL_extract rfl rfl rfl ?_
  refine WL_extract rfl rfl rfl ?_
  refine WL_extract rfl rfl rfl ?_
  refine WL_alloc hC67 zero26 rfl rfl (fun b7 w32 hC68 hB25 => ?_)
  refine WL_store_box_agg (cs' := [v14, (.int .i64 x13.1.2.1), (.int .i64 x13.1.2.2)]) (new := [v14, (.int .i64 x13.1.2.1), (.int .i64 x13.1.2.2)]) hC68 0 rfl rfl (by intro v hv; simp only [List.mem_cons, List.not_mem_nil, or_false] at hv; rcases hv with rfl | rfl | rfl; exact (ro_one (hC68.ro 1 rfl)); exact rfl; exact rfl) rfl Try.sizeOf26 rfl rfl (fun w33 hC69 => ?_)
  try dsimp only [List.set] at hC69
  refine WL_assign rfl rfl ?_
  refine WL_assign rfl rfl ?_
  refine WL_nil ?_
  refine W_seq_reg ?_
  refine WL_load_box_agg [v14, (.int .i64 x13.1.2.1), (.int .i64 x13.1.2.2)] hC69 0 rfl rfl rfl Try.isAgg26 Try.sizeOf26 rfl rfl ?_
  refine WL_move rfl rfl ?_
  refine WL_move rfl rfl ?_
  obtain ⟨x14, hr14, hF⟩ := bind_some hF
  refine WL_call Try.call44 rfl rfl (c_M_RunCalls (x13.1.1, x13.1.2.1, x13.1.2.2) v14 ((hC69.ro 1 rfl).now (Keep.refl _ _)) x13.2.1 v12 ((hC69.ro 2 rfl).now (Keep.refl _ _)) x13.2.2 v13 ((hC69.ro 3 rfl).now (Keep.refl _ _)) x14 hr14) ?_
  rintro _ w34 ⟨hB26, v15, v16, F11, F12, rfl, hv17, hv18, hn7, hb7⟩
  have hC70 := hC69.pushL hB26 (Bs := [Item.own v15 x14.1, Item.own v16 x14.2]) (Fs := [F11, F12]) ⟨F11, _, rfl, hv17, F12, _, rfl, hv18, rfl⟩ (by simpa using hn7) (fun b h => hb7 b (by simpa using h))
  obtain ⟨v17, rfl, hC71⟩ := st26_own hC70
  refine WL_move rfl rfl ?_
  refine WL_extract rfl rfl rfl ?_
  refine WL_extract rfl rfl rfl ?_
  refine WL_alloc hC71 zero26 rfl rfl (fun b8 w35 hC72 hB27 => ?_)
  refine WL_store_box_agg (cs' := [v17, (.int .i64 x14.1.2.1), (.int .i64 x14.1.2.2)]) (new := [v17, (.int .i64 x14.1.2.1), (.int .i64 x14.1.2.2)]) hC72 0 rfl rfl (by intro v hv; simp only [List.mem_cons, List.not_mem_nil, or_false] at hv; rcases hv with rfl | rfl | rfl; exact (ro_one (hC72.ro 1 rfl)); exact rfl; exact rfl) rfl Try.sizeOf26 rfl rfl (fun w36 hC73 => ?_)
  try dsimp only [List.set] at hC73
  refine WL_assign rfl rfl ?_
  refine WL_nil ?_
  refine W_seq_reg ?_
  refine WL_load_box_agg [v14, (.int .i64 x13.1.2.1), (.int .i64 x13.1.2.2)] hC73 3 rfl rfl rfl Try.isAgg26 Try.sizeOf26 rfl rfl ?_
  refine WL_move rfl rfl ?_
  refine WL_move rfl rfl ?_
  obtain ⟨x15, hr15, hF⟩ := bind_some hF
  refine WL_call Try.call45 rfl rfl (c_S_RunCalls (x13.1.1, x13.1.2.1, x13.1.2.2) v14 ((hC73.ro 4 rfl).now (Keep.refl _ _)) x13.2.1 v12 ((hC73.ro 5 rfl).now (Keep.refl _ _)) x13.2.2 v13 ((hC73.ro 6 rfl).now (Keep.refl _ _)) x15 hr15) ?_
  rintro _ w37 ⟨hB28, v18, v19, F13, F14, rfl, hv19, hv20, hn8, hb8⟩
  have hC74 := hC73.pushL hB28 (Bs := [Item.own v18 x15.1, Item.own v19 x15.2]) (Fs := [F13, F14]) ⟨F13, _, rfl, hv19, F14, _, rfl, hv20, rfl⟩ (by simpa using hn8) (fun b h => hb8 b (by simpa using h))
  obtain ⟨v20, rfl, hC75⟩ := st26_own hC74
  refine WL_move rfl rfl ?_
  refine WL_extract rfl rfl rfl ?_
  refine WL_extract rfl rfl rfl ?_
  refine WL_alloc hC75 zero26 rfl rfl (fun b9 w38 hC76 hB29 => ?_)
  refine WL_store_box_agg (cs' := [v20, (.int .i64 x15.1.2.1), (.int .i64 x15.1.2.2)]) (new := [v20, (.int .i64 x15.1.2.1), (.int .i64 x15.1.2.2)]) hC76 0 rfl rfl (by intro v hv; simp only [List.mem_cons, List.not_mem_nil, or_false] at hv; rcases hv with rfl | rfl | rfl; exact (ro_one (hC76.ro 1 rfl)); exact rfl; exact rfl) rfl Try.sizeOf26 rfl rfl (fun w39 hC77 => ?_)
  try dsimp only [List.set] at hC77
  refine WL_assign rfl rfl ?_
  refine WL_nil ?_
  refine W_seq ?_
  obtain ⟨r4, hr16, hF⟩ := bind_some hF
  refine W_cut (fun l w => ∃ x16 : Bool, x16 = r4 ∧ l = [(14, v16), (16, v19), (172, (.bool x16))] ∧ Below w39.heap.size w39 w ∧ Ctx [] w0 w [Item.own v19 (x15.2 : (List (Int × Int × Int × Bool))), Item.own v16 (x14.2 : (List (Int × Int × Int × Bool)))]) ?_ ?_
  ·refine W_reg ?_
   refine WL_move rfl rfl ?_
   refine WL_len Try.underlying60 (hC77.ro 5 rfl) rfl rfl ?_
   refine WL_move rfl rfl ?_
   refine WL_len Try.underlying60 (hC77.ro 2 rfl) rfl rfl ?_
   refine WL_neq rfl rfl rfl ?_
   refine WL_move rfl rfl ?_
   refine WL_fork (fun hc16 => ?_) (fun hc16 => ?_)
   ·replace hr16 := ite_t hr16 hc16
    refine WL_guard_skip rfl rfl (by simp) rfl ?_
    refine WL_guard_skip rfl rfl (by simp) rfl ?_
    refine WL_guard_skip rfl rfl (by simp) rfl ?_
    refine WL_guard_skip rfl rfl (by simp) rfl ?_
    refine WL_guard_skip rfl rfl (by simp) rfl ?_
    refine WL_pick_t rfl rfl rfl ?_
    refine WL_move rfl rfl ?_
    refine WL_guard_skip rfl rfl (by simp) rfl ?_
    refine WL_guard_skip rfl rfl (by simp) rfl ?_
    refine WL_guard_skip rfl rfl (by simp) rfl ?_
    refine WL_guard_skip rfl rfl (by simp) rfl ?_
    refine WL_guard_skip rfl rfl (by simp) rfl ?_
    refine WL_guard_skip rfl rfl (by simp) rfl ?_
    refine WL_pick_t rfl rfl rfl ?_
    refine WL_move rfl rfl ?_
    refine WL_guard_skip rfl rfl (by simp) rfl ?_
    refine WL_guard_skip rfl rfl (by simp) rfl ?_
    refine WL_guard_skip rfl rfl (by simp) rfl ?_
    refine WL_guard_skip rfl rfl (by simp) rfl ?_
    refine WL_guard_skip rfl rfl (by simp) rfl ?_
    refine WL_pick_t rfl rfl rfl ?_
    refine WL_nil ?_
    have hq18 := Option.some.inj hr16
    subst hq18
    have hC79 := hC77.f5
    have hC80 := hC79.f3
    have hC81 := hC80.h2
    refine nrm_sub (l' := [(14, v16), (16, v19), (172, (.bool true))]) ⟨rfl, rfl, rfl, trivial⟩ ?_
    exact ⟨true, rfl, rfl, (Below.refl _ _), hC81⟩
   replace hr16 := ite_f hr16 hc16
   refine WL_guard rfl rfl ?_
   refine WL_field Try.underlying26 rfl rfl (fun w => ⟨_, Try.sizeOf3 w⟩) rfl rfl ?_
   refine WL_guard rfl rfl ?_
   refine WL_load_box hC77 3 rfl rfl Try.isAgg3 rfl rfl ?_
   refine WL_guard rfl rfl ?_
   refine WL_field Try.underlying26 rfl rfl (fun w => ⟨_, Try.sizeOf3 w⟩) rfl rfl ?_
   refine WL_guard rfl rfl ?_
   refine WL_load_box hC77 0 rfl rfl Try.isAgg3 rfl rfl ?_
   refine WL_guard rfl rfl ?_
   refine WL_neq rfl rfl rfl ?_
   refine WL_pick_f rfl rfl rfl ?_
   refine WL_move rfl rfl ?_
   refine WL_fork (fun hc17 => ?_) (fun hc17 => ?_)
   ·replace hr16 := ite_t hr16 hc17
    refine WL_guard_skip rfl rfl (by simp) rfl ?_
    refine WL_guard_skip rfl rfl (by simp) rfl ?_
    refine WL_guard_skip rfl rfl (by simp) rfl ?_
    refine WL_guard_skip rfl rfl (by simp) rfl ?_
    refine WL_guard_skip rfl rfl (by simp) rfl ?_
    refine WL_guard_skip rfl rfl (by simp) rfl ?_
    refine WL_pick_t rfl rfl rfl ?_
    refine WL_move rfl rfl ?_
    refine WL_guard_skip rfl rfl (by simp) rfl ?_
    refine WL_guard_skip rfl rfl (by simp) rfl ?_
    refine WL_guard_skip rfl rfl (by simp) rfl ?_
    refine WL_guard_skip rfl rfl (by simp) rfl ?_
    refine WL_guard_skip rfl rfl (by simp) rfl ?_
    refine WL_pick_t rfl rfl rfl ?_
    refine WL_nil ?_
    have hq19 := Option.some.inj hr16
    subst hq19
    have hC82 := hC77.f5
    have hC83 := hC82.f3
    have hC84 := hC83.h2
    refine nrm_sub (l' := [(14, v16), (16, v19), (172, (.bool true))]) ⟨rfl, rfl, rfl, trivial⟩ ?_
    exact ⟨true, rfl, rfl, (Below.refl _ _), hC84⟩
   replace hr16 := ite_f hr16 hc17
   refine WL_guard rfl rfl ?_
   refine WL_field Try.underlying26 rfl rfl (fun w => ⟨_, Try.sizeOf22 w⟩) rfl rfl ?_
   refine WL_guard rfl rfl ?_
   refine WL_load_box hC77 3 rfl rfl Try.isAgg22 rfl rfl ?_
   refine WL_guard rfl rfl ?_
   refine WL_field Try.underlying26 rfl rfl (fun w => ⟨_, Try.sizeOf22 w⟩) rfl rfl ?_
   refine WL_guard rfl rfl ?_
   refine WL_load_box hC77 0 rfl rfl Try.isAgg22 rfl rfl ?_
   obtain ⟨x17, hr17, hr16⟩ := bind_some hr16
   refine WL_guard rfl rfl ?_
   refine WL_call Try.call28 rfl rfl (c_Q_sameInts x14.1.1 v17 ((hC77.ro 4 rfl).now (Keep.refl _ _)) x15.1.1 v20 ((hC77.ro 1 rfl).now (Keep.refl _ _)) x17 hr17) ?_
   intro _ w41 hv21
   obtain ⟨rfl, hB31⟩ := res_bool hv21
   have hC85 := hC77.grow hB31
   refine WL_guard rfl rfl ?_
   refine WL_not rfl rfl ?_
   refine WL_pick_f rfl rfl rfl ?_
   refine WL_move rfl rfl ?_
   refine WL_fork (fun hc18 => ?_) (fun hc18 => ?_)
   ·replace hr16 := ite_t hr16 hc18
    refine WL_guard_skip rfl rfl (by simp) rfl ?_
    refine WL_guard_skip rfl rfl (by simp) rfl ?_
    refine WL_guard_skip rfl rfl (by simp) rfl ?_
    refine WL_guard_skip rfl rfl (by simp) rfl ?_
    refine WL_guard_skip rfl rfl (by simp) rfl ?_
    refine WL_pick_t rfl rfl rfl ?_
    refine WL_nil ?_
    have hq20 := Option.some.inj hr16
    subst hq20
    have hC86 := hC85.f5
    have hC87 := hC86.f3
    have hC88 := hC87.h2
    refine nrm_sub (l' := [(14, v16), (16, v19), (172, (.bool true))]) ⟨rfl, rfl, rfl, trivial⟩ ?_
    exact ⟨true, rfl, rfl, (Keep.of hB31).below, hC88⟩
   replace hr16 := ite_f hr16 hc18
   refine WL_guard rfl rfl ?_
   refine WL_field Try.underlying26 rfl rfl (fun w => ⟨_, Try.sizeOf3 w⟩) rfl rfl ?_
   refine WL_guard rfl rfl ?_
   refine WL_load_box hC85 3 rfl rfl Try.isAgg3 rfl rfl ?_
   refine WL_guard rfl rfl ?_
   refine WL_field Try.underlying26 rfl rfl (fun w => ⟨_, Try.sizeOf3 w⟩) rfl rfl ?_
   refine WL_guard rfl rfl ?_
   refine WL_load_box hC85 0 rfl rfl Try.isAgg3 rfl rfl ?_
   refine WL_guard rfl rfl ?_
   refine WL_neq rfl rfl rfl ?_
   refine WL_pick_f rfl rfl rfl ?_
   refine WL_nil ?_
   have hq21 := Option.some.inj hr16
   subst hq21
   have hC89 := hC85.f5
   have hC90 := hC89.f3
   have hC91 := hC90.h2
   refine nrm_sub (l' := [(14, v16), (16, v19), (172, (.bool (!decide (x14.1.2.2 = x15.1.2.2))))]) ⟨rfl, rfl, rfl, trivial⟩ ?_
   exact ⟨(!decide (x14.1.2.2 = x15.1.2.2)), rfl, rfl, (Keep.of hB31).below, hC91⟩
  rintro _ w40 ⟨x16, rfl, rfl, hB30, hC78⟩
  try dsimp only at hF
  refine W_cond rfl (fun hc19 => ?_) (fun hc19 => ?_)
  ·replace hF := ite_t hF hc19
   refine W_seq_reg ?_
   refine WL_assign rfl rfl ?_
   refine WL_nil ?_
   refine W_ret ?_
   refine nrm_ret ?_
   have hq22 := Option.some.inj hF
   subst hq22
   refine fn_ret1 rfl rfl ?_
   exact ⟨_, rfl, bool_res hC78 _⟩
  replace hF := ite_f hF hc19
  refine W_skip ?_
  refine nrm_normal ?_
  refine W_seq ?_
  refine W_seq_reg ?_
  refine WL_assign rfl rfl ?_
  refine WL_nil ?_
  obtain ⟨r5, hr18, hF⟩ := bind_some hF
  refine W_norm (fun l w => .inl () = r5 ∧ l = [] ∧ Below w40.heap.size w40 w ∧ Ctx [] w0 w []) ?_ ?_
  ·refine W_block ?_
   refine W.sub (l' := [(14, v16), (16, v19), (17, (.int .i64 0))]) ?_ ⟨rfl, rfl, rfl, trivial⟩
   refine W_loop (fun k l w => ∃ x18 : Int, l = [(14, v16), (16, v19), (17, (.int .i64 x18))] ∧ Below w40.heap.size w40 w ∧ Ctx [] w0 w [Item.own v19 (x15.2 : (List (Int × Int × Int × Bool))), Item.own v16 (x14.2 : (List (Int × Int × Int × Bool)))] ∧ Q.FnCalls_l1 x14 x15 k x18 = some r5) FUEL ⟨0, rfl, (Below.refl _ _), hC78, hr18⟩ ?_
   clear hr18
   rintro k1 _ w42 ⟨x18, rfl, hB32, hC92, hL1⟩
   cases k1 with
   | zero => rw [Q.FnCalls_l1] at hL1; cases hL1
   | succ k1 =>
    rw [Q.FnCalls_l1] at hL1
    refine W_seq ?_
    refine W_seq_reg ?_
    refine WL_move rfl rfl ?_
    refine WL_move rfl rfl ?_
    refine WL_len Try.underlying60 (hC92.ro 1 rfl) rfl rfl ?_
    refine WL_lss rfl rfl rfl ?_
    refine WL_nil ?_
    refine W_cond rfl (fun hc20 => ?_) (fun hc20 => ?_)
    ·replace hL1 := ite_t hL1 hc20
     refine W_skip ?_
     refine nrm_normal ?_
     refine W_seq ?_
     refine W_block ?_
     refine W_seq ?_
     refine W_drawn 9 rfl hmix (fun w43 hB33 => ?_)
     have hC93 := hC92.grow hB33
     refine WA_tk 0 (by kernel_rfl) rfl rfl (fl_move rfl) ?_
     refine WL_move rfl rfl ?_
     refine WL_nil ?_
     refine WA_tk 1 (by kernel_rfl) rfl rfl (fl_move rfl) ?_
     refine WL_move rfl rfl ?_
     refine WL_nil ?_
     obtain ⟨x19, hx1, hL1⟩ := bind_some hL1
     refine WA_tk 2 (by kernel_rfl) rfl rfl (fl_index Try.underlying60 ty35 (hC93.ro 1 rfl) hx1 rfl rfl) ?_
     refine WL_index Try.underlying60 ty35 (hC93.ro 1 rfl) hx1 rfl rfl rfl (fun b10 o1 h1 => ?_)
     refine WL_nil ?_
     refine WA_tk 4 (by kernel_rfl) rfl rfl (fl_move rfl) ?_
     refine WL_move rfl rfl ?_
     refine WL_nil ?_
     refine WA_tk 5 (by kernel_rfl) rfl rfl (fl_move rfl) ?_
     refine WL_move rfl rfl ?_
     refine WL_nil ?_
     obtain ⟨x20, hx2, hL1⟩ := bind_some hL1
     refine WA_tk 6 (by kernel_rfl) rfl rfl (fl_index Try.underlying60 ty35 (hC93.ro 0 rfl) hx2 rfl rfl) ?_
     refine WL_index Try.underlying60 ty35 (hC93.ro 0 rfl) hx2 rfl rfl rfl (fun b11 o2 h2 => ?_)
     refine WL_nil ?_
     refine WA.sub (l' := [(14, v16), (16, v19), (17, (.int .i64 x18)), (173, (.int .i64 x18)), (174, v16), (175, (.int .i64 (List.length x14.2 : Int))), (176, (.bool (decide (x18 < (List.length x14.2 : Int))))), (179, v16), (180, (.int .i64 x18)), (181, (ptr b10 o1)), (183, v19), (184, (.int .i64 x18)), (185, (ptr b11 o2))]) ?_ ⟨rfl, rfl, rfl, rfl, rfl, rfl, rfl, rfl, rfl, rfl, rfl, rfl, rfl, trivial⟩
     refine WA_postsE [⟨3, [], fun vs => PW.val (.agg #[(.int .i64 x19.1), (.int .i64 x19.2.1), (.int .i64 x19.2.2.1), (.bool x19.2.2.2)]), []⟩, ⟨7, [], fun vs => PW.val (.agg #[(.int .i64 x20.1), (.int .i64 x20.2.1), (.int .i64 x20.2.2.1), (.bool x20.2.2.2)]), []⟩] [[], []] 1 rfl (by kernel_rfl) (by kernel_rfl) rfl ?_ ?_
     ·refine StepsE_cons rfl ?_ ?_
      ·intro w44 hB34
       refine DepsE_nil ?_
       refine ⟨_, rfl, ?_⟩
       refine WL_load ty35 h1 (Keep.of hB34) rfl rfl (fun v21 h3 => ?_)
       obtain rfl := ro_st35 h3
       refine WL_nil ?_
       exact FinE_val (Below.refl _ _) rfl rfl ⟨rfl, rfl⟩
      refine StepsE_cons rfl ?_ ?_
      ·intro w44 hB34
       refine DepsE_nil ?_
       refine ⟨_, rfl, ?_⟩
       refine WL_load ty35 h2 (Keep.of hB34) rfl rfl (fun v22 h4 => ?_)
       obtain rfl := ro_st35 h4
       refine WL_nil ?_
       exact FinE_val (Below.refl _ _) rfl rfl ⟨rfl, rfl⟩
      exact StepsE_nil
     intro w45 hB35
     refine AllE_cons rfl rfl rfl ?_
     rintro _ _ ⟨rfl, rfl⟩
     refine AllE_cons rfl rfl rfl ?_
     rintro _ _ ⟨rfl, rfl⟩
     refine AllE_nil ?_
     intro hn9 hb9
     have hC94 := hC93.grow hB35
     refine WA_tk 8 (by kernel_rfl) rfl rfl (fl_agg_neq Try.underlying35 Try.stoodInHeld35 Try.eqGuardType35 (fun w => (eqF_int (by decide) Try.underlying3 rfl rfl (eqF_int (by decide) Try.underlying3 rfl rfl (eqF_int (by decide) Try.underlying3 rfl rfl (eqF_bool (by decide) Try.underlying4 rfl rfl eqF_nil))))) rfl rfl) ?_
     refine WL_agg_neq Try.underlying35 Try.stoodInHeld35 Try.eqGuardType35 (fun w => (eqF_int (by decide) Try.underlying3 rfl rfl (eqF_int (by decide) Try.underlying3 rfl rfl (eqF_int (by decide) Try.underlying3 rfl rfl (eqF_bool (by decide) Try.underlying4 rfl rfl eqF_nil))))) rfl rfl rfl ?_
     refine WL_nil ?_
     refine WA_done (by kernel_rfl) ?_
     refine nrm_normal ?_
     refine W_cond rfl (fun hc21 => ?_) (fun hc21 => ?_)
     ·replace hL1 := ite_t hL1 hc21
      refine W_seq_reg ?_
      refine WL_assign rfl rfl ?_
      refine WL_nil ?_
      refine W_ret ?_
      refine blk_ret ?_
      refine nrm_ret ?_
      refine nrm_ret ?_
      refine blk_ret ?_
      refine nrm_ret ?_
      refine nrm_ret ?_
      have hq23 := Option.some.inj hL1
      subst hq23
      dsimp only at hF
      have hq24 := Option.some.inj hF
      subst hq24
      refine fn_ret1 rfl rfl ?_
      exact ⟨_, rfl, bool_res hC94 _⟩
     replace hL1 := ite_f hL1 hc21
     refine W_skip ?_
     refine blk_normal ?_
     refine nrm_normal ?_
     refine W_reg ?_
     refine WL_move rfl rfl ?_
     refine WL_add rfl rfl rfl ?_
     refine WL_assign rfl rfl ?_
     refine WL_nil ?_
     refine nrm_sub (l' := [(14, v16), (16, v19), (17, (.int .i64 (w64 (x18 + 1))))]) ⟨rfl, rfl, rfl, trivial⟩ ?_
     exact ⟨k1, Nat.lt_succ_self _, w64 (x18 + 1), rfl, (((Keep.of hB32).then hB33).then hB35).below, hC94, hL1⟩
    replace hL1 := ite_f hL1 hc20
    refine W_exit ?_
    refine nrm_exit ?_
    refine nrm_exit ?_
    refine blk_exit ?_
    have hq25 := Option.some.inj hL1
    subst hq25
    have hC95 := hC92.h0
    refine nrm_sub (l' := []) trivial ?_
    exact ⟨rfl, rfl, (Keep.of hB32).below, hC95⟩
  rintro l6 _ w46 hs6 ⟨rfl, rfl, hB36, hC96⟩
  try dsimp only at hF
  refine nrm_sub' hs6 ?_
  clear hs6
  refine W_seq_reg ?_
  refine WL_assign rfl rfl ?_
  refine WL_nil ?_
  refine W_ret ?_
  have hq26 := Option.some.inj hF
  subst hq26
  refine fn_ret1 rfl rfl ?_
  exact ⟨_, rfl, bool_res hC96 _⟩
 replace hF := ite_f hF hc12
 refine W_skip ?_
 refine nrm_normal ?_
 refine W_seq_reg ?_
 refine WL_move rfl rfl ?_
 obtain ⟨x21, hr19, hF⟩ := bind_some hF
 refine WL_call Try.call43 rfl rfl (c_S_DrawRunCalls a1 u1 (g1.now hC56.keep) x21 hr19) ?_
 rintro _ w47 ⟨hB37, v23, v24, v25, F15, F16, F17, rfl, hv22, hv23, hv24, hn10, hb10⟩
 have hC97 := hC56.pushL hB37 (Bs := [Item.own v23 x21.1, Item.own v24 x21.2.1, Item.own v25 x21.2.2]) (Fs := [F15, F16, F17]) ⟨F15, _, rfl, hv22, F16, _, rfl, hv23, F17, _, rfl, hv24, rfl⟩ (by simpa using hn10) (fun b h => hb10 b (by simpa using h))
 obtain ⟨v26, rfl, hC98⟩ := st26_own hC97
 refine WL_move rfl rfl ?_
 refine WL_extract rfl rfl rfl ?_
 refine WL_extract rfl rfl rfl ?_
 refine WL_extract rfl rfl rfl ?_
 refine WL_alloc hC98 zero26 rfl rfl (fun b12 w48 hC99 hB38 => ?_)
 refine WL_store_box_agg (cs' := [v26, (.int .i64 x21.1.2.1), (.int .i64 x21.1.2.2)]) (new := [v26, (.int .i64 x21.1.2.1), (.int .i64 x21.1.2.2)]) hC99 0 rfl rfl (by intro v hv; simp only [List.mem_cons, List.not_mem_nil, or_false] at hv; rcases hv with rfl | rfl | rfl; exact (ro_one (hC99.ro 1 rfl)); exact rfl; exact rfl) rfl Try.sizeOf26 rfl rfl (fun w49 hC100 => ?_)
 try dsimp only [List.set] at hC100
 refine WL_assign rfl rfl ?_
 refine WL_assign rfl rfl ?_
 refine WL_nil ?_
 refine W_seq_reg ?_
 refine WL_load_box_agg [v26, (.int .i64 x21.1.2.1), (.int .i64 x21.1.2.2)] hC100 0 rfl rfl rfl Try.isAgg26 Try.sizeOf26 rfl rfl ?_
 refine WL_move rfl rfl ?_
 refine WL_move rfl rfl ?_
 obtain ⟨x22, hr20, hF⟩ := bind_some hF
 refine WL_call Try.call44 rfl rfl (c_M_RunCalls (x21.1.1, x21.1.2.1, x21.1.2.2) v26 ((hC100.ro 1 rfl).now (Keep.refl _ _)) x21.2.1 v24 ((hC100.ro 2 rfl).now (Keep.refl _ _)) x21.2.2 v25 ((hC100.ro 3 rfl).now (Keep.refl _ _)) x22 hr20) ?_
 rintro _ w50 ⟨hB39, v27, v28, F18, F19, rfl, hv25, hv26, hn11, hb11⟩
 have hC101 := hC100.pushL hB39 (Bs := [Item.own v27 x22.1, Item.own v28 x22.2]) (Fs := [F18, F19]) ⟨F18, _, rfl, hv25, F19, _, rfl, hv26, rfl⟩ (by simpa using hn11) (fun b h => hb11 b (by simpa using h))
 obtain ⟨v29, rfl, hC102⟩ := st26_own hC101
 refine WL_move rfl rfl ?_
 refine WL_extract rfl rfl rfl ?_
 refine WL_extract rfl rfl rfl ?_
 refine WL_alloc hC102 zero26 rfl rfl (fun b13 w51 hC103 hB40 => ?_)
 refine WL_store_box_agg (cs' := [v29, (.int .i64 x22.1.2.1), (.int .i64 x22.1.2.2)]) (new := [v29, (.int .i64 x22.1.2.1), (.int .i64 x22.1.2.2)]) hC103 0 rfl rfl (by intro v hv; simp only [List.mem_cons, List.not_mem_nil, or_false] at hv; rcases hv with rfl | rfl | rfl; exact (ro_one (hC103.ro 1 rfl)); exact rfl; exact rfl) rfl Try.sizeOf26 rfl rfl (fun w52 hC104 => ?_)
 try dsimp only [List.set] at hC104
 refine WL_assign rfl rfl ?_
 refine WL_nil ?_
 refine W_seq_reg ?_
 refine WL_load_box_agg [v26, (.int .i64 x21.1.2.1), (.int .i64 x21.1.2.2)] hC104 3 rfl rfl rfl Try.isAgg26 Try.sizeOf26 rfl rfl ?_
 refine WL_move rfl rfl ?_
 refine WL_move rfl rfl ?_
 obtain ⟨x23, hr21, hF⟩ := bind_some hF
 refine WL_call Try.call45 rfl rfl (c_S_RunCalls (x21.1.1, x21.1.2.1, x21.1.2.2) v26 ((hC104.ro 4 rfl).now (Keep.refl _ _)) x21.2.1 v24 ((hC104.ro 5 rfl).now (Keep.refl _ _)) x21.2.2 v25 ((hC104.ro 6 rfl).now (Keep.refl _ _)) x23 hr21) ?_
 rintro _ w53 ⟨hB41, v30, v31, F20, F21, rfl, hv27, hv28, hn12, hb12⟩
 have hC105 := hC104.pushL hB41 (Bs := [Item.own v30 x23.1, Item.own v31 x23.2]) (Fs := [F20, F21]) ⟨F20, _, rfl, hv27, F21, _, rfl, hv28, rfl⟩ (by simpa using hn12) (fun b h => hb12 b (by simpa using h))
 obtain ⟨v32, rfl, hC106⟩ := st26_own hC105
 refine WL_move rfl rfl ?_
 refine WL_extract rfl rfl rfl ?_
 refine WL_extract rfl rfl rfl ?_
 refine WL_alloc hC106 zero26 rfl rfl (fun b14 w54 hC107 hB42 => ?_)
 refine WL_store_box_agg (cs' := [v32, (.int .i64 x23.1.2.1), (.int .i64 x23.1.2.2)]) (new := [v32, (.int .i64 x23.1.2.1), (.int .i64 x23.1.2.2)]) hC107 0 rfl rfl (by intro v hv; simp only [List.mem_cons, List.not_mem_nil, or_false] at hv; rcases hv with rfl | rfl | rfl; exact (ro_one (hC107.ro 1 rfl)); exact rfl; exact rfl) rfl Try.sizeOf26 rfl rfl (fun w55 hC108 => ?_)
 try dsimp only [List.set] at hC108
 refine WL_assign rfl rfl ?_
 refine WL_nil ?_
 refine W_seq ?_
 obtain ⟨r6, hr22, hF⟩ := bind_some hF
 refine W_cut (fun l w => ∃ x24 : Bool, x24 = r6 ∧ l = [(14, v28), (16, v31), (172, (.bool x24))] ∧ Below w55.heap.size w55 w ∧ Ctx [] w0 w [Item.own v31 (x23.2 : (List (Int × Int × Int × Bool))), Item.own v28 (x22.2 : (List (Int × Int × Int × Bool)))]) ?_ ?_
 ·refine W_reg ?_
  refine WL_move rfl rfl ?_
  refine WL_len Try.underlying60 (hC108.ro 5 rfl) rfl rfl ?_
  refine WL_move rfl rfl ?_
  refine WL_len Try.underlying60 (hC108.ro 2 rfl) rfl rfl ?_
  refine WL_neq rfl rfl rfl ?_
  refine WL_move rfl rfl ?_
  refine WL_fork (fun hc22 => ?_) (fun hc22 => ?_)
  ·replace hr22 := ite_t hr22 hc22
   refine WL_guard_skip rfl rfl (by simp) rfl ?_
   refine WL_guard_skip rfl rfl (by simp) rfl ?_
   refine WL_guard_skip rfl rfl (by simp) rfl ?_
   refine WL_guard_skip rfl rfl (by simp) rfl ?_
   refine WL_guard_skip rfl rfl (by simp) rfl ?_
   refine WL_pick_t rfl rfl rfl ?_
   refine WL_move rfl rfl ?_
   refine WL_guard_skip rfl rfl (by simp) rfl ?_
   refine WL_guard_skip rfl rfl (by simp) rfl ?_
   refine WL_guard_skip rfl rfl (by simp) rfl ?_
   refine WL_guard_skip rfl rfl (by simp) rfl ?_
   refine WL_guard_skip rfl rfl (by simp) rfl ?_
   refine WL_guard_skip rfl rfl (by simp) rfl ?_
   refine WL_pick_t rfl rfl rfl ?_
   refine WL_move rfl rfl ?_
   refine WL_guard_skip rfl rfl (by simp) rfl ?_
   refine WL_guard_skip rfl rfl (by simp) rfl ?_
   refine WL_guard_skip rfl rfl (by simp) rfl ?_
   refine WL_guard_skip rfl rfl (by simp) rfl ?_
   refine WL_guard_skip rfl rfl (by simp) rfl ?_
   refine WL_pick_t rfl rfl rfl ?_
   refine WL_nil ?_
   have hq27 := Option.some.inj hr22
   subst hq27
   have hC110 := hC108.f5
   have hC111 := hC110.f3
   have hC112 := hC111.h2
   refine nrm_sub (l' := [(14, v28), (16, v31), (172, (.bool true))]) ⟨rfl, rfl, rfl, trivial⟩ ?_
   exact ⟨true, rfl, rfl, (Below.refl _ _), hC112⟩
  replace hr22 := ite_f hr22 hc22
  refine WL_guard rfl rfl ?_
  refine WL_field Try.underlying26 rfl rfl (fun w => ⟨_, Try.sizeOf3 w⟩) rfl rfl ?_
  refine WL_guard rfl rfl ?_
  refine WL_load_box hC108 3 rfl rfl Try.isAgg3 rfl rfl ?_
  refine WL_guard rfl rfl ?_
  refine WL_field Try.underlying26 rfl rfl (fun w => ⟨_, Try.sizeOf3 w⟩) rfl rfl ?_
  refine WL_guard rfl rfl ?_
  refine WL_load_box hC108 0 rfl rfl Try.isAgg3 rfl rfl ?_
  refine WL_guard rfl rfl ?_
  refine WL_neq rfl rfl rfl ?_
  refine WL_pick_f rfl rfl rfl ?_
  refine WL_move rfl rfl ?_
  refine WL_fork (fun hc23 => ?_) (fun hc23 => ?_)
  ·replace hr22 := ite_t hr22 hc23
   refine WL_guard_skip rfl rfl (by simp) rfl ?_
   refine WL_guard_skip rfl rfl (by simp) rfl ?_
   refine WL_guard_skip rfl rfl (by simp) rfl ?_
   refine WL_guard_skip rfl rfl (by simp) rfl ?_
   refine WL_guard_skip rfl rfl (by simp) rfl ?_
   refine WL_guard_skip rfl rfl (by simp) rfl ?_
   refine WL_pick_t rfl rfl rfl ?_
   refine WL_move rfl rfl ?_
   refine WL_guard_skip rfl rfl (by simp) rfl ?_
   refine WL_guard_skip rfl rfl (by simp) rfl ?_
   refine WL_guard_skip rfl rfl (by simp) rfl ?_
   refine WL_guard_skip rfl rfl (by simp) rfl ?_
   refine WL_guard_skip rfl rfl (by simp) rfl ?_
   refine WL_pick_t rfl rfl rfl ?_
   refine WL_nil ?_
   have hq28 := Option.some.inj hr22
   subst hq28
   have hC113 := hC108.f5
   have hC114 := hC113.f3
   have hC115 := hC114.h2
   refine nrm_sub (l' := [(14, v28), (16, v31), (172, (.bool true))]) ⟨rfl, rfl, rfl, trivial⟩ ?_
   exact ⟨true, rfl, rfl, (Below.refl _ _), hC115⟩
  replace hr22 := ite_f hr22 hc23
  refine WL_guard rfl rfl ?_
  refine WL_field Try.underlying26 rfl rfl (fun w => ⟨_, Try.sizeOf22 w⟩) rfl rfl ?_
  refine WL_guard rfl rfl ?_
  refine WL_load_box hC108 3 rfl rfl Try.isAgg22 rfl rfl ?_
  refine WL_guard rfl rfl ?_
  refine WL_field Try.underlying26 rfl rfl (fun w => ⟨_, Try.sizeOf22 w⟩) rfl rfl ?_
  refine WL_guard rfl rfl ?_
  refine WL_load_box hC108 0 rfl rfl Try.isAgg22 rfl rfl ?_
  obtain ⟨x25, hr23, hr22⟩ := bind_some hr22
  refine WL_guard rfl rfl ?_
  refine WL_call Try.call28 rfl rfl (c_Q_sameInts x22.1.1 v29 ((hC108.ro 4 rfl).now (Keep.refl _ _)) x23.1.1 v32 ((hC108.ro 1 rfl).now (Keep.refl _ _)) x25 hr23) ?_
  intro _ w57 hv29
  obtain ⟨rfl, hB44⟩ := res_bool hv29
  have hC116 := hC108.grow hB44
  refine WL_guard rfl rfl ?_
  refine WL_not rfl rfl ?_
  refine WL_pick_f rfl rfl rfl ?_
  refine WL_move rfl rfl ?_
  refine WL_fork (fun hc24 => ?_) (fun hc24 => ?_)
  ·replace hr22 := ite_t hr22 hc24
   refine WL_guard_skip rfl rfl (by simp) rfl ?_
   refine WL_guard_skip rfl rfl (by simp) rfl ?_
   refine WL_guard_skip rfl rfl (by simp) rfl ?_
   refine WL_guard_skip rfl rfl (by simp) rfl ?_
   refine WL_guard_skip rfl rfl (by simp) rfl ?_
   refine WL_pick_t rfl rfl rfl ?_
   refine WL_nil ?_
   have hq29 := Option.some.inj hr22
   subst hq29
   have hC117 := hC116.f5
   have hC118 := hC117.f3
   have hC119 := hC118.h2
   refine nrm_sub (l' := [(14, v28), (16, v31), (172, (.bool true))]) ⟨rfl, rfl, rfl, trivial⟩ ?_
   exact ⟨true, rfl, rfl, (Keep.of hB44).below, hC119⟩
  replace hr22 := ite_f hr22 hc24
  refine WL_guard rfl rfl ?_
  refine WL_field Try.underlying26 rfl rfl (fun w => ⟨_, Try.sizeOf3 w⟩) rfl rfl ?_
  refine WL_guard rfl rfl ?_
  refine WL_load_box hC116 3 rfl rfl Try.isAgg3 rfl rfl ?_
  refine WL_guard rfl rfl ?_
  refine WL_field Try.underlying26 rfl rfl (fun w => ⟨_, Try.sizeOf3 w⟩) rfl rfl ?_
  refine WL_guard rfl rfl ?_
  refine WL_load_box hC116 0 rfl rfl Try.isAgg3 rfl rfl ?_
  refine WL_guard rfl rfl ?_
  refine WL_neq rfl rfl rfl ?_
  refine WL_pick_f rfl rfl rfl ?_
  refine WL_nil ?_
  have hq30 := Option.some.inj hr22
  subst hq30
  have hC120 := hC116.f5
  have hC121 := hC120.f3
  have hC122 := hC121.h2
  refine nrm_sub (l' := [(14, v28), (16, v31), (172, (.bool (!decide (x22.1.2.2 = x23.1.2.2))))]) ⟨rfl, rfl, rfl, trivial⟩ ?_
  exact ⟨(!decide (x22.1.2.2 = x23.1.2.2)), rfl, rfl, (Keep.of hB44).below, hC122⟩
 rintro _ w56 ⟨x24, rfl, rfl, hB43, hC109⟩
 try dsimp only at hF
 refine W_cond rfl (fun hc25 => ?_) (fun hc25 => ?_)
 ·replace hF := ite_t hF hc25
  refine W_seq_reg ?_
  refine WL_assign rfl rfl ?_
  refine WL_nil ?_
  refine W_ret ?_
  refine nrm_ret ?_
  have hq31 := Option.some.inj hF
  subst hq31
  refine fn_ret1 rfl rfl ?_
  exact ⟨_, rfl, bool_res hC109 _⟩
 replace hF := ite_f hF hc25
 refine W_skip ?_
 refine nrm_normal ?_
 refine W_seq ?_
 refine W_seq_reg ?_
 refine WL_assign rfl rfl ?_
 refine WL_nil ?_
 obtain ⟨r7, hr24, hF⟩ := bind_some hF
 refine W_norm (fun l w => .inl () = r7 ∧ l = [] ∧ Below w56.heap.size w56 w ∧ Ctx [] w0 w []) ?_ ?_
 ·refine W_block ?_
  refine W.sub (l' := [(14, v28), (16, v31), (17, (.int .i64 0))]) ?_ ⟨rfl, rfl, rfl, trivial⟩
  refine W_loop (fun k l w => ∃ x26 : Int, l = [(14, v28), (16, v31), (17, (.int .i64 x26))] ∧ Below w56.heap.size w56 w ∧ Ctx [] w0 w [Item.own v31 (x23.2 : (List (Int × Int × Int × Bool))), Item.own v28 (x22.2 : (List (Int × Int × Int × Bool)))] ∧ Q.FnCalls_l2 x22 x23 k x26 = some r7) FUEL ⟨0, rfl, (Below.refl _ _), hC109, hr24⟩ ?_
  clear hr24
  rintro k2 _ w58 ⟨x26, rfl, hB45, hC123, hL2⟩
  cases k2 with
  | zero => rw [Q.FnCalls_l2] at hL2; cases hL2
  | succ k2 =>
   rw [Q.FnCalls_l2] at hL2
   refine W_seq ?_
   refine W_seq_reg ?_
   refine WL_move rfl rfl ?_
   refine WL_move rfl rfl ?_
   refine WL_len Try.underlying60 (hC123.ro 1 rfl) rfl rfl ?_
   refine WL_lss rfl rfl rfl ?_
   refine WL_nil ?_
   refine W_cond rfl (fun hc26 => ?_) (fun hc26 => ?_)
   ·replace hL2 := ite_t hL2 hc26
    refine W_skip ?_
    refine nrm_normal ?_
    refine W_seq ?_
    refine W_block ?_
    refine W_seq ?_
    refine W_drawn 9 rfl hmix (fun w59 hB46 => ?_)
    have hC124 := hC123.grow hB46
    refine WA_tk 0 (by kernel_rfl) rfl rfl (fl_move rfl) ?_
    refine WL_move rfl rfl ?_
    refine WL_nil ?_
    refine WA_tk 1 (by kernel_rfl) rfl rfl (fl_move rfl) ?_
    refine WL_move rfl rfl ?_
    refine WL_nil ?_
    obtain ⟨x27, hx3, hL2⟩ := bind_some hL2
    refine WA_tk 2 (by kernel_rfl) rfl rfl (fl_index Try.underlying60 ty35 (hC124.ro 1 rfl) hx3 rfl rfl) ?_
    refine WL_index Try.underlying60 ty35 (hC124.ro 1 rfl) hx3 rfl rfl rfl (fun b15 o3 h5 => ?_)
    refine WL_nil ?_
    refine WA_tk 4 (by kernel_rfl) rfl rfl (fl_move rfl) ?_
    refine WL_move rfl rfl ?_
    refine WL_nil ?_
    refine WA_tk 5 (by kernel_rfl) rfl rfl (fl_move rfl) ?_
    refine WL_move rfl rfl ?_
    refine WL_nil ?_
    obtain ⟨x28, hx4, hL2⟩ := bind_some hL2
    refine WA_tk 6 (by kernel_rfl) rfl rfl (fl_index Try.underlying60 ty35 (hC124.ro 0 rfl) hx4 rfl rfl) ?_
    refine WL_index Try.underlying60 ty35 (hC124.ro 0 rfl) hx4 rfl rfl rfl (fun b16 o4 h6 => ?_)
    refine WL_nil ?_
    refine WA.sub (l' := [(14, v28), (16, v31), (17, (.int .i64 x26)), (173, (.int .i64 x26)), (174, v28), (175, (.int .i64 (List.length x22.2 : Int))), (176, (.bool (decide (x26 < (List.length x22.2 : Int))))), (179, v28), (180, (.int .i64 x26)), (181, (ptr b15 o3)), (183, v31), (184, (.int .i64 x26)), (185, (ptr b16 o4))]) ?_ ⟨rfl, rfl, rfl, rfl, rfl, rfl, rfl, rfl, rfl, rfl, rfl, rfl, rfl, trivial⟩
    refine WA_postsE [⟨3, [], fun vs => PW.val (.agg #[(.int .i64 x27.1), (.int .i64 x27.2.1), (.int .i64 x27.2.2.1), (.bool x27.2.2.2)]), []⟩, ⟨7, [], fun vs => PW.val (.agg #[(.int .i64 x28.1), (.int .i64 x28.2.1), (.int .i64 x28.2.2.1), (.bool x28.2.2.2)]), []⟩] [[], []] 1 rfl (by kernel_rfl) (by kernel_rfl) rfl ?_ ?_
    ·refine StepsE_cons rfl ?_ ?_
     ·intro w60 hB47
      refine DepsE_nil ?_
      refine ⟨_, rfl, ?_⟩
      refine WL_load ty35 h5 (Keep.of hB47) rfl rfl (fun v33 h7 => ?_)
      obtain rfl := ro_st35 h7
      refine WL_nil ?_
      exact FinE_val (Below.refl _ _) rfl rfl ⟨rfl, rfl⟩
     refine StepsE_cons rfl ?_ ?_
     ·intro w60 hB47
      refine DepsE_nil ?_
      refine ⟨_, rfl, ?_⟩
      refine WL_load ty35 h6 (Keep.of hB47) rfl rfl (fun v34 h8 => ?_)
      obtain rfl := ro_st35 h8
      refine WL_nil ?_
      exact FinE_val (Below.refl _ _) rfl rfl ⟨rfl, rfl⟩
     exact StepsE_nil
    intro w61 hB48
    refine AllE_cons rfl rfl rfl ?_
    rintro _ _ ⟨rfl, rfl⟩
    refine AllE_cons rfl rfl rfl ?_
    rintro _ _ ⟨rfl, rfl⟩
    refine AllE_nil ?_
    intro hn13 hb13
    have hC125 := hC124.grow hB48
    refine WA_tk 8 (by kernel_rfl) rfl rfl (fl_agg_neq Try.underlying35 Try.stoodInHeld35 Try.eqGuardType35 (fun w => (eqF_int (by decide) Try.underlying3 rfl rfl (eqF_int (by decide) Try.underlying3 rfl rfl (eqF_int (by decide) Try.underlying3 rfl rfl (eqF_bool (by decide) Try.underlying4 rfl rfl eqF_nil))))) rfl rfl) ?_
    refine WL_agg_neq Try.underlying35 Try.stoodInHeld35 Try.eqGuardType35 (fun w => (eqF_int (by decide) Try.underlying3 rfl rfl (eqF_int (by decide) Try.underlying3 rfl rfl (eqF_int (by decide) Try.underlying3 rfl rfl (eqF_bool (by decide) Try.underlying4 rfl rfl eqF_nil))))) rfl rfl rfl ?_
    refine WL_nil ?_
    refine WA_done (by kernel_rfl) ?_
    refine nrm_normal ?_
    refine W_cond rfl (fun hc27 => ?_) (fun hc27 => ?_)
    ·replace hL2 := ite_t hL2 hc27
     refine W_seq_reg ?_
     refine WL_assign rfl rfl ?_
     refine WL_nil ?_
     refine W_ret ?_
     refine blk_ret ?_
     refine nrm_ret ?_
     refine nrm_ret ?_
     refine blk_ret ?_
     refine nrm_ret ?_
     refine nrm_ret ?_
     have hq32 := Option.some.inj hL2
     subst hq32
     dsimp only at hF
     have hq33 := Option.some.inj hF
     subst hq33
     refine fn_ret1 rfl rfl ?_
     exact ⟨_, rfl, bool_res hC125 _⟩
    replace hL2 := ite_f hL2 hc27
    refine W_skip ?_
    refine blk_normal ?_
    refine nrm_normal ?_
    refine W_reg ?_
    refine WL_move rfl rfl ?_
    refine WL_add rfl rfl rfl ?_
    refine WL_assign rfl rfl ?_
    refine WL_nil ?_
    refine nrm_sub (l' := [(14, v28), (16, v31), (17, (.int .i64 (w64 (x26 + 1))))]) ⟨rfl, rfl, rfl, trivial⟩ ?_
    exact ⟨k2, Nat.lt_succ_self _, w64 (x26 + 1), rfl, (((Keep.of hB45).then hB46).then hB48).below, hC125, hL2⟩
   replace hL2 := ite_f hL2 hc26
   refine W_exit ?_
   refine nrm_exit ?_
   refine nrm_exit ?_
   refine blk_exit ?_
   have hq34 := Option.some.inj hL2
   subst hq34
   have hC126 := hC123.h0
   refine nrm_sub (l' := []) trivial ?_
   exact ⟨rfl, rfl, (Keep.of hB45).below, hC126⟩
 rintro l9 _ w62 hs9 ⟨rfl, rfl, hB49, hC127⟩
 try dsimp only at hF
 refine nrm_sub' hs9 ?_
 clear hs9
 refine W_seq_reg ?_
 refine WL_assign rfl rfl ?_
 refine WL_nil ?_
 refine W_ret ?_
 have hq35 := Option.some.inj hF
 subst hq35
 refine fn_ret1 rfl rfl ?_
 exact ⟨_, rfl, bool_res hC127 _⟩

theorem c_Q_szIntS {w0 : World} (a1 : (List Int)) (u1 : Value) (g1 : RO [] w0 u1 a1) (a2 : Int) (rr : Int) (hF : Q.szIntS a1 a2 = some rr) :
 Calls Try.prog 88 [u1, (.int .i64 a2)].toArray w0 fun e w' => ∃ v, e = .returned v ∧ Res w0 rr v w' := by
 refine calls_of_W Try.func88 rfl rfl ?_
 have hC0 := Ctx.start w0
 unfold Q.szIntS at hF
 refine W_seq_reg ?_
 refine WL_assign rfl rfl ?_
 refine WL_nil ?_
 refine W_seq_reg ?_
 refine WL_move rfl rfl ?_
 refine WL_move rfl rfl ?_
 refine WL_len Try.underlying22 g1 rfl rfl ?_
 refine WL_sub rfl rfl rfl ?_
 refine WL_assign rfl rfl ?_
 refine WL_nil ?_
 refine W_seq ?_
 refine W_seq_reg ?_
 refine WL_move rfl rfl ?_
 refine WL_lss rfl rfl rfl ?_
 refine WL_nil ?_
 refine W_cond rfl (fun hc1 => ?_) (fun hc1 => ?_)
 ·replace hF := ite_t hF hc1
  refine W_seq_reg ?_
  refine WL_assign rfl rfl ?_
  refine WL_nil ?_
  refine W_ret ?_
  refine nrm_ret ?_
  have hq1 := Option.some.inj hF
  subst hq1
  refine fn_ret1 rfl rfl ?_
  exact ⟨_, rfl, int_res hC0 _⟩
 replace hF := ite_f hF hc1
 refine W_skip ?_
 refine nrm_normal ?_
 refine W_seq_reg ?_
 refine WL_move rfl rfl ?_
 refine WL_assign rfl rfl ?_
 refine WL_nil ?_
 refine W_ret ?_
 have hq2 := Option.some.inj hF
 subst hq2
 refine fn_ret1 rfl rfl ?_
 exact ⟨_, rfl, int_res hC0 _⟩

theorem c_Q_szLedger {w0 : World} (a1 : ((List Int) × Int × Int)) (u1 : Value) (g1 : RO [] w0 u1 a1.1) (a2 : Int) (rr : Int) (hF : Q.szLedger a1 a2 = some rr) :
 Calls Try.prog 15 [(.agg #[u1, (.int .i64 a1.2.1), (.int .i64 a1.2.2)]), (.int .i64 a2)].toArray w0 fun e w' => ∃ v, e = .returned v ∧ Res w0 rr v w' := by
 refine calls_of_W Try.func15 rfl rfl ?_
 have hC0 := Ctx.start w0
 unfold Q.szLedger at hF
 refine W_seq_reg ?_
 refine WL_box (cs := [u1, (.int .i64 a1.2.1), (.int .i64 a1.2.2)]) hC0 rfl rfl rfl (fun b1 w1 hC1 hB1 => ?_)
 refine WL_assign rfl rfl ?_
 refine WL_nil ?_
 refine W_seq_reg ?_
 refine WL_field Try.underlying24 rfl rfl (fun w => ⟨_, Try.sizeOf22 w⟩) rfl rfl ?_
 refine WL_load_box hC1 0 rfl rfl Try.isAgg22 rfl rfl ?_
 refine WL_move rfl rfl ?_
 obtain ⟨x1, hr1, hF⟩ := bind_some hF
 refine WL_call Try.call88 rfl rfl (c_Q_szIntS a1.1 u1 (g1.now hC1.keep) a2 x1 hr1) ?_
 intro _ w2 hv1
 obtain ⟨rfl, hB2⟩ := res_int hv1
 have hC2 := hC1.grow hB2
 refine WL_assign rfl rfl ?_
 refine WL_nil ?_
 refine W_seq ?_
 refine W_seq_reg ?_
 refine WL_move rfl rfl ?_
 refine WL_lss rfl rfl rfl ?_
 refine WL_nil ?_
 refine W_cond rfl (fun hc1 => ?_) (fun hc1 => ?_)
 ·replace hF := ite_t hF hc1
  refine W_seq_reg ?_
  refine WL_assign rfl rfl ?_
  refine WL_nil ?_
  refine W_ret ?_
  refine nrm_ret ?_
  have hq1 := Option.some.inj hF
  subst hq1
  refine fn_ret1 rfl rfl ?_
  exact ⟨_, rfl, int_res hC2 _⟩
 replace hF := ite_f hF hc1
 refine W_skip ?_
 refine nrm_normal ?_
 refine W_seq_reg ?_
 refine WL_move rfl rfl ?_
 refine WL_assign rfl rfl ?_
 refine WL_nil ?_
 refine W_ret ?_
 have hq2 := Option.some.inj hF
 subst hq2
 refine fn_ret1 rfl rfl ?_
 exact ⟨_, rfl, int_res hC2 _⟩

theorem c_Q_toIntS {w0 : World} (a1 : (List Int)) (u1 : Value) (g1 : RO [] w0 u1 a1) (rr : (List Int)) (hF : Q.toIntS a1 = some rr) :
 Calls Try.prog 37 [u1].toArray w0 fun e w' => ∃ v, e = .returned v ∧ Res w0 rr v w' := by
 refine calls_of_W Try.func37 rfl rfl ?_
 have hC0 := Ctx.start w0
 unfold Q.toIntS at hF
 refine W_seq_reg ?_
 refine WL_assign rfl rfl ?_
 refine WL_nil ?_
 refine W_seq_reg ?_
 refine WL_move rfl rfl ?_
 refine WL_len Try.underlying22 g1 rfl rfl ?_
 obtain ⟨x1, hx1, hF⟩ := bind_some hF
 refine WL_makeSlice hC0 Try.underlying22 ty3 rfl zc3 zr3 hx1 rfl rfl rfl (fun b1 w1 hC1 hB1 => ?_)
 refine WL_assign rfl rfl ?_
 refine WL_nil ?_
 refine W_seq ?_
 refine W_seq_reg ?_
 refine WL_assign rfl rfl ?_
 refine WL_nil ?_
 obtain ⟨r1, hr1, hF⟩ := bind_some hF
 refine W_norm (fun l w => ∃ x4 : (List Int), x4 = r1 ∧ l = [(3, (.slice (some ⟨b1, 0, none⟩) (Int.toNat (List.length a1 : Int)) (Int.toNat (List.length a1 : Int))))] ∧ Ctx [] w0 w [Item.own (.slice (some ⟨b1, 0, none⟩) (Int.toNat (List.length a1 : Int)) (Int.toNat (List.length a1 : Int))) (x4 : (List Int))]) ?_ ?_
 ·refine W_block ?_
  refine W.sub (l' := [(0, u1), (3, (.slice (some ⟨b1, 0, none⟩) (Int.toNat (List.length a1 : Int)) (Int.toNat (List.length a1 : Int)))), (4, (.int .i64 0))]) ?_ ⟨rfl, rfl, rfl, trivial⟩
  refine W_loop (fun k l w => ∃ x2 : (List Int), ∃ x3 : Int, l = [(0, u1), (3, (.slice (some ⟨b1, 0, none⟩) (Int.toNat (List.length a1 : Int)) (Int.toNat (List.length a1 : Int)))), (4, (.int .i64 x3))] ∧ Ctx [] w0 w [Item.own (.slice (some ⟨b1, 0, none⟩) (Int.toNat (List.length a1 : Int)) (Int.toNat (List.length a1 : Int))) (x2 : (List Int))] ∧ Q.toIntS_l1 a1 k x2 x3 = some r1) FUEL ⟨x1, 0, rfl, hC1, hr1⟩ ?_
  clear hr1
  rintro k1 _ w2 ⟨x2, x3, rfl, hC2, hL1⟩
  cases k1 with
  | zero => rw [Q.toIntS_l1] at hL1; cases hL1
  | succ k1 =>
   rw [Q.toIntS_l1] at hL1
   refine W_seq ?_
   refine W_seq_reg ?_
   refine WL_move rfl rfl ?_
   refine WL_move rfl rfl ?_
   refine WL_len Try.underlying22 g1 rfl rfl ?_
   refine WL_lss rfl rfl rfl ?_
   refine WL_nil ?_
   refine W_cond rfl (fun hc1 => ?_) (fun hc1 => ?_)
   ·replace hL1 := ite_t hL1 hc1
    refine W_skip ?_
    refine nrm_normal ?_
    refine W_seq ?_
    refine W_block ?_
    refine W_reg ?_
    refine WL_move rfl rfl ?_
    refine WL_move rfl rfl ?_
    refine WL_move rfl rfl ?_
    refine WL_move rfl rfl ?_
    obtain ⟨x5, hx2, hL1⟩ := bind_some hL1
    refine WL_index Try.underlying22 ty3 g1 hx2 rfl rfl rfl (fun b2 o1 h1 => ?_)
    refine WL_load ty3 h1 hC2.keep rfl rfl (fun v1 h2 => ?_)
    obtain rfl := ro_int h2
    obtain ⟨x6, hx3, hL1⟩ := bind_some hL1
    refine WL_index_own hC2 0 rfl Try.underlying22 ty3 hx3 rfl rfl rfl (fun b3 hE1 => ?_)
    have hC4 := hC2.triv (int_val (x5))
    refine WL_store_elem hC4 0 rfl ty3 hE1 hx3 rfl rfl rfl (fun w3 hC3 => ?_)
    try dsimp only [List.set] at hC3
    refine WL_nil ?_
    refine blk_normal ?_
    refine nrm_normal ?_
    refine W_reg ?_
    refine WL_move rfl rfl ?_
    refine WL_add rfl rfl rfl ?_
    refine WL_assign rfl rfl ?_
    refine WL_nil ?_
    refine nrm_sub (l' := [(0, u1), (3, (.slice (some ⟨b1, 0, none⟩) (Int.toNat (List.length a1 : Int)) (Int.toNat (List.length a1 : Int)))), (4, (.int .i64 (w64 (x3 + 1))))]) ⟨rfl, rfl, rfl, trivial⟩ ?_
    exact ⟨k1, Nat.lt_succ_self _, (List.set x2 (Int.toNat x3) x5), w64 (x3 + 1), rfl, hC3, hL1⟩
   replace hL1 := ite_f hL1 hc1
   refine W_exit ?_
   refine nrm_exit ?_
   refine nrm_exit ?_
   refine blk_exit ?_
   have hq1 := Option.some.inj hL1
   subst hq1
   refine nrm_sub (l' := [(3, (.slice (some ⟨b1, 0, none⟩) (Int.toNat (List.length a1 : Int)) (Int.toNat (List.length a1 : Int))))]) ⟨rfl, trivial⟩ ?_
   exact ⟨x2, rfl, rfl, hC2⟩
 rintro l2 _ w4 hs2 ⟨x4, rfl, rfl, hC5⟩
 try dsimp only at hF
 refine nrm_sub' hs2 ?_
 clear hs2
 refine W_seq_reg ?_
 refine WL_move rfl rfl ?_
 refine WL_assign rfl rfl ?_
 refine WL_nil ?_
 refine W_ret ?_
 have hq2 := Option.some.inj hF
 subst hq2
 refine fn_ret1 rfl rfl ?_
 exact ⟨_, rfl, own_res hC5 0 rfl⟩

theorem c_Q_toLedger {w0 : World} (a1 : ((List Int) × Int × Int)) (u1 : Value) (g1 : RO [] w0 u1 a1.1) (rr : ((List Int) × Int × Int)) (hF : Q.toLedger a1 = some rr) :
 Calls Try.prog 17 [(.agg #[u1, (.int .i64 a1.2.1), (.int .i64 a1.2.2)])].toArray w0 fun e w' => ∃ v, e = .returned v ∧ Res w0 rr v w' := by
 refine calls_of_W Try.func17 rfl rfl ?_
 have hC0 := Ctx.start w0
 unfold Q.toLedger at hF
 refine W_seq_reg ?_
 refine WL_box (cs := [u1, (.int .i64 a1.2.1), (.int .i64 a1.2.2)]) hC0 rfl rfl rfl (fun b1 w1 hC1 hB1 => ?_)
 refine WL_alloc hC1 zero26 rfl rfl (fun b2 w2 hC2 hB2 => ?_)
 refine WL_nil ?_
 refine W_seq_reg ?_
 refine WL_alloc hC2 zero26 rfl rfl (fun b3 w3 hC3 hB3 => ?_)
 refine WL_nil ?_
 refine W_seq_reg ?_
 refine WL_field Try.underlying24 rfl rfl (fun w => ⟨_, Try.sizeOf22 w⟩) rfl rfl ?_
 refine WL_load_box hC3 2 rfl rfl Try.isAgg22 rfl rfl ?_
 obtain ⟨x1, hr1, hF⟩ := bind_some hF
 refine WL_call Try.call37 rfl rfl (c_Q_toIntS a1.1 u1 (g1.now hC3.keep) x1 hr1) ?_
 rintro v1 w4 ⟨hB4, F1, hv1, hn1, hb1⟩
 have hC4 := hC3.push hB4 (A := Item.own v1 x1) hv1 hn1 hb1
 refine WL_field Try.underlying26 rfl rfl (fun w => ⟨_, Try.sizeOf22 w⟩) rfl rfl ?_
 refine WL_store_box (cs' := [v1, (.int .i64 0), (.int .i64 0)]) hC4 1 rfl rfl (ro_one (hC4.ro 0 rfl)) rfl Try.sizeOf22 rfl rfl (fun w5 hC5 => ?_)
 try dsimp only [List.set] at hC5
 refine WL_nil ?_
 refine W_seq_reg ?_
 refine WL_field Try.underlying24 rfl rfl (fun w => ⟨_, Try.sizeOf3 w⟩) rfl rfl ?_
 refine WL_load_box hC5 3 rfl rfl Try.isAgg3 rfl rfl ?_
 refine WL_field Try.underlying26 rfl rfl (fun w => ⟨_, Try.sizeOf3 w⟩) rfl rfl ?_
 refine WL_store_box (cs' := [v1, (.int .i64 a1.2.1), (.int .i64 0)]) hC5 1 rfl rfl rfl rfl Try.sizeOf3 rfl rfl (fun w6 hC6 => ?_)
 try dsimp only [List.set] at hC6
 refine WL_nil ?_
 refine W_seq_reg ?_
 refine WL_field Try.underlying24 rfl rfl (fun w => ⟨_, Try.sizeOf3 w⟩) rfl rfl ?_
 refine WL_load_box hC6 3 rfl rfl Try.isAgg3 rfl rfl ?_
 refine WL_field Try.underlying26 rfl rfl (fun w => ⟨_, Try.sizeOf3 w⟩) rfl rfl ?_
 refine WL_store_box (cs' := [v1, (.int .i64 a1.2.1), (.int .i64 a1.2.2)]) hC6 1 rfl rfl rfl rfl Try.sizeOf3 rfl rfl (fun w7 hC7 => ?_)
 try dsimp only [List.set] at hC7
 refine WL_nil ?_
 refine W_seq_reg ?_
 refine WL_load_box_agg [v1, (.int .i64 a1.2.1), (.int .i64 a1.2.2)] hC7 1 rfl rfl rfl Try.isAgg26 Try.sizeOf26 rfl rfl ?_
 refine WL_store_box_agg (cs' := [v1, (.int .i64 a1.2.1), (.int .i64 a1.2.2)]) (new := [v1, (.int .i64 a1.2.1), (.int .i64 a1.2.2)]) hC7 2 rfl rfl (by intro v hv; simp only [List.mem_cons, List.not_mem_nil, or_false] at hv; rcases hv with rfl | rfl | rfl; exact (ro_one (hC7.ro 0 rfl)); exact rfl; exact rfl) rfl Try.sizeOf26 rfl rfl (fun w9 hC8 => ?_)
 try dsimp only [List.set] at hC8
 refine WL_nil ?_
 refine W_ret ?_
 have hq1 := Option.some.inj hF
 subst hq1
 refine fn_retG1 rfl (rv_cell_agg (cs' := [v1, (.int .i64 a1.2.1), (.int .i64 a1.2.2)]) hC8 (i := 2) rfl rfl rfl Try.isAgg26 Try.sizeOf26 rfl) ?_
 have hC9 := own_st26 v1 x1 a1.2.1 a1.2.2 hC8
 exact ⟨_, rfl, own_res hC9 0 rfl⟩

theorem c_M_ReceiveCall {w0 : World} (a1 : ((List Int) × Int × Int)) (u1 : Value) (g1 : RO [] w0 u1 a1.1) (a2 : Int) (a3 : Int) (rr : (((List Int) × Int × Int) × Bool)) (hF : M.ReceiveCall a1 a2 a3 = some rr) :
 Calls Try.prog 18 [(.agg #[u1, (.int .i64 a1.2.1), (.int .i64 a1.2.2)]), (.int .i64 a2), (.int .i64 a3)].toArray w0 fun e w' => ∃ v, e = .returned v ∧ Res2 w0 rr.1 rr.2 v w' := by
 refine calls_of_W Try.func18 rfl rfl ?_
 have hC0 := Ctx.start w0
 unfold M.ReceiveCall at hF
 refine W_seq_reg ?_
 refine WL_box (cs := [u1, (.int .i64 a1.2.1), (.int .i64 a1.2.2)]) hC0 rfl rfl rfl (fun b1 w1 hC1 hB1 => ?_)
 refine WL_alloc hC1 zero26 rfl rfl (fun b2 w2 hC2 hB2 => ?_)
 refine WL_assign rfl rfl ?_
 refine WL_nil ?_
 refine W_seq_reg ?_
 refine WL_load_box_agg [u1, (.int .i64 a1.2.1), (.int .i64 a1.2.2)] hC2 1 rfl rfl rfl Try.isAgg26 Try.sizeOf26 rfl rfl ?_
 obtain ⟨x1, hr1, hF⟩ := bind_some hF
 refine WL_call Try.call93 rfl rfl (c_M_copyLedger (a1.1, a1.2.1, a1.2.2) u1 (g1.now hC2.keep) x1 hr1) ?_
 rintro v1 w3 ⟨hB3, F1, hv1, hn1, hb1⟩
 have hC3 := hC2.push hB3 (A := Item.own v1 x1) hv1 hn1 hb1
 obtain ⟨v2, rfl, hC4⟩ := st26_own hC3
 refine WL_alloc hC4 zero26 rfl rfl (fun b3 w4 hC5 hB4 => ?_)
 refine WL_store_box_agg (cs' := [v2, (.int .i64 x1.2.1), (.int .i64 x1.2.2)]) (new := [v2, (.int .i64 x1.2.1), (.int .i64 x1.2.2)]) hC5 0 rfl rfl (by intro v hv; simp only [List.mem_cons, List.not_mem_nil, or_false] at hv; rcases hv with rfl | rfl | rfl; exact (ro_one (hC5.ro 1 rfl)); exact rfl; exact rfl) rfl Try.sizeOf26 rfl rfl (fun w5 hC6 => ?_)
 try dsimp only [List.set] at hC6
 refine WL_nil ?_
 refine W_seq ?_
 obtain ⟨r1, hr2, hF⟩ := bind_some hF
 refine W_cut (fun l w => ∃ x2 : Bool, x2 = r1 ∧ l = [(1, (.int .i64 a2)), (2, (.int .i64 a3)), (6, (ptr b2 0)), (8, (ptr b3 0)), (33, (.bool x2))] ∧ Below w5.heap.size w5 w ∧ Ctx [] w0 w [Item.box b3 [v2, (.int .i64 x1.2.1), (.int .i64 x1.2.2)], Item.own v2 (x1.1 : (List Int)), Item.box b2 [(.slice none 0 0), (.int .i64 0), (.int .i64 0)]]) ?_ ?_
 ·refine W_reg ?_
  refine WL_load_box_agg [u1, (.int .i64 a1.2.1), (.int .i64 a1.2.2)] hC6 3 rfl rfl rfl Try.isAgg26 Try.sizeOf26 rfl rfl ?_
  obtain ⟨x3, hr3, hr2⟩ := bind_some hr2
  refine WL_call Try.call31 rfl rfl (c_M_IsLedger (a1.1, a1.2.1, a1.2.2) u1 (g1.now hC6.keep) x3 hr3) ?_
  intro _ w7 hv2
  obtain ⟨rfl, hB6⟩ := res_bool hv2
  have hC8 := hC6.grow hB6
  refine WL_not rfl rfl ?_
  refine WL_move rfl rfl ?_
  refine WL_fork (fun hc1 => ?_) (fun hc1 => ?_)
  ·replace hr2 := ite_t hr2 hc1
   refine WL_guard_skip rfl rfl (by simp) rfl ?_
   refine WL_guard_skip rfl rfl (by simp) rfl ?_
   refine WL_guard_skip rfl rfl (by simp) rfl ?_
   refine WL_pick_t rfl rfl rfl ?_
   refine WL_move rfl rfl ?_
   refine WL_guard_skip rfl rfl (by simp) rfl ?_
   refine WL_guard_skip rfl rfl (by simp) rfl ?_
   refine WL_guard_skip rfl rfl (by simp) rfl ?_
   refine WL_pick_t rfl rfl rfl ?_
   refine WL_move rfl rfl ?_
   refine WL_guard_skip rfl rfl (by simp) rfl ?_
   refine WL_guard_skip rfl rfl (by simp) rfl ?_
   refine WL_guard_skip rfl rfl (by simp) rfl ?_
   refine WL_pick_t rfl rfl rfl ?_
   refine WL_move rfl rfl ?_
   refine WL_guard_skip rfl rfl (by simp) rfl ?_
   refine WL_guard_skip rfl rfl (by simp) rfl ?_
   refine WL_guard_skip rfl rfl (by simp) rfl ?_
   refine WL_pick_t rfl rfl rfl ?_
   refine WL_nil ?_
   have hq1 := Option.some.inj hr2
   subst hq1
   have hC9 := hC8.f2
   have hC10 := hC9.f2
   have hC11 := hC10.f2
   have hC12 := hC11.h3
   refine nrm_sub (l' := [(1, (.int .i64 a2)), (2, (.int .i64 a3)), (6, (ptr b2 0)), (8, (ptr b3 0)), (33, (.bool true))]) ⟨rfl, rfl, rfl, rfl, rfl, trivial⟩ ?_
   exact ⟨true, rfl, rfl, (Keep.of hB6).below, hC12⟩
  replace hr2 := ite_f hr2 hc1
  refine WL_guard rfl rfl ?_
  refine WL_move rfl rfl ?_
  obtain ⟨x4, hr4, hr2⟩ := bind_some hr2
  refine WL_guard rfl rfl ?_
  refine WL_call Try.call94 rfl rfl (c_M_isKey a2 x4 hr4) ?_
  intro _ w9 hv3
  obtain ⟨rfl, hB7⟩ := res_bool hv3
  have hC13 := hC8.grow hB7
  refine WL_guard rfl rfl ?_
  refine WL_not rfl rfl ?_
  refine WL_pick_f rfl rfl rfl ?_
  refine WL_move rfl rfl ?_
  refine WL_fork (fun hc2 => ?_) (fun hc2 => ?_)
  ·replace hr2 := ite_t hr2 hc2
   refine WL_guard_skip rfl rfl (by simp) rfl ?_
   refine WL_guard_skip rfl rfl (by simp) rfl ?_
   refine WL_guard_skip rfl rfl (by simp) rfl ?_
   refine WL_pick_t rfl rfl rfl ?_
   refine WL_move rfl rfl ?_
   refine WL_guard_skip rfl rfl (by simp) rfl ?_
   refine WL_guard_skip rfl rfl (by simp) rfl ?_
   refine WL_guard_skip rfl rfl (by simp) rfl ?_
   refine WL_pick_t rfl rfl rfl ?_
   refine WL_move rfl rfl ?_
   refine WL_guard_skip rfl rfl (by simp) rfl ?_
   refine WL_guard_skip rfl rfl (by simp) rfl ?_
   refine WL_guard_skip rfl rfl (by simp) rfl ?_
   refine WL_pick_t rfl rfl rfl ?_
   refine WL_nil ?_
   have hq2 := Option.some.inj hr2
   subst hq2
   have hC14 := hC13.f2
   have hC15 := hC14.f2
   have hC16 := hC15.f2
   have hC17 := hC16.h3
   refine nrm_sub (l' := [(1, (.int .i64 a2)), (2, (.int .i64 a3)), (6, (ptr b2 0)), (8, (ptr b3 0)), (33, (.bool true))]) ⟨rfl, rfl, rfl, rfl, rfl, trivial⟩ ?_
   exact ⟨true, rfl, rfl, ((Keep.of hB6).then hB7).below, hC17⟩
  replace hr2 := ite_f hr2 hc2
  refine WL_guard rfl rfl ?_
  refine WL_move rfl rfl ?_
  obtain ⟨x5, hr5, hr2⟩ := bind_some hr2
  refine WL_guard rfl rfl ?_
  refine WL_call Try.call95 rfl rfl (c_M_isCost a3 x5 hr5) ?_
  intro _ w10 hv4
  obtain ⟨rfl, hB8⟩ := res_bool hv4
  have hC18 := hC13.grow hB8
  refine WL_guard rfl rfl ?_
  refine WL_not rfl rfl ?_
  refine WL_pick_f rfl rfl rfl ?_
  refine WL_move rfl rfl ?_
  refine WL_fork (fun hc3 => ?_) (fun hc3 => ?_)
  ·replace hr2 := ite_t hr2 hc3
   refine WL_guard_skip rfl rfl (by simp) rfl ?_
   refine WL_guard_skip rfl rfl (by simp) rfl ?_
   refine WL_guard_skip rfl rfl (by simp) rfl ?_
   refine WL_pick_t rfl rfl rfl ?_
   refine WL_move rfl rfl ?_
   refine WL_guard_skip rfl rfl (by simp) rfl ?_
   refine WL_guard_skip rfl rfl (by simp) rfl ?_
   refine WL_guard_skip rfl rfl (by simp) rfl ?_
   refine WL_pick_t rfl rfl rfl ?_
   refine WL_nil ?_
   have hq3 := Option.some.inj hr2
   subst hq3
   have hC19 := hC18.f2
   have hC20 := hC19.f2
   have hC21 := hC20.f2
   have hC22 := hC21.h3
   refine nrm_sub (l' := [(1, (.int .i64 a2)), (2, (.int .i64 a3)), (6, (ptr b2 0)), (8, (ptr b3 0)), (33, (.bool true))]) ⟨rfl, rfl, rfl, rfl, rfl, trivial⟩ ?_
   exact ⟨true, rfl, rfl, (((Keep.of hB6).then hB7).then hB8).below, hC22⟩
  replace hr2 := ite_f hr2 hc3
  refine WL_guard rfl rfl ?_
  refine WL_field Try.underlying26 rfl rfl (fun w => ⟨_, Try.sizeOf3 w⟩) rfl rfl ?_
  refine WL_guard rfl rfl ?_
  refine WL_load_box hC18 3 rfl rfl Try.isAgg3 rfl rfl ?_
  refine WL_guard rfl rfl ?_
  refine WL_gtr rfl rfl rfl ?_
  refine WL_pick_f rfl rfl rfl ?_
  refine WL_move rfl rfl ?_
  refine WL_fork (fun hc4 => ?_) (fun hc4 => ?_)
  ·replace hr2 := ite_t hr2 hc4
   refine WL_guard_skip rfl rfl (by simp) rfl ?_
   refine WL_guard_skip rfl rfl (by simp) rfl ?_
   refine WL_guard_skip rfl rfl (by simp) rfl ?_
   refine WL_pick_t rfl rfl rfl ?_
   refine WL_nil ?_
   have hq4 := Option.some.inj hr2
   subst hq4
   have hC23 := hC18.f2
   have hC24 := hC23.f2
   have hC25 := hC24.f2
   have hC26 := hC25.h3
   refine nrm_sub (l' := [(1, (.int .i64 a2)), (2, (.int .i64 a3)), (6, (ptr b2 0)), (8, (ptr b3 0)), (33, (.bool true))]) ⟨rfl, rfl, rfl, rfl, rfl, trivial⟩ ?_
   exact ⟨true, rfl, rfl, (((Keep.of hB6).then hB7).then hB8).below, hC26⟩
  replace hr2 := ite_f hr2 hc4
  refine WL_guard rfl rfl ?_
  refine WL_field Try.underlying26 rfl rfl (fun w => ⟨_, Try.sizeOf3 w⟩) rfl rfl ?_
  refine WL_guard rfl rfl ?_
  refine WL_load_box hC18 3 rfl rfl Try.isAgg3 rfl rfl ?_
  refine WL_guard rfl rfl ?_
  refine WL_gtr rfl rfl rfl ?_
  refine WL_pick_f rfl rfl rfl ?_
  refine WL_nil ?_
  have hq5 := Option.some.inj hr2
  subst hq5
  have hC27 := hC18.f2
  have hC28 := hC27.f2
  have hC29 := hC28.f2
  have hC30 := hC29.h3
  refine nrm_sub (l' := [(1, (.int .i64 a2)), (2, (.int .i64 a3)), (6, (ptr b2 0)), (8, (ptr b3 0)), (33, (.bool (decide (999999000 < a1.2.2))))]) ⟨rfl, rfl, rfl, rfl, rfl, trivial⟩ ?_
  exact ⟨(decide (999999000 < a1.2.2)), rfl, rfl, (((Keep.of hB6).then hB7).then hB8).below, hC30⟩
 rintro _ w6 ⟨x2, rfl, rfl, hB5, hC7⟩
 try dsimp only at hF
 refine W_cond rfl (fun hc5 => ?_) (fun hc5 => ?_)
 ·replace hF := ite_t hF hc5
  refine W_seq_reg ?_
  refine WL_load_box_agg [v2, (.int .i64 x1.2.1), (.int .i64 x1.2.2)] hC7 0 rfl rfl rfl Try.isAgg26 Try.sizeOf26 rfl rfl ?_
  refine WL_store_box_agg (cs' := [v2, (.int .i64 x1.2.1), (.int .i64 x1.2.2)]) (new := [v2, (.int .i64 x1.2.1), (.int .i64 x1.2.2)]) hC7 2 rfl rfl (by intro v hv; simp only [List.mem_cons, List.not_mem_nil, or_false] at hv; rcases hv with rfl | rfl | rfl; exact (ro_one (hC7.ro 1 rfl)); exact rfl; exact rfl) rfl Try.sizeOf26 rfl rfl (fun w11 hC31 => ?_)
  try dsimp only [List.set] at hC31
  refine WL_assign rfl rfl ?_
  refine WL_nil ?_
  refine W_ret ?_
  refine nrm_ret ?_
  have hq6 := Option.some.inj hF
  subst hq6
  refine fn_retG2 rfl (rv_cell_agg (cs' := [v2, (.int .i64 x1.2.1), (.int .i64 x1.2.2)]) hC31 (i := 2) rfl rfl rfl Try.isAgg26 Try.sizeOf26 rfl) (rv_tmp rfl) ?_
  have hC32 := hC31.triv (bool_val (false))
  have hC34 := hC32.f2
  have hC33 := own_st26 v2 x1.1 x1.2.1 x1.2.2 hC34
  exact ⟨_, rfl, res2_of hC33⟩
 replace hF := ite_f hF hc5
 refine W_skip ?_
 refine nrm_normal ?_
 refine W_seq_reg ?_
 refine WL_move rfl rfl ?_
 refine WL_move rfl rfl ?_
 obtain ⟨x6, hr6, hF⟩ := bind_some hF
 have hC35 := hC7.f1
 obtain ⟨Fs1, hH1, hn2, hF1, hO1, hb2⟩ := Ctx.lend2 (As := [Item.box b2 [(.slice none 0 0), (.int .i64 0), (.int .i64 0)]]) [Item.own v2 (x1.1 : (List Int)), Item.box b3 [v2, (.int .i64 x1.2.1), (.int .i64 x1.2.2)]] hC35
 refine WL_call Try.call96 rfl rfl (c_M_Ledger_receive b3 (x1.1, x1.2.1, x1.2.2) v2 a2 a3 hH1 hn2 x6 hr6) ?_
 rintro _ w12 ⟨v3, rfl, hq7⟩
 have hC36 : Ctx [] w0 w12 [Item.own v3 (x6.1 : (List Int)), Item.box b3 [v3, (.int .i64 x6.2.1), (.int .i64 x6.2.2)], Item.box b2 [(.slice none 0 0), (.int .i64 0), (.int .i64 0)]] := hb2 _ _ hq7
 refine WL_nil ?_
 refine W_seq_reg ?_
 refine WL_load_box_agg [v3, (.int .i64 x6.2.1), (.int .i64 x6.2.2)] hC36 1 rfl rfl rfl Try.isAgg26 Try.sizeOf26 rfl rfl ?_
 refine WL_store_box_agg (cs' := [v3, (.int .i64 x6.2.1), (.int .i64 x6.2.2)]) (new := [v3, (.int .i64 x6.2.1), (.int .i64 x6.2.2)]) hC36 2 rfl rfl (by intro v hv; simp only [List.mem_cons, List.not_mem_nil, or_false] at hv; rcases hv with rfl | rfl | rfl; exact (ro_one (hC36.ro 0 rfl)); exact rfl; exact rfl) rfl Try.sizeOf26 rfl rfl (fun w13 hC37 => ?_)
 try dsimp only [List.set] at hC37
 refine WL_assign rfl rfl ?_
 refine WL_nil ?_
 refine W_ret ?_
 have hq8 := Option.some.inj hF
 subst hq8
 refine fn_retG2 rfl (rv_cell_agg (cs' := [v3, (.int .i64 x6.2.1), (.int .i64 x6.2.2)]) hC37 (i := 2) rfl rfl rfl Try.isAgg26 Try.sizeOf26 rfl) (rv_tmp rfl) ?_
 have hC38 := hC37.triv (bool_val (true))
 have hC40 := hC38.f1
 have hC39 := own_st26 v3 x6.1 x6.2.1 x6.2.2 hC40
 exact ⟨_, rfl, res2_of hC39⟩

theorem c_Q_eqIntS {w0 : World} (a1 : (List Int)) (u1 : Value) (g1 : RO [] w0 u1 a1) (a2 : (List Int)) (u2 : Value) (g2 : RO [] w0 u2 a2) (rr : Bool) (hF : Q.eqIntS a1 a2 = some rr) :
 Calls Try.prog 39 [u1, u2].toArray w0 fun e w' => ∃ v, e = .returned v ∧ Res w0 rr v w' := by
 refine calls_of_W Try.func39 rfl rfl ?_
 have hC0 := Ctx.start w0
 unfold Q.eqIntS at hF
 refine W_seq_reg ?_
 refine WL_assign rfl rfl ?_
 refine WL_nil ?_
 refine W_seq ?_
 refine W_seq_reg ?_
 refine WL_move rfl rfl ?_
 refine WL_len Try.underlying22 g1 rfl rfl ?_
 refine WL_move rfl rfl ?_
 refine WL_len Try.underlying22 g2 rfl rfl ?_
 refine WL_neq rfl rfl rfl ?_
 refine WL_nil ?_
 refine W_cond rfl (fun hc1 => ?_) (fun hc1 => ?_)
 ·replace hF := ite_t hF hc1
  refine W_seq_reg ?_
  refine WL_assign rfl rfl ?_
  refine WL_nil ?_
  refine W_ret ?_
  refine nrm_ret ?_
  have hq1 := Option.some.inj hF
  subst hq1
  refine fn_ret1 rfl rfl ?_
  exact ⟨_, rfl, bool_res hC0 _⟩
 replace hF := ite_f hF hc1
 refine W_skip ?_
 refine nrm_normal ?_
 refine W_seq ?_
 refine W_seq_reg ?_
 refine WL_assign rfl rfl ?_
 refine WL_nil ?_
 obtain ⟨r1, hr1, hF⟩ := bind_some hF
 refine W_norm (fun l w => .inl () = r1 ∧ l = [] ∧ Below w0.heap.size w0 w ∧ Ctx [] w0 w []) ?_ ?_
 ·refine W_block ?_
  refine W.sub (l' := [(0, u1), (1, u2), (5, (.int .i64 0))]) ?_ ⟨rfl, rfl, rfl, trivial⟩
  refine W_loop (fun k l w => ∃ x1 : Int, l = [(0, u1), (1, u2), (5, (.int .i64 x1))] ∧ Below w0.heap.size w0 w ∧ Ctx [] w0 w [] ∧ Q.eqIntS_l1 a1 a2 k x1 = some r1) FUEL ⟨0, rfl, (Below.refl _ _), hC0, hr1⟩ ?_
  clear hr1
  rintro k1 _ w1 ⟨x1, rfl, hB1, hC1, hL1⟩
  cases k1 with
  | zero => rw [Q.eqIntS_l1] at hL1; cases hL1
  | succ k1 =>
   rw [Q.eqIntS_l1] at hL1
   refine W_seq ?_
   refine W_seq_reg ?_
   refine WL_move rfl rfl ?_
   refine WL_move rfl rfl ?_
   refine WL_len Try.underlying22 g1 rfl rfl ?_
   refine WL_lss rfl rfl rfl ?_
   refine WL_nil ?_
   refine W_cond rfl (fun hc2 => ?_) (fun hc2 => ?_)
   ·replace hL1 := ite_t hL1 hc2
    refine W_skip ?_
    refine nrm_normal ?_
    refine W_seq ?_
    refine W_block ?_
    refine W_seq ?_
    refine W_drawn 9 rfl hmix (fun w2 hB2 => ?_)
    have hC2 := hC1.grow hB2
    refine WA_tk 0 (by kernel_rfl) rfl rfl (fl_move rfl) ?_
    refine WL_move rfl rfl ?_
    refine WL_nil ?_
    refine WA_tk 1 (by kernel_rfl) rfl rfl (fl_move rfl) ?_
    refine WL_move rfl rfl ?_
    refine WL_nil ?_
    obtain ⟨x2, hx1, hL1⟩ := bind_some hL1
    refine WA_tk 2 (by kernel_rfl) rfl rfl (fl_index Try.underlying22 ty3 g1 hx1 rfl rfl) ?_
    refine WL_index Try.underlying22 ty3 g1 hx1 rfl rfl rfl (fun b1 o1 h1 => ?_)
    refine WL_nil ?_
    refine WA_tk 4 (by kernel_rfl) rfl rfl (fl_move rfl) ?_
    refine WL_move rfl rfl ?_
    refine WL_nil ?_
    refine WA_tk 5 (by kernel_rfl) rfl rfl (fl_move rfl) ?_
    refine WL_move rfl rfl ?_
    refine WL_nil ?_
    obtain ⟨x3, hx2, hL1⟩ := bind_some hL1
    refine WA_tk 6 (by kernel_rfl) rfl rfl (fl_index Try.underlying22 ty3 g2 hx2 rfl rfl) ?_
    refine WL_index Try.underlying22 ty3 g2 hx2 rfl rfl rfl (fun b2 o2 h2 => ?_)
    refine WL_nil ?_
    refine WA.sub (l' := [(0, u1), (1, u2), (5, (.int .i64 x1)), (11, (.int .i64 x1)), (12, u1), (13, (.int .i64 (List.length a1 : Int))), (14, (.bool (decide (x1 < (List.length a1 : Int))))), (17, u1), (18, (.int .i64 x1)), (19, (ptr b1 o1)), (21, u2), (22, (.int .i64 x1)), (23, (ptr b2 o2))]) ?_ ⟨rfl, rfl, rfl, rfl, rfl, rfl, rfl, rfl, rfl, rfl, rfl, rfl, rfl, trivial⟩
    refine WA_postsE [⟨3, [], fun vs => PW.val (.int .i64 x2), []⟩, ⟨7, [], fun vs => PW.val (.int .i64 x3), []⟩] [[], []] 1 rfl (by kernel_rfl) (by kernel_rfl) rfl ?_ ?_
    ·refine StepsE_cons rfl ?_ ?_
     ·intro w3 hB3
      refine DepsE_nil ?_
      refine ⟨_, rfl, ?_⟩
      refine WL_load ty3 h1 (hC2.keep.then hB3) rfl rfl (fun v1 h3 => ?_)
      obtain rfl := ro_int h3
      refine WL_nil ?_
      exact FinE_val (Below.refl _ _) rfl rfl ⟨rfl, rfl⟩
     refine StepsE_cons rfl ?_ ?_
     ·intro w3 hB3
      refine DepsE_nil ?_
      refine ⟨_, rfl, ?_⟩
      refine WL_load ty3 h2 (hC2.keep.then hB3) rfl rfl (fun v2 h4 => ?_)
      obtain rfl := ro_int h4
      refine WL_nil ?_
      exact FinE_val (Below.refl _ _) rfl rfl ⟨rfl, rfl⟩
     exact StepsE_nil
    intro w4 hB4
    refine AllE_cons rfl rfl rfl ?_
    rintro _ _ ⟨rfl, rfl⟩
    refine AllE_cons rfl rfl rfl ?_
    rintro _ _ ⟨rfl, rfl⟩
    refine AllE_nil ?_
    intro hn1 hb1
    have hC3 := hC2.grow hB4
    refine WA_tk 8 (by kernel_rfl) rfl rfl (fl_neq rfl rfl) ?_
    refine WL_neq rfl rfl rfl ?_
    refine WL_nil ?_
    refine WA_done (by kernel_rfl) ?_
    refine nrm_normal ?_
    refine W_cond rfl (fun hc3 => ?_) (fun hc3 => ?_)
    ·replace hL1 := ite_t hL1 hc3
     refine W_seq_reg ?_
     refine WL_assign rfl rfl ?_
     refine WL_nil ?_
     refine W_ret ?_
     refine blk_ret ?_
     refine nrm_ret ?_
     refine nrm_ret ?_
     refine blk_ret ?_
     refine nrm_ret ?_
     refine nrm_ret ?_
     have hq2 := Option.some.inj hL1
     subst hq2
     dsimp only at hF
     have hq3 := Option.some.inj hF
     subst hq3
     refine fn_ret1 rfl rfl ?_
     exact ⟨_, rfl, bool_res hC3 _⟩
    replace hL1 := ite_f hL1 hc3
    refine W_skip ?_
    refine blk_normal ?_
    refine nrm_normal ?_
    refine W_reg ?_
    refine WL_move rfl rfl ?_
    refine WL_add rfl rfl rfl ?_
    refine WL_assign rfl rfl ?_
    refine WL_nil ?_
    refine nrm_sub (l' := [(0, u1), (1, u2), (5, (.int .i64 (w64 (x1 + 1))))]) ⟨rfl, rfl, rfl, trivial⟩ ?_
    exact ⟨k1, Nat.lt_succ_self _, w64 (x1 + 1), rfl, (((Keep.of hB1).then hB2).then hB4).below, hC3, hL1⟩
   replace hL1 := ite_f hL1 hc2
   refine W_exit ?_
   refine nrm_exit ?_
   refine nrm_exit ?_
   refine blk_exit ?_
   have hq4 := Option.some.inj hL1
   subst hq4
   refine nrm_sub (l' := []) trivial ?_
   exact ⟨rfl, rfl, (Keep.of hB1).below, hC1⟩
 rintro l2 _ w5 hs2 ⟨rfl, rfl, hB5, hC4⟩
 try dsimp only at hF
 refine nrm_sub' hs2 ?_
 clear hs2
 refine W_seq_reg ?_
 refine WL_assign rfl rfl ?_
 refine WL_nil ?_
 refine W_ret ?_
 have hq5 := Option.some.inj hF
 subst hq5
 refine fn_ret1 rfl rfl ?_
 exact ⟨_, rfl, bool_res hC4 _⟩

theorem c_Q_eqLedger {w0 : World} (a1 : ((List Int) × Int × Int)) (u1 : Value) (g1 : RO [] w0 u1 a1.1) (a2 : ((List Int) × Int × Int)) (u2 : Value) (g2 : RO [] w0 u2 a2.1) (rr : Bool) (hF : Q.eqLedger a1 a2 = some rr) :
 Calls Try.prog 19 [(.agg #[u1, (.int .i64 a1.2.1), (.int .i64 a1.2.2)]), (.agg #[u2, (.int .i64 a2.2.1), (.int .i64 a2.2.2)])].toArray w0 fun e w' => ∃ v, e = .returned v ∧ Res w0 rr v w' := by
 refine calls_of_W Try.func19 rfl rfl ?_
 have hC0 := Ctx.start w0
 unfold Q.eqLedger at hF
 refine W_seq_reg ?_
 refine WL_box (cs := [u1, (.int .i64 a1.2.1), (.int .i64 a1.2.2)]) hC0 rfl rfl rfl (fun b1 w1 hC1 hB1 => ?_)
 refine WL_box (cs := [u2, (.int .i64 a2.2.1), (.int .i64 a2.2.2)]) hC1 rfl rfl rfl (fun b2 w2 hC2 hB2 => ?_)
 refine WL_assign rfl rfl ?_
 refine WL_nil ?_
 refine W_seq ?_
 refine W_seq_reg ?_
 refine WL_field Try.underlying26 rfl rfl (fun w => ⟨_, Try.sizeOf22 w⟩) rfl rfl ?_
 refine WL_load_box hC2 1 rfl rfl Try.isAgg22 rfl rfl ?_
 refine WL_field Try.underlying26 rfl rfl (fun w => ⟨_, Try.sizeOf22 w⟩) rfl rfl ?_
 refine WL_load_box hC2 0 rfl rfl Try.isAgg22 rfl rfl ?_
 obtain ⟨x1, hr1, hF⟩ := bind_some hF
 refine WL_call Try.call39 rfl rfl (c_Q_eqIntS a1.1 u1 (g1.now hC2.keep) a2.1 u2 (g2.now hC2.keep) x1 hr1) ?_
 intro _ w3 hv1
 obtain ⟨rfl, hB3⟩ := res_bool hv1
 have hC3 := hC2.grow hB3
 refine WL_not rfl rfl ?_
 refine WL_nil ?_
 refine W_cond rfl (fun hc1 => ?_) (fun hc1 => ?_)
 ·replace hF := ite_t hF hc1
  refine W_seq_reg ?_
  refine WL_assign rfl rfl ?_
  refine WL_nil ?_
  refine W_ret ?_
  refine nrm_ret ?_
  have hq1 := Option.some.inj hF
  subst hq1
  refine fn_ret1 rfl rfl ?_
  exact ⟨_, rfl, bool_res hC3 _⟩
 replace hF := ite_f hF hc1
 refine W_skip ?_
 refine nrm_normal ?_
 refine W_seq ?_
 refine W_seq_reg ?_
 refine WL_field Try.underlying26 rfl rfl (fun w => ⟨_, Try.sizeOf3 w⟩) rfl rfl ?_
 refine WL_load_box hC3 1 rfl rfl Try.isAgg3 rfl rfl ?_
 refine WL_field Try.underlying26 rfl rfl (fun w => ⟨_, Try.sizeOf3 w⟩) rfl rfl ?_
 refine WL_load_box hC3 0 rfl rfl Try.isAgg3 rfl rfl ?_
 refine WL_neq rfl rfl rfl ?_
 refine WL_nil ?_
 refine W_cond rfl (fun hc2 => ?_) (fun hc2 => ?_)
 ·replace hF := ite_t hF hc2
  refine W_seq_reg ?_
  refine WL_assign rfl rfl ?_
  refine WL_nil ?_
  refine W_ret ?_
  refine nrm_ret ?_
  have hq2 := Option.some.inj hF
  subst hq2
  refine fn_ret1 rfl rfl ?_
  exact ⟨_, rfl, bool_res hC3 _⟩
 replace hF := ite_f hF hc2
 refine W_skip ?_
 refine nrm_normal ?_
 refine W_seq ?_
 refine W_seq_reg ?_
 refine WL_field Try.underlying26 rfl rfl (fun w => ⟨_, Try.sizeOf3 w⟩) rfl rfl ?_
 refine WL_load_box hC3 1 rfl rfl Try.isAgg3 rfl rfl ?_
 refine WL_field Try.underlying26 rfl rfl (fun w => ⟨_, Try.sizeOf3 w⟩) rfl rfl ?_
 refine WL_load_box hC3 0 rfl rfl Try.isAgg3 rfl rfl ?_
 refine WL_neq rfl rfl rfl ?_
 refine WL_nil ?_
 refine W_cond rfl (fun hc3 => ?_) (fun hc3 => ?_)
 ·replace hF := ite_t hF hc3
  refine W_seq_reg ?_
  refine WL_assign rfl rfl ?_
  refine WL_nil ?_
  refine W_ret ?_
  refine nrm_ret ?_
  have hq3 := Option.some.inj hF
  subst hq3
  refine fn_ret1 rfl rfl ?_
  exact ⟨_, rfl, bool_res hC3 _⟩
 replace hF := ite_f hF hc3
 refine W_skip ?_
 refine nrm_normal ?_
 refine W_seq_reg ?_
 refine WL_assign rfl rfl ?_
 refine WL_nil ?_
 refine W_ret ?_
 have hq4 := Option.some.inj hF
 subst hq4
 refine fn_ret1 rfl rfl ?_
 exact ⟨_, rfl, bool_res hC3 _⟩

theorem c_Q_markIntS {w0 : World} {Fs : List (List Nat)} (a1 : (List Int)) (u1 : Value) (a2 : Int) (hH : Hold [Item.own u1 (a1 : (List Int))] w0 Fs) (hn : Fs.flatten.Nodup) (rr : (Int × (List Int))) (hF : Q.markIntS a1 a2 = some rr) :
 Calls Try.prog 40 [u1, (.int .i64 a2)].toArray w0 fun e w' => ∃ v, e = .returned v ∧ v = (.int .i64 rr.1) ∧ Ctx Fs.flatten w0 w' [Item.own u1 (rr.2 : (List Int))] := by
 refine calls_of_W Try.func40 rfl rfl ?_
 have hC0 := Ctx.startIn hH hn
 unfold Q.markIntS at hF
 refine W_seq_reg ?_
 refine WL_assign rfl rfl ?_
 refine WL_nil ?_
 refine W_seq ?_
 refine W_seq_reg ?_
 refine WL_assign rfl rfl ?_
 refine WL_nil ?_
 obtain ⟨r1, hr1, hF⟩ := bind_some hF
 refine W_norm (fun l w => ∃ x4 : (List Int), ∃ x5 : Int, (x4, x5) = r1 ∧ l = [(1, (.int .i64 x5))] ∧ Ctx Fs.flatten w0 w [Item.own u1 (x4 : (List Int))]) ?_ ?_
 ·refine W_block ?_
  refine W.sub (l' := [(0, u1), (1, (.int .i64 a2)), (5, (.int .i64 0))]) ?_ ⟨rfl, rfl, rfl, trivial⟩
  refine W_loop (fun k l w => ∃ x1 : (List Int), ∃ x2 : Int, ∃ x3 : Int, l = [(0, u1), (1, (.int .i64 x2)), (5, (.int .i64 x3))] ∧ Ctx Fs.flatten w0 w [Item.own u1 (x1 : (List Int))] ∧ Q.markIntS_l1 k x1 x2 x3 = some r1) FUEL ⟨a1, a2, 0, rfl, hC0, hr1⟩ ?_
  clear hr1
  rintro k1 _ w1 ⟨x1, x2, x3, rfl, hC1, hL1⟩
  cases k1 with
  | zero => rw [Q.markIntS_l1] at hL1; cases hL1
  | succ k1 =>
   rw [Q.markIntS_l1] at hL1
   refine W_seq ?_
   refine W_seq_reg ?_
   refine WL_move rfl rfl ?_
   refine WL_move rfl rfl ?_
   refine WL_len Try.underlying22 (hC1.ro 0 rfl) rfl rfl ?_
   refine WL_lss rfl rfl rfl ?_
   refine WL_nil ?_
   refine W_cond rfl (fun hc1 => ?_) (fun hc1 => ?_)
   ·replace hL1 := ite_t hL1 hc1
    refine W_skip ?_
    refine nrm_normal ?_
    refine W_seq ?_
    refine W_block ?_
    refine W_seq_reg ?_
    refine WL_move rfl rfl ?_
    refine WL_move rfl rfl ?_
    refine WL_move rfl rfl ?_
    obtain ⟨x6, hx1, hL1⟩ := bind_some hL1
    refine WL_index_own hC1 0 rfl Try.underlying22 ty3 hx1 rfl rfl rfl (fun b1 hE1 => ?_)
    have hC3 := hC1.triv (int_val (x2))
    refine WL_store_elem hC3 0 rfl ty3 hE1 hx1 rfl rfl rfl (fun w2 hC2 => ?_)
    try dsimp only [List.set] at hC2
    refine WL_nil ?_
    refine W_reg ?_
    refine WL_move rfl rfl ?_
    refine WL_add rfl rfl rfl ?_
    refine WL_assign rfl rfl ?_
    refine WL_nil ?_
    refine blk_normal ?_
    refine nrm_normal ?_
    refine W_reg ?_
    refine WL_move rfl rfl ?_
    refine WL_add rfl rfl rfl ?_
    refine WL_assign rfl rfl ?_
    refine WL_nil ?_
    refine nrm_sub (l' := [(0, u1), (1, (.int .i64 (w64 (x2 + 1)))), (5, (.int .i64 (w64 (x3 + 1))))]) ⟨rfl, rfl, rfl, trivial⟩ ?_
    exact ⟨k1, Nat.lt_succ_self _, (List.set x1 (Int.toNat x3) x2), w64 (x2 + 1), w64 (x3 + 1), rfl, hC2, hL1⟩
   replace hL1 := ite_f hL1 hc1
   refine W_exit ?_
   refine nrm_exit ?_
   refine nrm_exit ?_
   refine blk_exit ?_
   have hq1 := Option.some.inj hL1
   subst hq1
   refine nrm_sub (l' := [(1, (.int .i64 x2))]) ⟨rfl, trivial⟩ ?_
   exact ⟨x1, x2, rfl, rfl, hC1⟩
 rintro l2 _ w3 hs2 ⟨x4, x5, rfl, rfl, hC4⟩
 try dsimp only at hF
 refine nrm_sub' hs2 ?_
 clear hs2
 refine W_seq_reg ?_
 refine WL_move rfl rfl ?_
 refine WL_assign rfl rfl ?_
 refine WL_nil ?_
 refine W_ret ?_
 have hq2 := Option.some.inj hF
 subst hq2
 refine fn_ret1 rfl rfl ?_
 exact ⟨_, rfl, rfl, hC4⟩

theorem c_Q_markLedger {w0 : World} {Fs : List (List Nat)} (a1 : ((List Int) × Int × Int)) (u1 : Value) (a2 : Int) (hH : Hold [Item.own u1 (a1.1 : (List Int))] w0 Fs) (hn : Fs.flatten.Nodup) (rr : (Int × ((List Int) × Int × Int))) (hF : Q.markLedger a1 a2 = some rr) :
 Calls Try.prog 20 [(.agg #[u1, (.int .i64 a1.2.1), (.int .i64 a1.2.2)]), (.int .i64 a2)].toArray w0 fun e w' => ∃ v, e = .returned v ∧ v = (.int .i64 rr.1) ∧ Ctx Fs.flatten w0 w' [Item.own u1 (rr.2.1 : (List Int))] := by
 refine calls_of_W Try.func20 rfl rfl ?_
 have hC0 := Ctx.startIn hH hn
 unfold Q.markLedger at hF
 refine W_seq_reg ?_
 refine WL_box (cs := [u1, (.int .i64 a1.2.1), (.int .i64 a1.2.2)]) hC0 rfl rfl rfl (fun b1 w1 hC1 hB1 => ?_)
 refine WL_assign rfl rfl ?_
 refine WL_nil ?_
 refine W_seq_reg ?_
 refine WL_field Try.underlying26 rfl rfl (fun w => ⟨_, Try.sizeOf22 w⟩) rfl rfl ?_
 refine WL_load_box hC1 0 rfl rfl Try.isAgg22 rfl rfl ?_
 refine WL_move rfl rfl ?_
 obtain ⟨x1, hr1, hF⟩ := bind_some hF
 have hC2 := hC1.f1
 obtain ⟨Fs1, hH1, hn1, hF1, hO1, hb1⟩ := Ctx.lend2 (As := [Item.box b1 [u1, (.int .i64 a1.2.1), (.int .i64 a1.2.2)]]) [Item.own u1 (a1.1 : (List Int))] hC2
 refine WL_call Try.call40 rfl rfl (c_Q_markIntS a1.1 u1 a2 hH1 hn1 x1 hr1) ?_
 rintro _ w2 ⟨rfl, hq1⟩
 have hC3 : Ctx Fs.flatten w0 w2 [Item.own u1 (x1.2 : (List Int)), Item.box b1 [u1, (.int .i64 a1.2.1), (.int .i64 a1.2.2)]] := hb1 _ _ hq1
 refine WL_assign rfl rfl ?_
 refine WL_nil ?_
 refine W_seq_reg ?_
 refine WL_move rfl rfl ?_
 refine WL_assign rfl rfl ?_
 refine WL_nil ?_
 refine W_ret ?_
 have hq2 := Option.some.inj hF
 subst hq2
 refine fn_ret1 rfl rfl ?_
 have hC4 := hC3.h1
 exact ⟨_, rfl, rfl, hC4⟩

theorem c_Q_heldIntS {w0 : World} (a1 : (List Int)) (u1 : Value) (g1 : RO [] w0 u1 a1) (a2 : Int) (rr : Int) (hF : Q.heldIntS a1 a2 = some rr) :
 Calls Try.prog 61 [u1, (.int .i64 a2)].toArray w0 fun e w' => ∃ v, e = .returned v ∧ Res w0 rr v w' := by
 refine calls_of_W Try.func61 rfl rfl ?_
 have hC0 := Ctx.start w0
 unfold Q.heldIntS at hF
 refine W_seq_reg ?_
 refine WL_assign rfl rfl ?_
 refine WL_nil ?_
 refine W_seq ?_
 refine W_seq_reg ?_
 refine WL_assign rfl rfl ?_
 refine WL_nil ?_
 obtain ⟨r1, hr1, hF⟩ := bind_some hF
 refine W_norm (fun l w => ∃ x3 : Int, .inl x3 = r1 ∧ l = [(1, (.int .i64 x3))] ∧ Below w0.heap.size w0 w ∧ Ctx [] w0 w []) ?_ ?_
 ·refine W_block ?_
  refine W.sub (l' := [(0, u1), (1, (.int .i64 a2)), (5, (.int .i64 0))]) ?_ ⟨rfl, rfl, rfl, trivial⟩
  refine W_loop (fun k l w => ∃ x1 : Int, ∃ x2 : Int, l = [(0, u1), (1, (.int .i64 x1)), (5, (.int .i64 x2))] ∧ Below w0.heap.size w0 w ∧ Ctx [] w0 w [] ∧ Q.heldIntS_l1 a1 k x1 x2 = some r1) FUEL ⟨a2, 0, rfl, (Below.refl _ _), hC0, hr1⟩ ?_
  clear hr1
  rintro k1 _ w1 ⟨x1, x2, rfl, hB1, hC1, hL1⟩
  cases k1 with
  | zero => rw [Q.heldIntS_l1] at hL1; cases hL1
  | succ k1 =>
   rw [Q.heldIntS_l1] at hL1
   refine W_seq ?_
   refine W_seq_reg ?_
   refine WL_move rfl rfl ?_
   refine WL_move rfl rfl ?_
   refine WL_len Try.underlying22 g1 rfl rfl ?_
   refine WL_lss rfl rfl rfl ?_
   refine WL_nil ?_
   refine W_cond rfl (fun hc1 => ?_) (fun hc1 => ?_)
   ·replace hL1 := ite_t hL1 hc1
    refine W_skip ?_
    refine nrm_normal ?_
    refine W_seq ?_
    refine W_block ?_
    refine W_seq ?_
    refine W_seq_reg ?_
    refine WL_move rfl rfl ?_
    refine WL_move rfl rfl ?_
    obtain ⟨x4, hx1, hL1⟩ := bind_some hL1
    refine WL_index Try.underlying22 ty3 g1 hx1 rfl rfl rfl (fun b1 o1 h1 => ?_)
    refine WL_load ty3 h1 hC1.keep rfl rfl (fun v1 h2 => ?_)
    obtain rfl := ro_int h2
    refine WL_move rfl rfl ?_
    refine WL_neq rfl rfl rfl ?_
    refine WL_nil ?_
    refine W_cond rfl (fun hc2 => ?_) (fun hc2 => ?_)
    ·replace hL1 := ite_t hL1 hc2
     refine W_seq_reg ?_
     refine WL_assign rfl rfl ?_
     refine WL_nil ?_
     refine W_ret ?_
     refine nrm_ret ?_
     refine blk_ret ?_
     refine nrm_ret ?_
     refine nrm_ret ?_
     refine blk_ret ?_
     refine nrm_ret ?_
     refine nrm_ret ?_
     have hq1 := Option.some.inj hL1
     subst hq1
     dsimp only at hF
     have hq2 := Option.some.inj hF
     subst hq2
     refine fn_ret1 rfl rfl ?_
     exact ⟨_, rfl, int_res hC1 _⟩
    replace hL1 := ite_f hL1 hc2
    refine W_skip ?_
    refine nrm_normal ?_
    refine W_reg ?_
    refine WL_move rfl rfl ?_
    refine WL_add rfl rfl rfl ?_
    refine WL_assign rfl rfl ?_
    refine WL_nil ?_
    refine blk_normal ?_
    refine nrm_normal ?_
    refine W_reg ?_
    refine WL_move rfl rfl ?_
    refine WL_add rfl rfl rfl ?_
    refine WL_assign rfl rfl ?_
    refine WL_nil ?_
    refine nrm_sub (l' := [(0, u1), (1, (.int .i64 (w64 (x1 + 1)))), (5, (.int .i64 (w64 (x2 + 1))))]) ⟨rfl, rfl, rfl, trivial⟩ ?_
    exact ⟨k1, Nat.lt_succ_self _, w64 (x1 + 1), w64 (x2 + 1), rfl, (Keep.of hB1).below, hC1, hL1⟩
   replace hL1 := ite_f hL1 hc1
   refine W_exit ?_
   refine nrm_exit ?_
   refine nrm_exit ?_
   refine blk_exit ?_
   have hq3 := Option.some.inj hL1
   subst hq3
   refine nrm_sub (l' := [(1, (.int .i64 x1))]) ⟨rfl, trivial⟩ ?_
   exact ⟨x1, rfl, rfl, (Keep.of hB1).below, hC1⟩
 rintro l2 _ w2 hs2 ⟨x3, rfl, rfl, hB2, hC2⟩
 try dsimp only at hF
 refine nrm_sub' hs2 ?_
 clear hs2
 refine W_seq_reg ?_
 refine WL_move rfl rfl ?_
 refine WL_assign rfl rfl ?_
 refine WL_nil ?_
 refine W_ret ?_
 have hq4 := Option.some.inj hF
 subst hq4
 refine fn_ret1 rfl rfl ?_
 exact ⟨_, rfl, int_res hC2 _⟩

theorem c_Q_heldLedger {w0 : World} (a1 : ((List Int) × Int × Int)) (u1 : Value) (g1 : RO [] w0 u1 a1.1) (a2 : Int) (rr : Int) (hF : Q.heldLedger a1 a2 = some rr) :
 Calls Try.prog 21 [(.agg #[u1, (.int .i64 a1.2.1), (.int .i64 a1.2.2)]), (.int .i64 a2)].toArray w0 fun e w' => ∃ v, e = .returned v ∧ Res w0 rr v w' := by
 refine calls_of_W Try.func21 rfl rfl ?_
 have hC0 := Ctx.start w0
 unfold Q.heldLedger at hF
 refine W_seq_reg ?_
 refine WL_box (cs := [u1, (.int .i64 a1.2.1), (.int .i64 a1.2.2)]) hC0 rfl rfl rfl (fun b1 w1 hC1 hB1 => ?_)
 refine WL_assign rfl rfl ?_
 refine WL_nil ?_
 refine W_seq_reg ?_
 refine WL_field Try.underlying26 rfl rfl (fun w => ⟨_, Try.sizeOf22 w⟩) rfl rfl ?_
 refine WL_load_box hC1 0 rfl rfl Try.isAgg22 rfl rfl ?_
 refine WL_move rfl rfl ?_
 obtain ⟨x1, hr1, hF⟩ := bind_some hF
 refine WL_call Try.call61 rfl rfl (c_Q_heldIntS a1.1 u1 (g1.now hC1.keep) a2 x1 hr1) ?_
 intro _ w2 hv1
 obtain ⟨rfl, hB2⟩ := res_int hv1
 have hC2 := hC1.grow hB2
 refine WL_assign rfl rfl ?_
 refine WL_nil ?_
 refine W_seq ?_
 refine W_seq_reg ?_
 refine WL_move rfl rfl ?_
 refine WL_lss rfl rfl rfl ?_
 refine WL_nil ?_
 refine W_cond rfl (fun hc1 => ?_) (fun hc1 => ?_)
 ·replace hF := ite_t hF hc1
  refine W_seq_reg ?_
  refine WL_assign rfl rfl ?_
  refine WL_nil ?_
  refine W_ret ?_
  refine nrm_ret ?_
  have hq1 := Option.some.inj hF
  subst hq1
  refine fn_ret1 rfl rfl ?_
  exact ⟨_, rfl, int_res hC2 _⟩
 replace hF := ite_f hF hc1
 refine W_skip ?_
 refine nrm_normal ?_
 refine W_seq_reg ?_
 refine WL_move rfl rfl ?_
 refine WL_assign rfl rfl ?_
 refine WL_nil ?_
 refine W_ret ?_
 have hq2 := Option.some.inj hF
 subst hq2
 refine fn_ret1 rfl rfl ?_
 exact ⟨_, rfl, int_res hC2 _⟩

end Go.Gx.Px
