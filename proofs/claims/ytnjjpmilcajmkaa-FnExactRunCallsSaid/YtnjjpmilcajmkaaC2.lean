/- The contracts of the Go functions against the pure functions, printed by program. Conditions: each says them. -/
import Derived.Test.YtnjjpmilcajmkaaC1
set_option linter.unusedVariables false
set_option linter.unusedSimpArgs false
set_option maxRecDepth 100000
set_option maxHeartbeats 4000000
namespace Go.Gx.Px
open Go.Proofs Go.RowKit

theorem c_M_FinishCall {w0 : World} (a1 : ((List Int) × Int × Int)) (u1 : Value) (g1 : RO [] w0 u1 a1.1) (a2 : (Int × Int × Int × Bool)) (a3 : (List Int)) (u2 : Value) (g2 : RO [] w0 u2 a3) (rr : (((List Int) × Int × Int) × (Int × Int × Int × Bool))) (hF : M.FinishCall a1 a2 a3 = some rr) :
    Calls Try.prog 38 [(.agg #[u1, (.int .i64 a1.2.1), (.int .i64 a1.2.2)]), (.agg #[(.int .i64 a2.1), (.int .i64 a2.2.1), (.int .i64 a2.2.2.1), (.bool a2.2.2.2)]), u2].toArray w0 fun e w' => ∃ v, e = .returned v ∧ Res2 w0 rr.1 rr.2 v w' := by
  refine calls_of_W Try.func38 rfl rfl ?_
  have hC0 := Ctx.start w0
  unfold M.FinishCall at hF
  refine W_seq_reg ?_
  refine WL_box (cs := [u1, (.int .i64 a1.2.1), (.int .i64 a1.2.2)]) hC0 rfl rfl rfl (fun b1 w1 hC1 hB1 => ?_)
  refine WL_box (cs := [(.int .i64 a2.1), (.int .i64 a2.2.1), (.int .i64 a2.2.2.1), (.bool a2.2.2.2)]) hC1 rfl rfl rfl (fun b2 w2 hC2 hB2 => ?_)
  refine WL_alloc hC2 zero26 rfl rfl (fun b3 w3 hC3 hB3 => ?_)
  refine WL_alloc hC3 zero35 rfl rfl (fun b4 w4 hC4 hB4 => ?_)
  refine WL_nil ?_
  refine W_seq_reg ?_
  refine WL_load_box_agg [u1, (.int .i64 a1.2.1), (.int .i64 a1.2.2)] hC4 3 rfl rfl rfl Try.isAgg26 Try.sizeOf26 rfl rfl ?_
  obtain ⟨x1, hr1, hF⟩ := bind_some hF
  refine WL_call Try.call93 rfl rfl (c_M_copyLedger (a1.1, a1.2.1, a1.2.2) u1 (g1.now hC4.keep) x1 hr1) ?_
  rintro v1 w5 ⟨hB5, F1, hv1, hn1, hb1⟩
  have hC5 := hC4.push hB5 (A := Item.own v1 x1) hv1 hn1 hb1
  obtain ⟨v2, rfl, hC6⟩ := st26_own hC5
  refine WL_alloc hC6 zero26 rfl rfl (fun b5 w6 hC7 hB6 => ?_)
  refine WL_store_box_agg (cs' := [v2, (.int .i64 x1.2.1), (.int .i64 x1.2.2)]) (new := [v2, (.int .i64 x1.2.1), (.int .i64 x1.2.2)]) hC7 0 rfl rfl (by intro v hv; simp only [List.mem_cons, List.not_mem_nil, or_false] at hv; rcases hv with rfl | rfl | rfl; exact (ro_one (hC7.ro 1 rfl)); exact rfl; exact rfl) rfl Try.sizeOf26 rfl rfl (fun w7 hC8 => ?_)
  try dsimp only [List.set] at hC8
  refine WL_nil ?_
  refine W_seq ?_
  refine W_seq_reg ?_
  refine WL_move rfl rfl ?_
  refine WL_move rfl rfl ?_
  refine WL_len Try.underlying22 g2 rfl rfl ?_
  refine WL_min rfl rfl rfl ?_
  obtain ⟨x2, hx1, hF⟩ := bind_some hF
  refine WL_slice_h Try.underlying22 ty3 g2 hx1 rfl rfl rfl (fun v3 h1 => ?_)
  refine WL_buildSlice (vs := [(.int .i64 0)]) hC8 Try.underlying22 ty3 rfl rfl rfl rfl (by intro v hv; simp only [List.mem_cons, List.not_mem_nil, or_false] at hv; rcases hv with rfl <;> rfl) rfl rfl (fun b6 w8 hC9 hB7 => ?_)
  have hC10 := hC9.row0 (α := Int)
  have hC11 := hC10.triv (int_val (0))
  have hC12 := hC11.row1
  have hC13 := hC12.front 1 rfl
  dsimp only [List.eraseIdx, List.cons_append, List.nil_append, List.append_nil] at hC13
  have hC14 : Ctx [] w0 w8 (Item.own (.slice (some ⟨b6, 0, none⟩) 1 1) ([0] : List Int) :: [Item.box b5 [v2, (.int .i64 x1.2.1), (.int .i64 x1.2.2)], Item.own v2 (x1.1 : (List Int)), Item.box b4 [(.int .i64 0), (.int .i64 0), (.int .i64 0), (.bool false)], Item.box b3 [(.slice none 0 0), (.int .i64 0), (.int .i64 0)], Item.box b2 [(.int .i64 a2.1), (.int .i64 a2.2.1), (.int .i64 a2.2.2.1), (.bool a2.2.2.2)], Item.box b1 [u1, (.int .i64 a1.2.1), (.int .i64 a1.2.2)]]) := hC13.rowOwn (by simp [maxLen])
  refine WL_buildSlice (vs := [v3, (.slice (some ⟨b6, 0, none⟩) 1 1)]) hC14 Try.underlying178 ty22 rfl rfl rfl rfl (by intro v hv; simp only [List.mem_cons, List.not_mem_nil, or_false] at hv; rcases hv with rfl | rfl; exact (by rw [ro_cells h1]; rfl); exact (by rw [ro_cells (hC14.ro 0 rfl)]; rfl)) (by simp only [List.flatMap_cons, List.flatMap_nil, ro_cells h1, ro_cells (hC14.ro 0 rfl)]; rfl) rfl (fun b7 w9 hC15 hB8 => ?_)
  obtain ⟨x3, hr2, hF⟩ := bind_some hF
  refine WL_call Try.call105 rfl rfl (c_Slices_Concat_Lint_int ([x2, [0]] : List (List Int)) (.slice (some ⟨b7, 0, none⟩) 2 2) ((hC15.litRO (m := 2) 0 rfl (rowro_cons (repw_slice (h1.now hC15.keep)) (rowro_cons (repw_slice (hC15.ro 1 rfl)) rowro_nil)) rfl (by simp [maxLen]) (by decide)).now (Keep.refl _ _)) x3 hr2) ?_
  rintro v4 w10 ⟨hB9, F2, hv2, hn2, hb2⟩
  have hC16 := hC15.push hB9 (A := Item.own v4 x3) hv2 hn2 hb2
  refine WL_len Try.underlying22 (hC16.ro 0 rfl) rfl rfl ?_
  refine WL_move rfl rfl ?_
  refine WL_nil ?_
  obtain ⟨r1, hr3, hF⟩ := bind_some hF
  refine W_norm (fun l w => ∃ v6 : Value, ∃ x12 : (List Int), ∃ x13 : Int, ∃ x14 : Int, ∃ x15 : Int, ∃ x16 : Int, ∃ x17 : Int, ∃ x18 : Bool, (x12, x13, x14, x15, x16, x17, x18) = r1 ∧ l = [(4, (ptr b2 0)), (6, (ptr b3 0)), (7, (ptr b4 0)), (8, (ptr b5 0))] ∧ Ctx [] w0 w [Item.box b5 [v6, (.int .i64 x13), (.int .i64 x14)], Item.own v6 (x12 : (List Int)), Item.box b4 [(.int .i64 0), (.int .i64 0), (.int .i64 0), (.bool false)], Item.box b3 [(.slice none 0 0), (.int .i64 0), (.int .i64 0)], Item.box b2 [(.int .i64 x15), (.int .i64 x16), (.int .i64 x17), (.bool x18)]]) ?_ ?_
  · refine W_block ?_
    have hC37 : Ctx [] w0 _ [Item.box b2 [(.int .i64 a2.1), (.int .i64 a2.2.1), (.int .i64 a2.2.2.1), (.bool a2.2.2.2)], Item.own v4 (x3 : (List Int)), Item.box b7 [v3, (.slice (some ⟨b6, 0, none⟩) 1 1)], Item.own (.slice (some ⟨b6, 0, none⟩) 1 1) ([0] : (List Int)), Item.box b5 [v2, (.int .i64 x1.2.1), (.int .i64 x1.2.2)], Item.own v2 (x1.1 : (List Int)), Item.box b4 [(.int .i64 0), (.int .i64 0), (.int .i64 0), (.bool false)], Item.box b3 [(.slice none 0 0), (.int .i64 0), (.int .i64 0)], Item.box b1 [u1, (.int .i64 a1.2.1), (.int .i64 a1.2.2)]] := hC16.front 7 rfl
    have hC38 : Ctx [] w0 _ [Item.box b3 [(.slice none 0 0), (.int .i64 0), (.int .i64 0)], Item.box b2 [(.int .i64 a2.1), (.int .i64 a2.2.1), (.int .i64 a2.2.2.1), (.bool a2.2.2.2)], Item.own v4 (x3 : (List Int)), Item.box b7 [v3, (.slice (some ⟨b6, 0, none⟩) 1 1)], Item.own (.slice (some ⟨b6, 0, none⟩) 1 1) ([0] : (List Int)), Item.box b5 [v2, (.int .i64 x1.2.1), (.int .i64 x1.2.2)], Item.own v2 (x1.1 : (List Int)), Item.box b4 [(.int .i64 0), (.int .i64 0), (.int .i64 0), (.bool false)], Item.box b1 [u1, (.int .i64 a1.2.1), (.int .i64 a1.2.2)]] := hC37.front 7 rfl
    have hC39 : Ctx [] w0 _ [Item.box b4 [(.int .i64 0), (.int .i64 0), (.int .i64 0), (.bool false)], Item.box b3 [(.slice none 0 0), (.int .i64 0), (.int .i64 0)], Item.box b2 [(.int .i64 a2.1), (.int .i64 a2.2.1), (.int .i64 a2.2.2.1), (.bool a2.2.2.2)], Item.own v4 (x3 : (List Int)), Item.box b7 [v3, (.slice (some ⟨b6, 0, none⟩) 1 1)], Item.own (.slice (some ⟨b6, 0, none⟩) 1 1) ([0] : (List Int)), Item.box b5 [v2, (.int .i64 x1.2.1), (.int .i64 x1.2.2)], Item.own v2 (x1.1 : (List Int)), Item.box b1 [u1, (.int .i64 a1.2.1), (.int .i64 a1.2.2)]] := hC38.front 7 rfl
    have hC40 : Ctx [] w0 _ [Item.own v2 (x1.1 : (List Int)), Item.box b4 [(.int .i64 0), (.int .i64 0), (.int .i64 0), (.bool false)], Item.box b3 [(.slice none 0 0), (.int .i64 0), (.int .i64 0)], Item.box b2 [(.int .i64 a2.1), (.int .i64 a2.2.1), (.int .i64 a2.2.2.1), (.bool a2.2.2.2)], Item.own v4 (x3 : (List Int)), Item.box b7 [v3, (.slice (some ⟨b6, 0, none⟩) 1 1)], Item.own (.slice (some ⟨b6, 0, none⟩) 1 1) ([0] : (List Int)), Item.box b5 [v2, (.int .i64 x1.2.1), (.int .i64 x1.2.2)], Item.box b1 [u1, (.int .i64 a1.2.1), (.int .i64 a1.2.2)]] := hC39.front 7 rfl
    have hC41 : Ctx [] w0 _ [Item.box b5 [v2, (.int .i64 x1.2.1), (.int .i64 x1.2.2)], Item.own v2 (x1.1 : (List Int)), Item.box b4 [(.int .i64 0), (.int .i64 0), (.int .i64 0), (.bool false)], Item.box b3 [(.slice none 0 0), (.int .i64 0), (.int .i64 0)], Item.box b2 [(.int .i64 a2.1), (.int .i64 a2.2.1), (.int .i64 a2.2.2.1), (.bool a2.2.2.2)], Item.own v4 (x3 : (List Int)), Item.box b7 [v3, (.slice (some ⟨b6, 0, none⟩) 1 1)], Item.own (.slice (some ⟨b6, 0, none⟩) 1 1) ([0] : (List Int)), Item.box b1 [u1, (.int .i64 a1.2.1), (.int .i64 a1.2.2)]] := hC40.front 7 rfl
    have hC42 : Ctx [] w0 _ [Item.own v4 (x3 : (List Int)), Item.box b5 [v2, (.int .i64 x1.2.1), (.int .i64 x1.2.2)], Item.own v2 (x1.1 : (List Int)), Item.box b4 [(.int .i64 0), (.int .i64 0), (.int .i64 0), (.bool false)], Item.box b3 [(.slice none 0 0), (.int .i64 0), (.int .i64 0)], Item.box b2 [(.int .i64 a2.1), (.int .i64 a2.2.1), (.int .i64 a2.2.2.1), (.bool a2.2.2.2)], Item.box b7 [v3, (.slice (some ⟨b6, 0, none⟩) 1 1)], Item.own (.slice (some ⟨b6, 0, none⟩) 1 1) ([0] : (List Int)), Item.box b1 [u1, (.int .i64 a1.2.1), (.int .i64 a1.2.2)]] := hC41.front 5 rfl
    have hC43 : Ctx [] w0 _ [Item.own v4 (x3 : (List Int)), Item.box b5 [v2, (.int .i64 x1.2.1), (.int .i64 x1.2.2)], Item.own v2 (x1.1 : (List Int)), Item.box b4 [(.int .i64 0), (.int .i64 0), (.int .i64 0), (.bool false)], Item.box b3 [(.slice none 0 0), (.int .i64 0), (.int .i64 0)], Item.box b2 [(.int .i64 a2.1), (.int .i64 a2.2.1), (.int .i64 a2.2.2.1), (.bool a2.2.2.2)]] := hC42.headN 6
    refine W.sub (l' := [(4, (ptr b2 0)), (6, (ptr b3 0)), (7, (ptr b4 0)), (8, (ptr b5 0)), (20, v4), (21, (.int .i64 (List.length x3 : Int))), (22, (.int .i64 0))]) ?_ ⟨rfl, rfl, rfl, rfl, rfl, rfl, rfl, trivial⟩
    refine W_loop (fun k l w => ∃ v5 : Value, ∃ x4 : (List Int), ∃ x5 : Int, ∃ x6 : Int, ∃ x7 : Int, ∃ x8 : Int, ∃ x9 : Int, ∃ x10 : Bool, ∃ x11 : Int, l = [(4, (ptr b2 0)), (6, (ptr b3 0)), (7, (ptr b4 0)), (8, (ptr b5 0)), (20, v4), (21, (.int .i64 (List.length x3 : Int))), (22, (.int .i64 x11))] ∧ Ctx [] w0 w [Item.own v4 (x3 : (List Int)), Item.box b5 [v5, (.int .i64 x5), (.int .i64 x6)], Item.own v5 (x4 : (List Int)), Item.box b4 [(.int .i64 0), (.int .i64 0), (.int .i64 0), (.bool false)], Item.box b3 [(.slice none 0 0), (.int .i64 0), (.int .i64 0)], Item.box b2 [(.int .i64 x7), (.int .i64 x8), (.int .i64 x9), (.bool x10)]] ∧ M.FinishCall_l1 x3 k x4 x5 x6 x7 x8 x9 x10 x11 = some r1) FUEL ⟨v2, x1.1, x1.2.1, x1.2.2, a2.1, a2.2.1, a2.2.2.1, a2.2.2.2, 0, rfl, hC43, hr3⟩ ?_
    clear hr3
    rintro k1 _ w11 ⟨v5, x4, x5, x6, x7, x8, x9, x10, x11, rfl, hC17, hL1⟩
    cases k1 with
    | zero => rw [M.FinishCall_l1] at hL1; cases hL1
    | succ k1 =>
      rw [M.FinishCall_l1] at hL1
      refine W_seq_reg ?_
      refine WL_lss rfl rfl rfl ?_
      refine WL_nil ?_
      refine W_seq ?_
      refine W_cond rfl (fun hc1 => ?_) (fun hc1 => ?_)
      · replace hL1 := ite_t hL1 hc1
        refine W_skip ?_
        refine nrm_normal ?_
        refine W_seq ?_
        refine W_block ?_
        refine W_seq_reg ?_
        obtain ⟨x19, hx2, hL1⟩ := bind_some hL1
        refine WL_index Try.underlying22 ty3 (hC17.ro 0 rfl) hx2 rfl rfl rfl (fun b8 o1 h2 => ?_)
        refine WL_load ty3 h2 (Keep.refl _ _) rfl rfl (fun v7 h3 => ?_)
        obtain rfl := ro_int h3
        refine WL_assign rfl rfl ?_
        refine WL_nil ?_
        refine W_reg ?_
        refine WL_load_box_agg [v5, (.int .i64 x5), (.int .i64 x6)] hC17 1 rfl rfl rfl Try.isAgg26 Try.sizeOf26 rfl rfl ?_
        refine WL_load_box_agg [(.int .i64 x7), (.int .i64 x8), (.int .i64 x9), (.bool x10)] hC17 5 rfl rfl rfl Try.isAgg35 Try.sizeOf35 rfl rfl ?_
        refine WL_move rfl rfl ?_
        obtain ⟨x20, hr4, hL1⟩ := bind_some hL1
        refine WL_call Try.call24 rfl rfl (c_M_TryCall (x4, x5, x6) v5 ((hC17.ro 2 rfl).now (Keep.refl _ _)) (x7, x8, x9, x10) x19 x20 hr4) ?_
        rintro _ w12 ⟨hB11, v8, v9, v10, F3, F4, F5, rfl, hv3, hv4, hv5, hn3, hb3⟩
        obtain ⟨rfl, rfl⟩ := val_bool hv5
        have hC18 := hC17.pushL hB11 (Bs := [Item.own v8 x20.1, Item.own v9 x20.2.1]) (Fs := [F3, F4]) ⟨F3, _, rfl, hv3, F4, _, rfl, hv4, rfl⟩ (by simpa using hn3) (fun b h => hb3 b (by simpa using h))
        obtain ⟨v11, rfl, hC19⟩ := st26_own hC18
        have hC20 : Ctx [] w0 _ [Item.own v9 (x20.2.1 : (Int × Int × Int × Bool)), Item.own v11 (x20.1.1 : (List Int)), Item.own v4 (x3 : (List Int)), Item.box b5 [v5, (.int .i64 x5), (.int .i64 x6)], Item.own v5 (x4 : (List Int)), Item.box b4 [(.int .i64 0), (.int .i64 0), (.int .i64 0), (.bool false)], Item.box b3 [(.slice none 0 0), (.int .i64 0), (.int .i64 0)], Item.box b2 [(.int .i64 x7), (.int .i64 x8), (.int .i64 x9), (.bool x10)]] := hC19.front 1 rfl
        obtain ⟨rfl, hC21⟩ := st35_own hC20
        refine WL_move rfl rfl ?_
        refine WL_extract rfl rfl rfl ?_
        refine WL_extract rfl rfl rfl ?_
        refine WL_extract rfl rfl rfl ?_
        refine WL_store_box_agg (cs' := [v11, (.int .i64 x20.1.2.1), (.int .i64 x20.1.2.2)]) (new := [v11, (.int .i64 x20.1.2.1), (.int .i64 x20.1.2.2)]) hC21 2 rfl rfl (by intro v hv; simp only [List.mem_cons, List.not_mem_nil, or_false] at hv; rcases hv with rfl | rfl | rfl; exact (ro_one (hC21.ro 0 rfl)); exact rfl; exact rfl) rfl Try.sizeOf26 rfl rfl (fun w13 hC22 => ?_)
        try dsimp only [List.set] at hC22
        refine WL_store_box_agg (cs' := [(.int .i64 x20.2.1.1), (.int .i64 x20.2.1.2.1), (.int .i64 x20.2.1.2.2.1), (.bool x20.2.1.2.2.2)]) (new := [(.int .i64 x20.2.1.1), (.int .i64 x20.2.1.2.1), (.int .i64 x20.2.1.2.2.1), (.bool x20.2.1.2.2.2)]) hC22 6 rfl rfl (by intro v hv; simp only [List.mem_cons, List.not_mem_nil, or_false] at hv; rcases hv with rfl | rfl | rfl | rfl; exact rfl; exact rfl; exact rfl; exact rfl) rfl Try.sizeOf35 rfl rfl (fun w14 hC23 => ?_)
        try dsimp only [List.set] at hC23
        refine WL_nil ?_
        refine blk_normal ?_
        refine nrm_normal ?_
        refine W_reg ?_
        refine WL_add rfl rfl rfl ?_
        refine WL_move rfl rfl ?_
        refine WL_nil ?_
        have hC24 : Ctx [] w0 _ [Item.box b2 [(.int .i64 x20.2.1.1), (.int .i64 x20.2.1.2.1), (.int .i64 x20.2.1.2.2.1), (.bool x20.2.1.2.2.2)], Item.own v11 (x20.1.1 : (List Int)), Item.own v4 (x3 : (List Int)), Item.box b5 [v11, (.int .i64 x20.1.2.1), (.int .i64 x20.1.2.2)], Item.own v5 (x4 : (List Int)), Item.box b4 [(.int .i64 0), (.int .i64 0), (.int .i64 0), (.bool false)], Item.box b3 [(.slice none 0 0), (.int .i64 0), (.int .i64 0)]] := hC23.front 6 rfl
        have hC25 : Ctx [] w0 _ [Item.box b3 [(.slice none 0 0), (.int .i64 0), (.int .i64 0)], Item.box b2 [(.int .i64 x20.2.1.1), (.int .i64 x20.2.1.2.1), (.int .i64 x20.2.1.2.2.1), (.bool x20.2.1.2.2.2)], Item.own v11 (x20.1.1 : (List Int)), Item.own v4 (x3 : (List Int)), Item.box b5 [v11, (.int .i64 x20.1.2.1), (.int .i64 x20.1.2.2)], Item.own v5 (x4 : (List Int)), Item.box b4 [(.int .i64 0), (.int .i64 0), (.int .i64 0), (.bool false)]] := hC24.front 6 rfl
        have hC26 : Ctx [] w0 _ [Item.box b4 [(.int .i64 0), (.int .i64 0), (.int .i64 0), (.bool false)], Item.box b3 [(.slice none 0 0), (.int .i64 0), (.int .i64 0)], Item.box b2 [(.int .i64 x20.2.1.1), (.int .i64 x20.2.1.2.1), (.int .i64 x20.2.1.2.2.1), (.bool x20.2.1.2.2.2)], Item.own v11 (x20.1.1 : (List Int)), Item.own v4 (x3 : (List Int)), Item.box b5 [v11, (.int .i64 x20.1.2.1), (.int .i64 x20.1.2.2)], Item.own v5 (x4 : (List Int))] := hC25.front 6 rfl
        have hC27 : Ctx [] w0 _ [Item.own v11 (x20.1.1 : (List Int)), Item.box b4 [(.int .i64 0), (.int .i64 0), (.int .i64 0), (.bool false)], Item.box b3 [(.slice none 0 0), (.int .i64 0), (.int .i64 0)], Item.box b2 [(.int .i64 x20.2.1.1), (.int .i64 x20.2.1.2.1), (.int .i64 x20.2.1.2.2.1), (.bool x20.2.1.2.2.2)], Item.own v4 (x3 : (List Int)), Item.box b5 [v11, (.int .i64 x20.1.2.1), (.int .i64 x20.1.2.2)], Item.own v5 (x4 : (List Int))] := hC26.front 3 rfl
        have hC28 : Ctx [] w0 _ [Item.box b5 [v11, (.int .i64 x20.1.2.1), (.int .i64 x20.1.2.2)], Item.own v11 (x20.1.1 : (List Int)), Item.box b4 [(.int .i64 0), (.int .i64 0), (.int .i64 0), (.bool false)], Item.box b3 [(.slice none 0 0), (.int .i64 0), (.int .i64 0)], Item.box b2 [(.int .i64 x20.2.1.1), (.int .i64 x20.2.1.2.1), (.int .i64 x20.2.1.2.2.1), (.bool x20.2.1.2.2.2)], Item.own v4 (x3 : (List Int)), Item.own v5 (x4 : (List Int))] := hC27.front 5 rfl
        have hC29 : Ctx [] w0 _ [Item.own v4 (x3 : (List Int)), Item.box b5 [v11, (.int .i64 x20.1.2.1), (.int .i64 x20.1.2.2)], Item.own v11 (x20.1.1 : (List Int)), Item.box b4 [(.int .i64 0), (.int .i64 0), (.int .i64 0), (.bool false)], Item.box b3 [(.slice none 0 0), (.int .i64 0), (.int .i64 0)], Item.box b2 [(.int .i64 x20.2.1.1), (.int .i64 x20.2.1.2.1), (.int .i64 x20.2.1.2.2.1), (.bool x20.2.1.2.2.2)], Item.own v5 (x4 : (List Int))] := hC28.front 5 rfl
        have hC30 : Ctx [] w0 _ [Item.own v4 (x3 : (List Int)), Item.box b5 [v11, (.int .i64 x20.1.2.1), (.int .i64 x20.1.2.2)], Item.own v11 (x20.1.1 : (List Int)), Item.box b4 [(.int .i64 0), (.int .i64 0), (.int .i64 0), (.bool false)], Item.box b3 [(.slice none 0 0), (.int .i64 0), (.int .i64 0)], Item.box b2 [(.int .i64 x20.2.1.1), (.int .i64 x20.2.1.2.1), (.int .i64 x20.2.1.2.2.1), (.bool x20.2.1.2.2.2)]] := hC29.headN 6
        refine nrm_sub (l' := [(4, (ptr b2 0)), (6, (ptr b3 0)), (7, (ptr b4 0)), (8, (ptr b5 0)), (20, v4), (21, (.int .i64 (List.length x3 : Int))), (22, (.int .i64 (w64 (x11 + 1))))]) ⟨rfl, rfl, rfl, rfl, rfl, rfl, rfl, trivial⟩ ?_
        exact ⟨k1, Nat.lt_succ_self _, v11, x20.1.1, x20.1.2.1, x20.1.2.2, x20.2.1.1, x20.2.1.2.1, x20.2.1.2.2.1, x20.2.1.2.2.2, w64 (x11 + 1), rfl, hC30, hL1⟩
      · replace hL1 := ite_f hL1 hc1
        refine W_exit ?_
        refine nrm_exit ?_
        refine nrm_exit ?_
        refine blk_exit ?_
        have hq1 := Option.some.inj hL1
        subst hq1
        have hC31 : Ctx [] w0 _ [Item.box b2 [(.int .i64 x7), (.int .i64 x8), (.int .i64 x9), (.bool x10)], Item.own v4 (x3 : (List Int)), Item.box b5 [v5, (.int .i64 x5), (.int .i64 x6)], Item.own v5 (x4 : (List Int)), Item.box b4 [(.int .i64 0), (.int .i64 0), (.int .i64 0), (.bool false)], Item.box b3 [(.slice none 0 0), (.int .i64 0), (.int .i64 0)]] := hC17.front 5 rfl
        have hC32 : Ctx [] w0 _ [Item.box b3 [(.slice none 0 0), (.int .i64 0), (.int .i64 0)], Item.box b2 [(.int .i64 x7), (.int .i64 x8), (.int .i64 x9), (.bool x10)], Item.own v4 (x3 : (List Int)), Item.box b5 [v5, (.int .i64 x5), (.int .i64 x6)], Item.own v5 (x4 : (List Int)), Item.box b4 [(.int .i64 0), (.int .i64 0), (.int .i64 0), (.bool false)]] := hC31.front 5 rfl
        have hC33 : Ctx [] w0 _ [Item.box b4 [(.int .i64 0), (.int .i64 0), (.int .i64 0), (.bool false)], Item.box b3 [(.slice none 0 0), (.int .i64 0), (.int .i64 0)], Item.box b2 [(.int .i64 x7), (.int .i64 x8), (.int .i64 x9), (.bool x10)], Item.own v4 (x3 : (List Int)), Item.box b5 [v5, (.int .i64 x5), (.int .i64 x6)], Item.own v5 (x4 : (List Int))] := hC32.front 5 rfl
        have hC34 : Ctx [] w0 _ [Item.own v5 (x4 : (List Int)), Item.box b4 [(.int .i64 0), (.int .i64 0), (.int .i64 0), (.bool false)], Item.box b3 [(.slice none 0 0), (.int .i64 0), (.int .i64 0)], Item.box b2 [(.int .i64 x7), (.int .i64 x8), (.int .i64 x9), (.bool x10)], Item.own v4 (x3 : (List Int)), Item.box b5 [v5, (.int .i64 x5), (.int .i64 x6)]] := hC33.front 5 rfl
        have hC35 : Ctx [] w0 _ [Item.box b5 [v5, (.int .i64 x5), (.int .i64 x6)], Item.own v5 (x4 : (List Int)), Item.box b4 [(.int .i64 0), (.int .i64 0), (.int .i64 0), (.bool false)], Item.box b3 [(.slice none 0 0), (.int .i64 0), (.int .i64 0)], Item.box b2 [(.int .i64 x7), (.int .i64 x8), (.int .i64 x9), (.bool x10)], Item.own v4 (x3 : (List Int))] := hC34.front 5 rfl
        have hC36 : Ctx [] w0 _ [Item.box b5 [v5, (.int .i64 x5), (.int .i64 x6)], Item.own v5 (x4 : (List Int)), Item.box b4 [(.int .i64 0), (.int .i64 0), (.int .i64 0), (.bool false)], Item.box b3 [(.slice none 0 0), (.int .i64 0), (.int .i64 0)], Item.box b2 [(.int .i64 x7), (.int .i64 x8), (.int .i64 x9), (.bool x10)]] := hC35.headN 5
        refine nrm_sub (l' := [(4, (ptr b2 0)), (6, (ptr b3 0)), (7, (ptr b4 0)), (8, (ptr b5 0))]) ⟨rfl, rfl, rfl, rfl, trivial⟩ ?_
        exact ⟨v5, x4, x5, x6, x7, x8, x9, x10, rfl, rfl, hC36⟩
  · rintro l2 _ w15 hs2 ⟨v6, x12, x13, x14, x15, x16, x17, x18, rfl, rfl, hC44⟩
    try dsimp only at hF
    refine nrm_sub' hs2 ?_
    clear hs2
    obtain ⟨r2, hr5, hF⟩ := bind_some hF
    refine W_cut (fun l w => ∃ x21 : Int, ∃ x22 : Int, ∃ x23 : Int, ∃ x24 : Bool, ∃ v12 : Value, ∃ x25 : (List Int), ∃ x26 : Int, ∃ x27 : Int, (x21, x22, x23, x24, x25, x26, x27) = r2 ∧ l = [(6, (ptr b3 0)), (7, (ptr b4 0))] ∧ Ctx [] w0 w [Item.own v12 (x25 : (List Int)), Item.box b4 [(.int .i64 x21), (.int .i64 x22), (.int .i64 x23), (.bool x24)], Item.box b3 [v12, (.int .i64 x26), (.int .i64 x27)]]) ?_ ?_
    · refine W_drawn 4 rfl hmix (fun w17 hB14 => ?_)
      have hC46 := hC44.grow hB14
      refine WA.sub (l' := [(4, (ptr b2 0)), (6, (ptr b3 0)), (7, (ptr b4 0)), (8, (ptr b5 0))]) ?_ ⟨rfl, rfl, rfl, rfl, trivial⟩
      refine WA_postsO [⟨0, [], fun vs => PW.val (.agg #[v6, (.int .i64 x13), (.int .i64 x14)]), []⟩, ⟨1, [], fun vs => PW.val (.agg #[(.int .i64 x15), (.int .i64 x16), (.int .i64 x17), (.bool x18)]), []⟩] [[], []] [1] 2 rfl (by kernel_rfl) (by kernel_rfl) ?_ ⟨?_, ?_, trivial⟩
      · refine StepsE_cons rfl ?_ ?_
        · intro w18 hB15
          refine DepsE_nil ?_
          refine ⟨_, rfl, ?_⟩
          refine WL_load_box_agg [v6, (.int .i64 x13), (.int .i64 x14)] (hC46.grow hB15) 0 rfl rfl rfl Try.isAgg26 Try.sizeOf26 rfl rfl ?_
          refine WL_nil ?_
          exact FinE_val (Below.refl _ _) rfl rfl ⟨rfl, rfl⟩
        refine StepsE_cons rfl ?_ ?_
        · intro w18 hB15
          refine DepsE_nil ?_
          refine ⟨_, rfl, ?_⟩
          refine WL_load_box_agg [(.int .i64 x15), (.int .i64 x16), (.int .i64 x17), (.bool x18)] (hC46.grow hB15) 4 rfl rfl rfl Try.isAgg35 Try.sizeOf35 rfl rfl ?_
          refine WL_nil ?_
          exact FinE_val (Below.refl _ _) rfl rfl ⟨rfl, rfl⟩
        exact StepsE_nil
      · intro g' hg'
        obtain rfl : g' = 2 := hg'
        intro w19 hB16
        refine AllE_cons rfl rfl rfl ?_
        rintro _ _ ⟨rfl, rfl⟩
        refine AllE_cons rfl rfl rfl ?_
        rintro _ _ ⟨rfl, rfl⟩
        refine AllE_nil ?_
        intro hn4 hb4
        have hC47 := hC46.grow hB16
        refine WA_one 2 (by kernel_rfl) rfl ?_
        refine WL_store_box_agg (cs' := [v6, (.int .i64 x13), (.int .i64 x14)]) (new := [v6, (.int .i64 x13), (.int .i64 x14)]) hC47 3 rfl rfl (by intro v hv; simp only [List.mem_cons, List.not_mem_nil, or_false] at hv; rcases hv with rfl | rfl | rfl; exact (ro_one (hC47.ro 1 rfl)); exact rfl; exact rfl) rfl Try.sizeOf26 rfl rfl (fun w20 hC48 => ?_)
        try dsimp only [List.set] at hC48
        refine WL_nil ?_
        refine WA_one 3 (by kernel_rfl) rfl ?_
        refine WL_store_box_agg (cs' := [(.int .i64 x15), (.int .i64 x16), (.int .i64 x17), (.bool x18)]) (new := [(.int .i64 x15), (.int .i64 x16), (.int .i64 x17), (.bool x18)]) hC48 2 rfl rfl (by intro v hv; simp only [List.mem_cons, List.not_mem_nil, or_false] at hv; rcases hv with rfl | rfl | rfl | rfl; exact rfl; exact rfl; exact rfl; exact rfl) rfl Try.sizeOf35 rfl rfl (fun w21 hC49 => ?_)
        try dsimp only [List.set] at hC49
        refine WL_nil ?_
        refine WA_done (by kernel_rfl) ?_
        have hq2 := Option.some.inj hr5
        subst hq2
        have hC50 : Ctx [] w0 _ [Item.box b3 [v6, (.int .i64 x13), (.int .i64 x14)], Item.box b5 [v6, (.int .i64 x13), (.int .i64 x14)], Item.own v6 (x12 : (List Int)), Item.box b4 [(.int .i64 x15), (.int .i64 x16), (.int .i64 x17), (.bool x18)], Item.box b2 [(.int .i64 x15), (.int .i64 x16), (.int .i64 x17), (.bool x18)]] := hC49.front 3 rfl
        have hC51 : Ctx [] w0 _ [Item.box b4 [(.int .i64 x15), (.int .i64 x16), (.int .i64 x17), (.bool x18)], Item.box b3 [v6, (.int .i64 x13), (.int .i64 x14)], Item.box b5 [v6, (.int .i64 x13), (.int .i64 x14)], Item.own v6 (x12 : (List Int)), Item.box b2 [(.int .i64 x15), (.int .i64 x16), (.int .i64 x17), (.bool x18)]] := hC50.front 3 rfl
        have hC52 : Ctx [] w0 _ [Item.own v6 (x12 : (List Int)), Item.box b4 [(.int .i64 x15), (.int .i64 x16), (.int .i64 x17), (.bool x18)], Item.box b3 [v6, (.int .i64 x13), (.int .i64 x14)], Item.box b5 [v6, (.int .i64 x13), (.int .i64 x14)], Item.box b2 [(.int .i64 x15), (.int .i64 x16), (.int .i64 x17), (.bool x18)]] := hC51.front 3 rfl
        have hC53 : Ctx [] w0 _ [Item.own v6 (x12 : (List Int)), Item.box b4 [(.int .i64 x15), (.int .i64 x16), (.int .i64 x17), (.bool x18)], Item.box b3 [v6, (.int .i64 x13), (.int .i64 x14)]] := hC52.headN 3
        refine nrm_sub (l' := [(6, (ptr b3 0)), (7, (ptr b4 0))]) ⟨rfl, rfl, trivial⟩ ?_
        exact ⟨x15, x16, x17, x18, v6, x12, x13, x14, rfl, rfl, hC53⟩
      · intro g' hg'
        obtain rfl : g' = 3 := hg'
        intro w19 hB16
        refine AllE_cons rfl rfl rfl ?_
        rintro _ _ ⟨rfl, rfl⟩
        refine AllE_nil ?_
        intro hn4 hb4
        have hC47 := hC46.grow hB16
        refine WA_all2 (i := 1) (j := 2) (by kernel_rfl) rfl rfl ?_ ?_
        · refine WL_load_box_agg [(.int .i64 x15), (.int .i64 x16), (.int .i64 x17), (.bool x18)] hC47 4 rfl rfl rfl Try.isAgg35 Try.sizeOf35 rfl rfl ?_
          refine WL_nil ?_
          refine WA_one 2 (by kernel_rfl) rfl ?_
          refine WL_store_box_agg (cs' := [v6, (.int .i64 x13), (.int .i64 x14)]) (new := [v6, (.int .i64 x13), (.int .i64 x14)]) hC47 3 rfl rfl (by intro v hv; simp only [List.mem_cons, List.not_mem_nil, or_false] at hv; rcases hv with rfl | rfl | rfl; exact (ro_one (hC47.ro 1 rfl)); exact rfl; exact rfl) rfl Try.sizeOf26 rfl rfl (fun w20 hC48 => ?_)
          try dsimp only [List.set] at hC48
          refine WL_nil ?_
          refine WA_one 3 (by kernel_rfl) rfl ?_
          refine WL_store_box_agg (cs' := [(.int .i64 x15), (.int .i64 x16), (.int .i64 x17), (.bool x18)]) (new := [(.int .i64 x15), (.int .i64 x16), (.int .i64 x17), (.bool x18)]) hC48 2 rfl rfl (by intro v hv; simp only [List.mem_cons, List.not_mem_nil, or_false] at hv; rcases hv with rfl | rfl | rfl | rfl; exact rfl; exact rfl; exact rfl; exact rfl) rfl Try.sizeOf35 rfl rfl (fun w21 hC49 => ?_)
          try dsimp only [List.set] at hC49
          refine WL_nil ?_
          refine WA_done (by kernel_rfl) ?_
          have hq2 := Option.some.inj hr5
          subst hq2
          have hC50 : Ctx [] w0 _ [Item.box b3 [v6, (.int .i64 x13), (.int .i64 x14)], Item.box b5 [v6, (.int .i64 x13), (.int .i64 x14)], Item.own v6 (x12 : (List Int)), Item.box b4 [(.int .i64 x15), (.int .i64 x16), (.int .i64 x17), (.bool x18)], Item.box b2 [(.int .i64 x15), (.int .i64 x16), (.int .i64 x17), (.bool x18)]] := hC49.front 3 rfl
          have hC51 : Ctx [] w0 _ [Item.box b4 [(.int .i64 x15), (.int .i64 x16), (.int .i64 x17), (.bool x18)], Item.box b3 [v6, (.int .i64 x13), (.int .i64 x14)], Item.box b5 [v6, (.int .i64 x13), (.int .i64 x14)], Item.own v6 (x12 : (List Int)), Item.box b2 [(.int .i64 x15), (.int .i64 x16), (.int .i64 x17), (.bool x18)]] := hC50.front 3 rfl
          have hC52 : Ctx [] w0 _ [Item.own v6 (x12 : (List Int)), Item.box b4 [(.int .i64 x15), (.int .i64 x16), (.int .i64 x17), (.bool x18)], Item.box b3 [v6, (.int .i64 x13), (.int .i64 x14)], Item.box b5 [v6, (.int .i64 x13), (.int .i64 x14)], Item.box b2 [(.int .i64 x15), (.int .i64 x16), (.int .i64 x17), (.bool x18)]] := hC51.front 3 rfl
          have hC53 : Ctx [] w0 _ [Item.own v6 (x12 : (List Int)), Item.box b4 [(.int .i64 x15), (.int .i64 x16), (.int .i64 x17), (.bool x18)], Item.box b3 [v6, (.int .i64 x13), (.int .i64 x14)]] := hC52.headN 3
          refine nrm_sub (l' := [(6, (ptr b3 0)), (7, (ptr b4 0))]) ⟨rfl, rfl, trivial⟩ ?_
          exact ⟨x15, x16, x17, x18, v6, x12, x13, x14, rfl, rfl, hC53⟩
        · refine WL_store_box_agg (cs' := [v6, (.int .i64 x13), (.int .i64 x14)]) (new := [v6, (.int .i64 x13), (.int .i64 x14)]) hC47 3 rfl rfl (by intro v hv; simp only [List.mem_cons, List.not_mem_nil, or_false] at hv; rcases hv with rfl | rfl | rfl; exact (ro_one (hC47.ro 1 rfl)); exact rfl; exact rfl) rfl Try.sizeOf26 rfl rfl (fun w20 hC48 => ?_)
          try dsimp only [List.set] at hC48
          refine WL_nil ?_
          refine WA_one 1 (by kernel_rfl) rfl ?_
          refine WL_load_box_agg [(.int .i64 x15), (.int .i64 x16), (.int .i64 x17), (.bool x18)] hC48 4 rfl rfl rfl Try.isAgg35 Try.sizeOf35 rfl rfl ?_
          refine WL_nil ?_
          refine WA_one 3 (by kernel_rfl) rfl ?_
          refine WL_store_box_agg (cs' := [(.int .i64 x15), (.int .i64 x16), (.int .i64 x17), (.bool x18)]) (new := [(.int .i64 x15), (.int .i64 x16), (.int .i64 x17), (.bool x18)]) hC48 2 rfl rfl (by intro v hv; simp only [List.mem_cons, List.not_mem_nil, or_false] at hv; rcases hv with rfl | rfl | rfl | rfl; exact rfl; exact rfl; exact rfl; exact rfl) rfl Try.sizeOf35 rfl rfl (fun w21 hC49 => ?_)
          try dsimp only [List.set] at hC49
          refine WL_nil ?_
          refine WA_done (by kernel_rfl) ?_
          have hq2 := Option.some.inj hr5
          subst hq2
          have hC50 : Ctx [] w0 _ [Item.box b3 [v6, (.int .i64 x13), (.int .i64 x14)], Item.box b5 [v6, (.int .i64 x13), (.int .i64 x14)], Item.own v6 (x12 : (List Int)), Item.box b4 [(.int .i64 x15), (.int .i64 x16), (.int .i64 x17), (.bool x18)], Item.box b2 [(.int .i64 x15), (.int .i64 x16), (.int .i64 x17), (.bool x18)]] := hC49.front 3 rfl
          have hC51 : Ctx [] w0 _ [Item.box b4 [(.int .i64 x15), (.int .i64 x16), (.int .i64 x17), (.bool x18)], Item.box b3 [v6, (.int .i64 x13), (.int .i64 x14)], Item.box b5 [v6, (.int .i64 x13), (.int .i64 x14)], Item.own v6 (x12 : (List Int)), Item.box b2 [(.int .i64 x15), (.int .i64 x16), (.int .i64 x17), (.bool x18)]] := hC50.front 3 rfl
          have hC52 : Ctx [] w0 _ [Item.own v6 (x12 : (List Int)), Item.box b4 [(.int .i64 x15), (.int .i64 x16), (.int .i64 x17), (.bool x18)], Item.box b3 [v6, (.int .i64 x13), (.int .i64 x14)], Item.box b5 [v6, (.int .i64 x13), (.int .i64 x14)], Item.box b2 [(.int .i64 x15), (.int .i64 x16), (.int .i64 x17), (.bool x18)]] := hC51.front 3 rfl
          have hC53 : Ctx [] w0 _ [Item.own v6 (x12 : (List Int)), Item.box b4 [(.int .i64 x15), (.int .i64 x16), (.int .i64 x17), (.bool x18)], Item.box b3 [v6, (.int .i64 x13), (.int .i64 x14)]] := hC52.headN 3
          refine nrm_sub (l' := [(6, (ptr b3 0)), (7, (ptr b4 0))]) ⟨rfl, rfl, trivial⟩ ?_
          exact ⟨x15, x16, x17, x18, v6, x12, x13, x14, rfl, rfl, hC53⟩
    · rintro _ w16 ⟨x21, x22, x23, x24, v12, x25, x26, x27, rfl, rfl, hC45⟩
      try dsimp only at hF
      refine W_ret ?_
      have hq3 := Option.some.inj hF
      subst hq3
      refine fn_retG2 rfl (rv_cell_agg (cs' := [v12, (.int .i64 x26), (.int .i64 x27)]) hC45 (i := 2) rfl rfl rfl Try.isAgg26 Try.sizeOf26 rfl) (rv_cell_agg (cs' := [(.int .i64 x21), (.int .i64 x22), (.int .i64 x23), (.bool x24)]) hC45 (i := 1) rfl rfl rfl Try.isAgg35 Try.sizeOf35 rfl) ?_
      have hC54 := own_st35 x21 x22 x23 x24 hC45
      have hC56 : Ctx [] w0 _ [Item.own v12 (x25 : (List Int)), Item.own (.agg #[(.int .i64 x21), (.int .i64 x22), (.int .i64 x23), (.bool x24)]) ((x21, x22, x23, x24) : (Int × Int × Int × Bool)), Item.box b4 [(.int .i64 x21), (.int .i64 x22), (.int .i64 x23), (.bool x24)], Item.box b3 [v12, (.int .i64 x26), (.int .i64 x27)]] := hC54.front 1 rfl
      have hC55 := own_st26 v12 x25 x26 x27 hC56
      exact ⟨_, rfl, res2_of hC55⟩

theorem c_M_RunCalls {w0 : World} (a1 : ((List Int) × Int × Int)) (u1 : Value) (g1 : RO [] w0 u1 a1.1) (a2 : (List (Int × Int × Int × Bool))) (u2 : Value) (g2 : RO [] w0 u2 a2) (a3 : (List Int)) (u3 : Value) (g3 : RO [] w0 u3 a3) (rr : (((List Int) × Int × Int) × (List (Int × Int × Int × Bool)))) (hF : M.RunCalls a1 a2 a3 = some rr) :
    Calls Try.prog 44 [(.agg #[u1, (.int .i64 a1.2.1), (.int .i64 a1.2.2)]), u2, u3].toArray w0 fun e w' => ∃ v, e = .returned v ∧ Res2 w0 rr.1 rr.2 v w' := by
  refine calls_of_W Try.func44 rfl rfl ?_
  have hC0 := Ctx.start w0
  unfold M.RunCalls at hF
  refine W_seq_reg ?_
  refine WL_box (cs := [u1, (.int .i64 a1.2.1), (.int .i64 a1.2.2)]) hC0 rfl rfl rfl (fun b1 w1 hC1 hB1 => ?_)
  refine WL_alloc hC1 zero26 rfl rfl (fun b2 w2 hC2 hB2 => ?_)
  refine WL_assign rfl rfl ?_
  refine WL_nil ?_
  refine W_seq_reg ?_
  refine WL_load_box_agg [u1, (.int .i64 a1.2.1), (.int .i64 a1.2.2)] hC2 1 rfl rfl rfl Try.isAgg26 Try.sizeOf26 rfl rfl ?_
  obtain ⟨x1, hr1, hF⟩ := bind_some hF
  refine WL_call Try.call93 rfl rfl (c_M_copyLedger (a1.1, a1.2.1, a1.2.2) u1 (g1.now hC2.keep) x1 hr1) ?_
  rintro v1 w3 ⟨hB3, F1, hv1, hn1, hb1⟩
  have hC3 := hC2.push hB3 (A := Item.own v1 x1) hv1 hn1 hb1
  obtain ⟨v2, rfl, hC4⟩ := st26_own hC3
  refine WL_alloc hC4 zero26 rfl rfl (fun b3 w4 hC5 hB4 => ?_)
  refine WL_store_box_agg (cs' := [v2, (.int .i64 x1.2.1), (.int .i64 x1.2.2)]) (new := [v2, (.int .i64 x1.2.1), (.int .i64 x1.2.2)]) hC5 0 rfl rfl (by intro v hv; simp only [List.mem_cons, List.not_mem_nil, or_false] at hv; rcases hv with rfl | rfl | rfl; exact (ro_one (hC5.ro 1 rfl)); exact rfl; exact rfl) rfl Try.sizeOf26 rfl rfl (fun w5 hC6 => ?_)
  try dsimp only [List.set] at hC6
  refine WL_nil ?_
  refine W_seq_reg ?_
  refine WL_buildSlice (vs := []) hC6 Try.underlying60 ty35 rfl rfl rfl rfl (by simp) rfl rfl (fun b4 w6 hC7 hB5 => ?_)
  have hC8 := hC7.row0 (α := (Int × Int × Int × Bool))
  have hC9 := hC8.front 1 rfl
  dsimp only [List.eraseIdx, List.cons_append, List.nil_append, List.append_nil] at hC9
  have hC10 : Ctx [] w0 w6 (Item.own (.slice (some ⟨b4, 0, none⟩) 0 0) (([] : List (Int × Int × Int × Bool)) : List (Int × Int × Int × Bool)) :: [Item.box b3 [v2, (.int .i64 x1.2.1), (.int .i64 x1.2.2)], Item.own v2 (x1.1 : (List Int)), Item.box b2 [(.slice none 0 0), (.int .i64 0), (.int .i64 0)], Item.box b1 [u1, (.int .i64 a1.2.1), (.int .i64 a1.2.2)]]) := hC9.rowOwn (by simp [maxLen])
  refine WL_assign rfl rfl ?_
  refine WL_nil ?_
  refine W_seq ?_
  refine W_seq_reg ?_
  refine WL_move rfl rfl ?_
  refine WL_len Try.underlying60 g2 rfl rfl ?_
  refine WL_move rfl rfl ?_
  refine WL_nil ?_
  obtain ⟨r1, hr2, hF⟩ := bind_some hF
  refine W_norm (fun l w => ∃ v5 : Value, ∃ x7 : (List Int), ∃ x8 : Int, ∃ x9 : Int, ∃ v6 : Value, ∃ x10 : (List (Int × Int × Int × Bool)), (x7, x8, x9, x10) = r1 ∧ l = [(6, (ptr b2 0)), (8, (ptr b3 0)), (9, v6)] ∧ Ctx [] w0 w [Item.own v6 (x10 : (List (Int × Int × Int × Bool))), Item.box b3 [v5, (.int .i64 x8), (.int .i64 x9)], Item.own v5 (x7 : (List Int)), Item.box b2 [(.slice none 0 0), (.int .i64 0), (.int .i64 0)]]) ?_ ?_
  · refine W_block ?_
    have hC52 : Ctx [] w0 _ [Item.box b2 [(.slice none 0 0), (.int .i64 0), (.int .i64 0)], Item.own (.slice (some ⟨b4, 0, none⟩) 0 0) (([] : List (Int × Int × Int × Bool)) : (List (Int × Int × Int × Bool))), Item.box b3 [v2, (.int .i64 x1.2.1), (.int .i64 x1.2.2)], Item.own v2 (x1.1 : (List Int)), Item.box b1 [u1, (.int .i64 a1.2.1), (.int .i64 a1.2.2)]] := hC10.front 3 rfl
    have hC53 : Ctx [] w0 _ [Item.own v2 (x1.1 : (List Int)), Item.box b2 [(.slice none 0 0), (.int .i64 0), (.int .i64 0)], Item.own (.slice (some ⟨b4, 0, none⟩) 0 0) (([] : List (Int × Int × Int × Bool)) : (List (Int × Int × Int × Bool))), Item.box b3 [v2, (.int .i64 x1.2.1), (.int .i64 x1.2.2)], Item.box b1 [u1, (.int .i64 a1.2.1), (.int .i64 a1.2.2)]] := hC52.front 3 rfl
    have hC54 : Ctx [] w0 _ [Item.box b3 [v2, (.int .i64 x1.2.1), (.int .i64 x1.2.2)], Item.own v2 (x1.1 : (List Int)), Item.box b2 [(.slice none 0 0), (.int .i64 0), (.int .i64 0)], Item.own (.slice (some ⟨b4, 0, none⟩) 0 0) (([] : List (Int × Int × Int × Bool)) : (List (Int × Int × Int × Bool))), Item.box b1 [u1, (.int .i64 a1.2.1), (.int .i64 a1.2.2)]] := hC53.front 3 rfl
    have hC55 : Ctx [] w0 _ [Item.own (.slice (some ⟨b4, 0, none⟩) 0 0) (([] : List (Int × Int × Int × Bool)) : (List (Int × Int × Int × Bool))), Item.box b3 [v2, (.int .i64 x1.2.1), (.int .i64 x1.2.2)], Item.own v2 (x1.1 : (List Int)), Item.box b2 [(.slice none 0 0), (.int .i64 0), (.int .i64 0)], Item.box b1 [u1, (.int .i64 a1.2.1), (.int .i64 a1.2.2)]] := hC54.front 3 rfl
    have hC56 : Ctx [] w0 _ [Item.own (.slice (some ⟨b4, 0, none⟩) 0 0) (([] : List (Int × Int × Int × Bool)) : (List (Int × Int × Int × Bool))), Item.box b3 [v2, (.int .i64 x1.2.1), (.int .i64 x1.2.2)], Item.own v2 (x1.1 : (List Int)), Item.box b2 [(.slice none 0 0), (.int .i64 0), (.int .i64 0)]] := hC55.headN 4
    refine W.sub (l' := [(1, u2), (2, u3), (6, (ptr b2 0)), (8, (ptr b3 0)), (9, (.slice (some ⟨b4, 0, none⟩) 0 0)), (17, u2), (18, (.int .i64 (List.length a2 : Int))), (19, (.int .i64 0))]) ?_ ⟨rfl, rfl, rfl, rfl, rfl, rfl, rfl, rfl, trivial⟩
    refine W_loop (fun k l w => ∃ v3 : Value, ∃ x2 : (List Int), ∃ x3 : Int, ∃ x4 : Int, ∃ v4 : Value, ∃ x5 : (List (Int × Int × Int × Bool)), ∃ x6 : Int, l = [(1, u2), (2, u3), (6, (ptr b2 0)), (8, (ptr b3 0)), (9, v4), (17, u2), (18, (.int .i64 (List.length a2 : Int))), (19, (.int .i64 x6))] ∧ Ctx [] w0 w [Item.own v4 (x5 : (List (Int × Int × Int × Bool))), Item.box b3 [v3, (.int .i64 x3), (.int .i64 x4)], Item.own v3 (x2 : (List Int)), Item.box b2 [(.slice none 0 0), (.int .i64 0), (.int .i64 0)]] ∧ M.RunCalls_l1 a2 a3 k x2 x3 x4 x5 x6 = some r1) FUEL ⟨v2, x1.1, x1.2.1, x1.2.2, (.slice (some ⟨b4, 0, none⟩) 0 0), ([] : List (Int × Int × Int × Bool)), 0, rfl, hC56, hr2⟩ ?_
    clear hr2
    rintro k1 _ w7 ⟨v3, x2, x3, x4, v4, x5, x6, rfl, hC11, hL1⟩
    cases k1 with
    | zero => rw [M.RunCalls_l1] at hL1; cases hL1
    | succ k1 =>
      rw [M.RunCalls_l1] at hL1
      refine W_seq_reg ?_
      refine WL_lss rfl rfl rfl ?_
      refine WL_nil ?_
      refine W_seq ?_
      refine W_cond rfl (fun hc1 => ?_) (fun hc1 => ?_)
      · replace hL1 := ite_t hL1 hc1
        refine W_skip ?_
        refine nrm_normal ?_
        refine W_seq ?_
        refine W_block ?_
        refine W_seq_reg ?_
        refine WL_move rfl rfl ?_
        obtain ⟨x11, hx1, hL1⟩ := bind_some hL1
        refine WL_index Try.underlying60 ty35 g2 hx1 rfl rfl rfl (fun b5 o1 h1 => ?_)
        refine WL_load ty35 h1 hC11.keep rfl rfl (fun v7 h2 => ?_)
        obtain rfl := ro_st35 h2
        refine WL_alloc hC11 zero35 rfl rfl (fun b6 w8 hC12 hB7 => ?_)
        refine WL_assign rfl rfl ?_
        refine WL_store_box_agg (cs' := [(.int .i64 x11.1), (.int .i64 x11.2.1), (.int .i64 x11.2.2.1), (.bool x11.2.2.2)]) (new := [(.int .i64 x11.1), (.int .i64 x11.2.1), (.int .i64 x11.2.2.1), (.bool x11.2.2.2)]) hC12 0 rfl rfl (by intro v hv; simp only [List.mem_cons, List.not_mem_nil, or_false] at hv; rcases hv with rfl | rfl | rfl | rfl; exact rfl; exact rfl; exact rfl; exact rfl) rfl Try.sizeOf35 rfl rfl (fun w9 hC13 => ?_)
        try dsimp only [List.set] at hC13
        refine WL_nil ?_
        refine W_seq_reg ?_
        refine WL_buildSlice (vs := []) hC13 Try.underlying22 ty3 rfl rfl rfl rfl (by simp) rfl rfl (fun b7 w10 hC14 hB8 => ?_)
        have hC15 := hC14.row0 (α := Int)
        have hC16 := hC15.front 1 rfl
        dsimp only [List.eraseIdx, List.cons_append, List.nil_append, List.append_nil] at hC16
        have hC17 : Ctx [] w0 w10 (Item.own (.slice (some ⟨b7, 0, none⟩) 0 0) (([] : List Int) : List Int) :: [Item.box b6 [(.int .i64 x11.1), (.int .i64 x11.2.1), (.int .i64 x11.2.2.1), (.bool x11.2.2.2)], Item.own v4 (x5 : (List (Int × Int × Int × Bool))), Item.box b3 [v3, (.int .i64 x3), (.int .i64 x4)], Item.own v3 (x2 : (List Int)), Item.box b2 [(.slice none 0 0), (.int .i64 0), (.int .i64 0)]]) := hC16.rowOwn (by simp [maxLen])
        refine WL_assign rfl rfl ?_
        refine WL_nil ?_
        refine W_seq ?_
        refine W_seq_reg ?_
        refine WL_move rfl rfl ?_
        refine WL_assign rfl rfl ?_
        refine WL_nil ?_
        obtain ⟨r2, hr3, hL1⟩ := bind_some hL1
        refine W_norm (fun l w => ∃ v9 : Value, ∃ x14 : (List Int), x14 = r2 ∧ l = [(1, u2), (2, u3), (6, (ptr b2 0)), (8, (ptr b3 0)), (9, v4), (11, (ptr b6 0)), (12, v9), (17, u2), (18, (.int .i64 (List.length a2 : Int))), (19, (.int .i64 x6))] ∧ Ctx [] w0 w [Item.own v9 (x14 : (List Int)), Item.box b6 [(.int .i64 x11.1), (.int .i64 x11.2.1), (.int .i64 x11.2.2.1), (.bool x11.2.2.2)], Item.own v4 (x5 : (List (Int × Int × Int × Bool))), Item.box b3 [v3, (.int .i64 x3), (.int .i64 x4)], Item.own v3 (x2 : (List Int)), Item.box b2 [(.slice none 0 0), (.int .i64 0), (.int .i64 0)]]) ?_ ?_
        · refine W_block ?_
          refine W.sub (l' := [(1, u2), (2, u3), (6, (ptr b2 0)), (8, (ptr b3 0)), (9, v4), (11, (ptr b6 0)), (12, (.slice (some ⟨b7, 0, none⟩) 0 0)), (13, (.int .i64 x6)), (17, u2), (18, (.int .i64 (List.length a2 : Int))), (19, (.int .i64 x6))]) ?_ ⟨rfl, rfl, rfl, rfl, rfl, rfl, rfl, rfl, rfl, rfl, rfl, trivial⟩
          refine W_loop (fun k l w => ∃ v8 : Value, ∃ x12 : (List Int), ∃ x13 : Int, l = [(1, u2), (2, u3), (6, (ptr b2 0)), (8, (ptr b3 0)), (9, v4), (11, (ptr b6 0)), (12, v8), (13, (.int .i64 x13)), (17, u2), (18, (.int .i64 (List.length a2 : Int))), (19, (.int .i64 x6))] ∧ Ctx [] w0 w [Item.own v8 (x12 : (List Int)), Item.box b6 [(.int .i64 x11.1), (.int .i64 x11.2.1), (.int .i64 x11.2.2.1), (.bool x11.2.2.2)], Item.own v4 (x5 : (List (Int × Int × Int × Bool))), Item.box b3 [v3, (.int .i64 x3), (.int .i64 x4)], Item.own v3 (x2 : (List Int)), Item.box b2 [(.slice none 0 0), (.int .i64 0), (.int .i64 0)]] ∧ M.RunCalls_l2 a3 a2 k x12 x13 = some r2) FUEL ⟨(.slice (some ⟨b7, 0, none⟩) 0 0), ([] : List Int), x6, rfl, hC17, hr3⟩ ?_
          clear hr3
          rintro k2 _ w11 ⟨v8, x12, x13, rfl, hC18, hL2⟩
          cases k2 with
          | zero => rw [M.RunCalls_l2] at hL2; cases hL2
          | succ k2 =>
            rw [M.RunCalls_l2] at hL2
            refine W_seq ?_
            refine W_seq_reg ?_
            refine WL_move rfl rfl ?_
            refine WL_move rfl rfl ?_
            refine WL_len Try.underlying22 g3 rfl rfl ?_
            refine WL_lss rfl rfl rfl ?_
            refine WL_nil ?_
            refine W_cond rfl (fun hc2 => ?_) (fun hc2 => ?_)
            · replace hL2 := ite_t hL2 hc2
              refine W_skip ?_
              refine nrm_normal ?_
              refine W_seq ?_
              refine W_block ?_
              refine W_reg ?_
              refine WL_move rfl rfl ?_
              refine WL_move rfl rfl ?_
              refine WL_move rfl rfl ?_
              obtain ⟨x15, hx2, hL2⟩ := bind_some hL2
              refine WL_index Try.underlying22 ty3 g3 hx2 rfl rfl rfl (fun b8 o2 h3 => ?_)
              refine WL_load ty3 h3 hC18.keep rfl rfl (fun v10 h4 => ?_)
              obtain rfl := ro_int h4
              refine WL_buildSlice (vs := [(.int .i64 x15)]) hC18 Try.underlying22 ty3 rfl rfl rfl rfl (by intro v hv; simp only [List.mem_cons, List.not_mem_nil, or_false] at hv; rcases hv with rfl <;> rfl) rfl rfl (fun b9 w12 hC19 hB10 => ?_)
              have hC20 := hC19.row0 (α := Int)
              have hC21 := hC20.triv (int_val (x15))
              have hC22 := hC21.row1
              have hC23 := hC22.front 1 rfl
              dsimp only [List.eraseIdx, List.cons_append, List.nil_append, List.append_nil] at hC23
              have hC24 : Ctx [] w0 w12 (Item.own (.slice (some ⟨b9, 0, none⟩) 1 1) ([x15] : List Int) :: [Item.own v8 (x12 : (List Int)), Item.box b6 [(.int .i64 x11.1), (.int .i64 x11.2.1), (.int .i64 x11.2.2.1), (.bool x11.2.2.2)], Item.own v4 (x5 : (List (Int × Int × Int × Bool))), Item.box b3 [v3, (.int .i64 x3), (.int .i64 x4)], Item.own v3 (x2 : (List Int)), Item.box b2 [(.slice none 0 0), (.int .i64 0), (.int .i64 0)]]) := hC23.rowOwn (by simp [maxLen])
              obtain ⟨x16, hx3, hL2⟩ := bind_some hL2
              refine WL_append_flat (α := Int) hC24 1 rfl (hC24.ro 0 rfl) (Keep.refl _ _) Try.underlying22 ty3 rfl hx3 rfl rfl rfl (fun v11 w13 hC25 => ?_)
              try dsimp only [List.set] at hC25
              refine WL_assign rfl rfl ?_
              refine WL_nil ?_
              refine blk_normal ?_
              refine nrm_normal ?_
              refine W_reg ?_
              refine WL_move rfl rfl ?_
              refine WL_move rfl rfl ?_
              refine WL_len Try.underlying60 g2 rfl rfl ?_
              refine WL_add rfl rfl rfl ?_
              refine WL_assign rfl rfl ?_
              refine WL_nil ?_
              have hC26 : Ctx [] w0 _ [Item.box b2 [(.slice none 0 0), (.int .i64 0), (.int .i64 0)], Item.own (.slice (some ⟨b9, 0, none⟩) 1 1) ([x15] : (List Int)), Item.own v11 (x16 : (List Int)), Item.box b6 [(.int .i64 x11.1), (.int .i64 x11.2.1), (.int .i64 x11.2.2.1), (.bool x11.2.2.2)], Item.own v4 (x5 : (List (Int × Int × Int × Bool))), Item.box b3 [v3, (.int .i64 x3), (.int .i64 x4)], Item.own v3 (x2 : (List Int))] := hC25.front 6 rfl
              have hC27 : Ctx [] w0 _ [Item.own v3 (x2 : (List Int)), Item.box b2 [(.slice none 0 0), (.int .i64 0), (.int .i64 0)], Item.own (.slice (some ⟨b9, 0, none⟩) 1 1) ([x15] : (List Int)), Item.own v11 (x16 : (List Int)), Item.box b6 [(.int .i64 x11.1), (.int .i64 x11.2.1), (.int .i64 x11.2.2.1), (.bool x11.2.2.2)], Item.own v4 (x5 : (List (Int × Int × Int × Bool))), Item.box b3 [v3, (.int .i64 x3), (.int .i64 x4)]] := hC26.front 6 rfl
              have hC28 : Ctx [] w0 _ [Item.box b3 [v3, (.int .i64 x3), (.int .i64 x4)], Item.own v3 (x2 : (List Int)), Item.box b2 [(.slice none 0 0), (.int .i64 0), (.int .i64 0)], Item.own (.slice (some ⟨b9, 0, none⟩) 1 1) ([x15] : (List Int)), Item.own v11 (x16 : (List Int)), Item.box b6 [(.int .i64 x11.1), (.int .i64 x11.2.1), (.int .i64 x11.2.2.1), (.bool x11.2.2.2)], Item.own v4 (x5 : (List (Int × Int × Int × Bool)))] := hC27.front 6 rfl
              have hC29 : Ctx [] w0 _ [Item.own v4 (x5 : (List (Int × Int × Int × Bool))), Item.box b3 [v3, (.int .i64 x3), (.int .i64 x4)], Item.own v3 (x2 : (List Int)), Item.box b2 [(.slice none 0 0), (.int .i64 0), (.int .i64 0)], Item.own (.slice (some ⟨b9, 0, none⟩) 1 1) ([x15] : (List Int)), Item.own v11 (x16 : (List Int)), Item.box b6 [(.int .i64 x11.1), (.int .i64 x11.2.1), (.int .i64 x11.2.2.1), (.bool x11.2.2.2)]] := hC28.front 6 rfl
              have hC30 : Ctx [] w0 _ [Item.box b6 [(.int .i64 x11.1), (.int .i64 x11.2.1), (.int .i64 x11.2.2.1), (.bool x11.2.2.2)], Item.own v4 (x5 : (List (Int × Int × Int × Bool))), Item.box b3 [v3, (.int .i64 x3), (.int .i64 x4)], Item.own v3 (x2 : (List Int)), Item.box b2 [(.slice none 0 0), (.int .i64 0), (.int .i64 0)], Item.own (.slice (some ⟨b9, 0, none⟩) 1 1) ([x15] : (List Int)), Item.own v11 (x16 : (List Int))] := hC29.front 6 rfl
              have hC31 : Ctx [] w0 _ [Item.own v11 (x16 : (List Int)), Item.box b6 [(.int .i64 x11.1), (.int .i64 x11.2.1), (.int .i64 x11.2.2.1), (.bool x11.2.2.2)], Item.own v4 (x5 : (List (Int × Int × Int × Bool))), Item.box b3 [v3, (.int .i64 x3), (.int .i64 x4)], Item.own v3 (x2 : (List Int)), Item.box b2 [(.slice none 0 0), (.int .i64 0), (.int .i64 0)], Item.own (.slice (some ⟨b9, 0, none⟩) 1 1) ([x15] : (List Int))] := hC30.front 6 rfl
              have hC32 : Ctx [] w0 _ [Item.own v11 (x16 : (List Int)), Item.box b6 [(.int .i64 x11.1), (.int .i64 x11.2.1), (.int .i64 x11.2.2.1), (.bool x11.2.2.2)], Item.own v4 (x5 : (List (Int × Int × Int × Bool))), Item.box b3 [v3, (.int .i64 x3), (.int .i64 x4)], Item.own v3 (x2 : (List Int)), Item.box b2 [(.slice none 0 0), (.int .i64 0), (.int .i64 0)]] := hC31.headN 6
              refine nrm_sub (l' := [(1, u2), (2, u3), (6, (ptr b2 0)), (8, (ptr b3 0)), (9, v4), (11, (ptr b6 0)), (12, v11), (13, (.int .i64 (w64 (x13 + (List.length a2 : Int))))), (17, u2), (18, (.int .i64 (List.length a2 : Int))), (19, (.int .i64 x6))]) ⟨rfl, rfl, rfl, rfl, rfl, rfl, rfl, rfl, rfl, rfl, rfl, trivial⟩ ?_
              exact ⟨k2, Nat.lt_succ_self _, v11, x16, w64 (x13 + (List.length a2 : Int)), rfl, hC32, hL2⟩
            · replace hL2 := ite_f hL2 hc2
              refine W_exit ?_
              refine nrm_exit ?_
              refine nrm_exit ?_
              refine blk_exit ?_
              have hq1 := Option.some.inj hL2
              subst hq1
              refine nrm_sub (l' := [(1, u2), (2, u3), (6, (ptr b2 0)), (8, (ptr b3 0)), (9, v4), (11, (ptr b6 0)), (12, v8), (17, u2), (18, (.int .i64 (List.length a2 : Int))), (19, (.int .i64 x6))]) ⟨rfl, rfl, rfl, rfl, rfl, rfl, rfl, rfl, rfl, rfl, trivial⟩ ?_
              exact ⟨v8, x12, rfl, rfl, hC18⟩
        · rintro l3 _ w14 hs3 ⟨v9, x14, rfl, rfl, hC33⟩
          try dsimp only at hL1
          refine nrm_sub' hs3 ?_
          clear hs3
          refine W_seq_reg ?_
          refine WL_load_box_agg [v3, (.int .i64 x3), (.int .i64 x4)] hC33 3 rfl rfl rfl Try.isAgg26 Try.sizeOf26 rfl rfl ?_
          refine WL_load_box_agg [(.int .i64 x11.1), (.int .i64 x11.2.1), (.int .i64 x11.2.2.1), (.bool x11.2.2.2)] hC33 1 rfl rfl rfl Try.isAgg35 Try.sizeOf35 rfl rfl ?_
          refine WL_move rfl rfl ?_
          obtain ⟨x17, hr4, hL1⟩ := bind_some hL1
          refine WL_call Try.call38 rfl rfl (c_M_FinishCall (x2, x3, x4) v3 ((hC33.ro 4 rfl).now (Keep.refl _ _)) (x11.1, x11.2.1, x11.2.2.1, x11.2.2.2) x14 v9 ((hC33.ro 0 rfl).now (Keep.refl _ _)) x17 hr4) ?_
          rintro _ w15 ⟨hB12, v12, v13, F2, F3, rfl, hv2, hv3, hn2, hb2⟩
          have hC34 := hC33.pushL hB12 (Bs := [Item.own v12 x17.1, Item.own v13 x17.2]) (Fs := [F2, F3]) ⟨F2, _, rfl, hv2, F3, _, rfl, hv3, rfl⟩ (by simpa using hn2) (fun b h => hb2 b (by simpa using h))
          obtain ⟨v14, rfl, hC35⟩ := st26_own hC34
          have hC36 : Ctx [] w0 _ [Item.own v13 (x17.2 : (Int × Int × Int × Bool)), Item.own v14 (x17.1.1 : (List Int)), Item.own v9 (x14 : (List Int)), Item.box b6 [(.int .i64 x11.1), (.int .i64 x11.2.1), (.int .i64 x11.2.2.1), (.bool x11.2.2.2)], Item.own v4 (x5 : (List (Int × Int × Int × Bool))), Item.box b3 [v3, (.int .i64 x3), (.int .i64 x4)], Item.own v3 (x2 : (List Int)), Item.box b2 [(.slice none 0 0), (.int .i64 0), (.int .i64 0)]] := hC35.front 1 rfl
          obtain ⟨rfl, hC37⟩ := st35_own hC36
          refine WL_move rfl rfl ?_
          refine WL_extract rfl rfl rfl ?_
          refine WL_extract rfl rfl rfl ?_
          refine WL_store_box_agg (cs' := [v14, (.int .i64 x17.1.2.1), (.int .i64 x17.1.2.2)]) (new := [v14, (.int .i64 x17.1.2.1), (.int .i64 x17.1.2.2)]) hC37 4 rfl rfl (by intro v hv; simp only [List.mem_cons, List.not_mem_nil, or_false] at hv; rcases hv with rfl | rfl | rfl; exact (ro_one (hC37.ro 0 rfl)); exact rfl; exact rfl) rfl Try.sizeOf26 rfl rfl (fun w16 hC38 => ?_)
          try dsimp only [List.set] at hC38
          refine WL_store_box_agg (cs' := [(.int .i64 x17.2.1), (.int .i64 x17.2.2.1), (.int .i64 x17.2.2.2.1), (.bool x17.2.2.2.2)]) (new := [(.int .i64 x17.2.1), (.int .i64 x17.2.2.1), (.int .i64 x17.2.2.2.1), (.bool x17.2.2.2.2)]) hC38 2 rfl rfl (by intro v hv; simp only [List.mem_cons, List.not_mem_nil, or_false] at hv; rcases hv with rfl | rfl | rfl | rfl; exact rfl; exact rfl; exact rfl; exact rfl) rfl Try.sizeOf35 rfl rfl (fun w17 hC39 => ?_)
          try dsimp only [List.set] at hC39
          refine WL_nil ?_
          refine W_reg ?_
          refine WL_move rfl rfl ?_
          refine WL_load_box_agg [(.int .i64 x17.2.1), (.int .i64 x17.2.2.1), (.int .i64 x17.2.2.2.1), (.bool x17.2.2.2.2)] hC39 2 rfl rfl rfl Try.isAgg35 Try.sizeOf35 rfl rfl ?_
          refine WL_buildSlice (vs := [(.agg #[(.int .i64 x17.2.1), (.int .i64 x17.2.2.1), (.int .i64 x17.2.2.2.1), (.bool x17.2.2.2.2)])]) hC39 Try.underlying60 ty35 rfl rfl rfl rfl (by intro v hv; simp only [List.mem_cons, List.not_mem_nil, or_false] at hv; rcases hv with rfl <;> rfl) rfl rfl (fun b10 w18 hC40 hB13 => ?_)
          have hC41 := hC40.row0 (α := (Int × Int × Int × Bool))
          have hC42 := own_st35 x17.2.1 x17.2.2.1 x17.2.2.2.1 x17.2.2.2.2 hC41
          have hC43 := hC42.row1
          have hC44 := hC43.front 1 rfl
          dsimp only [List.eraseIdx, List.cons_append, List.nil_append, List.append_nil] at hC44
          have hC45 : Ctx [] w0 w18 (Item.own (.slice (some ⟨b10, 0, none⟩) 1 1) ([(x17.2.1, x17.2.2.1, x17.2.2.2.1, x17.2.2.2.2)] : List (Int × Int × Int × Bool)) :: [Item.own v14 (x17.1.1 : (List Int)), Item.own v9 (x14 : (List Int)), Item.box b6 [(.int .i64 x17.2.1), (.int .i64 x17.2.2.1), (.int .i64 x17.2.2.2.1), (.bool x17.2.2.2.2)], Item.own v4 (x5 : (List (Int × Int × Int × Bool))), Item.box b3 [v14, (.int .i64 x17.1.2.1), (.int .i64 x17.1.2.2)], Item.own v3 (x2 : (List Int)), Item.box b2 [(.slice none 0 0), (.int .i64 0), (.int .i64 0)]]) := hC44.rowOwn (by simp [maxLen])
          obtain ⟨x18, hx4, hL1⟩ := bind_some hL1
          refine WL_append_flat (α := (Int × Int × Int × Bool)) hC45 4 rfl (hC45.ro 0 rfl) (Keep.refl _ _) Try.underlying60 ty35 rfl hx4 rfl rfl rfl (fun v15 w19 hC46 => ?_)
          try dsimp only [List.set] at hC46
          refine WL_assign rfl rfl ?_
          refine WL_nil ?_
          refine blk_normal ?_
          refine nrm_normal ?_
          refine W_reg ?_
          refine WL_add rfl rfl rfl ?_
          refine WL_move rfl rfl ?_
          refine WL_nil ?_
          have hC47 : Ctx [] w0 _ [Item.box b2 [(.slice none 0 0), (.int .i64 0), (.int .i64 0)], Item.own (.slice (some ⟨b10, 0, none⟩) 1 1) ([(x17.2.1, x17.2.2.1, x17.2.2.2.1, x17.2.2.2.2)] : (List (Int × Int × Int × Bool))), Item.own v14 (x17.1.1 : (List Int)), Item.own v9 (x14 : (List Int)), Item.box b6 [(.int .i64 x17.2.1), (.int .i64 x17.2.2.1), (.int .i64 x17.2.2.2.1), (.bool x17.2.2.2.2)], Item.own v15 (x18 : (List (Int × Int × Int × Bool))), Item.box b3 [v14, (.int .i64 x17.1.2.1), (.int .i64 x17.1.2.2)], Item.own v3 (x2 : (List Int))] := hC46.front 7 rfl
          have hC48 : Ctx [] w0 _ [Item.own v14 (x17.1.1 : (List Int)), Item.box b2 [(.slice none 0 0), (.int .i64 0), (.int .i64 0)], Item.own (.slice (some ⟨b10, 0, none⟩) 1 1) ([(x17.2.1, x17.2.2.1, x17.2.2.2.1, x17.2.2.2.2)] : (List (Int × Int × Int × Bool))), Item.own v9 (x14 : (List Int)), Item.box b6 [(.int .i64 x17.2.1), (.int .i64 x17.2.2.1), (.int .i64 x17.2.2.2.1), (.bool x17.2.2.2.2)], Item.own v15 (x18 : (List (Int × Int × Int × Bool))), Item.box b3 [v14, (.int .i64 x17.1.2.1), (.int .i64 x17.1.2.2)], Item.own v3 (x2 : (List Int))] := hC47.front 2 rfl
          have hC49 : Ctx [] w0 _ [Item.box b3 [v14, (.int .i64 x17.1.2.1), (.int .i64 x17.1.2.2)], Item.own v14 (x17.1.1 : (List Int)), Item.box b2 [(.slice none 0 0), (.int .i64 0), (.int .i64 0)], Item.own (.slice (some ⟨b10, 0, none⟩) 1 1) ([(x17.2.1, x17.2.2.1, x17.2.2.2.1, x17.2.2.2.2)] : (List (Int × Int × Int × Bool))), Item.own v9 (x14 : (List Int)), Item.box b6 [(.int .i64 x17.2.1), (.int .i64 x17.2.2.1), (.int .i64 x17.2.2.2.1), (.bool x17.2.2.2.2)], Item.own v15 (x18 : (List (Int × Int × Int × Bool))), Item.own v3 (x2 : (List Int))] := hC48.front 6 rfl
          have hC50 : Ctx [] w0 _ [Item.own v15 (x18 : (List (Int × Int × Int × Bool))), Item.box b3 [v14, (.int .i64 x17.1.2.1), (.int .i64 x17.1.2.2)], Item.own v14 (x17.1.1 : (List Int)), Item.box b2 [(.slice none 0 0), (.int .i64 0), (.int .i64 0)], Item.own (.slice (some ⟨b10, 0, none⟩) 1 1) ([(x17.2.1, x17.2.2.1, x17.2.2.2.1, x17.2.2.2.2)] : (List (Int × Int × Int × Bool))), Item.own v9 (x14 : (List Int)), Item.box b6 [(.int .i64 x17.2.1), (.int .i64 x17.2.2.1), (.int .i64 x17.2.2.2.1), (.bool x17.2.2.2.2)], Item.own v3 (x2 : (List Int))] := hC49.front 6 rfl
          have hC51 : Ctx [] w0 _ [Item.own v15 (x18 : (List (Int × Int × Int × Bool))), Item.box b3 [v14, (.int .i64 x17.1.2.1), (.int .i64 x17.1.2.2)], Item.own v14 (x17.1.1 : (List Int)), Item.box b2 [(.slice none 0 0), (.int .i64 0), (.int .i64 0)]] := hC50.headN 4
          refine nrm_sub (l' := [(1, u2), (2, u3), (6, (ptr b2 0)), (8, (ptr b3 0)), (9, v15), (17, u2), (18, (.int .i64 (List.length a2 : Int))), (19, (.int .i64 (w64 (x6 + 1))))]) ⟨rfl, rfl, rfl, rfl, rfl, rfl, rfl, rfl, trivial⟩ ?_
          exact ⟨k1, Nat.lt_succ_self _, v14, x17.1.1, x17.1.2.1, x17.1.2.2, v15, x18, w64 (x6 + 1), rfl, hC51, hL1⟩
      · replace hL1 := ite_f hL1 hc1
        refine W_exit ?_
        refine nrm_exit ?_
        refine nrm_exit ?_
        refine blk_exit ?_
        have hq2 := Option.some.inj hL1
        subst hq2
        refine nrm_sub (l' := [(6, (ptr b2 0)), (8, (ptr b3 0)), (9, v4)]) ⟨rfl, rfl, rfl, trivial⟩ ?_
        exact ⟨v3, x2, x3, x4, v4, x5, rfl, rfl, hC11⟩
  · rintro l4 _ w20 hs4 ⟨v5, x7, x8, x9, v6, x10, rfl, rfl, hC57⟩
    try dsimp only at hF
    refine nrm_sub' hs4 ?_
    clear hs4
    refine W_seq_reg ?_
    refine WL_load_box_agg [v5, (.int .i64 x8), (.int .i64 x9)] hC57 1 rfl rfl rfl Try.isAgg26 Try.sizeOf26 rfl rfl ?_
    refine WL_move rfl rfl ?_
    refine WL_store_box_agg (cs' := [v5, (.int .i64 x8), (.int .i64 x9)]) (new := [v5, (.int .i64 x8), (.int .i64 x9)]) hC57 3 rfl rfl (by intro v hv; simp only [List.mem_cons, List.not_mem_nil, or_false] at hv; rcases hv with rfl | rfl | rfl; exact (ro_one (hC57.ro 2 rfl)); exact rfl; exact rfl) rfl Try.sizeOf26 rfl rfl (fun w21 hC58 => ?_)
    try dsimp only [List.set] at hC58
    refine WL_assign rfl rfl ?_
    refine WL_nil ?_
    refine W_ret ?_
    have hq3 := Option.some.inj hF
    subst hq3
    refine fn_retG2 rfl (rv_cell_agg (cs' := [v5, (.int .i64 x8), (.int .i64 x9)]) hC58 (i := 3) rfl rfl rfl Try.isAgg26 Try.sizeOf26 rfl) (rv_tmp rfl) ?_
    have hC61 : Ctx [] w0 _ [Item.own v5 (x7 : (List Int)), Item.own v6 (x10 : (List (Int × Int × Int × Bool))), Item.box b3 [v5, (.int .i64 x8), (.int .i64 x9)], Item.box b2 [v5, (.int .i64 x8), (.int .i64 x9)]] := hC58.front 2 rfl
    have hC60 := own_st26 v5 x7 x8 x9 hC61
    exact ⟨_, rfl, res2_of hC60⟩

theorem c_S_l1In {w0 : World} (a1 : Int) (a2 : Int) (a3 : Int) (rr : Bool) (hF : S.l1In a1 a2 a3 = some rr) :
    Calls Try.prog 90 [(.int .i64 a1), (.int .i64 a2), (.int .i64 a3)].toArray w0 fun e w' => ∃ v, e = .returned v ∧ Res w0 rr v w' := by
  refine calls_of_W Try.func90 rfl rfl ?_
  have hC0 := Ctx.start w0
  unfold S.l1In at hF
  refine W_seq_reg ?_
  refine WL_assign rfl rfl ?_
  refine WL_nil ?_
  obtain ⟨r1, hr1, hF⟩ := bind_some hF
  refine W_cut (fun l w => ∃ x1 : Bool, x1 = r1 ∧ l = [(6, (.bool x1))] ∧ Below w0.heap.size w0 w ∧ Ctx [] w0 w []) ?_ ?_
  · refine W_reg ?_
    refine WL_move rfl rfl ?_
    refine WL_move rfl rfl ?_
    refine WL_geq rfl rfl rfl ?_
    refine WL_move rfl rfl ?_
    refine WL_fork (fun hc1 => ?_) (fun hc1 => ?_)
    · replace hr1 := ite_t hr1 hc1
      refine WL_guard rfl rfl ?_
      refine WL_move rfl rfl ?_
      refine WL_guard rfl rfl ?_
      refine WL_move rfl rfl ?_
      refine WL_guard rfl rfl ?_
      refine WL_leq rfl rfl rfl ?_
      refine WL_pick_t rfl rfl rfl ?_
      refine WL_assign rfl rfl ?_
      refine WL_nil ?_
      have hq1 := Option.some.inj hr1
      subst hq1
      refine nrm_sub (l' := [(6, (.bool (decide (a1 ≤ a3))))]) ⟨rfl, trivial⟩ ?_
      exact ⟨(decide (a1 ≤ a3)), rfl, rfl, (Below.refl _ _), hC0⟩
    · replace hr1 := ite_f hr1 hc1
      refine WL_guard_skip rfl rfl (by simp) rfl ?_
      refine WL_guard_skip rfl rfl (by simp) rfl ?_
      refine WL_guard_skip rfl rfl (by simp) rfl ?_
      refine WL_pick_f rfl rfl rfl ?_
      refine WL_assign rfl rfl ?_
      refine WL_nil ?_
      have hq2 := Option.some.inj hr1
      subst hq2
      refine nrm_sub (l' := [(6, (.bool false))]) ⟨rfl, trivial⟩ ?_
      exact ⟨false, rfl, rfl, (Below.refl _ _), hC0⟩
  · rintro _ w1 ⟨x1, rfl, rfl, hB1, hC1⟩
    try dsimp only at hF
    refine W_ret ?_
    have hq3 := Option.some.inj hF
    subst hq3
    refine fn_ret1 rfl rfl ?_
    exact ⟨_, rfl, bool_res hC1 _⟩

theorem c_S_IsLedger {w0 : World} (a1 : ((List Int) × Int × Int)) (u1 : Value) (g1 : RO [] w0 u1 a1.1) (rr : Bool) (hF : S.IsLedger a1 = some rr) :
    Calls Try.prog 42 [(.agg #[u1, (.int .i64 a1.2.1), (.int .i64 a1.2.2)])].toArray w0 fun e w' => ∃ v, e = .returned v ∧ Res w0 rr v w' := by
  refine calls_of_W Try.func42 rfl rfl ?_
  have hC0 := Ctx.start w0
  unfold S.IsLedger at hF
  refine W_seq_reg ?_
  refine WL_box (cs := [u1, (.int .i64 a1.2.1), (.int .i64 a1.2.2)]) hC0 rfl rfl rfl (fun b1 w1 hC1 hB1 => ?_)
  refine WL_assign rfl rfl ?_
  refine WL_nil ?_
  refine W_seq ?_
  refine W_seq_reg ?_
  refine WL_assign rfl rfl ?_
  refine WL_nil ?_
  obtain ⟨r1, hr1, hF⟩ := bind_some hF
  refine W_norm (fun l w => .inl () = r1 ∧ l = [(1, (ptr b1 0))] ∧ Below w1.heap.size w1 w ∧ Ctx [] w0 w [Item.box b1 [u1, (.int .i64 a1.2.1), (.int .i64 a1.2.2)]]) ?_ ?_
  · refine W_block ?_
    refine W.sub (l' := [(1, (ptr b1 0)), (3, (.int .i64 0))]) ?_ ⟨rfl, rfl, trivial⟩
    refine W_loop (fun k l w => ∃ x1 : Int, l = [(1, (ptr b1 0)), (3, (.int .i64 x1))] ∧ Below w1.heap.size w1 w ∧ Ctx [] w0 w [Item.box b1 [u1, (.int .i64 a1.2.1), (.int .i64 a1.2.2)]] ∧ S.IsLedger_l1 a1 k x1 = some r1) FUEL ⟨0, rfl, (Below.refl _ _), hC1, hr1⟩ ?_
    clear hr1
    rintro k1 _ w2 ⟨x1, rfl, hB2, hC2, hL1⟩
    cases k1 with
    | zero => rw [S.IsLedger_l1] at hL1; cases hL1
    | succ k1 =>
      rw [S.IsLedger_l1] at hL1
      refine W_seq ?_
      refine W_seq_reg ?_
      refine WL_move rfl rfl ?_
      refine WL_field Try.underlying26 rfl rfl (fun w => ⟨_, Try.sizeOf22 w⟩) rfl rfl ?_
      refine WL_load_box hC2 0 rfl rfl Try.isAgg22 rfl rfl ?_
      refine WL_len Try.underlying22 g1 rfl rfl ?_
      refine WL_lss rfl rfl rfl ?_
      refine WL_nil ?_
      refine W_cond rfl (fun hc1 => ?_) (fun hc1 => ?_)
      · replace hL1 := ite_t hL1 hc1
        refine W_skip ?_
        refine nrm_normal ?_
        refine W_seq ?_
        refine W_block ?_
        obtain ⟨r2, hr2, hL1⟩ := bind_some hL1
        refine W_cut (fun l w => ∃ x2 : Bool, x2 = r2 ∧ l = [(1, (ptr b1 0)), (3, (.int .i64 x1)), (35, (.bool x2))] ∧ Below w2.heap.size w2 w ∧ Ctx [] w0 w [Item.box b1 [u1, (.int .i64 a1.2.1), (.int .i64 a1.2.2)]]) ?_ ?_
        · refine W_drawn 25 rfl hmix (fun w4 hB4 => ?_)
          have hC4 := hC2.grow hB4
          refine WA_take 0 rfl (by kernel_rfl) (by kernel_rfl) (by kernel_rfl) rfl (fl_field Try.underlying26 rfl rfl (fun w => ⟨_, Try.sizeOf22 w⟩) rfl) ?_
          refine WL_field Try.underlying26 rfl rfl (fun w => ⟨_, Try.sizeOf22 w⟩) rfl rfl ?_
          refine WL_nil ?_
          refine WA_take 2 rfl (by kernel_rfl) (by kernel_rfl) (by kernel_rfl) rfl (fl_move rfl) ?_
          refine WL_move rfl rfl ?_
          refine WL_nil ?_
          refine WA_one 1 (by kernel_rfl) rfl ?_
          refine WL_load_box hC4 0 rfl rfl Try.isAgg22 rfl rfl ?_
          refine WL_nil ?_
          obtain ⟨x3, hx1, hr2⟩ := bind_some hr2
          refine WA_take 3 rfl (by kernel_rfl) (by kernel_rfl) (by kernel_rfl) rfl (fl_index Try.underlying22 ty3 g1 hx1 rfl rfl) ?_
          refine WL_index Try.underlying22 ty3 g1 hx1 rfl rfl rfl (fun b2 o1 h1 => ?_)
          refine WL_nil ?_
          refine WA_one 4 (by kernel_rfl) rfl ?_
          refine WL_load ty3 h1 hC4.keep rfl rfl (fun v1 h2 => ?_)
          obtain rfl := ro_int h2
          refine WL_nil ?_
          obtain ⟨x4, hr3, hr2⟩ := bind_some hr2
          refine WA_one 5 (by kernel_rfl) rfl ?_
          refine WL_call Try.call90 rfl rfl (c_S_l1In x3 0 1000000 x4 hr3) ?_
          intro _ w5 hv1
          obtain ⟨rfl, hB5⟩ := res_bool hv1
          have hC5 := hC4.grow hB5
          refine WL_nil ?_
          refine WA_take 6 rfl (by kernel_rfl) (by kernel_rfl) (by kernel_rfl) rfl (fl_not rfl) ?_
          refine WL_not rfl rfl ?_
          refine WL_nil ?_
          refine WA_take 7 rfl (by kernel_rfl) (by kernel_rfl) (by kernel_rfl) rfl (fl_move rfl) ?_
          refine WL_move rfl rfl ?_
          refine WL_nil ?_
          refine WA_fork (fun hc2 => ?_) (fun hc2 => ?_)
          · replace hr2 := ite_t hr2 hc2
            refine WA_skip 8 rfl (by kernel_rfl) (by kernel_rfl) (by kernel_rfl) rfl rfl rfl (by simp) rfl rfl ?_
            refine WA_skip 9 rfl (by kernel_rfl) (by kernel_rfl) (by kernel_rfl) rfl rfl rfl (by simp) rfl rfl ?_
            refine WA_skip 10 rfl (by kernel_rfl) (by kernel_rfl) (by kernel_rfl) rfl rfl rfl (by simp) rfl rfl ?_
            refine WA_skip 11 rfl (by kernel_rfl) (by kernel_rfl) (by kernel_rfl) rfl rfl rfl (by simp [undef]) rfl rfl ?_
            refine WA_skip 12 rfl (by kernel_rfl) (by kernel_rfl) (by kernel_rfl) rfl rfl rfl (by simp [undef]) rfl rfl ?_
            refine WA_skip 13 rfl (by kernel_rfl) (by kernel_rfl) (by kernel_rfl) rfl rfl rfl (by simp [undef]) rfl rfl ?_
            refine WA_skip 14 rfl (by kernel_rfl) (by kernel_rfl) (by kernel_rfl) rfl rfl rfl (by simp [undef]) rfl rfl ?_
            refine WA_skip 15 rfl (by kernel_rfl) (by kernel_rfl) (by kernel_rfl) rfl rfl rfl (by simp [undef]) rfl rfl ?_
            refine WA_skip 16 rfl (by kernel_rfl) (by kernel_rfl) (by kernel_rfl) rfl rfl rfl (by simp [undef]) rfl rfl ?_
            refine WA_skip 17 rfl (by kernel_rfl) (by kernel_rfl) (by kernel_rfl) rfl rfl rfl (by simp [undef]) rfl rfl ?_
            refine WA_skip 18 rfl (by kernel_rfl) (by kernel_rfl) (by kernel_rfl) rfl rfl rfl (by simp [undef]) rfl rfl ?_
            refine WA_skip 19 rfl (by kernel_rfl) (by kernel_rfl) (by kernel_rfl) rfl rfl rfl (by simp [undef]) rfl rfl ?_
            refine WA_skip 20 rfl (by kernel_rfl) (by kernel_rfl) (by kernel_rfl) rfl rfl rfl (by simp [undef]) rfl rfl ?_
            refine WA_skip 21 rfl (by kernel_rfl) (by kernel_rfl) (by kernel_rfl) rfl rfl rfl (by simp [undef]) rfl rfl ?_
            refine WA_skip 22 rfl (by kernel_rfl) (by kernel_rfl) (by kernel_rfl) rfl rfl rfl (by simp [undef]) rfl rfl ?_
            refine WA_skip 23 rfl (by kernel_rfl) (by kernel_rfl) (by kernel_rfl) rfl rfl rfl (by simp) rfl rfl ?_
            refine WA_take 24 rfl (by kernel_rfl) (by kernel_rfl) (by kernel_rfl) rfl (fl_pick_t rfl rfl) ?_
            refine WL_pick_t rfl rfl rfl ?_
            refine WL_nil ?_
            refine WA_done (by kernel_rfl) ?_
            have hq1 := Option.some.inj hr2
            subst hq1
            refine nrm_sub (l' := [(1, (ptr b1 0)), (3, (.int .i64 x1)), (35, (.bool true))]) ⟨rfl, rfl, rfl, trivial⟩ ?_
            exact ⟨true, rfl, rfl, ((Keep.of hB4).then hB5).below, hC5⟩
          · replace hr2 := ite_f hr2 hc2
            refine WA_takeG 8 rfl (by kernel_rfl) (by kernel_rfl) (by kernel_rfl) rfl rfl rfl (fl_move rfl) ?_
            refine WL_guard rfl rfl ?_
            refine WL_move rfl rfl ?_
            refine WL_nil ?_
            refine WA_takeG 9 rfl (by kernel_rfl) (by kernel_rfl) (by kernel_rfl) rfl rfl rfl (fl_gtr rfl rfl) ?_
            refine WL_guard rfl rfl ?_
            refine WL_gtr rfl rfl rfl ?_
            refine WL_nil ?_
            refine WA_takeG 10 rfl (by kernel_rfl) (by kernel_rfl) (by kernel_rfl) rfl rfl rfl (fl_move rfl) ?_
            refine WL_guard rfl rfl ?_
            refine WL_move rfl rfl ?_
            refine WL_nil ?_
            refine WA_fork (fun hc3 => ?_) (fun hc3 => ?_)
            · replace hr2 := ite_t hr2 hc3
              refine WA_takeG 11 rfl (by kernel_rfl) (by kernel_rfl) (by kernel_rfl) rfl rfl rfl (fl_field Try.underlying26 rfl rfl (fun w => ⟨_, Try.sizeOf22 w⟩) rfl) ?_
              refine WL_guard rfl rfl ?_
              refine WL_field Try.underlying26 rfl rfl (fun w => ⟨_, Try.sizeOf22 w⟩) rfl rfl ?_
              refine WL_nil ?_
              refine WA_takeG 13 rfl (by kernel_rfl) (by kernel_rfl) (by kernel_rfl) rfl rfl rfl (fl_move rfl) ?_
              refine WL_guard rfl rfl ?_
              refine WL_move rfl rfl ?_
              refine WL_nil ?_
              refine WA_takeG 16 rfl (by kernel_rfl) (by kernel_rfl) (by kernel_rfl) rfl rfl rfl (fl_field Try.underlying26 rfl rfl (fun w => ⟨_, Try.sizeOf22 w⟩) rfl) ?_
              refine WL_guard rfl rfl ?_
              refine WL_field Try.underlying26 rfl rfl (fun w => ⟨_, Try.sizeOf22 w⟩) rfl rfl ?_
              refine WL_nil ?_
              refine WA_takeG 18 rfl (by kernel_rfl) (by kernel_rfl) (by kernel_rfl) rfl rfl rfl (fl_move rfl) ?_
              refine WL_guard rfl rfl ?_
              refine WL_move rfl rfl ?_
              refine WL_nil ?_
              refine WA_takeG 19 rfl (by kernel_rfl) (by kernel_rfl) (by kernel_rfl) rfl rfl rfl (fl_sub rfl rfl) ?_
              refine WL_guard rfl rfl ?_
              refine WL_sub rfl rfl rfl ?_
              refine WL_nil ?_
              obtain ⟨x5, hx2, hr2⟩ := bind_some hr2
              obtain ⟨x6, hx3, hr2⟩ := bind_some hr2
              refine WA.sub (l' := [(1, (ptr b1 0)), (3, (.int .i64 x1)), (4, (.int .i64 x1)), (5, (ptr b1 0)), (6, u1), (7, (.int .i64 (List.length a1.1 : Int))), (8, (.bool (decide (x1 < (List.length a1.1 : Int))))), (11, (ptr b1 0)), (12, u1), (13, (.int .i64 x1)), (14, (ptr b2 o1)), (15, (.int .i64 x3)), (16, (.bool x4)), (17, (.bool (!x4))), (18, (.bool false)), (19, (.int .i64 x1)), (20, (.bool (decide (0 < x1)))), (21, (.bool true)), (22, (ptr b1 0)), (24, (.int .i64 x1)), (27, (ptr b1 0)), (29, (.int .i64 x1)), (30, (.int .i64 (w64 (x1 - 1))))]) ?_ ⟨rfl, rfl, rfl, rfl, rfl, rfl, rfl, rfl, rfl, rfl, rfl, rfl, rfl, rfl, rfl, rfl, rfl, rfl, rfl, rfl, rfl, rfl, rfl, trivial⟩
              refine WA_postsE [⟨12, [], fun vs => PW.val u1, []⟩, ⟨14, [], fun vs => PW.at [] w0 x5, []⟩, ⟨15, [], fun vs => PW.val (.int .i64 x5), []⟩, ⟨17, [], fun vs => PW.val u1, []⟩, ⟨20, [], fun vs => PW.at [] w0 x6, []⟩, ⟨21, [], fun vs => PW.val (.int .i64 x6), []⟩] [[], [12], [14], [], [17], [20]] 3 rfl (by kernel_rfl) (by kernel_rfl) rfl ?_ ?_
              · refine StepsE_cons rfl ?_ ?_
                · intro w6 hB6
                  refine DepsE_nil ?_
                  refine ⟨_, rfl, ?_⟩
                  refine WL_guard rfl rfl ?_
                  refine WL_load_box (hC5.grow hB6) 0 rfl rfl Try.isAgg22 rfl rfl ?_
                  refine WL_nil ?_
                  exact FinE_val (Below.refl _ _) rfl rfl ⟨rfl, rfl⟩
                refine StepsE_cons rfl ?_ ?_
                · intro w6 hB6
                  refine DepsE_cons rfl rfl rfl ?_
                  rintro _ _ ⟨rfl, rfl⟩ _
                  refine DepsE_nil ?_
                  refine ⟨_, rfl, ?_⟩
                  refine WL_guard rfl rfl ?_
                  refine WL_index Try.underlying22 ty3 g1 hx2 rfl rfl rfl (fun b3 o2 h3 => ?_)
                  refine WL_nil ?_
                  exact FinE_val (Below.refl _ _) rfl rfl ⟨rfl, _, _, rfl, h3⟩
                refine StepsE_cons rfl ?_ ?_
                · intro w6 hB6
                  refine DepsE_cons rfl rfl rfl ?_
                  rintro _ _ ⟨rfl, b3, o2, rfl, h3⟩ _
                  refine DepsE_nil ?_
                  refine ⟨_, rfl, ?_⟩
                  refine WL_guard rfl rfl ?_
                  refine WL_load ty3 h3 (hC5.keep.then hB6) rfl rfl (fun v2 h4 => ?_)
                  obtain rfl := ro_int h4
                  refine WL_nil ?_
                  exact FinE_val (Below.refl _ _) rfl rfl ⟨rfl, rfl⟩
                refine StepsE_cons rfl ?_ ?_
                · intro w6 hB6
                  refine DepsE_nil ?_
                  refine ⟨_, rfl, ?_⟩
                  refine WL_guard rfl rfl ?_
                  refine WL_load_box (hC5.grow hB6) 0 rfl rfl Try.isAgg22 rfl rfl ?_
                  refine WL_nil ?_
                  exact FinE_val (Below.refl _ _) rfl rfl ⟨rfl, rfl⟩
                refine StepsE_cons rfl ?_ ?_
                · intro w6 hB6
                  refine DepsE_cons rfl rfl rfl ?_
                  rintro _ _ ⟨rfl, rfl⟩ _
                  refine DepsE_nil ?_
                  refine ⟨_, rfl, ?_⟩
                  refine WL_guard rfl rfl ?_
                  refine WL_index Try.underlying22 ty3 g1 hx3 rfl rfl rfl (fun b4 o3 h5 => ?_)
                  refine WL_nil ?_
                  exact FinE_val (Below.refl _ _) rfl rfl ⟨rfl, _, _, rfl, h5⟩
                refine StepsE_cons rfl ?_ ?_
                · intro w6 hB6
                  refine DepsE_cons rfl rfl rfl ?_
                  rintro _ _ ⟨rfl, b4, o3, rfl, h5⟩ _
                  refine DepsE_nil ?_
                  refine ⟨_, rfl, ?_⟩
                  refine WL_guard rfl rfl ?_
                  refine WL_load ty3 h5 (hC5.keep.then hB6) rfl rfl (fun v3 h6 => ?_)
                  obtain rfl := ro_int h6
                  refine WL_nil ?_
                  exact FinE_val (Below.refl _ _) rfl rfl ⟨rfl, rfl⟩
                exact StepsE_nil
              · intro w7 hB7
                refine AllE_cons rfl rfl rfl ?_
                rintro _ _ ⟨rfl, rfl⟩
                refine AllE_cons rfl rfl rfl ?_
                rintro _ _ ⟨rfl, b3, o2, rfl, h3⟩
                refine AllE_cons rfl rfl rfl ?_
                rintro _ _ ⟨rfl, rfl⟩
                refine AllE_cons rfl rfl rfl ?_
                rintro _ _ ⟨rfl, rfl⟩
                refine AllE_cons rfl rfl rfl ?_
                rintro _ _ ⟨rfl, b4, o3, rfl, h5⟩
                refine AllE_cons rfl rfl rfl ?_
                rintro _ _ ⟨rfl, rfl⟩
                refine AllE_nil ?_
                intro hn1 hb1
                have hC6 := hC5.grow hB7
                refine WA_takeG 22 rfl (by kernel_rfl) (by kernel_rfl) (by kernel_rfl) rfl rfl rfl (fl_leq rfl rfl) ?_
                refine WL_guard rfl rfl ?_
                refine WL_leq rfl rfl rfl ?_
                refine WL_nil ?_
                refine WA_takeG 23 rfl (by kernel_rfl) (by kernel_rfl) (by kernel_rfl) rfl rfl rfl (fl_pick_t rfl rfl) ?_
                refine WL_guard rfl rfl ?_
                refine WL_pick_t rfl rfl rfl ?_
                refine WL_nil ?_
                refine WA_take 24 rfl (by kernel_rfl) (by kernel_rfl) (by kernel_rfl) rfl (fl_pick_f rfl rfl) ?_
                refine WL_pick_f rfl rfl rfl ?_
                refine WL_nil ?_
                refine WA_done (by kernel_rfl) ?_
                have hq2 := Option.some.inj hr2
                subst hq2
                refine nrm_sub (l' := [(1, (ptr b1 0)), (3, (.int .i64 x1)), (35, (.bool (decide (x5 ≤ x6))))]) ⟨rfl, rfl, rfl, trivial⟩ ?_
                exact ⟨(decide (x5 ≤ x6)), rfl, rfl, (((Keep.of hB4).then hB5).then hB7).below, hC6⟩
            · replace hr2 := ite_f hr2 hc3
              refine WA_skip 11 rfl (by kernel_rfl) (by kernel_rfl) (by kernel_rfl) rfl rfl rfl (by simp) rfl rfl ?_
              refine WA_skip 12 rfl (by kernel_rfl) (by kernel_rfl) (by kernel_rfl) rfl rfl rfl (by simp) rfl rfl ?_
              refine WA_skip 13 rfl (by kernel_rfl) (by kernel_rfl) (by kernel_rfl) rfl rfl rfl (by simp) rfl rfl ?_
              refine WA_skip 14 rfl (by kernel_rfl) (by kernel_rfl) (by kernel_rfl) rfl rfl rfl (by simp) rfl rfl ?_
              refine WA_skip 15 rfl (by kernel_rfl) (by kernel_rfl) (by kernel_rfl) rfl rfl rfl (by simp) rfl rfl ?_
              refine WA_skip 16 rfl (by kernel_rfl) (by kernel_rfl) (by kernel_rfl) rfl rfl rfl (by simp) rfl rfl ?_
              refine WA_skip 17 rfl (by kernel_rfl) (by kernel_rfl) (by kernel_rfl) rfl rfl rfl (by simp) rfl rfl ?_
              refine WA_skip 18 rfl (by kernel_rfl) (by kernel_rfl) (by kernel_rfl) rfl rfl rfl (by simp) rfl rfl ?_
              refine WA_skip 19 rfl (by kernel_rfl) (by kernel_rfl) (by kernel_rfl) rfl rfl rfl (by simp) rfl rfl ?_
              refine WA_skip 20 rfl (by kernel_rfl) (by kernel_rfl) (by kernel_rfl) rfl rfl rfl (by simp) rfl rfl ?_
              refine WA_skip 21 rfl (by kernel_rfl) (by kernel_rfl) (by kernel_rfl) rfl rfl rfl (by simp) rfl rfl ?_
              refine WA_skip 22 rfl (by kernel_rfl) (by kernel_rfl) (by kernel_rfl) rfl rfl rfl (by simp) rfl rfl ?_
              refine WA_takeG 23 rfl (by kernel_rfl) (by kernel_rfl) (by kernel_rfl) rfl rfl rfl (fl_pick_f rfl rfl) ?_
              refine WL_guard rfl rfl ?_
              refine WL_pick_f rfl rfl rfl ?_
              refine WL_nil ?_
              refine WA_take 24 rfl (by kernel_rfl) (by kernel_rfl) (by kernel_rfl) rfl (fl_pick_f rfl rfl) ?_
              refine WL_pick_f rfl rfl rfl ?_
              refine WL_nil ?_
              refine WA_done (by kernel_rfl) ?_
              have hq3 := Option.some.inj hr2
              subst hq3
              refine nrm_sub (l' := [(1, (ptr b1 0)), (3, (.int .i64 x1)), (35, (.bool false))]) ⟨rfl, rfl, rfl, trivial⟩ ?_
              exact ⟨false, rfl, rfl, ((Keep.of hB4).then hB5).below, hC5⟩
        · rintro _ w3 ⟨x2, rfl, rfl, hB3, hC3⟩
          try dsimp only at hL1
          refine W_cond rfl (fun hc4 => ?_) (fun hc4 => ?_)
          · replace hL1 := ite_t hL1 hc4
            refine W_seq_reg ?_
            refine WL_assign rfl rfl ?_
            refine WL_nil ?_
            refine W_ret ?_
            refine blk_ret ?_
            refine nrm_ret ?_
            refine nrm_ret ?_
            refine blk_ret ?_
            refine nrm_ret ?_
            refine nrm_ret ?_
            have hq4 := Option.some.inj hL1
            subst hq4
            dsimp only at hF
            have hq5 := Option.some.inj hF
            subst hq5
            refine fn_ret1 rfl rfl ?_
            exact ⟨_, rfl, bool_res hC3 _⟩
          · replace hL1 := ite_f hL1 hc4
            refine W_skip ?_
            refine blk_normal ?_
            refine nrm_normal ?_
            refine W_reg ?_
            refine WL_move rfl rfl ?_
            refine WL_add rfl rfl rfl ?_
            refine WL_assign rfl rfl ?_
            refine WL_nil ?_
            refine nrm_sub (l' := [(1, (ptr b1 0)), (3, (.int .i64 (w64 (x1 + 1))))]) ⟨rfl, rfl, trivial⟩ ?_
            exact ⟨k1, Nat.lt_succ_self _, w64 (x1 + 1), rfl, ((Keep.of hB2).then hB3).below, hC3, hL1⟩
      · replace hL1 := ite_f hL1 hc1
        refine W_exit ?_
        refine nrm_exit ?_
        refine nrm_exit ?_
        refine blk_exit ?_
        have hq6 := Option.some.inj hL1
        subst hq6
        refine nrm_sub (l' := [(1, (ptr b1 0))]) ⟨rfl, trivial⟩ ?_
        exact ⟨rfl, rfl, (Keep.of hB2).below, hC2⟩
  · rintro l3 _ w8 hs3 ⟨rfl, rfl, hB8, hC7⟩
    try dsimp only at hF
    refine nrm_sub' hs3 ?_
    clear hs3
    obtain ⟨r3, hr4, hF⟩ := bind_some hF
    refine W_cut (fun l w => ∃ x7 : Bool, x7 = r3 ∧ l = [(2, (.bool x7))] ∧ Below w8.heap.size w8 w ∧ Ctx [] w0 w []) ?_ ?_
    · refine W_reg ?_
      refine WL_field Try.underlying26 rfl rfl (fun w => ⟨_, Try.sizeOf3 w⟩) rfl rfl ?_
      refine WL_load_box hC7 0 rfl rfl Try.isAgg3 rfl rfl ?_
      obtain ⟨x8, hr5, hr4⟩ := bind_some hr4
      refine WL_call Try.call90 rfl rfl (c_S_l1In a1.2.1 0 1000000000 x8 hr5) ?_
      intro _ w10 hv2
      obtain ⟨rfl, hB10⟩ := res_bool hv2
      have hC9 := hC7.grow hB10
      refine WL_move rfl rfl ?_
      refine WL_fork (fun hc5 => ?_) (fun hc5 => ?_)
      · replace hr4 := ite_t hr4 hc5
        refine WL_guard rfl rfl ?_
        refine WL_field Try.underlying26 rfl rfl (fun w => ⟨_, Try.sizeOf3 w⟩) rfl rfl ?_
        refine WL_guard rfl rfl ?_
        refine WL_load_box hC9 0 rfl rfl Try.isAgg3 rfl rfl ?_
        obtain ⟨x9, hr6, hr4⟩ := bind_some hr4
        refine WL_guard rfl rfl ?_
        refine WL_call Try.call90 rfl rfl (c_S_l1In a1.2.2 0 1000000000 x9 hr6) ?_
        intro _ w11 hv3
        obtain ⟨rfl, hB11⟩ := res_bool hv3
        have hC10 := hC9.grow hB11
        refine WL_pick_t rfl rfl rfl ?_
        refine WL_assign rfl rfl ?_
        refine WL_nil ?_
        have hq7 := Option.some.inj hr4
        subst hq7
        have hC11 : Ctx [] w0 _ [] := hC10.headN 0
        refine nrm_sub (l' := [(2, (.bool x9))]) ⟨rfl, trivial⟩ ?_
        exact ⟨x9, rfl, rfl, ((Keep.of hB10).then hB11).below, hC11⟩
      · replace hr4 := ite_f hr4 hc5
        refine WL_guard_skip rfl rfl (by simp) rfl ?_
        refine WL_guard_skip rfl rfl (by simp) rfl ?_
        refine WL_guard_skip rfl rfl (by simp) rfl ?_
        refine WL_pick_f rfl rfl rfl ?_
        refine WL_assign rfl rfl ?_
        refine WL_nil ?_
        have hq8 := Option.some.inj hr4
        subst hq8
        have hC12 : Ctx [] w0 _ [] := hC9.headN 0
        refine nrm_sub (l' := [(2, (.bool false))]) ⟨rfl, trivial⟩ ?_
        exact ⟨false, rfl, rfl, (Keep.of hB10).below, hC12⟩
    · rintro _ w9 ⟨x7, rfl, rfl, hB9, hC8⟩
      try dsimp only at hF
      refine W_ret ?_
      have hq9 := Option.some.inj hF
      subst hq9
      refine fn_ret1 rfl rfl ?_
      exact ⟨_, rfl, bool_res hC8 _⟩

theorem c_S_l27Copy {w0 : World} (a1 : ((List Int) × Int × Int)) (u1 : Value) (g1 : RO [] w0 u1 a1.1) (rr : ((List Int) × Int × Int)) (hF : S.l27Copy a1 = some rr) :
    Calls Try.prog 89 [(.agg #[u1, (.int .i64 a1.2.1), (.int .i64 a1.2.2)])].toArray w0 fun e w' => ∃ v, e = .returned v ∧ Res w0 rr v w' := by
  refine calls_of_W Try.func89 rfl rfl ?_
  have hC0 := Ctx.start w0
  unfold S.l27Copy at hF
  refine W_seq_reg ?_
  refine WL_box (cs := [u1, (.int .i64 a1.2.1), (.int .i64 a1.2.2)]) hC0 rfl rfl rfl (fun b1 w1 hC1 hB1 => ?_)
  refine WL_alloc hC1 zero26 rfl rfl (fun b2 w2 hC2 hB2 => ?_)
  refine WL_nil ?_
  refine W_seq ?_
  refine W_drawn 10 rfl hmix (fun w3 hB3 => ?_)
  have hC3 := hC2.grow hB3
  refine WA_take 1 rfl (by kernel_rfl) (by kernel_rfl) (by kernel_rfl) rfl (fl_field Try.underlying26 rfl rfl (fun w => ⟨_, Try.sizeOf22 w⟩) rfl) ?_
  refine WL_field Try.underlying26 rfl rfl (fun w => ⟨_, Try.sizeOf22 w⟩) rfl rfl ?_
  refine WL_nil ?_
  refine WA_take 4 rfl (by kernel_rfl) (by kernel_rfl) (by kernel_rfl) rfl (fl_field Try.underlying26 rfl rfl (fun w => ⟨_, Try.sizeOf3 w⟩) rfl) ?_
  refine WL_field Try.underlying26 rfl rfl (fun w => ⟨_, Try.sizeOf3 w⟩) rfl rfl ?_
  refine WL_nil ?_
  refine WA_take 6 rfl (by kernel_rfl) (by kernel_rfl) (by kernel_rfl) rfl (fl_field Try.underlying26 rfl rfl (fun w => ⟨_, Try.sizeOf3 w⟩) rfl) ?_
  refine WL_field Try.underlying26 rfl rfl (fun w => ⟨_, Try.sizeOf3 w⟩) rfl rfl ?_
  refine WL_nil ?_
  obtain ⟨x1, hx1, hF⟩ := bind_some hF
  refine WA.sub (l' := [(0, (.agg #[u1, (.int .i64 a1.2.1), (.int .i64 a1.2.2)])), (1, (ptr b1 0)), (2, (ptr b2 0)), (4, (ptr b1 0)), (7, (ptr b1 1)), (9, (ptr b1 2))]) ?_ ⟨rfl, rfl, rfl, rfl, rfl, rfl, trivial⟩
  refine WA_postsE [⟨0, [], fun vs => PW.own (([] : List Int) : (List Int)), []⟩, ⟨2, [], fun vs => PW.val u1, []⟩, ⟨3, [], fun vs => PW.own (x1 : (List Int)), [0]⟩, ⟨5, [], fun vs => PW.val (.int .i64 a1.2.1), []⟩, ⟨7, [], fun vs => PW.val (.int .i64 a1.2.2), []⟩] [[], [], [2], [], []] 2 rfl (by kernel_rfl) (by kernel_rfl) rfl ?_ ?_
  · refine StepsE_cons rfl ?_ ?_
    · intro w6 hB5
      refine DepsE_nil ?_
      refine ⟨_, rfl, ?_⟩
      refine WL_buildSlice (vs := []) (Ctx.start w6) Try.underlying22 ty3 rfl rfl rfl rfl (by simp) rfl rfl (fun b3 w4 hC4 hB4 => ?_)
      have hC5 := hC4.row0 (α := Int)
      have hC6 := hC5.front 1 rfl
      dsimp only [List.eraseIdx, List.cons_append, List.nil_append, List.append_nil] at hC6
      have hC7 : Ctx [] w6 w4 (Item.own (.slice (some ⟨b3, 0, none⟩) 0 0) (([] : List Int) : List Int) :: []) := hC6.rowOwn (by simp [maxLen])
      refine WL_nil ?_
      exact FinE_ctx hC7 rfl rfl (fun F h => h)
    refine StepsE_cons rfl ?_ ?_
    · intro w6 hB5
      refine DepsE_nil ?_
      refine ⟨_, rfl, ?_⟩
      refine WL_load_box (hC3.grow hB5) 1 rfl rfl Try.isAgg22 rfl rfl ?_
      refine WL_nil ?_
      exact FinE_val (Below.refl _ _) rfl rfl ⟨rfl, rfl⟩
    refine StepsE_use rfl rfl rfl ?_ ?_
    · intro w6 hB5
      refine DepsE_cons rfl rfl rfl ?_
      rintro _ _ ⟨rfl, rfl⟩ _
      refine DepsE_nil ?_
      refine ⟨_, _, rfl, rfl, ?_⟩
      intro v1 F1 hv1 ho1
      have hC8 := Ctx.local hv1 ho1
      refine WL_append_flat (α := Int) hC8 0 rfl g1 (hC3.keep.then hB5) Try.underlying22 ty3 rfl hx1 rfl rfl rfl (fun v2 w5 hC9 => ?_)
      try dsimp only [List.set] at hC9
      refine WL_nil ?_
      exact FinE_ctx hC9 rfl rfl (fun F h => h)
    refine StepsE_cons rfl ?_ ?_
    · intro w6 hB5
      refine DepsE_nil ?_
      refine ⟨_, rfl, ?_⟩
      refine WL_load_box (hC3.grow hB5) 1 rfl rfl Try.isAgg3 rfl rfl ?_
      refine WL_nil ?_
      exact FinE_val (Below.refl _ _) rfl rfl ⟨rfl, rfl⟩
    refine StepsE_cons rfl ?_ ?_
    · intro w6 hB5
      refine DepsE_nil ?_
      refine ⟨_, rfl, ?_⟩
      refine WL_load_box (hC3.grow hB5) 1 rfl rfl Try.isAgg3 rfl rfl ?_
      refine WL_nil ?_
      exact FinE_val (Below.refl _ _) rfl rfl ⟨rfl, rfl⟩
    exact StepsE_nil
  · intro w7 hB6
    refine AllE_skip rfl ?_
    refine AllE_cons rfl rfl rfl ?_
    rintro _ _ ⟨rfl, rfl⟩
    refine AllE_cons rfl rfl rfl ?_
    intro v3 F2 hv2
    refine AllE_cons rfl rfl rfl ?_
    rintro _ _ ⟨rfl, rfl⟩
    refine AllE_cons rfl rfl rfl ?_
    rintro _ _ ⟨rfl, rfl⟩
    refine AllE_nil ?_
    intro hn1 hb1
    have hC10 := hC3.pushL hB6 (Bs := [Item.own v3 (x1 : (List Int))]) (Fs := [F2]) ⟨F2, _, rfl, hv2, rfl⟩ (by simpa using hn1) (fun b h => (hb1 b (by simpa using h)).1)
    refine WA_take 8 rfl (by kernel_rfl) (by kernel_rfl) (by kernel_rfl) rfl (fl_build (vs := [(0, v3), (1, (.int .i64 a1.2.1)), (2, (.int .i64 a1.2.2))]) rfl rfl (built26_0_1_2 (ro_cells (hC10.ro 0 rfl)) rfl rfl)) ?_
    refine WL_build (vs := [(0, v3), (1, (.int .i64 a1.2.1)), (2, (.int .i64 a1.2.2))]) rfl rfl rfl (built26_0_1_2 (ro_cells (hC10.ro 0 rfl)) rfl rfl) ?_
    refine WL_nil ?_
    refine WA_one 9 (by kernel_rfl) rfl ?_
    refine WL_store_box_agg (cs' := [v3, (.int .i64 a1.2.1), (.int .i64 a1.2.2)]) (new := [v3, (.int .i64 a1.2.1), (.int .i64 a1.2.2)]) hC10 1 rfl rfl (by intro v hv; simp only [List.mem_cons, List.not_mem_nil, or_false] at hv; rcases hv with rfl | rfl | rfl; exact (ro_one (hC10.ro 0 rfl)); exact rfl; exact rfl) rfl Try.sizeOf26 rfl rfl (fun w8 hC11 => ?_)
    try dsimp only [List.set] at hC11
    refine WL_nil ?_
    refine WA_done (by kernel_rfl) ?_
    refine nrm_normal ?_
    refine W_ret ?_
    have hq1 := Option.some.inj hF
    subst hq1
    refine fn_retG1 rfl (rv_cell_agg (cs' := [v3, (.int .i64 a1.2.1), (.int .i64 a1.2.2)]) hC11 (i := 1) rfl rfl rfl Try.isAgg26 Try.sizeOf26 rfl) ?_
    have hC12 := own_st26 v3 x1 a1.2.1 a1.2.2 hC11
    exact ⟨_, rfl, own_res hC12 0 rfl⟩

theorem c_S_l2Has {w0 : World} (a1 : (List Int)) (u1 : Value) (g1 : RO [] w0 u1 a1) (a2 : Int) (rr : Bool) (hF : S.l2Has a1 a2 = some rr) :
    Calls Try.prog 91 [u1, (.int .i64 a2)].toArray w0 fun e w' => ∃ v, e = .returned v ∧ Res w0 rr v w' := by
  refine calls_of_W Try.func91 rfl rfl ?_
  have hC0 := Ctx.start w0
  unfold S.l2Has at hF
  refine W_seq_reg ?_
  refine WL_assign rfl rfl ?_
  refine WL_nil ?_
  refine W_seq ?_
  refine W_seq_reg ?_
  refine WL_assign rfl rfl ?_
  refine WL_nil ?_
  obtain ⟨r1, hr1, hF⟩ := bind_some hF
  refine W_norm (fun l w => .inl () = r1 ∧ l = [] ∧ Below w0.heap.size w0 w ∧ Ctx [] w0 w []) ?_ ?_
  · refine W_block ?_
    refine W.sub (l' := [(0, u1), (1, (.int .i64 a2)), (5, (.int .i64 0))]) ?_ ⟨rfl, rfl, rfl, trivial⟩
    refine W_loop (fun k l w => ∃ x1 : Int, l = [(0, u1), (1, (.int .i64 a2)), (5, (.int .i64 x1))] ∧ Below w0.heap.size w0 w ∧ Ctx [] w0 w [] ∧ S.l2Has_l1 a1 a2 k x1 = some r1) FUEL ⟨0, rfl, (Below.refl _ _), hC0, hr1⟩ ?_
    clear hr1
    rintro k1 _ w1 ⟨x1, rfl, hB1, hC1, hL1⟩
    cases k1 with
    | zero => rw [S.l2Has_l1] at hL1; cases hL1
    | succ k1 =>
      rw [S.l2Has_l1] at hL1
      refine W_seq ?_
      refine W_seq_reg ?_
      refine WL_move rfl rfl ?_
      refine WL_move rfl rfl ?_
      refine WL_len Try.underlying22 g1 rfl rfl ?_
      refine WL_lss rfl rfl rfl ?_
      refine WL_nil ?_
      refine W_cond rfl (fun hc1 => ?_) (fun hc1 => ?_)
      · replace hL1 := ite_t hL1 hc1
        refine W_skip ?_
        refine nrm_normal ?_
        refine W_seq ?_
        refine W_block ?_
        refine W_seq_reg ?_
        refine WL_move rfl rfl ?_
        refine WL_move rfl rfl ?_
        obtain ⟨x2, hx1, hL1⟩ := bind_some hL1
        refine WL_index Try.underlying22 ty3 g1 hx1 rfl rfl rfl (fun b1 o1 h1 => ?_)
        refine WL_load ty3 h1 hC1.keep rfl rfl (fun v1 h2 => ?_)
        obtain rfl := ro_int h2
        refine WL_move rfl rfl ?_
        refine WL_eql rfl rfl rfl ?_
        refine WL_nil ?_
        refine W_cond rfl (fun hc2 => ?_) (fun hc2 => ?_)
        · replace hL1 := ite_t hL1 hc2
          refine W_seq_reg ?_
          refine WL_assign rfl rfl ?_
          refine WL_nil ?_
          refine W_ret ?_
          refine blk_ret ?_
          refine nrm_ret ?_
          refine nrm_ret ?_
          refine blk_ret ?_
          refine nrm_ret ?_
          refine nrm_ret ?_
          have hq1 := Option.some.inj hL1
          subst hq1
          dsimp only at hF
          have hq2 := Option.some.inj hF
          subst hq2
          refine fn_ret1 rfl rfl ?_
          exact ⟨_, rfl, bool_res hC1 _⟩
        · replace hL1 := ite_f hL1 hc2
          refine W_skip ?_
          refine blk_normal ?_
          refine nrm_normal ?_
          refine W_reg ?_
          refine WL_move rfl rfl ?_
          refine WL_add rfl rfl rfl ?_
          refine WL_assign rfl rfl ?_
          refine WL_nil ?_
          refine nrm_sub (l' := [(0, u1), (1, (.int .i64 a2)), (5, (.int .i64 (w64 (x1 + 1))))]) ⟨rfl, rfl, rfl, trivial⟩ ?_
          exact ⟨k1, Nat.lt_succ_self _, w64 (x1 + 1), rfl, (Keep.of hB1).below, hC1, hL1⟩
      · replace hL1 := ite_f hL1 hc1
        refine W_exit ?_
        refine nrm_exit ?_
        refine nrm_exit ?_
        refine blk_exit ?_
        have hq3 := Option.some.inj hL1
        subst hq3
        refine nrm_sub (l' := []) trivial ?_
        exact ⟨rfl, rfl, (Keep.of hB1).below, hC1⟩
  · rintro l2 _ w2 hs2 ⟨rfl, rfl, hB2, hC2⟩
    try dsimp only at hF
    refine nrm_sub' hs2 ?_
    clear hs2
    refine W_seq_reg ?_
    refine WL_assign rfl rfl ?_
    refine WL_nil ?_
    refine W_ret ?_
    have hq4 := Option.some.inj hF
    subst hq4
    refine fn_ret1 rfl rfl ?_
    exact ⟨_, rfl, bool_res hC2 _⟩

theorem c_S_l3Put_ro {w0 : World} (a1 : (List Int)) (u1 : Value) (g1 : RO [] w0 u1 a1) (a2 : Int) (rr : (List Int)) (hF : S.l3Put a1 a2 = some rr) :
    Calls Try.prog 92 [u1, (.int .i64 a2)].toArray w0 fun e w' => ∃ v, e = .returned v ∧ ResR w0 rr v w' := by
  refine calls_of_W Try.func92 rfl rfl ?_
  have hC0 := Ctx.start w0
  unfold S.l3Put at hF
  refine W_seq_reg ?_
  refine WL_assign rfl rfl ?_
  refine WL_nil ?_
  refine W_seq ?_
  refine W_seq_reg ?_
  refine WL_move rfl rfl ?_
  refine WL_move rfl rfl ?_
  obtain ⟨x1, hr1, hF⟩ := bind_some hF
  refine WL_call Try.call91 rfl rfl (c_S_l2Has a1 u1 (g1.now hC0.keep) a2 x1 hr1) ?_
  intro _ w1 hv1
  obtain ⟨rfl, hB1⟩ := res_bool hv1
  have hC1 := hC0.grow hB1
  refine WL_nil ?_
  refine W_cond rfl (fun hc1 => ?_) (fun hc1 => ?_)
  · replace hF := ite_t hF hc1
    refine W_seq_reg ?_
    refine WL_move rfl rfl ?_
    refine WL_assign rfl rfl ?_
    refine WL_nil ?_
    refine W_ret ?_
    refine nrm_ret ?_
    have hq1 := Option.some.inj hF
    subst hq1
    refine fn_ret1 rfl rfl ?_
    exact ⟨_, rfl, hC1.keep.below, (g1.now hC1.keep)⟩
  · replace hF := ite_f hF hc1
    refine W_skip ?_
    refine nrm_normal ?_
    refine W_seq_reg ?_
    refine WL_buildSlice (vs := []) hC1 Try.underlying22 ty3 rfl rfl rfl rfl (by simp) rfl rfl (fun b1 w2 hC2 hB2 => ?_)
    have hC3 := hC2.row0 (α := Int)
    have hC4 := hC3.front 1 rfl
    dsimp only [List.eraseIdx, List.cons_append, List.nil_append, List.append_nil] at hC4
    have hC5 : Ctx [] w0 w2 (Item.own (.slice (some ⟨b1, 0, none⟩) 0 0) (([] : List Int) : List Int) :: []) := hC4.rowOwn (by simp [maxLen])
    refine WL_assign rfl rfl ?_
    refine WL_nil ?_
    refine W_seq_reg ?_
    refine WL_assign rfl rfl ?_
    refine WL_nil ?_
    refine W_seq ?_
    refine W_seq_reg ?_
    refine WL_assign rfl rfl ?_
    refine WL_nil ?_
    obtain ⟨r1, hr2, hF⟩ := bind_some hF
    refine W_norm (fun l w => ∃ v2 : Value, ∃ x5 : (List Int), ∃ x6 : Bool, (x5, x6) = r1 ∧ l = [(1, (.int .i64 a2)), (5, v2), (6, (.bool x6))] ∧ Ctx [] w0 w [Item.own v2 (x5 : (List Int))]) ?_ ?_
    · refine W_block ?_
      refine W.sub (l' := [(0, u1), (1, (.int .i64 a2)), (5, (.slice (some ⟨b1, 0, none⟩) 0 0)), (6, (.bool false)), (7, (.int .i64 0))]) ?_ ⟨rfl, rfl, rfl, rfl, rfl, trivial⟩
      refine W_loop (fun k l w => ∃ v1 : Value, ∃ x2 : (List Int), ∃ x3 : Bool, ∃ x4 : Int, l = [(0, u1), (1, (.int .i64 a2)), (5, v1), (6, (.bool x3)), (7, (.int .i64 x4))] ∧ Ctx [] w0 w [Item.own v1 (x2 : (List Int))] ∧ S.l3Put_l1 a1 a2 k x2 x3 x4 = some r1) FUEL ⟨(.slice (some ⟨b1, 0, none⟩) 0 0), ([] : List Int), false, 0, rfl, hC5, hr2⟩ ?_
      clear hr2
      rintro k1 _ w3 ⟨v1, x2, x3, x4, rfl, hC6, hL1⟩
      cases k1 with
      | zero => rw [S.l3Put_l1] at hL1; cases hL1
      | succ k1 =>
        rw [S.l3Put_l1] at hL1
        refine W_seq ?_
        refine W_seq_reg ?_
        refine WL_move rfl rfl ?_
        refine WL_move rfl rfl ?_
        refine WL_len Try.underlying22 g1 rfl rfl ?_
        refine WL_lss rfl rfl rfl ?_
        refine WL_nil ?_
        refine W_cond rfl (fun hc2 => ?_) (fun hc2 => ?_)
        · replace hL1 := ite_t hL1 hc2
          refine W_skip ?_
          refine nrm_normal ?_
          refine W_seq ?_
          refine W_block ?_
          refine W_seq ?_
          obtain ⟨r2, hr3, hL1⟩ := bind_some hL1
          refine W_cut (fun l w => ∃ x7 : Bool, x7 = r2 ∧ l = [(0, u1), (1, (.int .i64 a2)), (5, v1), (6, (.bool x3)), (7, (.int .i64 x4)), (28, (.bool x7))] ∧ Below w3.heap.size w3 w ∧ Ctx [] w0 w [Item.own v1 (x2 : (List Int))]) ?_ ?_
          · refine W_reg ?_
            refine WL_move rfl rfl ?_
            refine WL_not rfl rfl ?_
            refine WL_move rfl rfl ?_
            refine WL_fork (fun hc3 => ?_) (fun hc3 => ?_)
            · replace hr3 := ite_t hr3 hc3
              refine WL_guard rfl rfl ?_
              refine WL_move rfl rfl ?_
              refine WL_guard rfl rfl ?_
              refine WL_move rfl rfl ?_
              obtain ⟨x8, hx1, hr3⟩ := bind_some hr3
              refine WL_guard rfl rfl ?_
              refine WL_index Try.underlying22 ty3 g1 hx1 rfl rfl rfl (fun b2 o1 h1 => ?_)
              refine WL_guard rfl rfl ?_
              refine WL_load ty3 h1 hC6.keep rfl rfl (fun v3 h2 => ?_)
              obtain rfl := ro_int h2
              refine WL_guard rfl rfl ?_
              refine WL_move rfl rfl ?_
              refine WL_guard rfl rfl ?_
              refine WL_gtr rfl rfl rfl ?_
              refine WL_pick_t rfl rfl rfl ?_
              refine WL_nil ?_
              have hq2 := Option.some.inj hr3
              subst hq2
              refine nrm_sub (l' := [(0, u1), (1, (.int .i64 a2)), (5, v1), (6, (.bool x3)), (7, (.int .i64 x4)), (28, (.bool (decide (a2 < x8))))]) ⟨rfl, rfl, rfl, rfl, rfl, rfl, trivial⟩ ?_
              exact ⟨(decide (a2 < x8)), rfl, rfl, (Below.refl _ _), hC6⟩
            · replace hr3 := ite_f hr3 hc3
              refine WL_guard_skip rfl rfl (by simp) rfl ?_
              refine WL_guard_skip rfl rfl (by simp) rfl ?_
              refine WL_guard_skip rfl rfl (by simp) rfl ?_
              refine WL_guard_skip rfl rfl (by simp) rfl ?_
              refine WL_guard_skip rfl rfl (by simp) rfl ?_
              refine WL_guard_skip rfl rfl (by simp) rfl ?_
              refine WL_pick_f rfl rfl rfl ?_
              refine WL_nil ?_
              have hq3 := Option.some.inj hr3
              subst hq3
              refine nrm_sub (l' := [(0, u1), (1, (.int .i64 a2)), (5, v1), (6, (.bool x3)), (7, (.int .i64 x4)), (28, (.bool false))]) ⟨rfl, rfl, rfl, rfl, rfl, rfl, trivial⟩ ?_
              exact ⟨false, rfl, rfl, (Below.refl _ _), hC6⟩
          · rintro _ w4 ⟨x7, rfl, rfl, hB4, hC7⟩
            try dsimp only at hL1
            obtain ⟨r3, hr4, hL1⟩ := bind_some hL1
            refine W_norm (fun l w => ∃ v4 : Value, ∃ x9 : (List Int), ∃ x10 : Bool, (x9, x10) = r3 ∧ l = [(0, u1), (1, (.int .i64 a2)), (5, v4), (6, (.bool x10)), (7, (.int .i64 x4))] ∧ Ctx [] w0 w [Item.own v4 (x9 : (List Int))]) ?_ ?_
            · refine W_cond rfl (fun hc4 => ?_) (fun hc4 => ?_)
              · replace hr4 := ite_t hr4 hc4
                refine W_seq_reg ?_
                refine WL_move rfl rfl ?_
                refine WL_move rfl rfl ?_
                refine WL_buildSlice (vs := [(.int .i64 a2)]) hC7 Try.underlying22 ty3 rfl rfl rfl rfl (by intro v hv; simp only [List.mem_cons, List.not_mem_nil, or_false] at hv; rcases hv with rfl <;> rfl) rfl rfl (fun b3 w6 hC9 hB6 => ?_)
                have hC10 := hC9.row0 (α := Int)
                have hC11 := hC10.triv (int_val (a2))
                have hC12 := hC11.row1
                have hC13 := hC12.front 1 rfl
                dsimp only [List.eraseIdx, List.cons_append, List.nil_append, List.append_nil] at hC13
                have hC14 : Ctx [] w0 w6 (Item.own (.slice (some ⟨b3, 0, none⟩) 1 1) ([a2] : List Int) :: [Item.own v1 (x2 : (List Int))]) := hC13.rowOwn (by simp [maxLen])
                obtain ⟨x11, hx2, hr4⟩ := bind_some hr4
                refine WL_append_flat (α := Int) hC14 1 rfl (hC14.ro 0 rfl) (Keep.refl _ _) Try.underlying22 ty3 rfl hx2 rfl rfl rfl (fun v5 w7 hC15 => ?_)
                try dsimp only [List.set] at hC15
                refine WL_assign rfl rfl ?_
                refine WL_nil ?_
                refine W_reg ?_
                refine WL_assign rfl rfl ?_
                refine WL_nil ?_
                have hq4 := Option.some.inj hr4
                subst hq4
                have hC16 : Ctx [] w0 _ [Item.own v5 (x11 : (List Int)), Item.own (.slice (some ⟨b3, 0, none⟩) 1 1) ([a2] : (List Int))] := hC15.front 1 rfl
                have hC17 : Ctx [] w0 _ [Item.own v5 (x11 : (List Int))] := hC16.headN 1
                refine nrm_sub (l' := [(0, u1), (1, (.int .i64 a2)), (5, v5), (6, (.bool true)), (7, (.int .i64 x4))]) ⟨rfl, rfl, rfl, rfl, rfl, trivial⟩ ?_
                exact ⟨v5, x11, true, rfl, rfl, hC17⟩
              · replace hr4 := ite_f hr4 hc4
                refine W_skip ?_
                have hq5 := Option.some.inj hr4
                subst hq5
                refine nrm_sub (l' := [(0, u1), (1, (.int .i64 a2)), (5, v1), (6, (.bool x3)), (7, (.int .i64 x4))]) ⟨rfl, rfl, rfl, rfl, rfl, trivial⟩ ?_
                exact ⟨v1, x2, x3, rfl, rfl, hC7⟩
            · rintro l3 _ w5 hs3 ⟨v4, x9, x10, rfl, rfl, hC8⟩
              try dsimp only at hL1
              refine nrm_sub' hs3 ?_
              clear hs3
              refine W_reg ?_
              refine WL_move rfl rfl ?_
              refine WL_move rfl rfl ?_
              refine WL_move rfl rfl ?_
              obtain ⟨x12, hx3, hL1⟩ := bind_some hL1
              refine WL_index Try.underlying22 ty3 g1 hx3 rfl rfl rfl (fun b4 o2 h3 => ?_)
              refine WL_load ty3 h3 hC8.keep rfl rfl (fun v6 h4 => ?_)
              obtain rfl := ro_int h4
              refine WL_buildSlice (vs := [(.int .i64 x12)]) hC8 Try.underlying22 ty3 rfl rfl rfl rfl (by intro v hv; simp only [List.mem_cons, List.not_mem_nil, or_false] at hv; rcases hv with rfl <;> rfl) rfl rfl (fun b5 w8 hC18 hB7 => ?_)
              have hC19 := hC18.row0 (α := Int)
              have hC20 := hC19.triv (int_val (x12))
              have hC21 := hC20.row1
              have hC22 := hC21.front 1 rfl
              dsimp only [List.eraseIdx, List.cons_append, List.nil_append, List.append_nil] at hC22
              have hC23 : Ctx [] w0 w8 (Item.own (.slice (some ⟨b5, 0, none⟩) 1 1) ([x12] : List Int) :: [Item.own v4 (x9 : (List Int))]) := hC22.rowOwn (by simp [maxLen])
              obtain ⟨x13, hx4, hL1⟩ := bind_some hL1
              refine WL_append_flat (α := Int) hC23 1 rfl (hC23.ro 0 rfl) (Keep.refl _ _) Try.underlying22 ty3 rfl hx4 rfl rfl rfl (fun v7 w9 hC24 => ?_)
              try dsimp only [List.set] at hC24
              refine WL_assign rfl rfl ?_
              refine WL_nil ?_
              refine blk_normal ?_
              refine nrm_normal ?_
              refine W_reg ?_
              refine WL_move rfl rfl ?_
              refine WL_add rfl rfl rfl ?_
              refine WL_assign rfl rfl ?_
              refine WL_nil ?_
              have hC25 : Ctx [] w0 _ [Item.own v7 (x13 : (List Int)), Item.own (.slice (some ⟨b5, 0, none⟩) 1 1) ([x12] : (List Int))] := hC24.front 1 rfl
              have hC26 : Ctx [] w0 _ [Item.own v7 (x13 : (List Int))] := hC25.headN 1
              refine nrm_sub (l' := [(0, u1), (1, (.int .i64 a2)), (5, v7), (6, (.bool x10)), (7, (.int .i64 (w64 (x4 + 1))))]) ⟨rfl, rfl, rfl, rfl, rfl, trivial⟩ ?_
              exact ⟨k1, Nat.lt_succ_self _, v7, x13, x10, w64 (x4 + 1), rfl, hC26, hL1⟩
        · replace hL1 := ite_f hL1 hc2
          refine W_exit ?_
          refine nrm_exit ?_
          refine nrm_exit ?_
          refine blk_exit ?_
          have hq6 := Option.some.inj hL1
          subst hq6
          refine nrm_sub (l' := [(1, (.int .i64 a2)), (5, v1), (6, (.bool x3))]) ⟨rfl, rfl, rfl, trivial⟩ ?_
          exact ⟨v1, x2, x3, rfl, rfl, hC6⟩
    · rintro l4 _ w10 hs4 ⟨v2, x5, x6, rfl, rfl, hC27⟩
      try dsimp only at hF
      refine nrm_sub' hs4 ?_
      clear hs4
      refine W_seq ?_
      refine W_seq_reg ?_
      refine WL_move rfl rfl ?_
      refine WL_not rfl rfl ?_
      refine WL_nil ?_
      obtain ⟨r4, hr5, hF⟩ := bind_some hF
      refine W_norm (fun l w => ∃ v8 : Value, ∃ x14 : (List Int), x14 = r4 ∧ l = [(5, v8)] ∧ Ctx [] w0 w [Item.own v8 (x14 : (List Int))]) ?_ ?_
      · refine W_cond rfl (fun hc5 => ?_) (fun hc5 => ?_)
        · replace hr5 := ite_t hr5 hc5
          refine W_reg ?_
          refine WL_move rfl rfl ?_
          refine WL_move rfl rfl ?_
          refine WL_buildSlice (vs := [(.int .i64 a2)]) hC27 Try.underlying22 ty3 rfl rfl rfl rfl (by intro v hv; simp only [List.mem_cons, List.not_mem_nil, or_false] at hv; rcases hv with rfl <;> rfl) rfl rfl (fun b6 w12 hC29 hB10 => ?_)
          have hC30 := hC29.row0 (α := Int)
          have hC31 := hC30.triv (int_val (a2))
          have hC32 := hC31.row1
          have hC33 := hC32.front 1 rfl
          dsimp only [List.eraseIdx, List.cons_append, List.nil_append, List.append_nil] at hC33
          have hC34 : Ctx [] w0 w12 (Item.own (.slice (some ⟨b6, 0, none⟩) 1 1) ([a2] : List Int) :: [Item.own v2 (x5 : (List Int))]) := hC33.rowOwn (by simp [maxLen])
          obtain ⟨x15, hx5, hr5⟩ := bind_some hr5
          refine WL_append_flat (α := Int) hC34 1 rfl (hC34.ro 0 rfl) (Keep.refl _ _) Try.underlying22 ty3 rfl hx5 rfl rfl rfl (fun v9 w13 hC35 => ?_)
          try dsimp only [List.set] at hC35
          refine WL_assign rfl rfl ?_
          refine WL_nil ?_
          have hq7 := Option.some.inj hr5
          subst hq7
          have hC36 : Ctx [] w0 _ [Item.own v9 (x15 : (List Int)), Item.own (.slice (some ⟨b6, 0, none⟩) 1 1) ([a2] : (List Int))] := hC35.front 1 rfl
          have hC37 : Ctx [] w0 _ [Item.own v9 (x15 : (List Int))] := hC36.headN 1
          refine nrm_sub (l' := [(5, v9)]) ⟨rfl, trivial⟩ ?_
          exact ⟨v9, x15, rfl, rfl, hC37⟩
        · replace hr5 := ite_f hr5 hc5
          refine W_skip ?_
          have hq8 := Option.some.inj hr5
          subst hq8
          refine nrm_sub (l' := [(5, v2)]) ⟨rfl, trivial⟩ ?_
          exact ⟨v2, x5, rfl, rfl, hC27⟩
      · rintro l5 _ w11 hs5 ⟨v8, x14, rfl, rfl, hC28⟩
        try dsimp only at hF
        refine nrm_sub' hs5 ?_
        clear hs5
        refine W_seq_reg ?_
        refine WL_move rfl rfl ?_
        refine WL_assign rfl rfl ?_
        refine WL_nil ?_
        refine W_ret ?_
        have hq9 := Option.some.inj hF
        subst hq9
        refine fn_ret1 rfl rfl ?_
        exact ⟨_, rfl, hC28.keep.below, (hC28.ro 0 rfl)⟩

theorem c_S_ReceiveCall {w0 : World} (a1 : ((List Int) × Int × Int)) (u1 : Value) (g1 : RO [] w0 u1 a1.1) (a2 : Int) (a3 : Int) (rr : (((List Int) × Int × Int) × Bool)) (hF : S.ReceiveCall a1 a2 a3 = some rr) :
    Calls Try.prog 16 [(.agg #[u1, (.int .i64 a1.2.1), (.int .i64 a1.2.2)]), (.int .i64 a2), (.int .i64 a3)].toArray w0 fun e w' => ∃ v, e = .returned v ∧ Res2 w0 rr.1 rr.2 v w' := by
  refine calls_of_W Try.func16 rfl rfl ?_
  have hC0 := Ctx.start w0
  unfold S.ReceiveCall at hF
  refine W_seq_reg ?_
  refine WL_box (cs := [u1, (.int .i64 a1.2.1), (.int .i64 a1.2.2)]) hC0 rfl rfl rfl (fun b1 w1 hC1 hB1 => ?_)
  refine WL_alloc hC1 zero26 rfl rfl (fun b2 w2 hC2 hB2 => ?_)
  refine WL_assign rfl rfl ?_
  refine WL_nil ?_
  refine W_seq_reg ?_
  refine WL_load_box_agg [u1, (.int .i64 a1.2.1), (.int .i64 a1.2.2)] hC2 1 rfl rfl rfl Try.isAgg26 Try.sizeOf26 rfl rfl ?_
  obtain ⟨x1, hr1, hF⟩ := bind_some hF
  refine WL_call Try.call89 rfl rfl (c_S_l27Copy (a1.1, a1.2.1, a1.2.2) u1 (g1.now hC2.keep) x1 hr1) ?_
  rintro v1 w3 ⟨hB3, F1, hv1, hn1, hb1⟩
  have hC3 := hC2.push hB3 (A := Item.own v1 x1) hv1 hn1 hb1
  obtain ⟨v2, rfl, hC4⟩ := st26_own hC3
  refine WL_alloc hC4 zero26 rfl rfl (fun b3 w4 hC5 hB4 => ?_)
  refine WL_store_box_agg (cs' := [v2, (.int .i64 x1.2.1), (.int .i64 x1.2.2)]) (new := [v2, (.int .i64 x1.2.1), (.int .i64 x1.2.2)]) hC5 0 rfl rfl (by intro v hv; simp only [List.mem_cons, List.not_mem_nil, or_false] at hv; rcases hv with rfl | rfl | rfl; exact (ro_one (hC5.ro 1 rfl)); exact rfl; exact rfl) rfl Try.sizeOf26 rfl rfl (fun w5 hC6 => ?_)
  try dsimp only [List.set] at hC6
  refine WL_nil ?_
  refine W_seq ?_
  obtain ⟨r1, hr2, hF⟩ := bind_some hF
  refine W_cut (fun l w => ∃ x2 : Bool, x2 = r1 ∧ l = [(1, (.int .i64 a2)), (2, (.int .i64 a3)), (3, (ptr b1 0)), (6, (ptr b2 0)), (8, (ptr b3 0)), (33, (.bool x2))] ∧ Below w5.heap.size w5 w ∧ Ctx [] w0 w [Item.box b3 [v2, (.int .i64 x1.2.1), (.int .i64 x1.2.2)], Item.own v2 (x1.1 : (List Int)), Item.box b2 [(.slice none 0 0), (.int .i64 0), (.int .i64 0)], Item.box b1 [u1, (.int .i64 a1.2.1), (.int .i64 a1.2.2)]]) ?_ ?_
  · refine W_reg ?_
    refine WL_load_box_agg [u1, (.int .i64 a1.2.1), (.int .i64 a1.2.2)] hC6 3 rfl rfl rfl Try.isAgg26 Try.sizeOf26 rfl rfl ?_
    obtain ⟨x3, hr3, hr2⟩ := bind_some hr2
    refine WL_call Try.call42 rfl rfl (c_S_IsLedger (a1.1, a1.2.1, a1.2.2) u1 (g1.now hC6.keep) x3 hr3) ?_
    intro _ w7 hv2
    obtain ⟨rfl, hB6⟩ := res_bool hv2
    have hC8 := hC6.grow hB6
    refine WL_not rfl rfl ?_
    refine WL_move rfl rfl ?_
    refine WL_fork (fun hc1 => ?_) (fun hc1 => ?_)
    · replace hr2 := ite_t hr2 hc1
      refine WL_guard_skip rfl rfl (by simp) rfl ?_
      refine WL_guard_skip rfl rfl (by simp) rfl ?_
      refine WL_guard_skip rfl rfl (by simp) rfl ?_
      refine WL_pick_t rfl rfl rfl ?_
      refine WL_move rfl rfl ?_
      refine WL_guard_skip rfl rfl (by simp) rfl ?_
      refine WL_guard_skip rfl rfl (by simp) rfl ?_
      refine WL_guard_skip rfl rfl (by simp) rfl ?_
      refine WL_pick_t rfl rfl rfl ?_
      refine WL_move rfl rfl ?_
      refine WL_guard_skip rfl rfl (by simp) rfl ?_
      refine WL_guard_skip rfl rfl (by simp) rfl ?_
      refine WL_guard_skip rfl rfl (by simp) rfl ?_
      refine WL_pick_t rfl rfl rfl ?_
      refine WL_move rfl rfl ?_
      refine WL_guard_skip rfl rfl (by simp) rfl ?_
      refine WL_guard_skip rfl rfl (by simp) rfl ?_
      refine WL_guard_skip rfl rfl (by simp) rfl ?_
      refine WL_pick_t rfl rfl rfl ?_
      refine WL_nil ?_
      have hq1 := Option.some.inj hr2
      subst hq1
      refine nrm_sub (l' := [(1, (.int .i64 a2)), (2, (.int .i64 a3)), (3, (ptr b1 0)), (6, (ptr b2 0)), (8, (ptr b3 0)), (33, (.bool true))]) ⟨rfl, rfl, rfl, rfl, rfl, rfl, trivial⟩ ?_
      exact ⟨true, rfl, rfl, (Keep.of hB6).below, hC8⟩
    · replace hr2 := ite_f hr2 hc1
      refine WL_guard rfl rfl ?_
      refine WL_move rfl rfl ?_
      obtain ⟨x4, hr4, hr2⟩ := bind_some hr2
      refine WL_guard rfl rfl ?_
      refine WL_call Try.call90 rfl rfl (c_S_l1In a2 0 1000000 x4 hr4) ?_
      intro _ w8 hv3
      obtain ⟨rfl, hB7⟩ := res_bool hv3
      have hC9 := hC8.grow hB7
      refine WL_guard rfl rfl ?_
      refine WL_not rfl rfl ?_
      refine WL_pick_f rfl rfl rfl ?_
      refine WL_move rfl rfl ?_
      refine WL_fork (fun hc2 => ?_) (fun hc2 => ?_)
      · replace hr2 := ite_t hr2 hc2
        refine WL_guard_skip rfl rfl (by simp) rfl ?_
        refine WL_guard_skip rfl rfl (by simp) rfl ?_
        refine WL_guard_skip rfl rfl (by simp) rfl ?_
        refine WL_pick_t rfl rfl rfl ?_
        refine WL_move rfl rfl ?_
        refine WL_guard_skip rfl rfl (by simp) rfl ?_
        refine WL_guard_skip rfl rfl (by simp) rfl ?_
        refine WL_guard_skip rfl rfl (by simp) rfl ?_
        refine WL_pick_t rfl rfl rfl ?_
        refine WL_move rfl rfl ?_
        refine WL_guard_skip rfl rfl (by simp) rfl ?_
        refine WL_guard_skip rfl rfl (by simp) rfl ?_
        refine WL_guard_skip rfl rfl (by simp) rfl ?_
        refine WL_pick_t rfl rfl rfl ?_
        refine WL_nil ?_
        have hq2 := Option.some.inj hr2
        subst hq2
        refine nrm_sub (l' := [(1, (.int .i64 a2)), (2, (.int .i64 a3)), (3, (ptr b1 0)), (6, (ptr b2 0)), (8, (ptr b3 0)), (33, (.bool true))]) ⟨rfl, rfl, rfl, rfl, rfl, rfl, trivial⟩ ?_
        exact ⟨true, rfl, rfl, ((Keep.of hB6).then hB7).below, hC9⟩
      · replace hr2 := ite_f hr2 hc2
        refine WL_guard rfl rfl ?_
        refine WL_move rfl rfl ?_
        obtain ⟨x5, hr5, hr2⟩ := bind_some hr2
        refine WL_guard rfl rfl ?_
        refine WL_call Try.call90 rfl rfl (c_S_l1In a3 0 99 x5 hr5) ?_
        intro _ w9 hv4
        obtain ⟨rfl, hB8⟩ := res_bool hv4
        have hC10 := hC9.grow hB8
        refine WL_guard rfl rfl ?_
        refine WL_not rfl rfl ?_
        refine WL_pick_f rfl rfl rfl ?_
        refine WL_move rfl rfl ?_
        refine WL_fork (fun hc3 => ?_) (fun hc3 => ?_)
        · replace hr2 := ite_t hr2 hc3
          refine WL_guard_skip rfl rfl (by simp) rfl ?_
          refine WL_guard_skip rfl rfl (by simp) rfl ?_
          refine WL_guard_skip rfl rfl (by simp) rfl ?_
          refine WL_pick_t rfl rfl rfl ?_
          refine WL_move rfl rfl ?_
          refine WL_guard_skip rfl rfl (by simp) rfl ?_
          refine WL_guard_skip rfl rfl (by simp) rfl ?_
          refine WL_guard_skip rfl rfl (by simp) rfl ?_
          refine WL_pick_t rfl rfl rfl ?_
          refine WL_nil ?_
          have hq3 := Option.some.inj hr2
          subst hq3
          refine nrm_sub (l' := [(1, (.int .i64 a2)), (2, (.int .i64 a3)), (3, (ptr b1 0)), (6, (ptr b2 0)), (8, (ptr b3 0)), (33, (.bool true))]) ⟨rfl, rfl, rfl, rfl, rfl, rfl, trivial⟩ ?_
          exact ⟨true, rfl, rfl, (((Keep.of hB6).then hB7).then hB8).below, hC10⟩
        · replace hr2 := ite_f hr2 hc3
          refine WL_guard rfl rfl ?_
          refine WL_field Try.underlying26 rfl rfl (fun w => ⟨_, Try.sizeOf3 w⟩) rfl rfl ?_
          refine WL_guard rfl rfl ?_
          refine WL_load_box hC10 3 rfl rfl Try.isAgg3 rfl rfl ?_
          refine WL_guard rfl rfl ?_
          refine WL_gtr rfl rfl rfl ?_
          refine WL_pick_f rfl rfl rfl ?_
          refine WL_move rfl rfl ?_
          refine WL_fork (fun hc4 => ?_) (fun hc4 => ?_)
          · replace hr2 := ite_t hr2 hc4
            refine WL_guard_skip rfl rfl (by simp) rfl ?_
            refine WL_guard_skip rfl rfl (by simp) rfl ?_
            refine WL_guard_skip rfl rfl (by simp) rfl ?_
            refine WL_pick_t rfl rfl rfl ?_
            refine WL_nil ?_
            have hq4 := Option.some.inj hr2
            subst hq4
            refine nrm_sub (l' := [(1, (.int .i64 a2)), (2, (.int .i64 a3)), (3, (ptr b1 0)), (6, (ptr b2 0)), (8, (ptr b3 0)), (33, (.bool true))]) ⟨rfl, rfl, rfl, rfl, rfl, rfl, trivial⟩ ?_
            exact ⟨true, rfl, rfl, (((Keep.of hB6).then hB7).then hB8).below, hC10⟩
          · replace hr2 := ite_f hr2 hc4
            refine WL_guard rfl rfl ?_
            refine WL_field Try.underlying26 rfl rfl (fun w => ⟨_, Try.sizeOf3 w⟩) rfl rfl ?_
            refine WL_guard rfl rfl ?_
            refine WL_load_box hC10 3 rfl rfl Try.isAgg3 rfl rfl ?_
            refine WL_guard rfl rfl ?_
            refine WL_gtr rfl rfl rfl ?_
            refine WL_pick_f rfl rfl rfl ?_
            refine WL_nil ?_
            have hq5 := Option.some.inj hr2
            subst hq5
            refine nrm_sub (l' := [(1, (.int .i64 a2)), (2, (.int .i64 a3)), (3, (ptr b1 0)), (6, (ptr b2 0)), (8, (ptr b3 0)), (33, (.bool (decide (999999000 < a1.2.2))))]) ⟨rfl, rfl, rfl, rfl, rfl, rfl, trivial⟩ ?_
            exact ⟨(decide (999999000 < a1.2.2)), rfl, rfl, (((Keep.of hB6).then hB7).then hB8).below, hC10⟩
  · rintro _ w6 ⟨x2, rfl, rfl, hB5, hC7⟩
    try dsimp only at hF
    refine W_cond rfl (fun hc5 => ?_) (fun hc5 => ?_)
    · replace hF := ite_t hF hc5
      refine W_seq_reg ?_
      refine WL_load_box_agg [v2, (.int .i64 x1.2.1), (.int .i64 x1.2.2)] hC7 0 rfl rfl rfl Try.isAgg26 Try.sizeOf26 rfl rfl ?_
      refine WL_store_box_agg (cs' := [v2, (.int .i64 x1.2.1), (.int .i64 x1.2.2)]) (new := [v2, (.int .i64 x1.2.1), (.int .i64 x1.2.2)]) hC7 2 rfl rfl (by intro v hv; simp only [List.mem_cons, List.not_mem_nil, or_false] at hv; rcases hv with rfl | rfl | rfl; exact (ro_one (hC7.ro 1 rfl)); exact rfl; exact rfl) rfl Try.sizeOf26 rfl rfl (fun w10 hC11 => ?_)
      try dsimp only [List.set] at hC11
      refine WL_assign rfl rfl ?_
      refine WL_nil ?_
      refine W_ret ?_
      refine nrm_ret ?_
      have hq6 := Option.some.inj hF
      subst hq6
      refine fn_retG2 rfl (rv_cell_agg (cs' := [v2, (.int .i64 x1.2.1), (.int .i64 x1.2.2)]) hC11 (i := 2) rfl rfl rfl Try.isAgg26 Try.sizeOf26 rfl) (rv_tmp rfl) ?_
      have hC12 := hC11.triv (bool_val (false))
      have hC14 : Ctx [] w0 _ [Item.own v2 (x1.1 : (List Int)), Item.own (.bool false) (false : Bool), Item.box b3 [v2, (.int .i64 x1.2.1), (.int .i64 x1.2.2)], Item.box b2 [v2, (.int .i64 x1.2.1), (.int .i64 x1.2.2)], Item.box b1 [u1, (.int .i64 a1.2.1), (.int .i64 a1.2.2)]] := hC12.front 2 rfl
      have hC13 := own_st26 v2 x1.1 x1.2.1 x1.2.2 hC14
      exact ⟨_, rfl, res2_of hC13⟩
    · replace hF := ite_f hF hc5
      refine W_skip ?_
      refine nrm_normal ?_
      refine W_seq_reg ?_
      refine WL_field Try.underlying26 rfl rfl (fun w => ⟨_, Try.sizeOf3 w⟩) rfl rfl ?_
      refine WL_load_box hC7 3 rfl rfl Try.isAgg3 rfl rfl ?_
      refine WL_add rfl rfl rfl ?_
      refine WL_field Try.underlying26 rfl rfl (fun w => ⟨_, Try.sizeOf3 w⟩) rfl rfl ?_
      refine WL_store_box (cs' := [v2, (.int .i64 x1.2.1), (.int .i64 (w64 (a1.2.2 + 1)))]) hC7 0 rfl rfl rfl rfl Try.sizeOf3 rfl rfl (fun w11 hC15 => ?_)
      try dsimp only [List.set] at hC15
      refine WL_nil ?_
      refine W_seq ?_
      refine W_seq_reg ?_
      refine WL_field Try.underlying26 rfl rfl (fun w => ⟨_, Try.sizeOf22 w⟩) rfl rfl ?_
      refine WL_load_box hC15 3 rfl rfl Try.isAgg22 rfl rfl ?_
      refine WL_move rfl rfl ?_
      obtain ⟨x6, hr6, hF⟩ := bind_some hF
      refine WL_call Try.call91 rfl rfl (c_S_l2Has a1.1 u1 (g1.now hC15.keep) a2 x6 hr6) ?_
      intro _ w12 hv5
      obtain ⟨rfl, hB9⟩ := res_bool hv5
      have hC16 := hC15.grow hB9
      refine WL_not rfl rfl ?_
      refine WL_nil ?_
      obtain ⟨r2, hr7, hF⟩ := bind_some hF
      refine W_norm (fun l w => ∃ v3 : Value, ∃ x7 : (List Int), ∃ x8 : Int, ∃ x9 : Int, (x7, x8, x9) = r2 ∧ l = [(6, (ptr b2 0)), (8, (ptr b3 0))] ∧ Ctx [] w0 w [Item.box b3 [v3, (.int .i64 x8), (.int .i64 x9)], Item.own v3 (x7 : (List Int)), Item.box b2 [(.slice none 0 0), (.int .i64 0), (.int .i64 0)]]) ?_ ?_
      · refine W_cond rfl (fun hc6 => ?_) (fun hc6 => ?_)
        · replace hr7 := ite_t hr7 hc6
          refine W_seq_reg ?_
          refine WL_buildSlice (vs := []) hC16 Try.underlying22 ty3 rfl rfl rfl rfl (by simp) rfl rfl (fun b4 w14 hC18 hB11 => ?_)
          have hC19 := hC18.row0 (α := Int)
          have hC20 := hC19.front 1 rfl
          dsimp only [List.eraseIdx, List.cons_append, List.nil_append, List.append_nil] at hC20
          have hC21 : Ctx [] w0 w14 (Item.own (.slice (some ⟨b4, 0, none⟩) 0 0) (([] : List Int) : List Int) :: [Item.box b3 [v2, (.int .i64 x1.2.1), (.int .i64 (w64 (a1.2.2 + 1)))], Item.own v2 (x1.1 : (List Int)), Item.box b2 [(.slice none 0 0), (.int .i64 0), (.int .i64 0)], Item.box b1 [u1, (.int .i64 a1.2.1), (.int .i64 a1.2.2)]]) := hC20.rowOwn (by simp [maxLen])
          refine WL_field Try.underlying26 rfl rfl (fun w => ⟨_, Try.sizeOf22 w⟩) rfl rfl ?_
          refine WL_load_box hC21 4 rfl rfl Try.isAgg22 rfl rfl ?_
          refine WL_move rfl rfl ?_
          obtain ⟨x10, hr8, hr7⟩ := bind_some hr7
          refine WL_call Try.call92 rfl rfl (c_S_l3Put_ro a1.1 u1 (g1.now hC21.keep) a2 x10 hr8) ?_
          rintro v4 w15 ⟨hB12, h1⟩
          have hC22 := hC21.grow hB12
          obtain ⟨x11, hx1, hr7⟩ := bind_some hr7
          refine WL_append_flat (α := Int) hC22 0 rfl h1 (Keep.refl _ _) Try.underlying22 ty3 rfl hx1 rfl rfl rfl (fun v5 w16 hC23 => ?_)
          try dsimp only [List.set] at hC23
          refine WL_field Try.underlying26 rfl rfl (fun w => ⟨_, Try.sizeOf22 w⟩) rfl rfl ?_
          refine WL_store_box (cs' := [v5, (.int .i64 x1.2.1), (.int .i64 (w64 (a1.2.2 + 1)))]) hC23 1 rfl rfl (ro_one (hC23.ro 0 rfl)) rfl Try.sizeOf22 rfl rfl (fun w17 hC24 => ?_)
          try dsimp only [List.set] at hC24
          refine WL_nil ?_
          refine W_reg ?_
          refine WL_field Try.underlying26 rfl rfl (fun w => ⟨_, Try.sizeOf3 w⟩) rfl rfl ?_
          refine WL_load_box hC24 4 rfl rfl Try.isAgg3 rfl rfl ?_
          refine WL_move rfl rfl ?_
          refine WL_add rfl rfl rfl ?_
          refine WL_field Try.underlying26 rfl rfl (fun w => ⟨_, Try.sizeOf3 w⟩) rfl rfl ?_
          refine WL_store_box (cs' := [v5, (.int .i64 (w64 (a1.2.1 + a3))), (.int .i64 (w64 (a1.2.2 + 1)))]) hC24 1 rfl rfl rfl rfl Try.sizeOf3 rfl rfl (fun w18 hC25 => ?_)
          try dsimp only [List.set] at hC25
          refine WL_nil ?_
          have hq7 := Option.some.inj hr7
          subst hq7
          have hC26 : Ctx [] w0 _ [Item.box b2 [(.slice none 0 0), (.int .i64 0), (.int .i64 0)], Item.own v5 (x11 : (List Int)), Item.box b3 [v5, (.int .i64 (w64 (a1.2.1 + a3))), (.int .i64 (w64 (a1.2.2 + 1)))], Item.own v2 (x1.1 : (List Int)), Item.box b1 [u1, (.int .i64 a1.2.1), (.int .i64 a1.2.2)]] := hC25.front 3 rfl
          have hC27 : Ctx [] w0 _ [Item.own v5 (x11 : (List Int)), Item.box b2 [(.slice none 0 0), (.int .i64 0), (.int .i64 0)], Item.box b3 [v5, (.int .i64 (w64 (a1.2.1 + a3))), (.int .i64 (w64 (a1.2.2 + 1)))], Item.own v2 (x1.1 : (List Int)), Item.box b1 [u1, (.int .i64 a1.2.1), (.int .i64 a1.2.2)]] := hC26.front 1 rfl
          have hC28 : Ctx [] w0 _ [Item.box b3 [v5, (.int .i64 (w64 (a1.2.1 + a3))), (.int .i64 (w64 (a1.2.2 + 1)))], Item.own v5 (x11 : (List Int)), Item.box b2 [(.slice none 0 0), (.int .i64 0), (.int .i64 0)], Item.own v2 (x1.1 : (List Int)), Item.box b1 [u1, (.int .i64 a1.2.1), (.int .i64 a1.2.2)]] := hC27.front 2 rfl
          have hC29 : Ctx [] w0 _ [Item.box b3 [v5, (.int .i64 (w64 (a1.2.1 + a3))), (.int .i64 (w64 (a1.2.2 + 1)))], Item.own v5 (x11 : (List Int)), Item.box b2 [(.slice none 0 0), (.int .i64 0), (.int .i64 0)]] := hC28.headN 3
          refine nrm_sub (l' := [(6, (ptr b2 0)), (8, (ptr b3 0))]) ⟨rfl, rfl, trivial⟩ ?_
          exact ⟨v5, x11, w64 (a1.2.1 + a3), w64 (a1.2.2 + 1), rfl, rfl, hC29⟩
        · replace hr7 := ite_f hr7 hc6
          refine W_skip ?_
          have hq8 := Option.some.inj hr7
          subst hq8
          have hC30 : Ctx [] w0 _ [Item.box b2 [(.slice none 0 0), (.int .i64 0), (.int .i64 0)], Item.box b3 [v2, (.int .i64 x1.2.1), (.int .i64 (w64 (a1.2.2 + 1)))], Item.own v2 (x1.1 : (List Int)), Item.box b1 [u1, (.int .i64 a1.2.1), (.int .i64 a1.2.2)]] := hC16.front 2 rfl
          have hC31 : Ctx [] w0 _ [Item.own v2 (x1.1 : (List Int)), Item.box b2 [(.slice none 0 0), (.int .i64 0), (.int .i64 0)], Item.box b3 [v2, (.int .i64 x1.2.1), (.int .i64 (w64 (a1.2.2 + 1)))], Item.box b1 [u1, (.int .i64 a1.2.1), (.int .i64 a1.2.2)]] := hC30.front 2 rfl
          have hC32 : Ctx [] w0 _ [Item.box b3 [v2, (.int .i64 x1.2.1), (.int .i64 (w64 (a1.2.2 + 1)))], Item.own v2 (x1.1 : (List Int)), Item.box b2 [(.slice none 0 0), (.int .i64 0), (.int .i64 0)], Item.box b1 [u1, (.int .i64 a1.2.1), (.int .i64 a1.2.2)]] := hC31.front 2 rfl
          have hC33 : Ctx [] w0 _ [Item.box b3 [v2, (.int .i64 x1.2.1), (.int .i64 (w64 (a1.2.2 + 1)))], Item.own v2 (x1.1 : (List Int)), Item.box b2 [(.slice none 0 0), (.int .i64 0), (.int .i64 0)]] := hC32.headN 3
          refine nrm_sub (l' := [(6, (ptr b2 0)), (8, (ptr b3 0))]) ⟨rfl, rfl, trivial⟩ ?_
          exact ⟨v2, x1.1, x1.2.1, w64 (a1.2.2 + 1), rfl, rfl, hC33⟩
      · rintro l2 _ w13 hs2 ⟨v3, x7, x8, x9, rfl, rfl, hC17⟩
        try dsimp only at hF
        refine nrm_sub' hs2 ?_
        clear hs2
        refine W_seq_reg ?_
        refine WL_load_box_agg [v3, (.int .i64 x8), (.int .i64 x9)] hC17 0 rfl rfl rfl Try.isAgg26 Try.sizeOf26 rfl rfl ?_
        refine WL_store_box_agg (cs' := [v3, (.int .i64 x8), (.int .i64 x9)]) (new := [v3, (.int .i64 x8), (.int .i64 x9)]) hC17 2 rfl rfl (by intro v hv; simp only [List.mem_cons, List.not_mem_nil, or_false] at hv; rcases hv with rfl | rfl | rfl; exact (ro_one (hC17.ro 1 rfl)); exact rfl; exact rfl) rfl Try.sizeOf26 rfl rfl (fun w19 hC34 => ?_)
        try dsimp only [List.set] at hC34
        refine WL_assign rfl rfl ?_
        refine WL_nil ?_
        refine W_ret ?_
        have hq9 := Option.some.inj hF
        subst hq9
        refine fn_retG2 rfl (rv_cell_agg (cs' := [v3, (.int .i64 x8), (.int .i64 x9)]) hC34 (i := 2) rfl rfl rfl Try.isAgg26 Try.sizeOf26 rfl) (rv_tmp rfl) ?_
        have hC35 := hC34.triv (bool_val (true))
        have hC37 : Ctx [] w0 _ [Item.own v3 (x7 : (List Int)), Item.own (.bool true) (true : Bool), Item.box b3 [v3, (.int .i64 x8), (.int .i64 x9)], Item.box b2 [v3, (.int .i64 x8), (.int .i64 x9)]] := hC35.front 2 rfl
        have hC36 := own_st26 v3 x7 x8 x9 hC37
        exact ⟨_, rfl, res2_of hC36⟩

theorem c_S_TryCall {w0 : World} (a1 : ((List Int) × Int × Int)) (u1 : Value) (g1 : RO [] w0 u1 a1.1) (a2 : (Int × Int × Int × Bool)) (a3 : Int) (rr : (((List Int) × Int × Int) × (Int × Int × Int × Bool) × Bool)) (hF : S.TryCall a1 a2 a3 = some rr) :
    Calls Try.prog 22 [(.agg #[u1, (.int .i64 a1.2.1), (.int .i64 a1.2.2)]), (.agg #[(.int .i64 a2.1), (.int .i64 a2.2.1), (.int .i64 a2.2.2.1), (.bool a2.2.2.2)]), (.int .i64 a3)].toArray w0 fun e w' => ∃ v, e = .returned v ∧ Res3 w0 rr.1 rr.2.1 rr.2.2 v w' := by
  refine calls_of_W Try.func22 rfl rfl ?_
  have hC0 := Ctx.start w0
  unfold S.TryCall at hF
  refine W_seq_reg ?_
  refine WL_box (cs := [u1, (.int .i64 a1.2.1), (.int .i64 a1.2.2)]) hC0 rfl rfl rfl (fun b1 w1 hC1 hB1 => ?_)
  refine WL_box (cs := [(.int .i64 a2.1), (.int .i64 a2.2.1), (.int .i64 a2.2.2.1), (.bool a2.2.2.2)]) hC1 rfl rfl rfl (fun b2 w2 hC2 hB2 => ?_)
  refine WL_alloc hC2 zero26 rfl rfl (fun b3 w3 hC3 hB3 => ?_)
  refine WL_alloc hC3 zero35 rfl rfl (fun b4 w4 hC4 hB4 => ?_)
  refine WL_assign rfl rfl ?_
  refine WL_nil ?_
  refine W_seq_reg ?_
  refine WL_load_box_agg [u1, (.int .i64 a1.2.1), (.int .i64 a1.2.2)] hC4 3 rfl rfl rfl Try.isAgg26 Try.sizeOf26 rfl rfl ?_
  obtain ⟨x1, hr1, hF⟩ := bind_some hF
  refine WL_call Try.call89 rfl rfl (c_S_l27Copy (a1.1, a1.2.1, a1.2.2) u1 (g1.now hC4.keep) x1 hr1) ?_
  rintro v1 w5 ⟨hB5, F1, hv1, hn1, hb1⟩
  have hC5 := hC4.push hB5 (A := Item.own v1 x1) hv1 hn1 hb1
  obtain ⟨v2, rfl, hC6⟩ := st26_own hC5
  refine WL_alloc hC6 zero26 rfl rfl (fun b5 w6 hC7 hB6 => ?_)
  refine WL_store_box_agg (cs' := [v2, (.int .i64 x1.2.1), (.int .i64 x1.2.2)]) (new := [v2, (.int .i64 x1.2.1), (.int .i64 x1.2.2)]) hC7 0 rfl rfl (by intro v hv; simp only [List.mem_cons, List.not_mem_nil, or_false] at hv; rcases hv with rfl | rfl | rfl; exact (ro_one (hC7.ro 1 rfl)); exact rfl; exact rfl) rfl Try.sizeOf26 rfl rfl (fun w7 hC8 => ?_)
  try dsimp only [List.set] at hC8
  refine WL_nil ?_
  refine W_seq ?_
  obtain ⟨r1, hr2, hF⟩ := bind_some hF
  refine W_cut (fun l w => ∃ x2 : Bool, x2 = r1 ∧ l = [(2, (.int .i64 a3)), (4, (ptr b2 0)), (6, (ptr b3 0)), (7, (ptr b4 0)), (9, (ptr b5 0)), (46, (.bool x2))] ∧ Below w7.heap.size w7 w ∧ Ctx [] w0 w [Item.box b5 [v2, (.int .i64 x1.2.1), (.int .i64 x1.2.2)], Item.own v2 (x1.1 : (List Int)), Item.box b4 [(.int .i64 0), (.int .i64 0), (.int .i64 0), (.bool false)], Item.box b3 [(.slice none 0 0), (.int .i64 0), (.int .i64 0)], Item.box b2 [(.int .i64 a2.1), (.int .i64 a2.2.1), (.int .i64 a2.2.2.1), (.bool a2.2.2.2)]]) ?_ ?_
  · refine W_reg ?_
    refine WL_load_box_agg [u1, (.int .i64 a1.2.1), (.int .i64 a1.2.2)] hC8 5 rfl rfl rfl Try.isAgg26 Try.sizeOf26 rfl rfl ?_
    obtain ⟨x3, hr3, hr2⟩ := bind_some hr2
    refine WL_call Try.call42 rfl rfl (c_S_IsLedger (a1.1, a1.2.1, a1.2.2) u1 (g1.now hC8.keep) x3 hr3) ?_
    intro _ w9 hv2
    obtain ⟨rfl, hB8⟩ := res_bool hv2
    have hC10 := hC8.grow hB8
    refine WL_not rfl rfl ?_
    refine WL_move rfl rfl ?_
    refine WL_fork (fun hc1 => ?_) (fun hc1 => ?_)
    · replace hr2 := ite_t hr2 hc1
      refine WL_guard_skip rfl rfl (by simp) rfl ?_
      refine WL_guard_skip rfl rfl (by simp) rfl ?_
      refine WL_guard_skip rfl rfl (by simp) rfl ?_
      refine WL_guard_skip rfl rfl (by simp) rfl ?_
      refine WL_pick_t rfl rfl rfl ?_
      refine WL_move rfl rfl ?_
      refine WL_guard_skip rfl rfl (by simp) rfl ?_
      refine WL_guard_skip rfl rfl (by simp) rfl ?_
      refine WL_guard_skip rfl rfl (by simp) rfl ?_
      refine WL_guard_skip rfl rfl (by simp) rfl ?_
      refine WL_pick_t rfl rfl rfl ?_
      refine WL_move rfl rfl ?_
      refine WL_guard_skip rfl rfl (by simp) rfl ?_
      refine WL_guard_skip rfl rfl (by simp) rfl ?_
      refine WL_guard_skip rfl rfl (by simp) rfl ?_
      refine WL_guard_skip rfl rfl (by simp) rfl ?_
      refine WL_pick_t rfl rfl rfl ?_
      refine WL_move rfl rfl ?_
      refine WL_guard_skip rfl rfl (by simp) rfl ?_
      refine WL_guard_skip rfl rfl (by simp) rfl ?_
      refine WL_pick_t rfl rfl rfl ?_
      refine WL_move rfl rfl ?_
      refine WL_guard_skip rfl rfl (by simp) rfl ?_
      refine WL_guard_skip rfl rfl (by simp) rfl ?_
      refine WL_guard_skip rfl rfl (by simp) rfl ?_
      refine WL_pick_t rfl rfl rfl ?_
      refine WL_move rfl rfl ?_
      refine WL_guard_skip rfl rfl (by simp) rfl ?_
      refine WL_guard_skip rfl rfl (by simp) rfl ?_
      refine WL_guard_skip rfl rfl (by simp) rfl ?_
      refine WL_pick_t rfl rfl rfl ?_
      refine WL_nil ?_
      have hq1 := Option.some.inj hr2
      subst hq1
      have hC11 : Ctx [] w0 _ [Item.box b2 [(.int .i64 a2.1), (.int .i64 a2.2.1), (.int .i64 a2.2.2.1), (.bool a2.2.2.2)], Item.box b5 [v2, (.int .i64 x1.2.1), (.int .i64 x1.2.2)], Item.own v2 (x1.1 : (List Int)), Item.box b4 [(.int .i64 0), (.int .i64 0), (.int .i64 0), (.bool false)], Item.box b3 [(.slice none 0 0), (.int .i64 0), (.int .i64 0)], Item.box b1 [u1, (.int .i64 a1.2.1), (.int .i64 a1.2.2)]] := hC10.front 4 rfl
      have hC12 : Ctx [] w0 _ [Item.box b3 [(.slice none 0 0), (.int .i64 0), (.int .i64 0)], Item.box b2 [(.int .i64 a2.1), (.int .i64 a2.2.1), (.int .i64 a2.2.2.1), (.bool a2.2.2.2)], Item.box b5 [v2, (.int .i64 x1.2.1), (.int .i64 x1.2.2)], Item.own v2 (x1.1 : (List Int)), Item.box b4 [(.int .i64 0), (.int .i64 0), (.int .i64 0), (.bool false)], Item.box b1 [u1, (.int .i64 a1.2.1), (.int .i64 a1.2.2)]] := hC11.front 4 rfl
      have hC13 : Ctx [] w0 _ [Item.box b4 [(.int .i64 0), (.int .i64 0), (.int .i64 0), (.bool false)], Item.box b3 [(.slice none 0 0), (.int .i64 0), (.int .i64 0)], Item.box b2 [(.int .i64 a2.1), (.int .i64 a2.2.1), (.int .i64 a2.2.2.1), (.bool a2.2.2.2)], Item.box b5 [v2, (.int .i64 x1.2.1), (.int .i64 x1.2.2)], Item.own v2 (x1.1 : (List Int)), Item.box b1 [u1, (.int .i64 a1.2.1), (.int .i64 a1.2.2)]] := hC12.front 4 rfl
      have hC14 : Ctx [] w0 _ [Item.own v2 (x1.1 : (List Int)), Item.box b4 [(.int .i64 0), (.int .i64 0), (.int .i64 0), (.bool false)], Item.box b3 [(.slice none 0 0), (.int .i64 0), (.int .i64 0)], Item.box b2 [(.int .i64 a2.1), (.int .i64 a2.2.1), (.int .i64 a2.2.2.1), (.bool a2.2.2.2)], Item.box b5 [v2, (.int .i64 x1.2.1), (.int .i64 x1.2.2)], Item.box b1 [u1, (.int .i64 a1.2.1), (.int .i64 a1.2.2)]] := hC13.front 4 rfl
      have hC15 : Ctx [] w0 _ [Item.box b5 [v2, (.int .i64 x1.2.1), (.int .i64 x1.2.2)], Item.own v2 (x1.1 : (List Int)), Item.box b4 [(.int .i64 0), (.int .i64 0), (.int .i64 0), (.bool false)], Item.box b3 [(.slice none 0 0), (.int .i64 0), (.int .i64 0)], Item.box b2 [(.int .i64 a2.1), (.int .i64 a2.2.1), (.int .i64 a2.2.2.1), (.bool a2.2.2.2)], Item.box b1 [u1, (.int .i64 a1.2.1), (.int .i64 a1.2.2)]] := hC14.front 4 rfl
      have hC16 : Ctx [] w0 _ [Item.box b5 [v2, (.int .i64 x1.2.1), (.int .i64 x1.2.2)], Item.own v2 (x1.1 : (List Int)), Item.box b4 [(.int .i64 0), (.int .i64 0), (.int .i64 0), (.bool false)], Item.box b3 [(.slice none 0 0), (.int .i64 0), (.int .i64 0)], Item.box b2 [(.int .i64 a2.1), (.int .i64 a2.2.1), (.int .i64 a2.2.2.1), (.bool a2.2.2.2)]] := hC15.headN 5
      refine nrm_sub (l' := [(2, (.int .i64 a3)), (4, (ptr b2 0)), (6, (ptr b3 0)), (7, (ptr b4 0)), (9, (ptr b5 0)), (46, (.bool true))]) ⟨rfl, rfl, rfl, rfl, rfl, rfl, trivial⟩ ?_
      exact ⟨true, rfl, rfl, (Keep.of hB8).below, hC16⟩
    · replace hr2 := ite_f hr2 hc1
      refine WL_guard rfl rfl ?_
      refine WL_field Try.underlying35 rfl rfl (fun w => ⟨_, Try.sizeOf3 w⟩) rfl rfl ?_
      refine WL_guard rfl rfl ?_
      refine WL_load_box hC10 4 rfl rfl Try.isAgg3 rfl rfl ?_
      obtain ⟨x4, hr4, hr2⟩ := bind_some hr2
      refine WL_guard rfl rfl ?_
      refine WL_call Try.call90 rfl rfl (c_S_l1In a2.1 0 1000000 x4 hr4) ?_
      intro _ w10 hv3
      obtain ⟨rfl, hB9⟩ := res_bool hv3
      have hC17 := hC10.grow hB9
      refine WL_guard rfl rfl ?_
      refine WL_not rfl rfl ?_
      refine WL_pick_f rfl rfl rfl ?_
      refine WL_move rfl rfl ?_
      refine WL_fork (fun hc2 => ?_) (fun hc2 => ?_)
      · replace hr2 := ite_t hr2 hc2
        refine WL_guard_skip rfl rfl (by simp) rfl ?_
        refine WL_guard_skip rfl rfl (by simp) rfl ?_
        refine WL_guard_skip rfl rfl (by simp) rfl ?_
        refine WL_guard_skip rfl rfl (by simp) rfl ?_
        refine WL_pick_t rfl rfl rfl ?_
        refine WL_move rfl rfl ?_
        refine WL_guard_skip rfl rfl (by simp) rfl ?_
        refine WL_guard_skip rfl rfl (by simp) rfl ?_
        refine WL_guard_skip rfl rfl (by simp) rfl ?_
        refine WL_guard_skip rfl rfl (by simp) rfl ?_
        refine WL_pick_t rfl rfl rfl ?_
        refine WL_move rfl rfl ?_
        refine WL_guard_skip rfl rfl (by simp) rfl ?_
        refine WL_guard_skip rfl rfl (by simp) rfl ?_
        refine WL_pick_t rfl rfl rfl ?_
        refine WL_move rfl rfl ?_
        refine WL_guard_skip rfl rfl (by simp) rfl ?_
        refine WL_guard_skip rfl rfl (by simp) rfl ?_
        refine WL_guard_skip rfl rfl (by simp) rfl ?_
        refine WL_pick_t rfl rfl rfl ?_
        refine WL_move rfl rfl ?_
        refine WL_guard_skip rfl rfl (by simp) rfl ?_
        refine WL_guard_skip rfl rfl (by simp) rfl ?_
        refine WL_guard_skip rfl rfl (by simp) rfl ?_
        refine WL_pick_t rfl rfl rfl ?_
        refine WL_nil ?_
        have hq2 := Option.some.inj hr2
        subst hq2
        have hC18 : Ctx [] w0 _ [Item.box b2 [(.int .i64 a2.1), (.int .i64 a2.2.1), (.int .i64 a2.2.2.1), (.bool a2.2.2.2)], Item.box b5 [v2, (.int .i64 x1.2.1), (.int .i64 x1.2.2)], Item.own v2 (x1.1 : (List Int)), Item.box b4 [(.int .i64 0), (.int .i64 0), (.int .i64 0), (.bool false)], Item.box b3 [(.slice none 0 0), (.int .i64 0), (.int .i64 0)], Item.box b1 [u1, (.int .i64 a1.2.1), (.int .i64 a1.2.2)]] := hC17.front 4 rfl
        have hC19 : Ctx [] w0 _ [Item.box b3 [(.slice none 0 0), (.int .i64 0), (.int .i64 0)], Item.box b2 [(.int .i64 a2.1), (.int .i64 a2.2.1), (.int .i64 a2.2.2.1), (.bool a2.2.2.2)], Item.box b5 [v2, (.int .i64 x1.2.1), (.int .i64 x1.2.2)], Item.own v2 (x1.1 : (List Int)), Item.box b4 [(.int .i64 0), (.int .i64 0), (.int .i64 0), (.bool false)], Item.box b1 [u1, (.int .i64 a1.2.1), (.int .i64 a1.2.2)]] := hC18.front 4 rfl
        have hC20 : Ctx [] w0 _ [Item.box b4 [(.int .i64 0), (.int .i64 0), (.int .i64 0), (.bool false)], Item.box b3 [(.slice none 0 0), (.int .i64 0), (.int .i64 0)], Item.box b2 [(.int .i64 a2.1), (.int .i64 a2.2.1), (.int .i64 a2.2.2.1), (.bool a2.2.2.2)], Item.box b5 [v2, (.int .i64 x1.2.1), (.int .i64 x1.2.2)], Item.own v2 (x1.1 : (List Int)), Item.box b1 [u1, (.int .i64 a1.2.1), (.int .i64 a1.2.2)]] := hC19.front 4 rfl
        have hC21 : Ctx [] w0 _ [Item.own v2 (x1.1 : (List Int)), Item.box b4 [(.int .i64 0), (.int .i64 0), (.int .i64 0), (.bool false)], Item.box b3 [(.slice none 0 0), (.int .i64 0), (.int .i64 0)], Item.box b2 [(.int .i64 a2.1), (.int .i64 a2.2.1), (.int .i64 a2.2.2.1), (.bool a2.2.2.2)], Item.box b5 [v2, (.int .i64 x1.2.1), (.int .i64 x1.2.2)], Item.box b1 [u1, (.int .i64 a1.2.1), (.int .i64 a1.2.2)]] := hC20.front 4 rfl
        have hC22 : Ctx [] w0 _ [Item.box b5 [v2, (.int .i64 x1.2.1), (.int .i64 x1.2.2)], Item.own v2 (x1.1 : (List Int)), Item.box b4 [(.int .i64 0), (.int .i64 0), (.int .i64 0), (.bool false)], Item.box b3 [(.slice none 0 0), (.int .i64 0), (.int .i64 0)], Item.box b2 [(.int .i64 a2.1), (.int .i64 a2.2.1), (.int .i64 a2.2.2.1), (.bool a2.2.2.2)], Item.box b1 [u1, (.int .i64 a1.2.1), (.int .i64 a1.2.2)]] := hC21.front 4 rfl
        have hC23 : Ctx [] w0 _ [Item.box b5 [v2, (.int .i64 x1.2.1), (.int .i64 x1.2.2)], Item.own v2 (x1.1 : (List Int)), Item.box b4 [(.int .i64 0), (.int .i64 0), (.int .i64 0), (.bool false)], Item.box b3 [(.slice none 0 0), (.int .i64 0), (.int .i64 0)], Item.box b2 [(.int .i64 a2.1), (.int .i64 a2.2.1), (.int .i64 a2.2.2.1), (.bool a2.2.2.2)]] := hC22.headN 5
        refine nrm_sub (l' := [(2, (.int .i64 a3)), (4, (ptr b2 0)), (6, (ptr b3 0)), (7, (ptr b4 0)), (9, (ptr b5 0)), (46, (.bool true))]) ⟨rfl, rfl, rfl, rfl, rfl, rfl, trivial⟩ ?_
        exact ⟨true, rfl, rfl, ((Keep.of hB8).then hB9).below, hC23⟩
      · replace hr2 := ite_f hr2 hc2
        refine WL_guard rfl rfl ?_
        refine WL_field Try.underlying35 rfl rfl (fun w => ⟨_, Try.sizeOf3 w⟩) rfl rfl ?_
        refine WL_guard rfl rfl ?_
        refine WL_load_box hC17 4 rfl rfl Try.isAgg3 rfl rfl ?_
        obtain ⟨x5, hr5, hr2⟩ := bind_some hr2
        refine WL_guard rfl rfl ?_
        refine WL_call Try.call90 rfl rfl (c_S_l1In a2.2.1 0 99 x5 hr5) ?_
        intro _ w11 hv4
        obtain ⟨rfl, hB10⟩ := res_bool hv4
        have hC24 := hC17.grow hB10
        refine WL_guard rfl rfl ?_
        refine WL_not rfl rfl ?_
        refine WL_pick_f rfl rfl rfl ?_
        refine WL_move rfl rfl ?_
        refine WL_fork (fun hc3 => ?_) (fun hc3 => ?_)
        · replace hr2 := ite_t hr2 hc3
          refine WL_guard_skip rfl rfl (by simp) rfl ?_
          refine WL_guard_skip rfl rfl (by simp) rfl ?_
          refine WL_guard_skip rfl rfl (by simp) rfl ?_
          refine WL_guard_skip rfl rfl (by simp) rfl ?_
          refine WL_pick_t rfl rfl rfl ?_
          refine WL_move rfl rfl ?_
          refine WL_guard_skip rfl rfl (by simp) rfl ?_
          refine WL_guard_skip rfl rfl (by simp) rfl ?_
          refine WL_pick_t rfl rfl rfl ?_
          refine WL_move rfl rfl ?_
          refine WL_guard_skip rfl rfl (by simp) rfl ?_
          refine WL_guard_skip rfl rfl (by simp) rfl ?_
          refine WL_guard_skip rfl rfl (by simp) rfl ?_
          refine WL_pick_t rfl rfl rfl ?_
          refine WL_move rfl rfl ?_
          refine WL_guard_skip rfl rfl (by simp) rfl ?_
          refine WL_guard_skip rfl rfl (by simp) rfl ?_
          refine WL_guard_skip rfl rfl (by simp) rfl ?_
          refine WL_pick_t rfl rfl rfl ?_
          refine WL_nil ?_
          have hq3 := Option.some.inj hr2
          subst hq3
          have hC25 : Ctx [] w0 _ [Item.box b2 [(.int .i64 a2.1), (.int .i64 a2.2.1), (.int .i64 a2.2.2.1), (.bool a2.2.2.2)], Item.box b5 [v2, (.int .i64 x1.2.1), (.int .i64 x1.2.2)], Item.own v2 (x1.1 : (List Int)), Item.box b4 [(.int .i64 0), (.int .i64 0), (.int .i64 0), (.bool false)], Item.box b3 [(.slice none 0 0), (.int .i64 0), (.int .i64 0)], Item.box b1 [u1, (.int .i64 a1.2.1), (.int .i64 a1.2.2)]] := hC24.front 4 rfl
          have hC26 : Ctx [] w0 _ [Item.box b3 [(.slice none 0 0), (.int .i64 0), (.int .i64 0)], Item.box b2 [(.int .i64 a2.1), (.int .i64 a2.2.1), (.int .i64 a2.2.2.1), (.bool a2.2.2.2)], Item.box b5 [v2, (.int .i64 x1.2.1), (.int .i64 x1.2.2)], Item.own v2 (x1.1 : (List Int)), Item.box b4 [(.int .i64 0), (.int .i64 0), (.int .i64 0), (.bool false)], Item.box b1 [u1, (.int .i64 a1.2.1), (.int .i64 a1.2.2)]] := hC25.front 4 rfl
          have hC27 : Ctx [] w0 _ [Item.box b4 [(.int .i64 0), (.int .i64 0), (.int .i64 0), (.bool false)], Item.box b3 [(.slice none 0 0), (.int .i64 0), (.int .i64 0)], Item.box b2 [(.int .i64 a2.1), (.int .i64 a2.2.1), (.int .i64 a2.2.2.1), (.bool a2.2.2.2)], Item.box b5 [v2, (.int .i64 x1.2.1), (.int .i64 x1.2.2)], Item.own v2 (x1.1 : (List Int)), Item.box b1 [u1, (.int .i64 a1.2.1), (.int .i64 a1.2.2)]] := hC26.front 4 rfl
          have hC28 : Ctx [] w0 _ [Item.own v2 (x1.1 : (List Int)), Item.box b4 [(.int .i64 0), (.int .i64 0), (.int .i64 0), (.bool false)], Item.box b3 [(.slice none 0 0), (.int .i64 0), (.int .i64 0)], Item.box b2 [(.int .i64 a2.1), (.int .i64 a2.2.1), (.int .i64 a2.2.2.1), (.bool a2.2.2.2)], Item.box b5 [v2, (.int .i64 x1.2.1), (.int .i64 x1.2.2)], Item.box b1 [u1, (.int .i64 a1.2.1), (.int .i64 a1.2.2)]] := hC27.front 4 rfl
          have hC29 : Ctx [] w0 _ [Item.box b5 [v2, (.int .i64 x1.2.1), (.int .i64 x1.2.2)], Item.own v2 (x1.1 : (List Int)), Item.box b4 [(.int .i64 0), (.int .i64 0), (.int .i64 0), (.bool false)], Item.box b3 [(.slice none 0 0), (.int .i64 0), (.int .i64 0)], Item.box b2 [(.int .i64 a2.1), (.int .i64 a2.2.1), (.int .i64 a2.2.2.1), (.bool a2.2.2.2)], Item.box b1 [u1, (.int .i64 a1.2.1), (.int .i64 a1.2.2)]] := hC28.front 4 rfl
          have hC30 : Ctx [] w0 _ [Item.box b5 [v2, (.int .i64 x1.2.1), (.int .i64 x1.2.2)], Item.own v2 (x1.1 : (List Int)), Item.box b4 [(.int .i64 0), (.int .i64 0), (.int .i64 0), (.bool false)], Item.box b3 [(.slice none 0 0), (.int .i64 0), (.int .i64 0)], Item.box b2 [(.int .i64 a2.1), (.int .i64 a2.2.1), (.int .i64 a2.2.2.1), (.bool a2.2.2.2)]] := hC29.headN 5
          refine nrm_sub (l' := [(2, (.int .i64 a3)), (4, (ptr b2 0)), (6, (ptr b3 0)), (7, (ptr b4 0)), (9, (ptr b5 0)), (46, (.bool true))]) ⟨rfl, rfl, rfl, rfl, rfl, rfl, trivial⟩ ?_
          exact ⟨true, rfl, rfl, (((Keep.of hB8).then hB9).then hB10).below, hC30⟩
        · replace hr2 := ite_f hr2 hc3
          refine WL_guard rfl rfl ?_
          refine WL_field Try.underlying35 rfl rfl (fun w => ⟨_, Try.sizeOf3 w⟩) rfl rfl ?_
          refine WL_guard rfl rfl ?_
          refine WL_load_box hC24 4 rfl rfl Try.isAgg3 rfl rfl ?_
          obtain ⟨x6, hr6, hr2⟩ := bind_some hr2
          refine WL_guard rfl rfl ?_
          refine WL_call Try.call90 rfl rfl (c_S_l1In a2.2.2.1 0 1000 x6 hr6) ?_
          intro _ w12 hv5
          obtain ⟨rfl, hB11⟩ := res_bool hv5
          have hC31 := hC24.grow hB11
          refine WL_guard rfl rfl ?_
          refine WL_not rfl rfl ?_
          refine WL_pick_f rfl rfl rfl ?_
          refine WL_move rfl rfl ?_
          refine WL_fork (fun hc4 => ?_) (fun hc4 => ?_)
          · replace hr2 := ite_t hr2 hc4
            refine WL_guard_skip rfl rfl (by simp) rfl ?_
            refine WL_guard_skip rfl rfl (by simp) rfl ?_
            refine WL_pick_t rfl rfl rfl ?_
            refine WL_move rfl rfl ?_
            refine WL_guard_skip rfl rfl (by simp) rfl ?_
            refine WL_guard_skip rfl rfl (by simp) rfl ?_
            refine WL_guard_skip rfl rfl (by simp) rfl ?_
            refine WL_pick_t rfl rfl rfl ?_
            refine WL_move rfl rfl ?_
            refine WL_guard_skip rfl rfl (by simp) rfl ?_
            refine WL_guard_skip rfl rfl (by simp) rfl ?_
            refine WL_guard_skip rfl rfl (by simp) rfl ?_
            refine WL_pick_t rfl rfl rfl ?_
            refine WL_nil ?_
            have hq4 := Option.some.inj hr2
            subst hq4
            have hC32 : Ctx [] w0 _ [Item.box b2 [(.int .i64 a2.1), (.int .i64 a2.2.1), (.int .i64 a2.2.2.1), (.bool a2.2.2.2)], Item.box b5 [v2, (.int .i64 x1.2.1), (.int .i64 x1.2.2)], Item.own v2 (x1.1 : (List Int)), Item.box b4 [(.int .i64 0), (.int .i64 0), (.int .i64 0), (.bool false)], Item.box b3 [(.slice none 0 0), (.int .i64 0), (.int .i64 0)], Item.box b1 [u1, (.int .i64 a1.2.1), (.int .i64 a1.2.2)]] := hC31.front 4 rfl
            have hC33 : Ctx [] w0 _ [Item.box b3 [(.slice none 0 0), (.int .i64 0), (.int .i64 0)], Item.box b2 [(.int .i64 a2.1), (.int .i64 a2.2.1), (.int .i64 a2.2.2.1), (.bool a2.2.2.2)], Item.box b5 [v2, (.int .i64 x1.2.1), (.int .i64 x1.2.2)], Item.own v2 (x1.1 : (List Int)), Item.box b4 [(.int .i64 0), (.int .i64 0), (.int .i64 0), (.bool false)], Item.box b1 [u1, (.int .i64 a1.2.1), (.int .i64 a1.2.2)]] := hC32.front 4 rfl
            have hC34 : Ctx [] w0 _ [Item.box b4 [(.int .i64 0), (.int .i64 0), (.int .i64 0), (.bool false)], Item.box b3 [(.slice none 0 0), (.int .i64 0), (.int .i64 0)], Item.box b2 [(.int .i64 a2.1), (.int .i64 a2.2.1), (.int .i64 a2.2.2.1), (.bool a2.2.2.2)], Item.box b5 [v2, (.int .i64 x1.2.1), (.int .i64 x1.2.2)], Item.own v2 (x1.1 : (List Int)), Item.box b1 [u1, (.int .i64 a1.2.1), (.int .i64 a1.2.2)]] := hC33.front 4 rfl
            have hC35 : Ctx [] w0 _ [Item.own v2 (x1.1 : (List Int)), Item.box b4 [(.int .i64 0), (.int .i64 0), (.int .i64 0), (.bool false)], Item.box b3 [(.slice none 0 0), (.int .i64 0), (.int .i64 0)], Item.box b2 [(.int .i64 a2.1), (.int .i64 a2.2.1), (.int .i64 a2.2.2.1), (.bool a2.2.2.2)], Item.box b5 [v2, (.int .i64 x1.2.1), (.int .i64 x1.2.2)], Item.box b1 [u1, (.int .i64 a1.2.1), (.int .i64 a1.2.2)]] := hC34.front 4 rfl
            have hC36 : Ctx [] w0 _ [Item.box b5 [v2, (.int .i64 x1.2.1), (.int .i64 x1.2.2)], Item.own v2 (x1.1 : (List Int)), Item.box b4 [(.int .i64 0), (.int .i64 0), (.int .i64 0), (.bool false)], Item.box b3 [(.slice none 0 0), (.int .i64 0), (.int .i64 0)], Item.box b2 [(.int .i64 a2.1), (.int .i64 a2.2.1), (.int .i64 a2.2.2.1), (.bool a2.2.2.2)], Item.box b1 [u1, (.int .i64 a1.2.1), (.int .i64 a1.2.2)]] := hC35.front 4 rfl
            have hC37 : Ctx [] w0 _ [Item.box b5 [v2, (.int .i64 x1.2.1), (.int .i64 x1.2.2)], Item.own v2 (x1.1 : (List Int)), Item.box b4 [(.int .i64 0), (.int .i64 0), (.int .i64 0), (.bool false)], Item.box b3 [(.slice none 0 0), (.int .i64 0), (.int .i64 0)], Item.box b2 [(.int .i64 a2.1), (.int .i64 a2.2.1), (.int .i64 a2.2.2.1), (.bool a2.2.2.2)]] := hC36.headN 5
            refine nrm_sub (l' := [(2, (.int .i64 a3)), (4, (ptr b2 0)), (6, (ptr b3 0)), (7, (ptr b4 0)), (9, (ptr b5 0)), (46, (.bool true))]) ⟨rfl, rfl, rfl, rfl, rfl, rfl, trivial⟩ ?_
            exact ⟨true, rfl, rfl, ((((Keep.of hB8).then hB9).then hB10).then hB11).below, hC37⟩
          · replace hr2 := ite_f hr2 hc4
            refine WL_guard rfl rfl ?_
            refine WL_field Try.underlying35 rfl rfl (fun w => ⟨_, Try.sizeOf4 w⟩) rfl rfl ?_
            refine WL_guard rfl rfl ?_
            refine WL_load_box hC31 4 rfl rfl Try.isAgg4 rfl rfl ?_
            refine WL_pick_f rfl rfl rfl ?_
            refine WL_move rfl rfl ?_
            refine WL_fork (fun hc5 => ?_) (fun hc5 => ?_)
            · replace hr2 := ite_t hr2 hc5
              refine WL_guard_skip rfl rfl (by simp) rfl ?_
              refine WL_guard_skip rfl rfl (by simp) rfl ?_
              refine WL_guard_skip rfl rfl (by simp) rfl ?_
              refine WL_pick_t rfl rfl rfl ?_
              refine WL_move rfl rfl ?_
              refine WL_guard_skip rfl rfl (by simp) rfl ?_
              refine WL_guard_skip rfl rfl (by simp) rfl ?_
              refine WL_guard_skip rfl rfl (by simp) rfl ?_
              refine WL_pick_t rfl rfl rfl ?_
              refine WL_nil ?_
              have hq5 := Option.some.inj hr2
              subst hq5
              have hC38 : Ctx [] w0 _ [Item.box b2 [(.int .i64 a2.1), (.int .i64 a2.2.1), (.int .i64 a2.2.2.1), (.bool a2.2.2.2)], Item.box b5 [v2, (.int .i64 x1.2.1), (.int .i64 x1.2.2)], Item.own v2 (x1.1 : (List Int)), Item.box b4 [(.int .i64 0), (.int .i64 0), (.int .i64 0), (.bool false)], Item.box b3 [(.slice none 0 0), (.int .i64 0), (.int .i64 0)], Item.box b1 [u1, (.int .i64 a1.2.1), (.int .i64 a1.2.2)]] := hC31.front 4 rfl
              have hC39 : Ctx [] w0 _ [Item.box b3 [(.slice none 0 0), (.int .i64 0), (.int .i64 0)], Item.box b2 [(.int .i64 a2.1), (.int .i64 a2.2.1), (.int .i64 a2.2.2.1), (.bool a2.2.2.2)], Item.box b5 [v2, (.int .i64 x1.2.1), (.int .i64 x1.2.2)], Item.own v2 (x1.1 : (List Int)), Item.box b4 [(.int .i64 0), (.int .i64 0), (.int .i64 0), (.bool false)], Item.box b1 [u1, (.int .i64 a1.2.1), (.int .i64 a1.2.2)]] := hC38.front 4 rfl
              have hC40 : Ctx [] w0 _ [Item.box b4 [(.int .i64 0), (.int .i64 0), (.int .i64 0), (.bool false)], Item.box b3 [(.slice none 0 0), (.int .i64 0), (.int .i64 0)], Item.box b2 [(.int .i64 a2.1), (.int .i64 a2.2.1), (.int .i64 a2.2.2.1), (.bool a2.2.2.2)], Item.box b5 [v2, (.int .i64 x1.2.1), (.int .i64 x1.2.2)], Item.own v2 (x1.1 : (List Int)), Item.box b1 [u1, (.int .i64 a1.2.1), (.int .i64 a1.2.2)]] := hC39.front 4 rfl
              have hC41 : Ctx [] w0 _ [Item.own v2 (x1.1 : (List Int)), Item.box b4 [(.int .i64 0), (.int .i64 0), (.int .i64 0), (.bool false)], Item.box b3 [(.slice none 0 0), (.int .i64 0), (.int .i64 0)], Item.box b2 [(.int .i64 a2.1), (.int .i64 a2.2.1), (.int .i64 a2.2.2.1), (.bool a2.2.2.2)], Item.box b5 [v2, (.int .i64 x1.2.1), (.int .i64 x1.2.2)], Item.box b1 [u1, (.int .i64 a1.2.1), (.int .i64 a1.2.2)]] := hC40.front 4 rfl
              have hC42 : Ctx [] w0 _ [Item.box b5 [v2, (.int .i64 x1.2.1), (.int .i64 x1.2.2)], Item.own v2 (x1.1 : (List Int)), Item.box b4 [(.int .i64 0), (.int .i64 0), (.int .i64 0), (.bool false)], Item.box b3 [(.slice none 0 0), (.int .i64 0), (.int .i64 0)], Item.box b2 [(.int .i64 a2.1), (.int .i64 a2.2.1), (.int .i64 a2.2.2.1), (.bool a2.2.2.2)], Item.box b1 [u1, (.int .i64 a1.2.1), (.int .i64 a1.2.2)]] := hC41.front 4 rfl
              have hC43 : Ctx [] w0 _ [Item.box b5 [v2, (.int .i64 x1.2.1), (.int .i64 x1.2.2)], Item.own v2 (x1.1 : (List Int)), Item.box b4 [(.int .i64 0), (.int .i64 0), (.int .i64 0), (.bool false)], Item.box b3 [(.slice none 0 0), (.int .i64 0), (.int .i64 0)], Item.box b2 [(.int .i64 a2.1), (.int .i64 a2.2.1), (.int .i64 a2.2.2.1), (.bool a2.2.2.2)]] := hC42.headN 5
              refine nrm_sub (l' := [(2, (.int .i64 a3)), (4, (ptr b2 0)), (6, (ptr b3 0)), (7, (ptr b4 0)), (9, (ptr b5 0)), (46, (.bool true))]) ⟨rfl, rfl, rfl, rfl, rfl, rfl, trivial⟩ ?_
              exact ⟨true, rfl, rfl, ((((Keep.of hB8).then hB9).then hB10).then hB11).below, hC43⟩
            · replace hr2 := ite_f hr2 hc5
              refine WL_guard rfl rfl ?_
              refine WL_field Try.underlying26 rfl rfl (fun w => ⟨_, Try.sizeOf3 w⟩) rfl rfl ?_
              refine WL_guard rfl rfl ?_
              refine WL_load_box hC31 5 rfl rfl Try.isAgg3 rfl rfl ?_
              refine WL_guard rfl rfl ?_
              refine WL_gtr rfl rfl rfl ?_
              refine WL_pick_f rfl rfl rfl ?_
              refine WL_move rfl rfl ?_
              refine WL_fork (fun hc6 => ?_) (fun hc6 => ?_)
              · replace hr2 := ite_t hr2 hc6
                refine WL_guard_skip rfl rfl (by simp) rfl ?_
                refine WL_guard_skip rfl rfl (by simp) rfl ?_
                refine WL_guard_skip rfl rfl (by simp) rfl ?_
                refine WL_pick_t rfl rfl rfl ?_
                refine WL_nil ?_
                have hq6 := Option.some.inj hr2
                subst hq6
                have hC44 : Ctx [] w0 _ [Item.box b2 [(.int .i64 a2.1), (.int .i64 a2.2.1), (.int .i64 a2.2.2.1), (.bool a2.2.2.2)], Item.box b5 [v2, (.int .i64 x1.2.1), (.int .i64 x1.2.2)], Item.own v2 (x1.1 : (List Int)), Item.box b4 [(.int .i64 0), (.int .i64 0), (.int .i64 0), (.bool false)], Item.box b3 [(.slice none 0 0), (.int .i64 0), (.int .i64 0)], Item.box b1 [u1, (.int .i64 a1.2.1), (.int .i64 a1.2.2)]] := hC31.front 4 rfl
                have hC45 : Ctx [] w0 _ [Item.box b3 [(.slice none 0 0), (.int .i64 0), (.int .i64 0)], Item.box b2 [(.int .i64 a2.1), (.int .i64 a2.2.1), (.int .i64 a2.2.2.1), (.bool a2.2.2.2)], Item.box b5 [v2, (.int .i64 x1.2.1), (.int .i64 x1.2.2)], Item.own v2 (x1.1 : (List Int)), Item.box b4 [(.int .i64 0), (.int .i64 0), (.int .i64 0), (.bool false)], Item.box b1 [u1, (.int .i64 a1.2.1), (.int .i64 a1.2.2)]] := hC44.front 4 rfl
                have hC46 : Ctx [] w0 _ [Item.box b4 [(.int .i64 0), (.int .i64 0), (.int .i64 0), (.bool false)], Item.box b3 [(.slice none 0 0), (.int .i64 0), (.int .i64 0)], Item.box b2 [(.int .i64 a2.1), (.int .i64 a2.2.1), (.int .i64 a2.2.2.1), (.bool a2.2.2.2)], Item.box b5 [v2, (.int .i64 x1.2.1), (.int .i64 x1.2.2)], Item.own v2 (x1.1 : (List Int)), Item.box b1 [u1, (.int .i64 a1.2.1), (.int .i64 a1.2.2)]] := hC45.front 4 rfl
                have hC47 : Ctx [] w0 _ [Item.own v2 (x1.1 : (List Int)), Item.box b4 [(.int .i64 0), (.int .i64 0), (.int .i64 0), (.bool false)], Item.box b3 [(.slice none 0 0), (.int .i64 0), (.int .i64 0)], Item.box b2 [(.int .i64 a2.1), (.int .i64 a2.2.1), (.int .i64 a2.2.2.1), (.bool a2.2.2.2)], Item.box b5 [v2, (.int .i64 x1.2.1), (.int .i64 x1.2.2)], Item.box b1 [u1, (.int .i64 a1.2.1), (.int .i64 a1.2.2)]] := hC46.front 4 rfl
                have hC48 : Ctx [] w0 _ [Item.box b5 [v2, (.int .i64 x1.2.1), (.int .i64 x1.2.2)], Item.own v2 (x1.1 : (List Int)), Item.box b4 [(.int .i64 0), (.int .i64 0), (.int .i64 0), (.bool false)], Item.box b3 [(.slice none 0 0), (.int .i64 0), (.int .i64 0)], Item.box b2 [(.int .i64 a2.1), (.int .i64 a2.2.1), (.int .i64 a2.2.2.1), (.bool a2.2.2.2)], Item.box b1 [u1, (.int .i64 a1.2.1), (.int .i64 a1.2.2)]] := hC47.front 4 rfl
                have hC49 : Ctx [] w0 _ [Item.box b5 [v2, (.int .i64 x1.2.1), (.int .i64 x1.2.2)], Item.own v2 (x1.1 : (List Int)), Item.box b4 [(.int .i64 0), (.int .i64 0), (.int .i64 0), (.bool false)], Item.box b3 [(.slice none 0 0), (.int .i64 0), (.int .i64 0)], Item.box b2 [(.int .i64 a2.1), (.int .i64 a2.2.1), (.int .i64 a2.2.2.1), (.bool a2.2.2.2)]] := hC48.headN 5
                refine nrm_sub (l' := [(2, (.int .i64 a3)), (4, (ptr b2 0)), (6, (ptr b3 0)), (7, (ptr b4 0)), (9, (ptr b5 0)), (46, (.bool true))]) ⟨rfl, rfl, rfl, rfl, rfl, rfl, trivial⟩ ?_
                exact ⟨true, rfl, rfl, ((((Keep.of hB8).then hB9).then hB10).then hB11).below, hC49⟩
              · replace hr2 := ite_f hr2 hc6
                refine WL_guard rfl rfl ?_
                refine WL_field Try.underlying26 rfl rfl (fun w => ⟨_, Try.sizeOf3 w⟩) rfl rfl ?_
                refine WL_guard rfl rfl ?_
                refine WL_load_box hC31 5 rfl rfl Try.isAgg3 rfl rfl ?_
                refine WL_guard rfl rfl ?_
                refine WL_gtr rfl rfl rfl ?_
                refine WL_pick_f rfl rfl rfl ?_
                refine WL_nil ?_
                have hq7 := Option.some.inj hr2
                subst hq7
                have hC50 : Ctx [] w0 _ [Item.box b2 [(.int .i64 a2.1), (.int .i64 a2.2.1), (.int .i64 a2.2.2.1), (.bool a2.2.2.2)], Item.box b5 [v2, (.int .i64 x1.2.1), (.int .i64 x1.2.2)], Item.own v2 (x1.1 : (List Int)), Item.box b4 [(.int .i64 0), (.int .i64 0), (.int .i64 0), (.bool false)], Item.box b3 [(.slice none 0 0), (.int .i64 0), (.int .i64 0)], Item.box b1 [u1, (.int .i64 a1.2.1), (.int .i64 a1.2.2)]] := hC31.front 4 rfl
                have hC51 : Ctx [] w0 _ [Item.box b3 [(.slice none 0 0), (.int .i64 0), (.int .i64 0)], Item.box b2 [(.int .i64 a2.1), (.int .i64 a2.2.1), (.int .i64 a2.2.2.1), (.bool a2.2.2.2)], Item.box b5 [v2, (.int .i64 x1.2.1), (.int .i64 x1.2.2)], Item.own v2 (x1.1 : (List Int)), Item.box b4 [(.int .i64 0), (.int .i64 0), (.int .i64 0), (.bool false)], Item.box b1 [u1, (.int .i64 a1.2.1), (.int .i64 a1.2.2)]] := hC50.front 4 rfl
                have hC52 : Ctx [] w0 _ [Item.box b4 [(.int .i64 0), (.int .i64 0), (.int .i64 0), (.bool false)], Item.box b3 [(.slice none 0 0), (.int .i64 0), (.int .i64 0)], Item.box b2 [(.int .i64 a2.1), (.int .i64 a2.2.1), (.int .i64 a2.2.2.1), (.bool a2.2.2.2)], Item.box b5 [v2, (.int .i64 x1.2.1), (.int .i64 x1.2.2)], Item.own v2 (x1.1 : (List Int)), Item.box b1 [u1, (.int .i64 a1.2.1), (.int .i64 a1.2.2)]] := hC51.front 4 rfl
                have hC53 : Ctx [] w0 _ [Item.own v2 (x1.1 : (List Int)), Item.box b4 [(.int .i64 0), (.int .i64 0), (.int .i64 0), (.bool false)], Item.box b3 [(.slice none 0 0), (.int .i64 0), (.int .i64 0)], Item.box b2 [(.int .i64 a2.1), (.int .i64 a2.2.1), (.int .i64 a2.2.2.1), (.bool a2.2.2.2)], Item.box b5 [v2, (.int .i64 x1.2.1), (.int .i64 x1.2.2)], Item.box b1 [u1, (.int .i64 a1.2.1), (.int .i64 a1.2.2)]] := hC52.front 4 rfl
                have hC54 : Ctx [] w0 _ [Item.box b5 [v2, (.int .i64 x1.2.1), (.int .i64 x1.2.2)], Item.own v2 (x1.1 : (List Int)), Item.box b4 [(.int .i64 0), (.int .i64 0), (.int .i64 0), (.bool false)], Item.box b3 [(.slice none 0 0), (.int .i64 0), (.int .i64 0)], Item.box b2 [(.int .i64 a2.1), (.int .i64 a2.2.1), (.int .i64 a2.2.2.1), (.bool a2.2.2.2)], Item.box b1 [u1, (.int .i64 a1.2.1), (.int .i64 a1.2.2)]] := hC53.front 4 rfl
                have hC55 : Ctx [] w0 _ [Item.box b5 [v2, (.int .i64 x1.2.1), (.int .i64 x1.2.2)], Item.own v2 (x1.1 : (List Int)), Item.box b4 [(.int .i64 0), (.int .i64 0), (.int .i64 0), (.bool false)], Item.box b3 [(.slice none 0 0), (.int .i64 0), (.int .i64 0)], Item.box b2 [(.int .i64 a2.1), (.int .i64 a2.2.1), (.int .i64 a2.2.2.1), (.bool a2.2.2.2)]] := hC54.headN 5
                refine nrm_sub (l' := [(2, (.int .i64 a3)), (4, (ptr b2 0)), (6, (ptr b3 0)), (7, (ptr b4 0)), (9, (ptr b5 0)), (46, (.bool (decide (999998000 < a1.2.2))))]) ⟨rfl, rfl, rfl, rfl, rfl, rfl, trivial⟩ ?_
                exact ⟨(decide (999998000 < a1.2.2)), rfl, rfl, ((((Keep.of hB8).then hB9).then hB10).then hB11).below, hC55⟩
  · rintro _ w8 ⟨x2, rfl, rfl, hB7, hC9⟩
    try dsimp only at hF
    refine W_cond rfl (fun hc7 => ?_) (fun hc7 => ?_)
    · replace hF := ite_t hF hc7
      obtain ⟨r2, hr7, hF⟩ := bind_some hF
      refine W_cut (fun l w => ∃ x7 : Int, ∃ x8 : Int, ∃ x9 : Int, ∃ x10 : Bool, ∃ v3 : Value, ∃ x11 : (List Int), ∃ x12 : Int, ∃ x13 : Int, ∃ x14 : Bool, (x7, x8, x9, x10, x11, x12, x13, x14) = r2 ∧ l = [(6, (ptr b3 0)), (7, (ptr b4 0)), (8, (.bool x14))] ∧ Ctx [] w0 w [Item.own v3 (x11 : (List Int)), Item.box b4 [(.int .i64 x7), (.int .i64 x8), (.int .i64 x9), (.bool x10)], Item.box b3 [v3, (.int .i64 x12), (.int .i64 x13)]]) ?_ ?_
      · refine W_drawn 5 rfl hmix (fun w14 hB13 => ?_)
        have hC57 := hC9.grow hB13
        refine WA.sub (l' := [(2, (.int .i64 a3)), (4, (ptr b2 0)), (6, (ptr b3 0)), (7, (ptr b4 0)), (9, (ptr b5 0)), (46, (.bool x2))]) ?_ ⟨rfl, rfl, rfl, rfl, rfl, rfl, trivial⟩
        refine WA_postsO [⟨0, [], fun vs => PW.val (.agg #[v2, (.int .i64 x1.2.1), (.int .i64 x1.2.2)]), []⟩, ⟨1, [], fun vs => PW.val (.agg #[(.int .i64 a2.1), (.int .i64 a2.2.1), (.int .i64 a2.2.2.1), (.bool a2.2.2.2)]), []⟩] [[], []] [1] 3 rfl (by kernel_rfl) (by kernel_rfl) ?_ ⟨?_, ?_, trivial⟩
        · refine StepsE_cons rfl ?_ ?_
          · intro w15 hB14
            refine DepsE_nil ?_
            refine ⟨_, rfl, ?_⟩
            refine WL_load_box_agg [v2, (.int .i64 x1.2.1), (.int .i64 x1.2.2)] (hC57.grow hB14) 0 rfl rfl rfl Try.isAgg26 Try.sizeOf26 rfl rfl ?_
            refine WL_nil ?_
            exact FinE_val (Below.refl _ _) rfl rfl ⟨rfl, rfl⟩
          refine StepsE_cons rfl ?_ ?_
          · intro w15 hB14
            refine DepsE_nil ?_
            refine ⟨_, rfl, ?_⟩
            refine WL_load_box_agg [(.int .i64 a2.1), (.int .i64 a2.2.1), (.int .i64 a2.2.2.1), (.bool a2.2.2.2)] (hC57.grow hB14) 4 rfl rfl rfl Try.isAgg35 Try.sizeOf35 rfl rfl ?_
            refine WL_nil ?_
            exact FinE_val (Below.refl _ _) rfl rfl ⟨rfl, rfl⟩
          exact StepsE_nil
        · intro g' hg'
          obtain rfl : g' = 3 := hg'
          intro w16 hB15
          refine AllE_cons rfl rfl rfl ?_
          rintro _ _ ⟨rfl, rfl⟩
          refine AllE_cons rfl rfl rfl ?_
          rintro _ _ ⟨rfl, rfl⟩
          refine AllE_nil ?_
          intro hn2 hb2
          have hC58 := hC57.grow hB15
          refine WA_one 2 (by kernel_rfl) rfl ?_
          refine WL_store_box_agg (cs' := [v2, (.int .i64 x1.2.1), (.int .i64 x1.2.2)]) (new := [v2, (.int .i64 x1.2.1), (.int .i64 x1.2.2)]) hC58 3 rfl rfl (by intro v hv; simp only [List.mem_cons, List.not_mem_nil, or_false] at hv; rcases hv with rfl | rfl | rfl; exact (ro_one (hC58.ro 1 rfl)); exact rfl; exact rfl) rfl Try.sizeOf26 rfl rfl (fun w17 hC59 => ?_)
          try dsimp only [List.set] at hC59
          refine WL_nil ?_
          refine WA_one 3 (by kernel_rfl) rfl ?_
          refine WL_store_box_agg (cs' := [(.int .i64 a2.1), (.int .i64 a2.2.1), (.int .i64 a2.2.2.1), (.bool a2.2.2.2)]) (new := [(.int .i64 a2.1), (.int .i64 a2.2.1), (.int .i64 a2.2.2.1), (.bool a2.2.2.2)]) hC59 2 rfl rfl (by intro v hv; simp only [List.mem_cons, List.not_mem_nil, or_false] at hv; rcases hv with rfl | rfl | rfl | rfl; exact rfl; exact rfl; exact rfl; exact rfl) rfl Try.sizeOf35 rfl rfl (fun w18 hC60 => ?_)
          try dsimp only [List.set] at hC60
          refine WL_nil ?_
          refine WA_take 4 rfl (by kernel_rfl) (by kernel_rfl) (by kernel_rfl) rfl (fl_assign rfl) ?_
          refine WL_assign rfl rfl ?_
          refine WL_nil ?_
          refine WA_done (by kernel_rfl) ?_
          have hq8 := Option.some.inj hr7
          subst hq8
          have hC61 : Ctx [] w0 _ [Item.box b3 [v2, (.int .i64 x1.2.1), (.int .i64 x1.2.2)], Item.box b5 [v2, (.int .i64 x1.2.1), (.int .i64 x1.2.2)], Item.own v2 (x1.1 : (List Int)), Item.box b4 [(.int .i64 a2.1), (.int .i64 a2.2.1), (.int .i64 a2.2.2.1), (.bool a2.2.2.2)], Item.box b2 [(.int .i64 a2.1), (.int .i64 a2.2.1), (.int .i64 a2.2.2.1), (.bool a2.2.2.2)]] := hC60.front 3 rfl
          have hC62 : Ctx [] w0 _ [Item.box b4 [(.int .i64 a2.1), (.int .i64 a2.2.1), (.int .i64 a2.2.2.1), (.bool a2.2.2.2)], Item.box b3 [v2, (.int .i64 x1.2.1), (.int .i64 x1.2.2)], Item.box b5 [v2, (.int .i64 x1.2.1), (.int .i64 x1.2.2)], Item.own v2 (x1.1 : (List Int)), Item.box b2 [(.int .i64 a2.1), (.int .i64 a2.2.1), (.int .i64 a2.2.2.1), (.bool a2.2.2.2)]] := hC61.front 3 rfl
          have hC63 : Ctx [] w0 _ [Item.own v2 (x1.1 : (List Int)), Item.box b4 [(.int .i64 a2.1), (.int .i64 a2.2.1), (.int .i64 a2.2.2.1), (.bool a2.2.2.2)], Item.box b3 [v2, (.int .i64 x1.2.1), (.int .i64 x1.2.2)], Item.box b5 [v2, (.int .i64 x1.2.1), (.int .i64 x1.2.2)], Item.box b2 [(.int .i64 a2.1), (.int .i64 a2.2.1), (.int .i64 a2.2.2.1), (.bool a2.2.2.2)]] := hC62.front 3 rfl
          have hC64 : Ctx [] w0 _ [Item.own v2 (x1.1 : (List Int)), Item.box b4 [(.int .i64 a2.1), (.int .i64 a2.2.1), (.int .i64 a2.2.2.1), (.bool a2.2.2.2)], Item.box b3 [v2, (.int .i64 x1.2.1), (.int .i64 x1.2.2)]] := hC63.headN 3
          refine nrm_sub (l' := [(6, (ptr b3 0)), (7, (ptr b4 0)), (8, (.bool false))]) ⟨rfl, rfl, rfl, trivial⟩ ?_
          exact ⟨a2.1, a2.2.1, a2.2.2.1, a2.2.2.2, v2, x1.1, x1.2.1, x1.2.2, false, rfl, rfl, hC64⟩
        · intro g' hg'
          obtain rfl : g' = 4 := hg'
          intro w16 hB15
          refine AllE_cons rfl rfl rfl ?_
          rintro _ _ ⟨rfl, rfl⟩
          refine AllE_nil ?_
          intro hn2 hb2
          have hC58 := hC57.grow hB15
          refine WA_all2 (i := 1) (j := 2) (by kernel_rfl) rfl rfl ?_ ?_
          · refine WL_load_box_agg [(.int .i64 a2.1), (.int .i64 a2.2.1), (.int .i64 a2.2.2.1), (.bool a2.2.2.2)] hC58 4 rfl rfl rfl Try.isAgg35 Try.sizeOf35 rfl rfl ?_
            refine WL_nil ?_
            refine WA_one 2 (by kernel_rfl) rfl ?_
            refine WL_store_box_agg (cs' := [v2, (.int .i64 x1.2.1), (.int .i64 x1.2.2)]) (new := [v2, (.int .i64 x1.2.1), (.int .i64 x1.2.2)]) hC58 3 rfl rfl (by intro v hv; simp only [List.mem_cons, List.not_mem_nil, or_false] at hv; rcases hv with rfl | rfl | rfl; exact (ro_one (hC58.ro 1 rfl)); exact rfl; exact rfl) rfl Try.sizeOf26 rfl rfl (fun w17 hC59 => ?_)
            try dsimp only [List.set] at hC59
            refine WL_nil ?_
            refine WA_one 3 (by kernel_rfl) rfl ?_
            refine WL_store_box_agg (cs' := [(.int .i64 a2.1), (.int .i64 a2.2.1), (.int .i64 a2.2.2.1), (.bool a2.2.2.2)]) (new := [(.int .i64 a2.1), (.int .i64 a2.2.1), (.int .i64 a2.2.2.1), (.bool a2.2.2.2)]) hC59 2 rfl rfl (by intro v hv; simp only [List.mem_cons, List.not_mem_nil, or_false] at hv; rcases hv with rfl | rfl | rfl | rfl; exact rfl; exact rfl; exact rfl; exact rfl) rfl Try.sizeOf35 rfl rfl (fun w18 hC60 => ?_)
            try dsimp only [List.set] at hC60
            refine WL_nil ?_
            refine WA_take 4 rfl (by kernel_rfl) (by kernel_rfl) (by kernel_rfl) rfl (fl_assign rfl) ?_
            refine WL_assign rfl rfl ?_
            refine WL_nil ?_
            refine WA_done (by kernel_rfl) ?_
            have hq8 := Option.some.inj hr7
            subst hq8
            have hC61 : Ctx [] w0 _ [Item.box b3 [v2, (.int .i64 x1.2.1), (.int .i64 x1.2.2)], Item.box b5 [v2, (.int .i64 x1.2.1), (.int .i64 x1.2.2)], Item.own v2 (x1.1 : (List Int)), Item.box b4 [(.int .i64 a2.1), (.int .i64 a2.2.1), (.int .i64 a2.2.2.1), (.bool a2.2.2.2)], Item.box b2 [(.int .i64 a2.1), (.int .i64 a2.2.1), (.int .i64 a2.2.2.1), (.bool a2.2.2.2)]] := hC60.front 3 rfl
            have hC62 : Ctx [] w0 _ [Item.box b4 [(.int .i64 a2.1), (.int .i64 a2.2.1), (.int .i64 a2.2.2.1), (.bool a2.2.2.2)], Item.box b3 [v2, (.int .i64 x1.2.1), (.int .i64 x1.2.2)], Item.box b5 [v2, (.int .i64 x1.2.1), (.int .i64 x1.2.2)], Item.own v2 (x1.1 : (List Int)), Item.box b2 [(.int .i64 a2.1), (.int .i64 a2.2.1), (.int .i64 a2.2.2.1), (.bool a2.2.2.2)]] := hC61.front 3 rfl
            have hC63 : Ctx [] w0 _ [Item.own v2 (x1.1 : (List Int)), Item.box b4 [(.int .i64 a2.1), (.int .i64 a2.2.1), (.int .i64 a2.2.2.1), (.bool a2.2.2.2)], Item.box b3 [v2, (.int .i64 x1.2.1), (.int .i64 x1.2.2)], Item.box b5 [v2, (.int .i64 x1.2.1), (.int .i64 x1.2.2)], Item.box b2 [(.int .i64 a2.1), (.int .i64 a2.2.1), (.int .i64 a2.2.2.1), (.bool a2.2.2.2)]] := hC62.front 3 rfl
            have hC64 : Ctx [] w0 _ [Item.own v2 (x1.1 : (List Int)), Item.box b4 [(.int .i64 a2.1), (.int .i64 a2.2.1), (.int .i64 a2.2.2.1), (.bool a2.2.2.2)], Item.box b3 [v2, (.int .i64 x1.2.1), (.int .i64 x1.2.2)]] := hC63.headN 3
            refine nrm_sub (l' := [(6, (ptr b3 0)), (7, (ptr b4 0)), (8, (.bool false))]) ⟨rfl, rfl, rfl, trivial⟩ ?_
            exact ⟨a2.1, a2.2.1, a2.2.2.1, a2.2.2.2, v2, x1.1, x1.2.1, x1.2.2, false, rfl, rfl, hC64⟩
          · refine WL_store_box_agg (cs' := [v2, (.int .i64 x1.2.1), (.int .i64 x1.2.2)]) (new := [v2, (.int .i64 x1.2.1), (.int .i64 x1.2.2)]) hC58 3 rfl rfl (by intro v hv; simp only [List.mem_cons, List.not_mem_nil, or_false] at hv; rcases hv with rfl | rfl | rfl; exact (ro_one (hC58.ro 1 rfl)); exact rfl; exact rfl) rfl Try.sizeOf26 rfl rfl (fun w17 hC59 => ?_)
            try dsimp only [List.set] at hC59
            refine WL_nil ?_
            refine WA_one 1 (by kernel_rfl) rfl ?_
            refine WL_load_box_agg [(.int .i64 a2.1), (.int .i64 a2.2.1), (.int .i64 a2.2.2.1), (.bool a2.2.2.2)] hC59 4 rfl rfl rfl Try.isAgg35 Try.sizeOf35 rfl rfl ?_
            refine WL_nil ?_
            refine WA_one 3 (by kernel_rfl) rfl ?_
            refine WL_store_box_agg (cs' := [(.int .i64 a2.1), (.int .i64 a2.2.1), (.int .i64 a2.2.2.1), (.bool a2.2.2.2)]) (new := [(.int .i64 a2.1), (.int .i64 a2.2.1), (.int .i64 a2.2.2.1), (.bool a2.2.2.2)]) hC59 2 rfl rfl (by intro v hv; simp only [List.mem_cons, List.not_mem_nil, or_false] at hv; rcases hv with rfl | rfl | rfl | rfl; exact rfl; exact rfl; exact rfl; exact rfl) rfl Try.sizeOf35 rfl rfl (fun w18 hC60 => ?_)
            try dsimp only [List.set] at hC60
            refine WL_nil ?_
            refine WA_take 4 rfl (by kernel_rfl) (by kernel_rfl) (by kernel_rfl) rfl (fl_assign rfl) ?_
            refine WL_assign rfl rfl ?_
            refine WL_nil ?_
            refine WA_done (by kernel_rfl) ?_
            have hq8 := Option.some.inj hr7
            subst hq8
            have hC61 : Ctx [] w0 _ [Item.box b3 [v2, (.int .i64 x1.2.1), (.int .i64 x1.2.2)], Item.box b5 [v2, (.int .i64 x1.2.1), (.int .i64 x1.2.2)], Item.own v2 (x1.1 : (List Int)), Item.box b4 [(.int .i64 a2.1), (.int .i64 a2.2.1), (.int .i64 a2.2.2.1), (.bool a2.2.2.2)], Item.box b2 [(.int .i64 a2.1), (.int .i64 a2.2.1), (.int .i64 a2.2.2.1), (.bool a2.2.2.2)]] := hC60.front 3 rfl
            have hC62 : Ctx [] w0 _ [Item.box b4 [(.int .i64 a2.1), (.int .i64 a2.2.1), (.int .i64 a2.2.2.1), (.bool a2.2.2.2)], Item.box b3 [v2, (.int .i64 x1.2.1), (.int .i64 x1.2.2)], Item.box b5 [v2, (.int .i64 x1.2.1), (.int .i64 x1.2.2)], Item.own v2 (x1.1 : (List Int)), Item.box b2 [(.int .i64 a2.1), (.int .i64 a2.2.1), (.int .i64 a2.2.2.1), (.bool a2.2.2.2)]] := hC61.front 3 rfl
            have hC63 : Ctx [] w0 _ [Item.own v2 (x1.1 : (List Int)), Item.box b4 [(.int .i64 a2.1), (.int .i64 a2.2.1), (.int .i64 a2.2.2.1), (.bool a2.2.2.2)], Item.box b3 [v2, (.int .i64 x1.2.1), (.int .i64 x1.2.2)], Item.box b5 [v2, (.int .i64 x1.2.1), (.int .i64 x1.2.2)], Item.box b2 [(.int .i64 a2.1), (.int .i64 a2.2.1), (.int .i64 a2.2.2.1), (.bool a2.2.2.2)]] := hC62.front 3 rfl
            have hC64 : Ctx [] w0 _ [Item.own v2 (x1.1 : (List Int)), Item.box b4 [(.int .i64 a2.1), (.int .i64 a2.2.1), (.int .i64 a2.2.2.1), (.bool a2.2.2.2)], Item.box b3 [v2, (.int .i64 x1.2.1), (.int .i64 x1.2.2)]] := hC63.headN 3
            refine nrm_sub (l' := [(6, (ptr b3 0)), (7, (ptr b4 0)), (8, (.bool false))]) ⟨rfl, rfl, rfl, trivial⟩ ?_
            exact ⟨a2.1, a2.2.1, a2.2.2.1, a2.2.2.2, v2, x1.1, x1.2.1, x1.2.2, false, rfl, rfl, hC64⟩
      · rintro _ w13 ⟨x7, x8, x9, x10, v3, x11, x12, x13, x14, rfl, rfl, hC56⟩
        try dsimp only at hF
        refine W_ret ?_
        refine nrm_ret ?_
        have hq9 := Option.some.inj hF
        subst hq9
        refine fn_retG3 rfl (rv_cell_agg (cs' := [v3, (.int .i64 x12), (.int .i64 x13)]) hC56 (i := 2) rfl rfl rfl Try.isAgg26 Try.sizeOf26 rfl) (rv_cell_agg (cs' := [(.int .i64 x7), (.int .i64 x8), (.int .i64 x9), (.bool x10)]) hC56 (i := 1) rfl rfl rfl Try.isAgg35 Try.sizeOf35 rfl) (rv_tmp rfl) ?_
        have hC65 := hC56.triv (bool_val (x14))
        have hC66 := own_st35 x7 x8 x9 x10 hC65
        have hC68 : Ctx [] w0 _ [Item.own v3 (x11 : (List Int)), Item.own (.agg #[(.int .i64 x7), (.int .i64 x8), (.int .i64 x9), (.bool x10)]) ((x7, x8, x9, x10) : (Int × Int × Int × Bool)), Item.own (.bool x14) (x14 : Bool), Item.box b4 [(.int .i64 x7), (.int .i64 x8), (.int .i64 x9), (.bool x10)], Item.box b3 [v3, (.int .i64 x12), (.int .i64 x13)]] := hC66.front 2 rfl
        have hC67 := own_st26 v3 x11 x12 x13 hC68
        exact ⟨_, rfl, res3_of hC67⟩
    · replace hF := ite_f hF hc7
      refine W_skip ?_
      refine nrm_normal ?_
      refine W_seq_reg ?_
      refine WL_field Try.underlying35 rfl rfl (fun w => ⟨_, Try.sizeOf3 w⟩) rfl rfl ?_
      refine WL_load_box hC9 4 rfl rfl Try.isAgg3 rfl rfl ?_
      refine WL_add rfl rfl rfl ?_
      refine WL_field Try.underlying35 rfl rfl (fun w => ⟨_, Try.sizeOf3 w⟩) rfl rfl ?_
      refine WL_store_box (cs' := [(.int .i64 a2.1), (.int .i64 a2.2.1), (.int .i64 (w64 (a2.2.2.1 + 1))), (.bool a2.2.2.2)]) hC9 4 rfl rfl rfl rfl Try.sizeOf3 rfl rfl (fun w19 hC69 => ?_)
      try dsimp only [List.set] at hC69
      refine WL_nil ?_
      refine W_seq ?_
      refine W_seq_reg ?_
      refine WL_move rfl rfl ?_
      refine WL_eql rfl rfl rfl ?_
      refine WL_nil ?_
      refine W_cond rfl (fun hc8 => ?_) (fun hc8 => ?_)
      · replace hF := ite_t hF hc8
        obtain ⟨r3, hr8, hF⟩ := bind_some hF
        refine W_cut (fun l w => ∃ x15 : Int, ∃ x16 : Int, ∃ x17 : Int, ∃ x18 : Bool, ∃ v4 : Value, ∃ x19 : (List Int), ∃ x20 : Int, ∃ x21 : Int, ∃ x22 : Bool, (x15, x16, x17, x18, x19, x20, x21, x22) = r3 ∧ l = [(6, (ptr b3 0)), (7, (ptr b4 0)), (8, (.bool x22))] ∧ Ctx [] w0 w [Item.own v4 (x19 : (List Int)), Item.box b4 [(.int .i64 x15), (.int .i64 x16), (.int .i64 x17), (.bool x18)], Item.box b3 [v4, (.int .i64 x20), (.int .i64 x21)]]) ?_ ?_
        · refine W_drawn 5 rfl hmix (fun w21 hB17 => ?_)
          have hC71 := hC69.grow hB17
          refine WA.sub (l' := [(2, (.int .i64 a3)), (4, (ptr b2 0)), (6, (ptr b3 0)), (7, (ptr b4 0)), (9, (ptr b5 0)), (46, (.bool x2)), (49, (ptr b2 2)), (50, (.int .i64 a2.2.2.1)), (51, (.int .i64 (w64 (a2.2.2.1 + 1)))), (52, (ptr b2 2)), (53, (.int .i64 a3)), (54, (.bool (decide (a3 = 1))))]) ?_ ⟨rfl, rfl, rfl, rfl, rfl, rfl, rfl, rfl, rfl, rfl, rfl, rfl, trivial⟩
          refine WA_postsO [⟨0, [], fun vs => PW.val (.agg #[v2, (.int .i64 x1.2.1), (.int .i64 x1.2.2)]), []⟩, ⟨1, [], fun vs => PW.val (.agg #[(.int .i64 a2.1), (.int .i64 a2.2.1), (.int .i64 (w64 (a2.2.2.1 + 1))), (.bool a2.2.2.2)]), []⟩] [[], []] [1] 3 rfl (by kernel_rfl) (by kernel_rfl) ?_ ⟨?_, ?_, trivial⟩
          · refine StepsE_cons rfl ?_ ?_
            · intro w22 hB18
              refine DepsE_nil ?_
              refine ⟨_, rfl, ?_⟩
              refine WL_load_box_agg [v2, (.int .i64 x1.2.1), (.int .i64 x1.2.2)] (hC71.grow hB18) 0 rfl rfl rfl Try.isAgg26 Try.sizeOf26 rfl rfl ?_
              refine WL_nil ?_
              exact FinE_val (Below.refl _ _) rfl rfl ⟨rfl, rfl⟩
            refine StepsE_cons rfl ?_ ?_
            · intro w22 hB18
              refine DepsE_nil ?_
              refine ⟨_, rfl, ?_⟩
              refine WL_load_box_agg [(.int .i64 a2.1), (.int .i64 a2.2.1), (.int .i64 (w64 (a2.2.2.1 + 1))), (.bool a2.2.2.2)] (hC71.grow hB18) 4 rfl rfl rfl Try.isAgg35 Try.sizeOf35 rfl rfl ?_
              refine WL_nil ?_
              exact FinE_val (Below.refl _ _) rfl rfl ⟨rfl, rfl⟩
            exact StepsE_nil
          · intro g' hg'
            obtain rfl : g' = 3 := hg'
            intro w23 hB19
            refine AllE_cons rfl rfl rfl ?_
            rintro _ _ ⟨rfl, rfl⟩
            refine AllE_cons rfl rfl rfl ?_
            rintro _ _ ⟨rfl, rfl⟩
            refine AllE_nil ?_
            intro hn3 hb3
            have hC72 := hC71.grow hB19
            refine WA_one 2 (by kernel_rfl) rfl ?_
            refine WL_store_box_agg (cs' := [v2, (.int .i64 x1.2.1), (.int .i64 x1.2.2)]) (new := [v2, (.int .i64 x1.2.1), (.int .i64 x1.2.2)]) hC72 3 rfl rfl (by intro v hv; simp only [List.mem_cons, List.not_mem_nil, or_false] at hv; rcases hv with rfl | rfl | rfl; exact (ro_one (hC72.ro 1 rfl)); exact rfl; exact rfl) rfl Try.sizeOf26 rfl rfl (fun w24 hC73 => ?_)
            try dsimp only [List.set] at hC73
            refine WL_nil ?_
            refine WA_one 3 (by kernel_rfl) rfl ?_
            refine WL_store_box_agg (cs' := [(.int .i64 a2.1), (.int .i64 a2.2.1), (.int .i64 (w64 (a2.2.2.1 + 1))), (.bool a2.2.2.2)]) (new := [(.int .i64 a2.1), (.int .i64 a2.2.1), (.int .i64 (w64 (a2.2.2.1 + 1))), (.bool a2.2.2.2)]) hC73 2 rfl rfl (by intro v hv; simp only [List.mem_cons, List.not_mem_nil, or_false] at hv; rcases hv with rfl | rfl | rfl | rfl; exact rfl; exact rfl; exact rfl; exact rfl) rfl Try.sizeOf35 rfl rfl (fun w25 hC74 => ?_)
            try dsimp only [List.set] at hC74
            refine WL_nil ?_
            refine WA_take 4 rfl (by kernel_rfl) (by kernel_rfl) (by kernel_rfl) rfl (fl_assign rfl) ?_
            refine WL_assign rfl rfl ?_
            refine WL_nil ?_
            refine WA_done (by kernel_rfl) ?_
            have hq10 := Option.some.inj hr8
            subst hq10
            have hC75 : Ctx [] w0 _ [Item.box b3 [v2, (.int .i64 x1.2.1), (.int .i64 x1.2.2)], Item.box b5 [v2, (.int .i64 x1.2.1), (.int .i64 x1.2.2)], Item.own v2 (x1.1 : (List Int)), Item.box b4 [(.int .i64 a2.1), (.int .i64 a2.2.1), (.int .i64 (w64 (a2.2.2.1 + 1))), (.bool a2.2.2.2)], Item.box b2 [(.int .i64 a2.1), (.int .i64 a2.2.1), (.int .i64 (w64 (a2.2.2.1 + 1))), (.bool a2.2.2.2)]] := hC74.front 3 rfl
            have hC76 : Ctx [] w0 _ [Item.box b4 [(.int .i64 a2.1), (.int .i64 a2.2.1), (.int .i64 (w64 (a2.2.2.1 + 1))), (.bool a2.2.2.2)], Item.box b3 [v2, (.int .i64 x1.2.1), (.int .i64 x1.2.2)], Item.box b5 [v2, (.int .i64 x1.2.1), (.int .i64 x1.2.2)], Item.own v2 (x1.1 : (List Int)), Item.box b2 [(.int .i64 a2.1), (.int .i64 a2.2.1), (.int .i64 (w64 (a2.2.2.1 + 1))), (.bool a2.2.2.2)]] := hC75.front 3 rfl
            have hC77 : Ctx [] w0 _ [Item.own v2 (x1.1 : (List Int)), Item.box b4 [(.int .i64 a2.1), (.int .i64 a2.2.1), (.int .i64 (w64 (a2.2.2.1 + 1))), (.bool a2.2.2.2)], Item.box b3 [v2, (.int .i64 x1.2.1), (.int .i64 x1.2.2)], Item.box b5 [v2, (.int .i64 x1.2.1), (.int .i64 x1.2.2)], Item.box b2 [(.int .i64 a2.1), (.int .i64 a2.2.1), (.int .i64 (w64 (a2.2.2.1 + 1))), (.bool a2.2.2.2)]] := hC76.front 3 rfl
            have hC78 : Ctx [] w0 _ [Item.own v2 (x1.1 : (List Int)), Item.box b4 [(.int .i64 a2.1), (.int .i64 a2.2.1), (.int .i64 (w64 (a2.2.2.1 + 1))), (.bool a2.2.2.2)], Item.box b3 [v2, (.int .i64 x1.2.1), (.int .i64 x1.2.2)]] := hC77.headN 3
            refine nrm_sub (l' := [(6, (ptr b3 0)), (7, (ptr b4 0)), (8, (.bool true))]) ⟨rfl, rfl, rfl, trivial⟩ ?_
            exact ⟨a2.1, a2.2.1, w64 (a2.2.2.1 + 1), a2.2.2.2, v2, x1.1, x1.2.1, x1.2.2, true, rfl, rfl, hC78⟩
          · intro g' hg'
            obtain rfl : g' = 4 := hg'
            intro w23 hB19
            refine AllE_cons rfl rfl rfl ?_
            rintro _ _ ⟨rfl, rfl⟩
            refine AllE_nil ?_
            intro hn3 hb3
            have hC72 := hC71.grow hB19
            refine WA_all2 (i := 1) (j := 2) (by kernel_rfl) rfl rfl ?_ ?_
            · refine WL_load_box_agg [(.int .i64 a2.1), (.int .i64 a2.2.1), (.int .i64 (w64 (a2.2.2.1 + 1))), (.bool a2.2.2.2)] hC72 4 rfl rfl rfl Try.isAgg35 Try.sizeOf35 rfl rfl ?_
              refine WL_nil ?_
              refine WA_one 2 (by kernel_rfl) rfl ?_
              refine WL_store_box_agg (cs' := [v2, (.int .i64 x1.2.1), (.int .i64 x1.2.2)]) (new := [v2, (.int .i64 x1.2.1), (.int .i64 x1.2.2)]) hC72 3 rfl rfl (by intro v hv; simp only [List.mem_cons, List.not_mem_nil, or_false] at hv; rcases hv with rfl | rfl | rfl; exact (ro_one (hC72.ro 1 rfl)); exact rfl; exact rfl) rfl Try.sizeOf26 rfl rfl (fun w24 hC73 => ?_)
              try dsimp only [List.set] at hC73
              refine WL_nil ?_
              refine WA_one 3 (by kernel_rfl) rfl ?_
              refine WL_store_box_agg (cs' := [(.int .i64 a2.1), (.int .i64 a2.2.1), (.int .i64 (w64 (a2.2.2.1 + 1))), (.bool a2.2.2.2)]) (new := [(.int .i64 a2.1), (.int .i64 a2.2.1), (.int .i64 (w64 (a2.2.2.1 + 1))), (.bool a2.2.2.2)]) hC73 2 rfl rfl (by intro v hv; simp only [List.mem_cons, List.not_mem_nil, or_false] at hv; rcases hv with rfl | rfl | rfl | rfl; exact rfl; exact rfl; exact rfl; exact rfl) rfl Try.sizeOf35 rfl rfl (fun w25 hC74 => ?_)
              try dsimp only [List.set] at hC74
              refine WL_nil ?_
              refine WA_take 4 rfl (by kernel_rfl) (by kernel_rfl) (by kernel_rfl) rfl (fl_assign rfl) ?_
              refine WL_assign rfl rfl ?_
              refine WL_nil ?_
              refine WA_done (by kernel_rfl) ?_
              have hq10 := Option.some.inj hr8
              subst hq10
              have hC75 : Ctx [] w0 _ [Item.box b3 [v2, (.int .i64 x1.2.1), (.int .i64 x1.2.2)], Item.box b5 [v2, (.int .i64 x1.2.1), (.int .i64 x1.2.2)], Item.own v2 (x1.1 : (List Int)), Item.box b4 [(.int .i64 a2.1), (.int .i64 a2.2.1), (.int .i64 (w64 (a2.2.2.1 + 1))), (.bool a2.2.2.2)], Item.box b2 [(.int .i64 a2.1), (.int .i64 a2.2.1), (.int .i64 (w64 (a2.2.2.1 + 1))), (.bool a2.2.2.2)]] := hC74.front 3 rfl
              have hC76 : Ctx [] w0 _ [Item.box b4 [(.int .i64 a2.1), (.int .i64 a2.2.1), (.int .i64 (w64 (a2.2.2.1 + 1))), (.bool a2.2.2.2)], Item.box b3 [v2, (.int .i64 x1.2.1), (.int .i64 x1.2.2)], Item.box b5 [v2, (.int .i64 x1.2.1), (.int .i64 x1.2.2)], Item.own v2 (x1.1 : (List Int)), Item.box b2 [(.int .i64 a2.1), (.int .i64 a2.2.1), (.int .i64 (w64 (a2.2.2.1 + 1))), (.bool a2.2.2.2)]] := hC75.front 3 rfl
              have hC77 : Ctx [] w0 _ [Item.own v2 (x1.1 : (List Int)), Item.box b4 [(.int .i64 a2.1), (.int .i64 a2.2.1), (.int .i64 (w64 (a2.2.2.1 + 1))), (.bool a2.2.2.2)], Item.box b3 [v2, (.int .i64 x1.2.1), (.int .i64 x1.2.2)], Item.box b5 [v2, (.int .i64 x1.2.1), (.int .i64 x1.2.2)], Item.box b2 [(.int .i64 a2.1), (.int .i64 a2.2.1), (.int .i64 (w64 (a2.2.2.1 + 1))), (.bool a2.2.2.2)]] := hC76.front 3 rfl
              have hC78 : Ctx [] w0 _ [Item.own v2 (x1.1 : (List Int)), Item.box b4 [(.int .i64 a2.1), (.int .i64 a2.2.1), (.int .i64 (w64 (a2.2.2.1 + 1))), (.bool a2.2.2.2)], Item.box b3 [v2, (.int .i64 x1.2.1), (.int .i64 x1.2.2)]] := hC77.headN 3
              refine nrm_sub (l' := [(6, (ptr b3 0)), (7, (ptr b4 0)), (8, (.bool true))]) ⟨rfl, rfl, rfl, trivial⟩ ?_
              exact ⟨a2.1, a2.2.1, w64 (a2.2.2.1 + 1), a2.2.2.2, v2, x1.1, x1.2.1, x1.2.2, true, rfl, rfl, hC78⟩
            · refine WL_store_box_agg (cs' := [v2, (.int .i64 x1.2.1), (.int .i64 x1.2.2)]) (new := [v2, (.int .i64 x1.2.1), (.int .i64 x1.2.2)]) hC72 3 rfl rfl (by intro v hv; simp only [List.mem_cons, List.not_mem_nil, or_false] at hv; rcases hv with rfl | rfl | rfl; exact (ro_one (hC72.ro 1 rfl)); exact rfl; exact rfl) rfl Try.sizeOf26 rfl rfl (fun w24 hC73 => ?_)
              try dsimp only [List.set] at hC73
              refine WL_nil ?_
              refine WA_one 1 (by kernel_rfl) rfl ?_
              refine WL_load_box_agg [(.int .i64 a2.1), (.int .i64 a2.2.1), (.int .i64 (w64 (a2.2.2.1 + 1))), (.bool a2.2.2.2)] hC73 4 rfl rfl rfl Try.isAgg35 Try.sizeOf35 rfl rfl ?_
              refine WL_nil ?_
              refine WA_one 3 (by kernel_rfl) rfl ?_
              refine WL_store_box_agg (cs' := [(.int .i64 a2.1), (.int .i64 a2.2.1), (.int .i64 (w64 (a2.2.2.1 + 1))), (.bool a2.2.2.2)]) (new := [(.int .i64 a2.1), (.int .i64 a2.2.1), (.int .i64 (w64 (a2.2.2.1 + 1))), (.bool a2.2.2.2)]) hC73 2 rfl rfl (by intro v hv; simp only [List.mem_cons, List.not_mem_nil, or_false] at hv; rcases hv with rfl | rfl | rfl | rfl; exact rfl; exact rfl; exact rfl; exact rfl) rfl Try.sizeOf35 rfl rfl (fun w25 hC74 => ?_)
              try dsimp only [List.set] at hC74
              refine WL_nil ?_
              refine WA_take 4 rfl (by kernel_rfl) (by kernel_rfl) (by kernel_rfl) rfl (fl_assign rfl) ?_
              refine WL_assign rfl rfl ?_
              refine WL_nil ?_
              refine WA_done (by kernel_rfl) ?_
              have hq10 := Option.some.inj hr8
              subst hq10
              have hC75 : Ctx [] w0 _ [Item.box b3 [v2, (.int .i64 x1.2.1), (.int .i64 x1.2.2)], Item.box b5 [v2, (.int .i64 x1.2.1), (.int .i64 x1.2.2)], Item.own v2 (x1.1 : (List Int)), Item.box b4 [(.int .i64 a2.1), (.int .i64 a2.2.1), (.int .i64 (w64 (a2.2.2.1 + 1))), (.bool a2.2.2.2)], Item.box b2 [(.int .i64 a2.1), (.int .i64 a2.2.1), (.int .i64 (w64 (a2.2.2.1 + 1))), (.bool a2.2.2.2)]] := hC74.front 3 rfl
              have hC76 : Ctx [] w0 _ [Item.box b4 [(.int .i64 a2.1), (.int .i64 a2.2.1), (.int .i64 (w64 (a2.2.2.1 + 1))), (.bool a2.2.2.2)], Item.box b3 [v2, (.int .i64 x1.2.1), (.int .i64 x1.2.2)], Item.box b5 [v2, (.int .i64 x1.2.1), (.int .i64 x1.2.2)], Item.own v2 (x1.1 : (List Int)), Item.box b2 [(.int .i64 a2.1), (.int .i64 a2.2.1), (.int .i64 (w64 (a2.2.2.1 + 1))), (.bool a2.2.2.2)]] := hC75.front 3 rfl
              have hC77 : Ctx [] w0 _ [Item.own v2 (x1.1 : (List Int)), Item.box b4 [(.int .i64 a2.1), (.int .i64 a2.2.1), (.int .i64 (w64 (a2.2.2.1 + 1))), (.bool a2.2.2.2)], Item.box b3 [v2, (.int .i64 x1.2.1), (.int .i64 x1.2.2)], Item.box b5 [v2, (.int .i64 x1.2.1), (.int .i64 x1.2.2)], Item.box b2 [(.int .i64 a2.1), (.int .i64 a2.2.1), (.int .i64 (w64 (a2.2.2.1 + 1))), (.bool a2.2.2.2)]] := hC76.front 3 rfl
              have hC78 : Ctx [] w0 _ [Item.own v2 (x1.1 : (List Int)), Item.box b4 [(.int .i64 a2.1), (.int .i64 a2.2.1), (.int .i64 (w64 (a2.2.2.1 + 1))), (.bool a2.2.2.2)], Item.box b3 [v2, (.int .i64 x1.2.1), (.int .i64 x1.2.2)]] := hC77.headN 3
              refine nrm_sub (l' := [(6, (ptr b3 0)), (7, (ptr b4 0)), (8, (.bool true))]) ⟨rfl, rfl, rfl, trivial⟩ ?_
              exact ⟨a2.1, a2.2.1, w64 (a2.2.2.1 + 1), a2.2.2.2, v2, x1.1, x1.2.1, x1.2.2, true, rfl, rfl, hC78⟩
        · rintro _ w20 ⟨x15, x16, x17, x18, v4, x19, x20, x21, x22, rfl, rfl, hC70⟩
          try dsimp only at hF
          refine W_ret ?_
          refine nrm_ret ?_
          have hq11 := Option.some.inj hF
          subst hq11
          refine fn_retG3 rfl (rv_cell_agg (cs' := [v4, (.int .i64 x20), (.int .i64 x21)]) hC70 (i := 2) rfl rfl rfl Try.isAgg26 Try.sizeOf26 rfl) (rv_cell_agg (cs' := [(.int .i64 x15), (.int .i64 x16), (.int .i64 x17), (.bool x18)]) hC70 (i := 1) rfl rfl rfl Try.isAgg35 Try.sizeOf35 rfl) (rv_tmp rfl) ?_
          have hC79 := hC70.triv (bool_val (x22))
          have hC80 := own_st35 x15 x16 x17 x18 hC79
          have hC82 : Ctx [] w0 _ [Item.own v4 (x19 : (List Int)), Item.own (.agg #[(.int .i64 x15), (.int .i64 x16), (.int .i64 x17), (.bool x18)]) ((x15, x16, x17, x18) : (Int × Int × Int × Bool)), Item.own (.bool x22) (x22 : Bool), Item.box b4 [(.int .i64 x15), (.int .i64 x16), (.int .i64 x17), (.bool x18)], Item.box b3 [v4, (.int .i64 x20), (.int .i64 x21)]] := hC80.front 2 rfl
          have hC81 := own_st26 v4 x19 x20 x21 hC82
          exact ⟨_, rfl, res3_of hC81⟩
      · replace hF := ite_f hF hc8
        refine W_skip ?_
        refine nrm_normal ?_
        refine W_seq_reg ?_
        refine WL_load_box_agg [v2, (.int .i64 x1.2.1), (.int .i64 x1.2.2)] hC69 0 rfl rfl rfl Try.isAgg26 Try.sizeOf26 rfl rfl ?_
        refine WL_field Try.underlying35 rfl rfl (fun w => ⟨_, Try.sizeOf3 w⟩) rfl rfl ?_
        refine WL_load_box hC69 4 rfl rfl Try.isAgg3 rfl rfl ?_
        refine WL_field Try.underlying35 rfl rfl (fun w => ⟨_, Try.sizeOf3 w⟩) rfl rfl ?_
        refine WL_load_box hC69 4 rfl rfl Try.isAgg3 rfl rfl ?_
        obtain ⟨x23, hr9, hF⟩ := bind_some hF
        refine WL_call Try.call16 rfl rfl (c_S_ReceiveCall (x1.1, x1.2.1, x1.2.2) v2 ((hC69.ro 1 rfl).now (Keep.refl _ _)) a2.1 a2.2.1 x23 hr9) ?_
        rintro _ w26 ⟨hB20, v5, v6, F2, F3, rfl, hv6, hv7, hn4, hb4⟩
        obtain ⟨rfl, rfl⟩ := val_bool hv7
        have hC83 := hC69.pushL hB20 (Bs := [Item.own v5 x23.1]) (Fs := [F2]) ⟨F2, _, rfl, hv6, rfl⟩ (by simpa using hn4) (fun b h => hb4 b (by simpa using h))
        obtain ⟨v7, rfl, hC84⟩ := st26_own hC83
        refine WL_move rfl rfl ?_
        refine WL_extract rfl rfl rfl ?_
        refine WL_extract rfl rfl rfl ?_
        refine WL_store_box_agg (cs' := [v7, (.int .i64 x23.1.2.1), (.int .i64 x23.1.2.2)]) (new := [v7, (.int .i64 x23.1.2.1), (.int .i64 x23.1.2.2)]) hC84 1 rfl rfl (by intro v hv; simp only [List.mem_cons, List.not_mem_nil, or_false] at hv; rcases hv with rfl | rfl | rfl; exact (ro_one (hC84.ro 0 rfl)); exact rfl; exact rfl) rfl Try.sizeOf26 rfl rfl (fun w27 hC85 => ?_)
        try dsimp only [List.set] at hC85
        refine WL_nil ?_
        refine W_seq ?_
        refine W_seq_reg ?_
        refine WL_move rfl rfl ?_
        refine WL_eql rfl rfl rfl ?_
        refine WL_nil ?_
        obtain ⟨r4, hr10, hF⟩ := bind_some hF
        refine W_norm (fun l w => ∃ v8 : Value, ∃ x24 : (List Int), ∃ x25 : Int, ∃ x26 : Int, (x24, x25, x26) = r4 ∧ l = [(2, (.int .i64 a3)), (4, (ptr b2 0)), (6, (ptr b3 0)), (7, (ptr b4 0)), (9, (ptr b5 0))] ∧ Ctx [] w0 w [Item.own v8 (x24 : (List Int)), Item.box b5 [v8, (.int .i64 x25), (.int .i64 x26)], Item.box b4 [(.int .i64 0), (.int .i64 0), (.int .i64 0), (.bool false)], Item.box b3 [(.slice none 0 0), (.int .i64 0), (.int .i64 0)], Item.box b2 [(.int .i64 a2.1), (.int .i64 a2.2.1), (.int .i64 (w64 (a2.2.2.1 + 1))), (.bool a2.2.2.2)]]) ?_ ?_
        · refine W_cond rfl (fun hc9 => ?_) (fun hc9 => ?_)
          · replace hr10 := ite_t hr10 hc9
            refine W_reg ?_
            refine WL_load_box_agg [v7, (.int .i64 x23.1.2.1), (.int .i64 x23.1.2.2)] hC85 1 rfl rfl rfl Try.isAgg26 Try.sizeOf26 rfl rfl ?_
            refine WL_field Try.underlying35 rfl rfl (fun w => ⟨_, Try.sizeOf3 w⟩) rfl rfl ?_
            refine WL_load_box hC85 5 rfl rfl Try.isAgg3 rfl rfl ?_
            refine WL_field Try.underlying35 rfl rfl (fun w => ⟨_, Try.sizeOf3 w⟩) rfl rfl ?_
            refine WL_load_box hC85 5 rfl rfl Try.isAgg3 rfl rfl ?_
            obtain ⟨x27, hr11, hr10⟩ := bind_some hr10
            refine WL_call Try.call16 rfl rfl (c_S_ReceiveCall (x23.1.1, x23.1.2.1, x23.1.2.2) v7 ((hC85.ro 0 rfl).now (Keep.refl _ _)) a2.1 a2.2.1 x27 hr11) ?_
            rintro _ w29 ⟨hB22, v9, v10, F4, F5, rfl, hv8, hv9, hn5, hb5⟩
            obtain ⟨rfl, rfl⟩ := val_bool hv9
            have hC87 := hC85.pushL hB22 (Bs := [Item.own v9 x27.1]) (Fs := [F4]) ⟨F4, _, rfl, hv8, rfl⟩ (by simpa using hn5) (fun b h => hb5 b (by simpa using h))
            obtain ⟨v11, rfl, hC88⟩ := st26_own hC87
            refine WL_move rfl rfl ?_
            refine WL_extract rfl rfl rfl ?_
            refine WL_extract rfl rfl rfl ?_
            refine WL_store_box_agg (cs' := [v11, (.int .i64 x27.1.2.1), (.int .i64 x27.1.2.2)]) (new := [v11, (.int .i64 x27.1.2.1), (.int .i64 x27.1.2.2)]) hC88 2 rfl rfl (by intro v hv; simp only [List.mem_cons, List.not_mem_nil, or_false] at hv; rcases hv with rfl | rfl | rfl; exact (ro_one (hC88.ro 0 rfl)); exact rfl; exact rfl) rfl Try.sizeOf26 rfl rfl (fun w30 hC89 => ?_)
            try dsimp only [List.set] at hC89
            refine WL_nil ?_
            have hq12 := Option.some.inj hr10
            subst hq12
            have hC90 : Ctx [] w0 _ [Item.box b2 [(.int .i64 a2.1), (.int .i64 a2.2.1), (.int .i64 (w64 (a2.2.2.1 + 1))), (.bool a2.2.2.2)], Item.own v11 (x27.1.1 : (List Int)), Item.own v7 (x23.1.1 : (List Int)), Item.box b5 [v11, (.int .i64 x27.1.2.1), (.int .i64 x27.1.2.2)], Item.own v2 (x1.1 : (List Int)), Item.box b4 [(.int .i64 0), (.int .i64 0), (.int .i64 0), (.bool false)], Item.box b3 [(.slice none 0 0), (.int .i64 0), (.int .i64 0)]] := hC89.front 6 rfl
            have hC91 : Ctx [] w0 _ [Item.box b3 [(.slice none 0 0), (.int .i64 0), (.int .i64 0)], Item.box b2 [(.int .i64 a2.1), (.int .i64 a2.2.1), (.int .i64 (w64 (a2.2.2.1 + 1))), (.bool a2.2.2.2)], Item.own v11 (x27.1.1 : (List Int)), Item.own v7 (x23.1.1 : (List Int)), Item.box b5 [v11, (.int .i64 x27.1.2.1), (.int .i64 x27.1.2.2)], Item.own v2 (x1.1 : (List Int)), Item.box b4 [(.int .i64 0), (.int .i64 0), (.int .i64 0), (.bool false)]] := hC90.front 6 rfl
            have hC92 : Ctx [] w0 _ [Item.box b4 [(.int .i64 0), (.int .i64 0), (.int .i64 0), (.bool false)], Item.box b3 [(.slice none 0 0), (.int .i64 0), (.int .i64 0)], Item.box b2 [(.int .i64 a2.1), (.int .i64 a2.2.1), (.int .i64 (w64 (a2.2.2.1 + 1))), (.bool a2.2.2.2)], Item.own v11 (x27.1.1 : (List Int)), Item.own v7 (x23.1.1 : (List Int)), Item.box b5 [v11, (.int .i64 x27.1.2.1), (.int .i64 x27.1.2.2)], Item.own v2 (x1.1 : (List Int))] := hC91.front 6 rfl
            have hC93 : Ctx [] w0 _ [Item.box b5 [v11, (.int .i64 x27.1.2.1), (.int .i64 x27.1.2.2)], Item.box b4 [(.int .i64 0), (.int .i64 0), (.int .i64 0), (.bool false)], Item.box b3 [(.slice none 0 0), (.int .i64 0), (.int .i64 0)], Item.box b2 [(.int .i64 a2.1), (.int .i64 a2.2.1), (.int .i64 (w64 (a2.2.2.1 + 1))), (.bool a2.2.2.2)], Item.own v11 (x27.1.1 : (List Int)), Item.own v7 (x23.1.1 : (List Int)), Item.own v2 (x1.1 : (List Int))] := hC92.front 5 rfl
            have hC94 : Ctx [] w0 _ [Item.own v11 (x27.1.1 : (List Int)), Item.box b5 [v11, (.int .i64 x27.1.2.1), (.int .i64 x27.1.2.2)], Item.box b4 [(.int .i64 0), (.int .i64 0), (.int .i64 0), (.bool false)], Item.box b3 [(.slice none 0 0), (.int .i64 0), (.int .i64 0)], Item.box b2 [(.int .i64 a2.1), (.int .i64 a2.2.1), (.int .i64 (w64 (a2.2.2.1 + 1))), (.bool a2.2.2.2)], Item.own v7 (x23.1.1 : (List Int)), Item.own v2 (x1.1 : (List Int))] := hC93.front 4 rfl
            have hC95 : Ctx [] w0 _ [Item.own v11 (x27.1.1 : (List Int)), Item.box b5 [v11, (.int .i64 x27.1.2.1), (.int .i64 x27.1.2.2)], Item.box b4 [(.int .i64 0), (.int .i64 0), (.int .i64 0), (.bool false)], Item.box b3 [(.slice none 0 0), (.int .i64 0), (.int .i64 0)], Item.box b2 [(.int .i64 a2.1), (.int .i64 a2.2.1), (.int .i64 (w64 (a2.2.2.1 + 1))), (.bool a2.2.2.2)]] := hC94.headN 5
            refine nrm_sub (l' := [(2, (.int .i64 a3)), (4, (ptr b2 0)), (6, (ptr b3 0)), (7, (ptr b4 0)), (9, (ptr b5 0))]) ⟨rfl, rfl, rfl, rfl, rfl, trivial⟩ ?_
            exact ⟨v11, x27.1.1, x27.1.2.1, x27.1.2.2, rfl, rfl, hC95⟩
          · replace hr10 := ite_f hr10 hc9
            refine W_skip ?_
            have hq13 := Option.some.inj hr10
            subst hq13
            have hC96 : Ctx [] w0 _ [Item.box b2 [(.int .i64 a2.1), (.int .i64 a2.2.1), (.int .i64 (w64 (a2.2.2.1 + 1))), (.bool a2.2.2.2)], Item.own v7 (x23.1.1 : (List Int)), Item.box b5 [v7, (.int .i64 x23.1.2.1), (.int .i64 x23.1.2.2)], Item.own v2 (x1.1 : (List Int)), Item.box b4 [(.int .i64 0), (.int .i64 0), (.int .i64 0), (.bool false)], Item.box b3 [(.slice none 0 0), (.int .i64 0), (.int .i64 0)]] := hC85.front 5 rfl
            have hC97 : Ctx [] w0 _ [Item.box b3 [(.slice none 0 0), (.int .i64 0), (.int .i64 0)], Item.box b2 [(.int .i64 a2.1), (.int .i64 a2.2.1), (.int .i64 (w64 (a2.2.2.1 + 1))), (.bool a2.2.2.2)], Item.own v7 (x23.1.1 : (List Int)), Item.box b5 [v7, (.int .i64 x23.1.2.1), (.int .i64 x23.1.2.2)], Item.own v2 (x1.1 : (List Int)), Item.box b4 [(.int .i64 0), (.int .i64 0), (.int .i64 0), (.bool false)]] := hC96.front 5 rfl
            have hC98 : Ctx [] w0 _ [Item.box b4 [(.int .i64 0), (.int .i64 0), (.int .i64 0), (.bool false)], Item.box b3 [(.slice none 0 0), (.int .i64 0), (.int .i64 0)], Item.box b2 [(.int .i64 a2.1), (.int .i64 a2.2.1), (.int .i64 (w64 (a2.2.2.1 + 1))), (.bool a2.2.2.2)], Item.own v7 (x23.1.1 : (List Int)), Item.box b5 [v7, (.int .i64 x23.1.2.1), (.int .i64 x23.1.2.2)], Item.own v2 (x1.1 : (List Int))] := hC97.front 5 rfl
            have hC99 : Ctx [] w0 _ [Item.box b5 [v7, (.int .i64 x23.1.2.1), (.int .i64 x23.1.2.2)], Item.box b4 [(.int .i64 0), (.int .i64 0), (.int .i64 0), (.bool false)], Item.box b3 [(.slice none 0 0), (.int .i64 0), (.int .i64 0)], Item.box b2 [(.int .i64 a2.1), (.int .i64 a2.2.1), (.int .i64 (w64 (a2.2.2.1 + 1))), (.bool a2.2.2.2)], Item.own v7 (x23.1.1 : (List Int)), Item.own v2 (x1.1 : (List Int))] := hC98.front 4 rfl
            have hC100 : Ctx [] w0 _ [Item.own v7 (x23.1.1 : (List Int)), Item.box b5 [v7, (.int .i64 x23.1.2.1), (.int .i64 x23.1.2.2)], Item.box b4 [(.int .i64 0), (.int .i64 0), (.int .i64 0), (.bool false)], Item.box b3 [(.slice none 0 0), (.int .i64 0), (.int .i64 0)], Item.box b2 [(.int .i64 a2.1), (.int .i64 a2.2.1), (.int .i64 (w64 (a2.2.2.1 + 1))), (.bool a2.2.2.2)], Item.own v2 (x1.1 : (List Int))] := hC99.front 4 rfl
            have hC101 : Ctx [] w0 _ [Item.own v7 (x23.1.1 : (List Int)), Item.box b5 [v7, (.int .i64 x23.1.2.1), (.int .i64 x23.1.2.2)], Item.box b4 [(.int .i64 0), (.int .i64 0), (.int .i64 0), (.bool false)], Item.box b3 [(.slice none 0 0), (.int .i64 0), (.int .i64 0)], Item.box b2 [(.int .i64 a2.1), (.int .i64 a2.2.1), (.int .i64 (w64 (a2.2.2.1 + 1))), (.bool a2.2.2.2)]] := hC100.headN 5
            refine nrm_sub (l' := [(2, (.int .i64 a3)), (4, (ptr b2 0)), (6, (ptr b3 0)), (7, (ptr b4 0)), (9, (ptr b5 0))]) ⟨rfl, rfl, rfl, rfl, rfl, trivial⟩ ?_
            exact ⟨v7, x23.1.1, x23.1.2.1, x23.1.2.2, rfl, rfl, hC101⟩
        · rintro l4 _ w28 hs4 ⟨v8, x24, x25, x26, rfl, rfl, hC86⟩
          try dsimp only at hF
          refine nrm_sub' hs4 ?_
          clear hs4
          refine W_seq_reg ?_
          refine WL_move rfl rfl ?_
          refine WL_neq rfl rfl rfl ?_
          refine WL_field Try.underlying35 rfl rfl (fun w => ⟨_, Try.sizeOf4 w⟩) rfl rfl ?_
          refine WL_store_box (cs' := [(.int .i64 a2.1), (.int .i64 a2.2.1), (.int .i64 (w64 (a2.2.2.1 + 1))), (.bool (!decide (a3 = 2)))]) hC86 4 rfl rfl rfl rfl Try.sizeOf4 rfl rfl (fun w31 hC102 => ?_)
          try dsimp only [List.set] at hC102
          refine WL_nil ?_
          obtain ⟨r5, hr12, hF⟩ := bind_some hF
          refine W_cut (fun l w => ∃ x28 : Int, ∃ x29 : Int, ∃ x30 : Int, ∃ x31 : Bool, ∃ v12 : Value, ∃ x32 : (List Int), ∃ x33 : Int, ∃ x34 : Int, ∃ x35 : Bool, (x28, x29, x30, x31, x32, x33, x34, x35) = r5 ∧ l = [(6, (ptr b3 0)), (7, (ptr b4 0)), (8, (.bool x35))] ∧ Ctx [] w0 w [Item.own v12 (x32 : (List Int)), Item.box b4 [(.int .i64 x28), (.int .i64 x29), (.int .i64 x30), (.bool x31)], Item.box b3 [v12, (.int .i64 x33), (.int .i64 x34)]]) ?_ ?_
          · refine W_drawn 5 rfl hmix (fun w33 hB24 => ?_)
            have hC104 := hC102.grow hB24
            refine WA.sub (l' := [(2, (.int .i64 a3)), (4, (ptr b2 0)), (6, (ptr b3 0)), (7, (ptr b4 0)), (9, (ptr b5 0)), (77, (.int .i64 a3)), (78, (.bool (!decide (a3 = 2)))), (79, (ptr b2 3))]) ?_ ⟨rfl, rfl, rfl, rfl, rfl, rfl, rfl, rfl, trivial⟩
            refine WA_postsO [⟨0, [], fun vs => PW.val (.agg #[v8, (.int .i64 x25), (.int .i64 x26)]), []⟩, ⟨1, [], fun vs => PW.val (.agg #[(.int .i64 a2.1), (.int .i64 a2.2.1), (.int .i64 (w64 (a2.2.2.1 + 1))), (.bool (!decide (a3 = 2)))]), []⟩] [[], []] [1] 3 rfl (by kernel_rfl) (by kernel_rfl) ?_ ⟨?_, ?_, trivial⟩
            · refine StepsE_cons rfl ?_ ?_
              · intro w34 hB25
                refine DepsE_nil ?_
                refine ⟨_, rfl, ?_⟩
                refine WL_load_box_agg [v8, (.int .i64 x25), (.int .i64 x26)] (hC104.grow hB25) 1 rfl rfl rfl Try.isAgg26 Try.sizeOf26 rfl rfl ?_
                refine WL_nil ?_
                exact FinE_val (Below.refl _ _) rfl rfl ⟨rfl, rfl⟩
              refine StepsE_cons rfl ?_ ?_
              · intro w34 hB25
                refine DepsE_nil ?_
                refine ⟨_, rfl, ?_⟩
                refine WL_load_box_agg [(.int .i64 a2.1), (.int .i64 a2.2.1), (.int .i64 (w64 (a2.2.2.1 + 1))), (.bool (!decide (a3 = 2)))] (hC104.grow hB25) 4 rfl rfl rfl Try.isAgg35 Try.sizeOf35 rfl rfl ?_
                refine WL_nil ?_
                exact FinE_val (Below.refl _ _) rfl rfl ⟨rfl, rfl⟩
              exact StepsE_nil
            · intro g' hg'
              obtain rfl : g' = 3 := hg'
              intro w35 hB26
              refine AllE_cons rfl rfl rfl ?_
              rintro _ _ ⟨rfl, rfl⟩
              refine AllE_cons rfl rfl rfl ?_
              rintro _ _ ⟨rfl, rfl⟩
              refine AllE_nil ?_
              intro hn6 hb6
              have hC105 := hC104.grow hB26
              refine WA_one 2 (by kernel_rfl) rfl ?_
              refine WL_store_box_agg (cs' := [v8, (.int .i64 x25), (.int .i64 x26)]) (new := [v8, (.int .i64 x25), (.int .i64 x26)]) hC105 3 rfl rfl (by intro v hv; simp only [List.mem_cons, List.not_mem_nil, or_false] at hv; rcases hv with rfl | rfl | rfl; exact (ro_one (hC105.ro 0 rfl)); exact rfl; exact rfl) rfl Try.sizeOf26 rfl rfl (fun w36 hC106 => ?_)
              try dsimp only [List.set] at hC106
              refine WL_nil ?_
              refine WA_one 3 (by kernel_rfl) rfl ?_
              refine WL_store_box_agg (cs' := [(.int .i64 a2.1), (.int .i64 a2.2.1), (.int .i64 (w64 (a2.2.2.1 + 1))), (.bool (!decide (a3 = 2)))]) (new := [(.int .i64 a2.1), (.int .i64 a2.2.1), (.int .i64 (w64 (a2.2.2.1 + 1))), (.bool (!decide (a3 = 2)))]) hC106 2 rfl rfl (by intro v hv; simp only [List.mem_cons, List.not_mem_nil, or_false] at hv; rcases hv with rfl | rfl | rfl | rfl; exact rfl; exact rfl; exact rfl; exact rfl) rfl Try.sizeOf35 rfl rfl (fun w37 hC107 => ?_)
              try dsimp only [List.set] at hC107
              refine WL_nil ?_
              refine WA_take 4 rfl (by kernel_rfl) (by kernel_rfl) (by kernel_rfl) rfl (fl_assign rfl) ?_
              refine WL_assign rfl rfl ?_
              refine WL_nil ?_
              refine WA_done (by kernel_rfl) ?_
              have hq14 := Option.some.inj hr12
              subst hq14
              have hC108 : Ctx [] w0 _ [Item.box b3 [v8, (.int .i64 x25), (.int .i64 x26)], Item.own v8 (x24 : (List Int)), Item.box b5 [v8, (.int .i64 x25), (.int .i64 x26)], Item.box b4 [(.int .i64 a2.1), (.int .i64 a2.2.1), (.int .i64 (w64 (a2.2.2.1 + 1))), (.bool (!decide (a3 = 2)))], Item.box b2 [(.int .i64 a2.1), (.int .i64 a2.2.1), (.int .i64 (w64 (a2.2.2.1 + 1))), (.bool (!decide (a3 = 2)))]] := hC107.front 3 rfl
              have hC109 : Ctx [] w0 _ [Item.box b4 [(.int .i64 a2.1), (.int .i64 a2.2.1), (.int .i64 (w64 (a2.2.2.1 + 1))), (.bool (!decide (a3 = 2)))], Item.box b3 [v8, (.int .i64 x25), (.int .i64 x26)], Item.own v8 (x24 : (List Int)), Item.box b5 [v8, (.int .i64 x25), (.int .i64 x26)], Item.box b2 [(.int .i64 a2.1), (.int .i64 a2.2.1), (.int .i64 (w64 (a2.2.2.1 + 1))), (.bool (!decide (a3 = 2)))]] := hC108.front 3 rfl
              have hC110 : Ctx [] w0 _ [Item.own v8 (x24 : (List Int)), Item.box b4 [(.int .i64 a2.1), (.int .i64 a2.2.1), (.int .i64 (w64 (a2.2.2.1 + 1))), (.bool (!decide (a3 = 2)))], Item.box b3 [v8, (.int .i64 x25), (.int .i64 x26)], Item.box b5 [v8, (.int .i64 x25), (.int .i64 x26)], Item.box b2 [(.int .i64 a2.1), (.int .i64 a2.2.1), (.int .i64 (w64 (a2.2.2.1 + 1))), (.bool (!decide (a3 = 2)))]] := hC109.front 2 rfl
              have hC111 : Ctx [] w0 _ [Item.own v8 (x24 : (List Int)), Item.box b4 [(.int .i64 a2.1), (.int .i64 a2.2.1), (.int .i64 (w64 (a2.2.2.1 + 1))), (.bool (!decide (a3 = 2)))], Item.box b3 [v8, (.int .i64 x25), (.int .i64 x26)]] := hC110.headN 3
              refine nrm_sub (l' := [(6, (ptr b3 0)), (7, (ptr b4 0)), (8, (.bool true))]) ⟨rfl, rfl, rfl, trivial⟩ ?_
              exact ⟨a2.1, a2.2.1, w64 (a2.2.2.1 + 1), (!decide (a3 = 2)), v8, x24, x25, x26, true, rfl, rfl, hC111⟩
            · intro g' hg'
              obtain rfl : g' = 4 := hg'
              intro w35 hB26
              refine AllE_cons rfl rfl rfl ?_
              rintro _ _ ⟨rfl, rfl⟩
              refine AllE_nil ?_
              intro hn6 hb6
              have hC105 := hC104.grow hB26
              refine WA_all2 (i := 1) (j := 2) (by kernel_rfl) rfl rfl ?_ ?_
              · refine WL_load_box_agg [(.int .i64 a2.1), (.int .i64 a2.2.1), (.int .i64 (w64 (a2.2.2.1 + 1))), (.bool (!decide (a3 = 2)))] hC105 4 rfl rfl rfl Try.isAgg35 Try.sizeOf35 rfl rfl ?_
                refine WL_nil ?_
                refine WA_one 2 (by kernel_rfl) rfl ?_
                refine WL_store_box_agg (cs' := [v8, (.int .i64 x25), (.int .i64 x26)]) (new := [v8, (.int .i64 x25), (.int .i64 x26)]) hC105 3 rfl rfl (by intro v hv; simp only [List.mem_cons, List.not_mem_nil, or_false] at hv; rcases hv with rfl | rfl | rfl; exact (ro_one (hC105.ro 0 rfl)); exact rfl; exact rfl) rfl Try.sizeOf26 rfl rfl (fun w36 hC106 => ?_)
                try dsimp only [List.set] at hC106
                refine WL_nil ?_
                refine WA_one 3 (by kernel_rfl) rfl ?_
                refine WL_store_box_agg (cs' := [(.int .i64 a2.1), (.int .i64 a2.2.1), (.int .i64 (w64 (a2.2.2.1 + 1))), (.bool (!decide (a3 = 2)))]) (new := [(.int .i64 a2.1), (.int .i64 a2.2.1), (.int .i64 (w64 (a2.2.2.1 + 1))), (.bool (!decide (a3 = 2)))]) hC106 2 rfl rfl (by intro v hv; simp only [List.mem_cons, List.not_mem_nil, or_false] at hv; rcases hv with rfl | rfl | rfl | rfl; exact rfl; exact rfl; exact rfl; exact rfl) rfl Try.sizeOf35 rfl rfl (fun w37 hC107 => ?_)
                try dsimp only [List.set] at hC107
                refine WL_nil ?_
                refine WA_take 4 rfl (by kernel_rfl) (by kernel_rfl) (by kernel_rfl) rfl (fl_assign rfl) ?_
                refine WL_assign rfl rfl ?_
                refine WL_nil ?_
                refine WA_done (by kernel_rfl) ?_
                have hq14 := Option.some.inj hr12
                subst hq14
                have hC108 : Ctx [] w0 _ [Item.box b3 [v8, (.int .i64 x25), (.int .i64 x26)], Item.own v8 (x24 : (List Int)), Item.box b5 [v8, (.int .i64 x25), (.int .i64 x26)], Item.box b4 [(.int .i64 a2.1), (.int .i64 a2.2.1), (.int .i64 (w64 (a2.2.2.1 + 1))), (.bool (!decide (a3 = 2)))], Item.box b2 [(.int .i64 a2.1), (.int .i64 a2.2.1), (.int .i64 (w64 (a2.2.2.1 + 1))), (.bool (!decide (a3 = 2)))]] := hC107.front 3 rfl
                have hC109 : Ctx [] w0 _ [Item.box b4 [(.int .i64 a2.1), (.int .i64 a2.2.1), (.int .i64 (w64 (a2.2.2.1 + 1))), (.bool (!decide (a3 = 2)))], Item.box b3 [v8, (.int .i64 x25), (.int .i64 x26)], Item.own v8 (x24 : (List Int)), Item.box b5 [v8, (.int .i64 x25), (.int .i64 x26)], Item.box b2 [(.int .i64 a2.1), (.int .i64 a2.2.1), (.int .i64 (w64 (a2.2.2.1 + 1))), (.bool (!decide (a3 = 2)))]] := hC108.front 3 rfl
                have hC110 : Ctx [] w0 _ [Item.own v8 (x24 : (List Int)), Item.box b4 [(.int .i64 a2.1), (.int .i64 a2.2.1), (.int .i64 (w64 (a2.2.2.1 + 1))), (.bool (!decide (a3 = 2)))], Item.box b3 [v8, (.int .i64 x25), (.int .i64 x26)], Item.box b5 [v8, (.int .i64 x25), (.int .i64 x26)], Item.box b2 [(.int .i64 a2.1), (.int .i64 a2.2.1), (.int .i64 (w64 (a2.2.2.1 + 1))), (.bool (!decide (a3 = 2)))]] := hC109.front 2 rfl
                have hC111 : Ctx [] w0 _ [Item.own v8 (x24 : (List Int)), Item.box b4 [(.int .i64 a2.1), (.int .i64 a2.2.1), (.int .i64 (w64 (a2.2.2.1 + 1))), (.bool (!decide (a3 = 2)))], Item.box b3 [v8, (.int .i64 x25), (.int .i64 x26)]] := hC110.headN 3
                refine nrm_sub (l' := [(6, (ptr b3 0)), (7, (ptr b4 0)), (8, (.bool true))]) ⟨rfl, rfl, rfl, trivial⟩ ?_
                exact ⟨a2.1, a2.2.1, w64 (a2.2.2.1 + 1), (!decide (a3 = 2)), v8, x24, x25, x26, true, rfl, rfl, hC111⟩
              · refine WL_store_box_agg (cs' := [v8, (.int .i64 x25), (.int .i64 x26)]) (new := [v8, (.int .i64 x25), (.int .i64 x26)]) hC105 3 rfl rfl (by intro v hv; simp only [List.mem_cons, List.not_mem_nil, or_false] at hv; rcases hv with rfl | rfl | rfl; exact (ro_one (hC105.ro 0 rfl)); exact rfl; exact rfl) rfl Try.sizeOf26 rfl rfl (fun w36 hC106 => ?_)
                try dsimp only [List.set] at hC106
                refine WL_nil ?_
                refine WA_one 1 (by kernel_rfl) rfl ?_
                refine WL_load_box_agg [(.int .i64 a2.1), (.int .i64 a2.2.1), (.int .i64 (w64 (a2.2.2.1 + 1))), (.bool (!decide (a3 = 2)))] hC106 4 rfl rfl rfl Try.isAgg35 Try.sizeOf35 rfl rfl ?_
                refine WL_nil ?_
                refine WA_one 3 (by kernel_rfl) rfl ?_
                refine WL_store_box_agg (cs' := [(.int .i64 a2.1), (.int .i64 a2.2.1), (.int .i64 (w64 (a2.2.2.1 + 1))), (.bool (!decide (a3 = 2)))]) (new := [(.int .i64 a2.1), (.int .i64 a2.2.1), (.int .i64 (w64 (a2.2.2.1 + 1))), (.bool (!decide (a3 = 2)))]) hC106 2 rfl rfl (by intro v hv; simp only [List.mem_cons, List.not_mem_nil, or_false] at hv; rcases hv with rfl | rfl | rfl | rfl; exact rfl; exact rfl; exact rfl; exact rfl) rfl Try.sizeOf35 rfl rfl (fun w37 hC107 => ?_)
                try dsimp only [List.set] at hC107
                refine WL_nil ?_
                refine WA_take 4 rfl (by kernel_rfl) (by kernel_rfl) (by kernel_rfl) rfl (fl_assign rfl) ?_
                refine WL_assign rfl rfl ?_
                refine WL_nil ?_
                refine WA_done (by kernel_rfl) ?_
                have hq14 := Option.some.inj hr12
                subst hq14
                have hC108 : Ctx [] w0 _ [Item.box b3 [v8, (.int .i64 x25), (.int .i64 x26)], Item.own v8 (x24 : (List Int)), Item.box b5 [v8, (.int .i64 x25), (.int .i64 x26)], Item.box b4 [(.int .i64 a2.1), (.int .i64 a2.2.1), (.int .i64 (w64 (a2.2.2.1 + 1))), (.bool (!decide (a3 = 2)))], Item.box b2 [(.int .i64 a2.1), (.int .i64 a2.2.1), (.int .i64 (w64 (a2.2.2.1 + 1))), (.bool (!decide (a3 = 2)))]] := hC107.front 3 rfl
                have hC109 : Ctx [] w0 _ [Item.box b4 [(.int .i64 a2.1), (.int .i64 a2.2.1), (.int .i64 (w64 (a2.2.2.1 + 1))), (.bool (!decide (a3 = 2)))], Item.box b3 [v8, (.int .i64 x25), (.int .i64 x26)], Item.own v8 (x24 : (List Int)), Item.box b5 [v8, (.int .i64 x25), (.int .i64 x26)], Item.box b2 [(.int .i64 a2.1), (.int .i64 a2.2.1), (.int .i64 (w64 (a2.2.2.1 + 1))), (.bool (!decide (a3 = 2)))]] := hC108.front 3 rfl
                have hC110 : Ctx [] w0 _ [Item.own v8 (x24 : (List Int)), Item.box b4 [(.int .i64 a2.1), (.int .i64 a2.2.1), (.int .i64 (w64 (a2.2.2.1 + 1))), (.bool (!decide (a3 = 2)))], Item.box b3 [v8, (.int .i64 x25), (.int .i64 x26)], Item.box b5 [v8, (.int .i64 x25), (.int .i64 x26)], Item.box b2 [(.int .i64 a2.1), (.int .i64 a2.2.1), (.int .i64 (w64 (a2.2.2.1 + 1))), (.bool (!decide (a3 = 2)))]] := hC109.front 2 rfl
                have hC111 : Ctx [] w0 _ [Item.own v8 (x24 : (List Int)), Item.box b4 [(.int .i64 a2.1), (.int .i64 a2.2.1), (.int .i64 (w64 (a2.2.2.1 + 1))), (.bool (!decide (a3 = 2)))], Item.box b3 [v8, (.int .i64 x25), (.int .i64 x26)]] := hC110.headN 3
                refine nrm_sub (l' := [(6, (ptr b3 0)), (7, (ptr b4 0)), (8, (.bool true))]) ⟨rfl, rfl, rfl, trivial⟩ ?_
                exact ⟨a2.1, a2.2.1, w64 (a2.2.2.1 + 1), (!decide (a3 = 2)), v8, x24, x25, x26, true, rfl, rfl, hC111⟩
          · rintro _ w32 ⟨x28, x29, x30, x31, v12, x32, x33, x34, x35, rfl, rfl, hC103⟩
            try dsimp only at hF
            refine W_ret ?_
            have hq15 := Option.some.inj hF
            subst hq15
            refine fn_retG3 rfl (rv_cell_agg (cs' := [v12, (.int .i64 x33), (.int .i64 x34)]) hC103 (i := 2) rfl rfl rfl Try.isAgg26 Try.sizeOf26 rfl) (rv_cell_agg (cs' := [(.int .i64 x28), (.int .i64 x29), (.int .i64 x30), (.bool x31)]) hC103 (i := 1) rfl rfl rfl Try.isAgg35 Try.sizeOf35 rfl) (rv_tmp rfl) ?_
            have hC112 := hC103.triv (bool_val (x35))
            have hC113 := own_st35 x28 x29 x30 x31 hC112
            have hC115 : Ctx [] w0 _ [Item.own v12 (x32 : (List Int)), Item.own (.agg #[(.int .i64 x28), (.int .i64 x29), (.int .i64 x30), (.bool x31)]) ((x28, x29, x30, x31) : (Int × Int × Int × Bool)), Item.own (.bool x35) (x35 : Bool), Item.box b4 [(.int .i64 x28), (.int .i64 x29), (.int .i64 x30), (.bool x31)], Item.box b3 [v12, (.int .i64 x33), (.int .i64 x34)]] := hC113.front 2 rfl
            have hC114 := own_st26 v12 x32 x33 x34 hC115
            exact ⟨_, rfl, res3_of hC114⟩

end Go.Gx.Px
