/- The contracts of the Go functions against the pure functions, printed by program. Conditions: each says them. -/
import Derived.Test.YtnjjpmilcajmkaaC2
set_option linter.unusedVariables false
set_option linter.unusedSimpArgs false
set_option maxRecDepth 100000
set_option maxHeartbeats 4000000
namespace Go.Gx.Px
open Go.Proofs Go.RowKit

theorem c_S_FinishCall {w0 : World} (a1 : ((List Int) × Int × Int)) (u1 : Value) (g1 : RO [] w0 u1 a1.1) (a2 : (Int × Int × Int × Bool)) (a3 : (List Int)) (u2 : Value) (g2 : RO [] w0 u2 a3) (rr : (((List Int) × Int × Int) × (Int × Int × Int × Bool))) (hF : S.FinishCall a1 a2 a3 = some rr) :
    Calls Try.prog 36 [(.agg #[u1, (.int .i64 a1.2.1), (.int .i64 a1.2.2)]), (.agg #[(.int .i64 a2.1), (.int .i64 a2.2.1), (.int .i64 a2.2.2.1), (.bool a2.2.2.2)]), u2].toArray w0 fun e w' => ∃ v, e = .returned v ∧ Res2 w0 rr.1 rr.2 v w' := by
  refine calls_of_W Try.func36 rfl rfl ?_
  have hC0 := Ctx.start w0
  unfold S.FinishCall at hF
  refine W_seq_reg ?_
  refine WL_box (cs := [u1, (.int .i64 a1.2.1), (.int .i64 a1.2.2)]) hC0 rfl rfl rfl (fun b1 w1 hC1 hB1 => ?_)
  refine WL_box (cs := [(.int .i64 a2.1), (.int .i64 a2.2.1), (.int .i64 a2.2.2.1), (.bool a2.2.2.2)]) hC1 rfl rfl rfl (fun b2 w2 hC2 hB2 => ?_)
  refine WL_alloc hC2 zero26 rfl rfl (fun b3 w3 hC3 hB3 => ?_)
  refine WL_alloc hC3 zero35 rfl rfl (fun b4 w4 hC4 hB4 => ?_)
  refine WL_nil ?_
  refine W_seq_reg ?_
  refine WL_load_box_agg [u1, (.int .i64 a1.2.1), (.int .i64 a1.2.2)] hC4 3 rfl rfl rfl Try.isAgg26 Try.sizeOf26 rfl rfl ?_
  obtain ⟨x1, hr1, hF⟩ := bind_some hF
  refine WL_call Try.call89 rfl rfl (c_S_l27Copy (a1.1, a1.2.1, a1.2.2) u1 (g1.now hC4.keep) x1 hr1) ?_
  rintro v1 w5 ⟨hB5, F1, hv1, hn1, hb1⟩
  have hC5 := hC4.push hB5 (A := Item.own v1 x1) hv1 hn1 hb1
  obtain ⟨v2, rfl, hC6⟩ := st26_own hC5
  refine WL_alloc hC6 zero26 rfl rfl (fun b5 w6 hC7 hB6 => ?_)
  refine WL_store_box_agg (cs' := [v2, (.int .i64 x1.2.1), (.int .i64 x1.2.2)]) (new := [v2, (.int .i64 x1.2.1), (.int .i64 x1.2.2)]) hC7 0 rfl rfl (by intro v hv; simp only [List.mem_cons, List.not_mem_nil, or_false] at hv; rcases hv with rfl | rfl | rfl; exact (ro_one (hC7.ro 1 rfl)); exact rfl; exact rfl) rfl Try.sizeOf26 rfl rfl (fun w7 hC8 => ?_)
  try dsimp only [List.set] at hC8
  refine WL_nil ?_
  refine W_seq ?_
  refine W_seq_reg ?_
  refine WL_assign rfl rfl ?_
  refine WL_nil ?_
  obtain ⟨r1, hr2, hF⟩ := bind_some hF
  refine W_norm (fun l w => ∃ v4 : Value, ∃ x10 : (List Int), ∃ x11 : Int, ∃ x12 : Int, ∃ x13 : Int, ∃ x14 : Int, ∃ x15 : Int, ∃ x16 : Bool, (x10, x11, x12, x13, x14, x15, x16) = r1 ∧ l = [(4, (ptr b2 0)), (6, (ptr b3 0)), (7, (ptr b4 0)), (8, (ptr b5 0))] ∧ Ctx [] w0 w [Item.box b5 [v4, (.int .i64 x11), (.int .i64 x12)], Item.own v4 (x10 : (List Int)), Item.box b4 [(.int .i64 0), (.int .i64 0), (.int .i64 0), (.bool false)], Item.box b3 [(.slice none 0 0), (.int .i64 0), (.int .i64 0)], Item.box b2 [(.int .i64 x13), (.int .i64 x14), (.int .i64 x15), (.bool x16)]]) ?_ ?_
  · refine W_block ?_
    have hC38 : Ctx [] w0 _ [Item.box b2 [(.int .i64 a2.1), (.int .i64 a2.2.1), (.int .i64 a2.2.2.1), (.bool a2.2.2.2)], Item.box b5 [v2, (.int .i64 x1.2.1), (.int .i64 x1.2.2)], Item.own v2 (x1.1 : (List Int)), Item.box b4 [(.int .i64 0), (.int .i64 0), (.int .i64 0), (.bool false)], Item.box b3 [(.slice none 0 0), (.int .i64 0), (.int .i64 0)], Item.box b1 [u1, (.int .i64 a1.2.1), (.int .i64 a1.2.2)]] := hC8.front 4 rfl
    have hC39 : Ctx [] w0 _ [Item.box b3 [(.slice none 0 0), (.int .i64 0), (.int .i64 0)], Item.box b2 [(.int .i64 a2.1), (.int .i64 a2.2.1), (.int .i64 a2.2.2.1), (.bool a2.2.2.2)], Item.box b5 [v2, (.int .i64 x1.2.1), (.int .i64 x1.2.2)], Item.own v2 (x1.1 : (List Int)), Item.box b4 [(.int .i64 0), (.int .i64 0), (.int .i64 0), (.bool false)], Item.box b1 [u1, (.int .i64 a1.2.1), (.int .i64 a1.2.2)]] := hC38.front 4 rfl
    have hC40 : Ctx [] w0 _ [Item.box b4 [(.int .i64 0), (.int .i64 0), (.int .i64 0), (.bool false)], Item.box b3 [(.slice none 0 0), (.int .i64 0), (.int .i64 0)], Item.box b2 [(.int .i64 a2.1), (.int .i64 a2.2.1), (.int .i64 a2.2.2.1), (.bool a2.2.2.2)], Item.box b5 [v2, (.int .i64 x1.2.1), (.int .i64 x1.2.2)], Item.own v2 (x1.1 : (List Int)), Item.box b1 [u1, (.int .i64 a1.2.1), (.int .i64 a1.2.2)]] := hC39.front 4 rfl
    have hC41 : Ctx [] w0 _ [Item.own v2 (x1.1 : (List Int)), Item.box b4 [(.int .i64 0), (.int .i64 0), (.int .i64 0), (.bool false)], Item.box b3 [(.slice none 0 0), (.int .i64 0), (.int .i64 0)], Item.box b2 [(.int .i64 a2.1), (.int .i64 a2.2.1), (.int .i64 a2.2.2.1), (.bool a2.2.2.2)], Item.box b5 [v2, (.int .i64 x1.2.1), (.int .i64 x1.2.2)], Item.box b1 [u1, (.int .i64 a1.2.1), (.int .i64 a1.2.2)]] := hC40.front 4 rfl
    have hC42 : Ctx [] w0 _ [Item.box b5 [v2, (.int .i64 x1.2.1), (.int .i64 x1.2.2)], Item.own v2 (x1.1 : (List Int)), Item.box b4 [(.int .i64 0), (.int .i64 0), (.int .i64 0), (.bool false)], Item.box b3 [(.slice none 0 0), (.int .i64 0), (.int .i64 0)], Item.box b2 [(.int .i64 a2.1), (.int .i64 a2.2.1), (.int .i64 a2.2.2.1), (.bool a2.2.2.2)], Item.box b1 [u1, (.int .i64 a1.2.1), (.int .i64 a1.2.2)]] := hC41.front 4 rfl
    have hC43 : Ctx [] w0 _ [Item.box b5 [v2, (.int .i64 x1.2.1), (.int .i64 x1.2.2)], Item.own v2 (x1.1 : (List Int)), Item.box b4 [(.int .i64 0), (.int .i64 0), (.int .i64 0), (.bool false)], Item.box b3 [(.slice none 0 0), (.int .i64 0), (.int .i64 0)], Item.box b2 [(.int .i64 a2.1), (.int .i64 a2.2.1), (.int .i64 a2.2.2.1), (.bool a2.2.2.2)]] := hC42.headN 5
    refine W.sub (l' := [(2, u2), (4, (ptr b2 0)), (6, (ptr b3 0)), (7, (ptr b4 0)), (8, (ptr b5 0)), (9, (.int .i64 0))]) ?_ ⟨rfl, rfl, rfl, rfl, rfl, rfl, trivial⟩
    refine W_loop (fun k l w => ∃ v3 : Value, ∃ x2 : (List Int), ∃ x3 : Int, ∃ x4 : Int, ∃ x5 : Int, ∃ x6 : Int, ∃ x7 : Int, ∃ x8 : Bool, ∃ x9 : Int, l = [(2, u2), (4, (ptr b2 0)), (6, (ptr b3 0)), (7, (ptr b4 0)), (8, (ptr b5 0)), (9, (.int .i64 x9))] ∧ Ctx [] w0 w [Item.box b5 [v3, (.int .i64 x3), (.int .i64 x4)], Item.own v3 (x2 : (List Int)), Item.box b4 [(.int .i64 0), (.int .i64 0), (.int .i64 0), (.bool false)], Item.box b3 [(.slice none 0 0), (.int .i64 0), (.int .i64 0)], Item.box b2 [(.int .i64 x5), (.int .i64 x6), (.int .i64 x7), (.bool x8)]] ∧ S.FinishCall_l1 a3 k x2 x3 x4 x5 x6 x7 x8 x9 = some r1) FUEL ⟨v2, x1.1, x1.2.1, x1.2.2, a2.1, a2.2.1, a2.2.2.1, a2.2.2.2, 0, rfl, hC43, hr2⟩ ?_
    clear hr2
    rintro k1 _ w8 ⟨v3, x2, x3, x4, x5, x6, x7, x8, x9, rfl, hC9, hL1⟩
    cases k1 with
    | zero => rw [S.FinishCall_l1] at hL1; cases hL1
    | succ k1 =>
      rw [S.FinishCall_l1] at hL1
      refine W_seq ?_
      obtain ⟨r2, hr3, hL1⟩ := bind_some hL1
      refine W_cut (fun l w => ∃ x17 : Bool, x17 = r2 ∧ l = [(2, u2), (4, (ptr b2 0)), (6, (ptr b3 0)), (7, (ptr b4 0)), (8, (ptr b5 0)), (9, (.int .i64 x9)), (25, (.bool x17))] ∧ Below w8.heap.size w8 w ∧ Ctx [] w0 w [Item.box b5 [v3, (.int .i64 x3), (.int .i64 x4)], Item.own v3 (x2 : (List Int)), Item.box b4 [(.int .i64 0), (.int .i64 0), (.int .i64 0), (.bool false)], Item.box b3 [(.slice none 0 0), (.int .i64 0), (.int .i64 0)], Item.box b2 [(.int .i64 x5), (.int .i64 x6), (.int .i64 x7), (.bool x8)]]) ?_ ?_
      · refine W_reg ?_
        refine WL_move rfl rfl ?_
        refine WL_move rfl rfl ?_
        refine WL_len Try.underlying22 g2 rfl rfl ?_
        refine WL_lss rfl rfl rfl ?_
        refine WL_move rfl rfl ?_
        refine WL_fork (fun hc1 => ?_) (fun hc1 => ?_)
        · replace hr3 := ite_t hr3 hc1
          refine WL_guard rfl rfl ?_
          refine WL_move rfl rfl ?_
          refine WL_guard rfl rfl ?_
          refine WL_lss rfl rfl rfl ?_
          refine WL_pick_t rfl rfl rfl ?_
          refine WL_nil ?_
          have hq1 := Option.some.inj hr3
          subst hq1
          refine nrm_sub (l' := [(2, u2), (4, (ptr b2 0)), (6, (ptr b3 0)), (7, (ptr b4 0)), (8, (ptr b5 0)), (9, (.int .i64 x9)), (25, (.bool (decide (x9 < 100))))]) ⟨rfl, rfl, rfl, rfl, rfl, rfl, rfl, trivial⟩ ?_
          exact ⟨(decide (x9 < 100)), rfl, rfl, (Below.refl _ _), hC9⟩
        · replace hr3 := ite_f hr3 hc1
          refine WL_guard_skip rfl rfl (by simp) rfl ?_
          refine WL_guard_skip rfl rfl (by simp) rfl ?_
          refine WL_pick_f rfl rfl rfl ?_
          refine WL_nil ?_
          have hq2 := Option.some.inj hr3
          subst hq2
          refine nrm_sub (l' := [(2, u2), (4, (ptr b2 0)), (6, (ptr b3 0)), (7, (ptr b4 0)), (8, (ptr b5 0)), (9, (.int .i64 x9)), (25, (.bool false))]) ⟨rfl, rfl, rfl, rfl, rfl, rfl, rfl, trivial⟩ ?_
          exact ⟨false, rfl, rfl, (Below.refl _ _), hC9⟩
      · rintro _ w9 ⟨x17, rfl, rfl, hB8, hC10⟩
        try dsimp only at hL1
        refine W_cond rfl (fun hc2 => ?_) (fun hc2 => ?_)
        · replace hL1 := ite_t hL1 hc2
          refine W_skip ?_
          refine nrm_normal ?_
          refine W_seq ?_
          refine W_block ?_
          obtain ⟨r3, hr4, hL1⟩ := bind_some hL1
          refine W_cut (fun l w => ∃ b6 : Nat, ∃ v5 : Value, ∃ x18 : (List Int), ∃ x19 : Int, ∃ x20 : Int, ∃ b7 : Nat, ∃ x21 : Int, ∃ x22 : Int, ∃ x23 : Int, ∃ x24 : Bool, (x18, x19, x20, x21, x22, x23, x24) = r3 ∧ l = [(2, u2), (4, (ptr b2 0)), (6, (ptr b3 0)), (7, (ptr b4 0)), (8, (ptr b5 0)), (9, (.int .i64 x9)), (10, (ptr b6 0)), (11, (ptr b7 0))] ∧ Ctx [] w0 w [Item.box b7 [(.int .i64 x21), (.int .i64 x22), (.int .i64 x23), (.bool x24)], Item.box b6 [v5, (.int .i64 x19), (.int .i64 x20)], Item.own v5 (x18 : (List Int)), Item.box b5 [v3, (.int .i64 x3), (.int .i64 x4)], Item.own v3 (x2 : (List Int)), Item.box b4 [(.int .i64 0), (.int .i64 0), (.int .i64 0), (.bool false)], Item.box b3 [(.slice none 0 0), (.int .i64 0), (.int .i64 0)], Item.box b2 [(.int .i64 x5), (.int .i64 x6), (.int .i64 x7), (.bool x8)]]) ?_ ?_
          · refine W_drawn 16 rfl hmix (fun w11 hB10 => ?_)
            have hC12 := hC10.grow hB10
            refine WA_take 2 rfl (by kernel_rfl) (by kernel_rfl) (by kernel_rfl) rfl (fl_move rfl) ?_
            refine WL_move rfl rfl ?_
            refine WL_nil ?_
            refine WA_take 3 rfl (by kernel_rfl) (by kernel_rfl) (by kernel_rfl) rfl (fl_move rfl) ?_
            refine WL_move rfl rfl ?_
            refine WL_nil ?_
            obtain ⟨x25, hx1, hr4⟩ := bind_some hr4
            refine WA_take 4 rfl (by kernel_rfl) (by kernel_rfl) (by kernel_rfl) rfl (fl_index Try.underlying22 ty3 g2 hx1 rfl rfl) ?_
            refine WL_index Try.underlying22 ty3 g2 hx1 rfl rfl rfl (fun b8 o1 h1 => ?_)
            refine WL_nil ?_
            obtain ⟨x26, hr5, hr4⟩ := bind_some hr4
            refine WA.sub (l' := [(2, u2), (4, (ptr b2 0)), (6, (ptr b3 0)), (7, (ptr b4 0)), (8, (ptr b5 0)), (9, (.int .i64 x9)), (25, (.bool x17)), (31, u2), (32, (.int .i64 x9)), (33, (ptr b8 o1))]) ?_ ⟨rfl, rfl, rfl, rfl, rfl, rfl, rfl, rfl, rfl, rfl, trivial⟩
            refine WA_postsO [⟨0, [], fun vs => PW.val (.agg #[v3, (.int .i64 x3), (.int .i64 x4)]), []⟩, ⟨1, [], fun vs => PW.val (.agg #[(.int .i64 x5), (.int .i64 x6), (.int .i64 x7), (.bool x8)]), []⟩, ⟨5, [], fun vs => PW.val (.int .i64 x25), []⟩, ⟨6, [], fun vs => PW.own3 (x26.1 : ((List Int) × Int × Int)) (x26.2.1 : (Int × Int × Int × Bool)) (x26.2.2 : Bool), []⟩, ⟨7, [35], fun vs => PW.val (vs.getD 0 undef), []⟩, ⟨8, [28], fun vs => PW.comp (vs.getD 0 undef) 0, []⟩, ⟨9, [28], fun vs => PW.comp (vs.getD 0 undef) 1, []⟩, ⟨10, [28], fun vs => PW.comp (vs.getD 0 undef) 2, []⟩, ⟨11, [], fun vs => PW.box [(.slice none 0 0), (.int .i64 0), (.int .i64 0)], []⟩, ⟨12, [], fun vs => PW.box [(.int .i64 0), (.int .i64 0), (.int .i64 0), (.bool false)], []⟩] [[], [], [], [0, 1, 5], [6], [6, 7], [6, 7], [6, 7], [], []] [9, 10] 3 rfl (by kernel_rfl) (by kernel_rfl) ?_ ⟨?_, ?_, ?_, ?_, trivial⟩
            · refine StepsE_cons rfl ?_ ?_
              · intro w15 hB14
                refine DepsE_nil ?_
                refine ⟨_, rfl, ?_⟩
                refine WL_load_box_agg [v3, (.int .i64 x3), (.int .i64 x4)] (hC12.grow hB14) 0 rfl rfl rfl Try.isAgg26 Try.sizeOf26 rfl rfl ?_
                refine WL_nil ?_
                exact FinE_val (Below.refl _ _) rfl rfl ⟨rfl, rfl⟩
              refine StepsE_cons rfl ?_ ?_
              · intro w15 hB14
                refine DepsE_nil ?_
                refine ⟨_, rfl, ?_⟩
                refine WL_load_box_agg [(.int .i64 x5), (.int .i64 x6), (.int .i64 x7), (.bool x8)] (hC12.grow hB14) 4 rfl rfl rfl Try.isAgg35 Try.sizeOf35 rfl rfl ?_
                refine WL_nil ?_
                exact FinE_val (Below.refl _ _) rfl rfl ⟨rfl, rfl⟩
              refine StepsE_cons rfl ?_ ?_
              · intro w15 hB14
                refine DepsE_nil ?_
                refine ⟨_, rfl, ?_⟩
                refine WL_load ty3 h1 (hC12.keep.then hB14) rfl rfl (fun v6 h2 => ?_)
                obtain rfl := ro_int h2
                refine WL_nil ?_
                exact FinE_val (Below.refl _ _) rfl rfl ⟨rfl, rfl⟩
              refine StepsE_cons rfl ?_ ?_
              · intro w15 hB14
                refine DepsE_cons rfl rfl rfl ?_
                rintro _ _ ⟨rfl, rfl⟩ _
                refine DepsE_cons rfl rfl rfl ?_
                rintro _ _ ⟨rfl, rfl⟩ _
                refine DepsE_cons rfl rfl rfl ?_
                rintro _ _ ⟨rfl, rfl⟩ _
                refine DepsE_nil ?_
                refine ⟨_, rfl, ?_⟩
                refine WL_call Try.call22 rfl rfl (c_S_TryCall (x2, x3, x4) v3 ((hC12.grow hB14).ro 1 rfl) (x5, x6, x7, x8) x25 x26 hr5) ?_
                rintro _ w12 ⟨hB11, v7, v8, v9, F2, F3, F4, rfl, hv2, hv3, hv4, hn2, hb2⟩
                refine WL_nil ?_
                exact FinE_own (F := F2 ++ (F3 ++ F4)) hB11 rfl rfl ⟨_, _, _, _, _, _, rfl, rfl, hv2, hv3, hv4⟩ (by simpa using hn2) (fun b h => hb2 b (by simpa using h)) (fun b h => by simp only [List.mem_append] at h; rcases h with h | h | h; exact Val.inh hv2 b h; exact Val.inh hv3 b h; exact Val.inh hv4 b h)
              refine StepsE_cons rfl ?_ ?_
              · intro w15 hB14
                refine DepsE_cons rfl rfl rfl ?_
                rintro _ _ ⟨v7, v8, v9, F2, F3, F4, rfl, rfl, hv2, hv3, hv4⟩ _
                obtain ⟨rfl, rfl⟩ := val_bool hv4
                obtain ⟨v10, rfl, h3⟩ := ro_st26 (ro_of_own hv2)
                obtain rfl := ro_st35 (ro_of_own hv3)
                refine DepsE_nil ?_
                refine ⟨_, rfl, ?_⟩
                refine WL_move rfl rfl ?_
                refine WL_nil ?_
                exact FinE_val (Below.refl _ _) rfl rfl ⟨rfl, rfl⟩
              refine StepsE_cons rfl ?_ ?_
              · intro w15 hB14
                refine DepsE_cons rfl rfl rfl ?_
                rintro _ _ ⟨v7, v8, v9, F2, F3, F4, rfl, rfl, hv2, hv3, hv4⟩ _
                obtain ⟨rfl, rfl⟩ := val_bool hv4
                obtain ⟨v10, rfl, h3⟩ := ro_st26 (ro_of_own hv2)
                obtain rfl := ro_st35 (ro_of_own hv3)
                refine DepsE_cons rfl rfl rfl ?_
                rintro _ _ ⟨rfl, rfl⟩ _
                refine DepsE_nil ?_
                refine ⟨_, rfl, ?_⟩
                refine WL_extract rfl rfl rfl ?_
                refine WL_nil ?_
                exact FinE_val (Below.refl _ _) rfl rfl ⟨⟨_, rfl, rfl⟩, rfl⟩
              refine StepsE_cons rfl ?_ ?_
              · intro w15 hB14
                refine DepsE_cons rfl rfl rfl ?_
                rintro _ _ ⟨v7, v8, v9, F2, F3, F4, rfl, rfl, hv2, hv3, hv4⟩ _
                obtain ⟨rfl, rfl⟩ := val_bool hv4
                obtain ⟨v10, rfl, h3⟩ := ro_st26 (ro_of_own hv2)
                obtain rfl := ro_st35 (ro_of_own hv3)
                refine DepsE_cons rfl rfl rfl ?_
                rintro _ _ ⟨rfl, rfl⟩ _
                refine DepsE_nil ?_
                refine ⟨_, rfl, ?_⟩
                refine WL_extract rfl rfl rfl ?_
                refine WL_nil ?_
                exact FinE_val (Below.refl _ _) rfl rfl ⟨⟨_, rfl, rfl⟩, rfl⟩
              refine StepsE_cons rfl ?_ ?_
              · intro w15 hB14
                refine DepsE_cons rfl rfl rfl ?_
                rintro _ _ ⟨v7, v8, v9, F2, F3, F4, rfl, rfl, hv2, hv3, hv4⟩ _
                obtain ⟨rfl, rfl⟩ := val_bool hv4
                obtain ⟨v10, rfl, h3⟩ := ro_st26 (ro_of_own hv2)
                obtain rfl := ro_st35 (ro_of_own hv3)
                refine DepsE_cons rfl rfl rfl ?_
                rintro _ _ ⟨rfl, rfl⟩ _
                refine DepsE_nil ?_
                refine ⟨_, rfl, ?_⟩
                refine WL_extract rfl rfl rfl ?_
                refine WL_nil ?_
                exact FinE_val (Below.refl _ _) rfl rfl ⟨⟨_, rfl, rfl⟩, rfl⟩
              refine StepsE_cons rfl ?_ ?_
              · intro w15 hB14
                refine DepsE_nil ?_
                refine ⟨_, rfl, ?_⟩
                refine WL_alloc (Ctx.start _) zero26 rfl rfl (fun b9 w13 hC13 hB12 => ?_)
                refine WL_nil ?_
                exact FinE_ctx hC13 rfl rfl (fun F h => ⟨b9, rfl, h⟩)
              refine StepsE_cons rfl ?_ ?_
              · intro w15 hB14
                refine DepsE_nil ?_
                refine ⟨_, rfl, ?_⟩
                refine WL_alloc (Ctx.start _) zero35 rfl rfl (fun b10 w14 hC14 hB13 => ?_)
                refine WL_nil ?_
                exact FinE_ctx hC14 rfl rfl (fun F h => ⟨b10, rfl, h⟩)
              exact StepsE_nil
            · intro g' hg'
              obtain rfl : g' = 3 := hg'
              intro w16 hB15
              refine AllE_cons rfl rfl rfl ?_
              rintro _ _ ⟨rfl, rfl⟩
              refine AllE_cons rfl rfl rfl ?_
              rintro _ _ ⟨rfl, rfl⟩
              refine AllE_cons rfl rfl rfl ?_
              rintro _ _ ⟨rfl, rfl⟩
              refine AllE_cons rfl rfl rfl ?_
              rintro _ _ ⟨v7, v8, v9, F2, F3, F4, rfl, rfl, hv2, hv3, hv4⟩
              obtain ⟨rfl, rfl⟩ := val_bool hv4
              refine AllE_cons rfl rfl rfl ?_
              rintro _ _ ⟨rfl, rfl⟩
              refine AllE_cons rfl rfl rfl ?_
              rintro _ _ ⟨⟨_, hx2, hx3⟩, rfl⟩
              obtain rfl := Value.tuple.inj hx2
              obtain rfl := Option.some.inj (show (some v7 : Option Value) = some _ from hx3)
              refine AllE_cons rfl rfl rfl ?_
              rintro _ _ ⟨⟨_, hx4, hx5⟩, rfl⟩
              obtain rfl := Value.tuple.inj hx4
              obtain rfl := Option.some.inj (show (some v8 : Option Value) = some _ from hx5)
              refine AllE_cons rfl rfl rfl ?_
              rintro _ _ ⟨⟨_, hx6, hx7⟩, rfl⟩
              obtain rfl := Value.tuple.inj hx6
              obtain rfl := Option.some.inj (show (some (.bool x26.2.2) : Option Value) = some _ from hx7)
              refine AllE_cons rfl rfl rfl ?_
              rintro _ F5 ⟨b9, rfl, hv5⟩
              refine AllE_cons rfl rfl rfl ?_
              rintro _ F6 ⟨b10, rfl, hv6⟩
              refine AllE_nil ?_
              intro hn3 hb3
              have hC15 := hC12.pushL hB15 (Bs := [Item.box b10 [(.int .i64 0), (.int .i64 0), (.int .i64 0), (.bool false)], Item.box b9 [(.slice none 0 0), (.int .i64 0), (.int .i64 0)], Item.own v7 (x26.1 : ((List Int) × Int × Int)), Item.own v8 (x26.2.1 : (Int × Int × Int × Bool))]) (Fs := [F6, F5, F2, F3]) ⟨F6, _, rfl, hv6, F5, _, rfl, hv5, F2, _, rfl, hv2, F3, _, rfl, hv3, rfl⟩ (by simpa using hn3) (fun b h => (hb3 b (by simpa using h)).1)
              have hC16 : Ctx [] w0 _ [Item.own v7 (x26.1 : ((List Int) × Int × Int)), Item.box b10 [(.int .i64 0), (.int .i64 0), (.int .i64 0), (.bool false)], Item.box b9 [(.slice none 0 0), (.int .i64 0), (.int .i64 0)], Item.own v8 (x26.2.1 : (Int × Int × Int × Bool)), Item.box b5 [v3, (.int .i64 x3), (.int .i64 x4)], Item.own v3 (x2 : (List Int)), Item.box b4 [(.int .i64 0), (.int .i64 0), (.int .i64 0), (.bool false)], Item.box b3 [(.slice none 0 0), (.int .i64 0), (.int .i64 0)], Item.box b2 [(.int .i64 x5), (.int .i64 x6), (.int .i64 x7), (.bool x8)]] := hC15.front 2 rfl
              obtain ⟨v11, rfl, hC17⟩ := st26_own hC16
              have hC18 : Ctx [] w0 _ [Item.own v8 (x26.2.1 : (Int × Int × Int × Bool)), Item.own v11 (x26.1.1 : (List Int)), Item.box b10 [(.int .i64 0), (.int .i64 0), (.int .i64 0), (.bool false)], Item.box b9 [(.slice none 0 0), (.int .i64 0), (.int .i64 0)], Item.box b5 [v3, (.int .i64 x3), (.int .i64 x4)], Item.own v3 (x2 : (List Int)), Item.box b4 [(.int .i64 0), (.int .i64 0), (.int .i64 0), (.bool false)], Item.box b3 [(.slice none 0 0), (.int .i64 0), (.int .i64 0)], Item.box b2 [(.int .i64 x5), (.int .i64 x6), (.int .i64 x7), (.bool x8)]] := hC17.front 3 rfl
              obtain ⟨rfl, hC19⟩ := st35_own hC18
              refine WA_one 13 (by kernel_rfl) rfl ?_
              refine WL_store_box_agg (cs' := [v11, (.int .i64 x26.1.2.1), (.int .i64 x26.1.2.2)]) (new := [v11, (.int .i64 x26.1.2.1), (.int .i64 x26.1.2.2)]) hC19 2 rfl rfl (by intro v hv; simp only [List.mem_cons, List.not_mem_nil, or_false] at hv; rcases hv with rfl | rfl | rfl; exact (ro_one (hC19.ro 0 rfl)); exact rfl; exact rfl) rfl Try.sizeOf26 rfl rfl (fun w17 hC20 => ?_)
              try dsimp only [List.set] at hC20
              refine WL_nil ?_
              refine WA_one 14 (by kernel_rfl) rfl ?_
              refine WL_store_box_agg (cs' := [(.int .i64 x26.2.1.1), (.int .i64 x26.2.1.2.1), (.int .i64 x26.2.1.2.2.1), (.bool x26.2.1.2.2.2)]) (new := [(.int .i64 x26.2.1.1), (.int .i64 x26.2.1.2.1), (.int .i64 x26.2.1.2.2.1), (.bool x26.2.1.2.2.2)]) hC20 1 rfl rfl (by intro v hv; simp only [List.mem_cons, List.not_mem_nil, or_false] at hv; rcases hv with rfl | rfl | rfl | rfl; exact rfl; exact rfl; exact rfl; exact rfl) rfl Try.sizeOf35 rfl rfl (fun w18 hC21 => ?_)
              try dsimp only [List.set] at hC21
              refine WL_nil ?_
              refine WA_take 15 rfl (by kernel_rfl) (by kernel_rfl) (by kernel_rfl) rfl (fl_assign rfl) ?_
              refine WL_assign rfl rfl ?_
              refine WL_nil ?_
              refine WA_done (by kernel_rfl) ?_
              have hq3 := Option.some.inj hr4
              subst hq3
              have hC22 : Ctx [] w0 _ [Item.box b2 [(.int .i64 x5), (.int .i64 x6), (.int .i64 x7), (.bool x8)], Item.own v11 (x26.1.1 : (List Int)), Item.box b10 [(.int .i64 x26.2.1.1), (.int .i64 x26.2.1.2.1), (.int .i64 x26.2.1.2.2.1), (.bool x26.2.1.2.2.2)], Item.box b9 [v11, (.int .i64 x26.1.2.1), (.int .i64 x26.1.2.2)], Item.box b5 [v3, (.int .i64 x3), (.int .i64 x4)], Item.own v3 (x2 : (List Int)), Item.box b4 [(.int .i64 0), (.int .i64 0), (.int .i64 0), (.bool false)], Item.box b3 [(.slice none 0 0), (.int .i64 0), (.int .i64 0)]] := hC21.front 7 rfl
              have hC23 : Ctx [] w0 _ [Item.box b3 [(.slice none 0 0), (.int .i64 0), (.int .i64 0)], Item.box b2 [(.int .i64 x5), (.int .i64 x6), (.int .i64 x7), (.bool x8)], Item.own v11 (x26.1.1 : (List Int)), Item.box b10 [(.int .i64 x26.2.1.1), (.int .i64 x26.2.1.2.1), (.int .i64 x26.2.1.2.2.1), (.bool x26.2.1.2.2.2)], Item.box b9 [v11, (.int .i64 x26.1.2.1), (.int .i64 x26.1.2.2)], Item.box b5 [v3, (.int .i64 x3), (.int .i64 x4)], Item.own v3 (x2 : (List Int)), Item.box b4 [(.int .i64 0), (.int .i64 0), (.int .i64 0), (.bool false)]] := hC22.front 7 rfl
              have hC24 : Ctx [] w0 _ [Item.box b4 [(.int .i64 0), (.int .i64 0), (.int .i64 0), (.bool false)], Item.box b3 [(.slice none 0 0), (.int .i64 0), (.int .i64 0)], Item.box b2 [(.int .i64 x5), (.int .i64 x6), (.int .i64 x7), (.bool x8)], Item.own v11 (x26.1.1 : (List Int)), Item.box b10 [(.int .i64 x26.2.1.1), (.int .i64 x26.2.1.2.1), (.int .i64 x26.2.1.2.2.1), (.bool x26.2.1.2.2.2)], Item.box b9 [v11, (.int .i64 x26.1.2.1), (.int .i64 x26.1.2.2)], Item.box b5 [v3, (.int .i64 x3), (.int .i64 x4)], Item.own v3 (x2 : (List Int))] := hC23.front 7 rfl
              have hC25 : Ctx [] w0 _ [Item.own v3 (x2 : (List Int)), Item.box b4 [(.int .i64 0), (.int .i64 0), (.int .i64 0), (.bool false)], Item.box b3 [(.slice none 0 0), (.int .i64 0), (.int .i64 0)], Item.box b2 [(.int .i64 x5), (.int .i64 x6), (.int .i64 x7), (.bool x8)], Item.own v11 (x26.1.1 : (List Int)), Item.box b10 [(.int .i64 x26.2.1.1), (.int .i64 x26.2.1.2.1), (.int .i64 x26.2.1.2.2.1), (.bool x26.2.1.2.2.2)], Item.box b9 [v11, (.int .i64 x26.1.2.1), (.int .i64 x26.1.2.2)], Item.box b5 [v3, (.int .i64 x3), (.int .i64 x4)]] := hC24.front 7 rfl
              have hC26 : Ctx [] w0 _ [Item.box b5 [v3, (.int .i64 x3), (.int .i64 x4)], Item.own v3 (x2 : (List Int)), Item.box b4 [(.int .i64 0), (.int .i64 0), (.int .i64 0), (.bool false)], Item.box b3 [(.slice none 0 0), (.int .i64 0), (.int .i64 0)], Item.box b2 [(.int .i64 x5), (.int .i64 x6), (.int .i64 x7), (.bool x8)], Item.own v11 (x26.1.1 : (List Int)), Item.box b10 [(.int .i64 x26.2.1.1), (.int .i64 x26.2.1.2.1), (.int .i64 x26.2.1.2.2.1), (.bool x26.2.1.2.2.2)], Item.box b9 [v11, (.int .i64 x26.1.2.1), (.int .i64 x26.1.2.2)]] := hC25.front 7 rfl
              have hC27 : Ctx [] w0 _ [Item.own v11 (x26.1.1 : (List Int)), Item.box b5 [v3, (.int .i64 x3), (.int .i64 x4)], Item.own v3 (x2 : (List Int)), Item.box b4 [(.int .i64 0), (.int .i64 0), (.int .i64 0), (.bool false)], Item.box b3 [(.slice none 0 0), (.int .i64 0), (.int .i64 0)], Item.box b2 [(.int .i64 x5), (.int .i64 x6), (.int .i64 x7), (.bool x8)], Item.box b10 [(.int .i64 x26.2.1.1), (.int .i64 x26.2.1.2.1), (.int .i64 x26.2.1.2.2.1), (.bool x26.2.1.2.2.2)], Item.box b9 [v11, (.int .i64 x26.1.2.1), (.int .i64 x26.1.2.2)]] := hC26.front 5 rfl
              have hC28 : Ctx [] w0 _ [Item.box b9 [v11, (.int .i64 x26.1.2.1), (.int .i64 x26.1.2.2)], Item.own v11 (x26.1.1 : (List Int)), Item.box b5 [v3, (.int .i64 x3), (.int .i64 x4)], Item.own v3 (x2 : (List Int)), Item.box b4 [(.int .i64 0), (.int .i64 0), (.int .i64 0), (.bool false)], Item.box b3 [(.slice none 0 0), (.int .i64 0), (.int .i64 0)], Item.box b2 [(.int .i64 x5), (.int .i64 x6), (.int .i64 x7), (.bool x8)], Item.box b10 [(.int .i64 x26.2.1.1), (.int .i64 x26.2.1.2.1), (.int .i64 x26.2.1.2.2.1), (.bool x26.2.1.2.2.2)]] := hC27.front 7 rfl
              have hC29 : Ctx [] w0 _ [Item.box b10 [(.int .i64 x26.2.1.1), (.int .i64 x26.2.1.2.1), (.int .i64 x26.2.1.2.2.1), (.bool x26.2.1.2.2.2)], Item.box b9 [v11, (.int .i64 x26.1.2.1), (.int .i64 x26.1.2.2)], Item.own v11 (x26.1.1 : (List Int)), Item.box b5 [v3, (.int .i64 x3), (.int .i64 x4)], Item.own v3 (x2 : (List Int)), Item.box b4 [(.int .i64 0), (.int .i64 0), (.int .i64 0), (.bool false)], Item.box b3 [(.slice none 0 0), (.int .i64 0), (.int .i64 0)], Item.box b2 [(.int .i64 x5), (.int .i64 x6), (.int .i64 x7), (.bool x8)]] := hC28.front 7 rfl
              refine nrm_sub (l' := [(2, u2), (4, (ptr b2 0)), (6, (ptr b3 0)), (7, (ptr b4 0)), (8, (ptr b5 0)), (9, (.int .i64 x9)), (10, (ptr b9 0)), (11, (ptr b10 0))]) ⟨rfl, rfl, rfl, rfl, rfl, rfl, rfl, rfl, trivial⟩ ?_
              exact ⟨b9, v11, x26.1.1, x26.1.2.1, x26.1.2.2, b10, x26.2.1.1, x26.2.1.2.1, x26.2.1.2.2.1, x26.2.1.2.2.2, rfl, rfl, hC29⟩
            · intro g' hg'
              obtain rfl : g' = 4 := hg'
              intro w16 hB15
              refine AllE_cons rfl rfl rfl ?_
              rintro _ _ ⟨rfl, rfl⟩
              refine AllE_cons rfl rfl rfl ?_
              rintro _ _ ⟨rfl, rfl⟩
              refine AllE_cons rfl rfl rfl ?_
              rintro _ _ ⟨rfl, rfl⟩
              refine AllE_cons rfl rfl rfl ?_
              rintro _ _ ⟨v7, v8, v9, F2, F3, F4, rfl, rfl, hv2, hv3, hv4⟩
              obtain ⟨rfl, rfl⟩ := val_bool hv4
              refine AllE_cons rfl rfl rfl ?_
              rintro _ _ ⟨rfl, rfl⟩
              refine AllE_cons rfl rfl rfl ?_
              rintro _ _ ⟨⟨_, hx2, hx3⟩, rfl⟩
              obtain rfl := Value.tuple.inj hx2
              obtain rfl := Option.some.inj (show (some v7 : Option Value) = some _ from hx3)
              refine AllE_cons rfl rfl rfl ?_
              rintro _ _ ⟨⟨_, hx4, hx5⟩, rfl⟩
              obtain rfl := Value.tuple.inj hx4
              obtain rfl := Option.some.inj (show (some v8 : Option Value) = some _ from hx5)
              refine AllE_cons rfl rfl rfl ?_
              rintro _ F5 ⟨b9, rfl, hv5⟩
              refine AllE_cons rfl rfl rfl ?_
              rintro _ F6 ⟨b10, rfl, hv6⟩
              refine AllE_nil ?_
              intro hn3 hb3
              have hC15 := hC12.pushL hB15 (Bs := [Item.box b10 [(.int .i64 0), (.int .i64 0), (.int .i64 0), (.bool false)], Item.box b9 [(.slice none 0 0), (.int .i64 0), (.int .i64 0)], Item.own v7 (x26.1 : ((List Int) × Int × Int)), Item.own v8 (x26.2.1 : (Int × Int × Int × Bool))]) (Fs := [F6, F5, F2, F3]) ⟨F6, _, rfl, hv6, F5, _, rfl, hv5, F2, _, rfl, hv2, F3, _, rfl, hv3, rfl⟩ (by simpa using hn3) (fun b h => (hb3 b (by simpa using h)).1)
              have hC16 : Ctx [] w0 _ [Item.own v7 (x26.1 : ((List Int) × Int × Int)), Item.box b10 [(.int .i64 0), (.int .i64 0), (.int .i64 0), (.bool false)], Item.box b9 [(.slice none 0 0), (.int .i64 0), (.int .i64 0)], Item.own v8 (x26.2.1 : (Int × Int × Int × Bool)), Item.box b5 [v3, (.int .i64 x3), (.int .i64 x4)], Item.own v3 (x2 : (List Int)), Item.box b4 [(.int .i64 0), (.int .i64 0), (.int .i64 0), (.bool false)], Item.box b3 [(.slice none 0 0), (.int .i64 0), (.int .i64 0)], Item.box b2 [(.int .i64 x5), (.int .i64 x6), (.int .i64 x7), (.bool x8)]] := hC15.front 2 rfl
              obtain ⟨v11, rfl, hC17⟩ := st26_own hC16
              have hC18 : Ctx [] w0 _ [Item.own v8 (x26.2.1 : (Int × Int × Int × Bool)), Item.own v11 (x26.1.1 : (List Int)), Item.box b10 [(.int .i64 0), (.int .i64 0), (.int .i64 0), (.bool false)], Item.box b9 [(.slice none 0 0), (.int .i64 0), (.int .i64 0)], Item.box b5 [v3, (.int .i64 x3), (.int .i64 x4)], Item.own v3 (x2 : (List Int)), Item.box b4 [(.int .i64 0), (.int .i64 0), (.int .i64 0), (.bool false)], Item.box b3 [(.slice none 0 0), (.int .i64 0), (.int .i64 0)], Item.box b2 [(.int .i64 x5), (.int .i64 x6), (.int .i64 x7), (.bool x8)]] := hC17.front 3 rfl
              obtain ⟨rfl, hC19⟩ := st35_own hC18
              refine WA_take 10 rfl (by kernel_rfl) (by kernel_rfl) (by kernel_rfl) rfl (fl_extract rfl rfl) ?_
              refine WL_extract rfl rfl rfl ?_
              refine WL_nil ?_
              refine WA_one 13 (by kernel_rfl) rfl ?_
              refine WL_store_box_agg (cs' := [v11, (.int .i64 x26.1.2.1), (.int .i64 x26.1.2.2)]) (new := [v11, (.int .i64 x26.1.2.1), (.int .i64 x26.1.2.2)]) hC19 2 rfl rfl (by intro v hv; simp only [List.mem_cons, List.not_mem_nil, or_false] at hv; rcases hv with rfl | rfl | rfl; exact (ro_one (hC19.ro 0 rfl)); exact rfl; exact rfl) rfl Try.sizeOf26 rfl rfl (fun w17 hC20 => ?_)
              try dsimp only [List.set] at hC20
              refine WL_nil ?_
              refine WA_one 14 (by kernel_rfl) rfl ?_
              refine WL_store_box_agg (cs' := [(.int .i64 x26.2.1.1), (.int .i64 x26.2.1.2.1), (.int .i64 x26.2.1.2.2.1), (.bool x26.2.1.2.2.2)]) (new := [(.int .i64 x26.2.1.1), (.int .i64 x26.2.1.2.1), (.int .i64 x26.2.1.2.2.1), (.bool x26.2.1.2.2.2)]) hC20 1 rfl rfl (by intro v hv; simp only [List.mem_cons, List.not_mem_nil, or_false] at hv; rcases hv with rfl | rfl | rfl | rfl; exact rfl; exact rfl; exact rfl; exact rfl) rfl Try.sizeOf35 rfl rfl (fun w18 hC21 => ?_)
              try dsimp only [List.set] at hC21
              refine WL_nil ?_
              refine WA_take 15 rfl (by kernel_rfl) (by kernel_rfl) (by kernel_rfl) rfl (fl_assign rfl) ?_
              refine WL_assign rfl rfl ?_
              refine WL_nil ?_
              refine WA_done (by kernel_rfl) ?_
              have hq3 := Option.some.inj hr4
              subst hq3
              have hC22 : Ctx [] w0 _ [Item.box b2 [(.int .i64 x5), (.int .i64 x6), (.int .i64 x7), (.bool x8)], Item.own v11 (x26.1.1 : (List Int)), Item.box b10 [(.int .i64 x26.2.1.1), (.int .i64 x26.2.1.2.1), (.int .i64 x26.2.1.2.2.1), (.bool x26.2.1.2.2.2)], Item.box b9 [v11, (.int .i64 x26.1.2.1), (.int .i64 x26.1.2.2)], Item.box b5 [v3, (.int .i64 x3), (.int .i64 x4)], Item.own v3 (x2 : (List Int)), Item.box b4 [(.int .i64 0), (.int .i64 0), (.int .i64 0), (.bool false)], Item.box b3 [(.slice none 0 0), (.int .i64 0), (.int .i64 0)]] := hC21.front 7 rfl
              have hC23 : Ctx [] w0 _ [Item.box b3 [(.slice none 0 0), (.int .i64 0), (.int .i64 0)], Item.box b2 [(.int .i64 x5), (.int .i64 x6), (.int .i64 x7), (.bool x8)], Item.own v11 (x26.1.1 : (List Int)), Item.box b10 [(.int .i64 x26.2.1.1), (.int .i64 x26.2.1.2.1), (.int .i64 x26.2.1.2.2.1), (.bool x26.2.1.2.2.2)], Item.box b9 [v11, (.int .i64 x26.1.2.1), (.int .i64 x26.1.2.2)], Item.box b5 [v3, (.int .i64 x3), (.int .i64 x4)], Item.own v3 (x2 : (List Int)), Item.box b4 [(.int .i64 0), (.int .i64 0), (.int .i64 0), (.bool false)]] := hC22.front 7 rfl
              have hC24 : Ctx [] w0 _ [Item.box b4 [(.int .i64 0), (.int .i64 0), (.int .i64 0), (.bool false)], Item.box b3 [(.slice none 0 0), (.int .i64 0), (.int .i64 0)], Item.box b2 [(.int .i64 x5), (.int .i64 x6), (.int .i64 x7), (.bool x8)], Item.own v11 (x26.1.1 : (List Int)), Item.box b10 [(.int .i64 x26.2.1.1), (.int .i64 x26.2.1.2.1), (.int .i64 x26.2.1.2.2.1), (.bool x26.2.1.2.2.2)], Item.box b9 [v11, (.int .i64 x26.1.2.1), (.int .i64 x26.1.2.2)], Item.box b5 [v3, (.int .i64 x3), (.int .i64 x4)], Item.own v3 (x2 : (List Int))] := hC23.front 7 rfl
              have hC25 : Ctx [] w0 _ [Item.own v3 (x2 : (List Int)), Item.box b4 [(.int .i64 0), (.int .i64 0), (.int .i64 0), (.bool false)], Item.box b3 [(.slice none 0 0), (.int .i64 0), (.int .i64 0)], Item.box b2 [(.int .i64 x5), (.int .i64 x6), (.int .i64 x7), (.bool x8)], Item.own v11 (x26.1.1 : (List Int)), Item.box b10 [(.int .i64 x26.2.1.1), (.int .i64 x26.2.1.2.1), (.int .i64 x26.2.1.2.2.1), (.bool x26.2.1.2.2.2)], Item.box b9 [v11, (.int .i64 x26.1.2.1), (.int .i64 x26.1.2.2)], Item.box b5 [v3, (.int .i64 x3), (.int .i64 x4)]] := hC24.front 7 rfl
              have hC26 : Ctx [] w0 _ [Item.box b5 [v3, (.int .i64 x3), (.int .i64 x4)], Item.own v3 (x2 : (List Int)), Item.box b4 [(.int .i64 0), (.int .i64 0), (.int .i64 0), (.bool false)], Item.box b3 [(.slice none 0 0), (.int .i64 0), (.int .i64 0)], Item.box b2 [(.int .i64 x5), (.int .i64 x6), (.int .i64 x7), (.bool x8)], Item.own v11 (x26.1.1 : (List Int)), Item.box b10 [(.int .i64 x26.2.1.1), (.int .i64 x26.2.1.2.1), (.int .i64 x26.2.1.2.2.1), (.bool x26.2.1.2.2.2)], Item.box b9 [v11, (.int .i64 x26.1.2.1), (.int .i64 x26.1.2.2)]] := hC25.front 7 rfl
              have hC27 : Ctx [] w0 _ [Item.own v11 (x26.1.1 : (List Int)), Item.box b5 [v3, (.int .i64 x3), (.int .i64 x4)], Item.own v3 (x2 : (List Int)), Item.box b4 [(.int .i64 0), (.int .i64 0), (.int .i64 0), (.bool false)], Item.box b3 [(.slice none 0 0), (.int .i64 0), (.int .i64 0)], Item.box b2 [(.int .i64 x5), (.int .i64 x6), (.int .i64 x7), (.bool x8)], Item.box b10 [(.int .i64 x26.2.1.1), (.int .i64 x26.2.1.2.1), (.int .i64 x26.2.1.2.2.1), (.bool x26.2.1.2.2.2)], Item.box b9 [v11, (.int .i64 x26.1.2.1), (.int .i64 x26.1.2.2)]] := hC26.front 5 rfl
              have hC28 : Ctx [] w0 _ [Item.box b9 [v11, (.int .i64 x26.1.2.1), (.int .i64 x26.1.2.2)], Item.own v11 (x26.1.1 : (List Int)), Item.box b5 [v3, (.int .i64 x3), (.int .i64 x4)], Item.own v3 (x2 : (List Int)), Item.box b4 [(.int .i64 0), (.int .i64 0), (.int .i64 0), (.bool false)], Item.box b3 [(.slice none 0 0), (.int .i64 0), (.int .i64 0)], Item.box b2 [(.int .i64 x5), (.int .i64 x6), (.int .i64 x7), (.bool x8)], Item.box b10 [(.int .i64 x26.2.1.1), (.int .i64 x26.2.1.2.1), (.int .i64 x26.2.1.2.2.1), (.bool x26.2.1.2.2.2)]] := hC27.front 7 rfl
              have hC29 : Ctx [] w0 _ [Item.box b10 [(.int .i64 x26.2.1.1), (.int .i64 x26.2.1.2.1), (.int .i64 x26.2.1.2.2.1), (.bool x26.2.1.2.2.2)], Item.box b9 [v11, (.int .i64 x26.1.2.1), (.int .i64 x26.1.2.2)], Item.own v11 (x26.1.1 : (List Int)), Item.box b5 [v3, (.int .i64 x3), (.int .i64 x4)], Item.own v3 (x2 : (List Int)), Item.box b4 [(.int .i64 0), (.int .i64 0), (.int .i64 0), (.bool false)], Item.box b3 [(.slice none 0 0), (.int .i64 0), (.int .i64 0)], Item.box b2 [(.int .i64 x5), (.int .i64 x6), (.int .i64 x7), (.bool x8)]] := hC28.front 7 rfl
              refine nrm_sub (l' := [(2, u2), (4, (ptr b2 0)), (6, (ptr b3 0)), (7, (ptr b4 0)), (8, (ptr b5 0)), (9, (.int .i64 x9)), (10, (ptr b9 0)), (11, (ptr b10 0))]) ⟨rfl, rfl, rfl, rfl, rfl, rfl, rfl, rfl, trivial⟩ ?_
              exact ⟨b9, v11, x26.1.1, x26.1.2.1, x26.1.2.2, b10, x26.2.1.1, x26.2.1.2.1, x26.2.1.2.2.1, x26.2.1.2.2.2, rfl, rfl, hC29⟩
            · intro g' hg'
              obtain rfl : g' = 4 := hg'
              intro w16 hB15
              refine AllE_cons rfl rfl rfl ?_
              rintro _ _ ⟨rfl, rfl⟩
              refine AllE_cons rfl rfl rfl ?_
              rintro _ _ ⟨rfl, rfl⟩
              refine AllE_cons rfl rfl rfl ?_
              rintro _ _ ⟨rfl, rfl⟩
              refine AllE_cons rfl rfl rfl ?_
              rintro _ _ ⟨v7, v8, v9, F2, F3, F4, rfl, rfl, hv2, hv3, hv4⟩
              obtain ⟨rfl, rfl⟩ := val_bool hv4
              refine AllE_cons rfl rfl rfl ?_
              rintro _ _ ⟨rfl, rfl⟩
              refine AllE_cons rfl rfl rfl ?_
              rintro _ _ ⟨⟨_, hx2, hx3⟩, rfl⟩
              obtain rfl := Value.tuple.inj hx2
              obtain rfl := Option.some.inj (show (some v7 : Option Value) = some _ from hx3)
              refine AllE_cons rfl rfl rfl ?_
              rintro _ _ ⟨⟨_, hx4, hx5⟩, rfl⟩
              obtain rfl := Value.tuple.inj hx4
              obtain rfl := Option.some.inj (show (some (.bool x26.2.2) : Option Value) = some _ from hx5)
              refine AllE_cons rfl rfl rfl ?_
              rintro _ F5 ⟨b9, rfl, hv5⟩
              refine AllE_cons rfl rfl rfl ?_
              rintro _ F6 ⟨b10, rfl, hv6⟩
              refine AllE_nil ?_
              intro hn3 hb3
              have hC15 := hC12.pushL hB15 (Bs := [Item.box b10 [(.int .i64 0), (.int .i64 0), (.int .i64 0), (.bool false)], Item.box b9 [(.slice none 0 0), (.int .i64 0), (.int .i64 0)], Item.own v7 (x26.1 : ((List Int) × Int × Int)), Item.own v8 (x26.2.1 : (Int × Int × Int × Bool))]) (Fs := [F6, F5, F2, F3]) ⟨F6, _, rfl, hv6, F5, _, rfl, hv5, F2, _, rfl, hv2, F3, _, rfl, hv3, rfl⟩ (by simpa using hn3) (fun b h => (hb3 b (by simpa using h)).1)
              have hC16 : Ctx [] w0 _ [Item.own v7 (x26.1 : ((List Int) × Int × Int)), Item.box b10 [(.int .i64 0), (.int .i64 0), (.int .i64 0), (.bool false)], Item.box b9 [(.slice none 0 0), (.int .i64 0), (.int .i64 0)], Item.own v8 (x26.2.1 : (Int × Int × Int × Bool)), Item.box b5 [v3, (.int .i64 x3), (.int .i64 x4)], Item.own v3 (x2 : (List Int)), Item.box b4 [(.int .i64 0), (.int .i64 0), (.int .i64 0), (.bool false)], Item.box b3 [(.slice none 0 0), (.int .i64 0), (.int .i64 0)], Item.box b2 [(.int .i64 x5), (.int .i64 x6), (.int .i64 x7), (.bool x8)]] := hC15.front 2 rfl
              obtain ⟨v11, rfl, hC17⟩ := st26_own hC16
              have hC18 : Ctx [] w0 _ [Item.own v8 (x26.2.1 : (Int × Int × Int × Bool)), Item.own v11 (x26.1.1 : (List Int)), Item.box b10 [(.int .i64 0), (.int .i64 0), (.int .i64 0), (.bool false)], Item.box b9 [(.slice none 0 0), (.int .i64 0), (.int .i64 0)], Item.box b5 [v3, (.int .i64 x3), (.int .i64 x4)], Item.own v3 (x2 : (List Int)), Item.box b4 [(.int .i64 0), (.int .i64 0), (.int .i64 0), (.bool false)], Item.box b3 [(.slice none 0 0), (.int .i64 0), (.int .i64 0)], Item.box b2 [(.int .i64 x5), (.int .i64 x6), (.int .i64 x7), (.bool x8)]] := hC17.front 3 rfl
              obtain ⟨rfl, hC19⟩ := st35_own hC18
              refine WA_take 9 rfl (by kernel_rfl) (by kernel_rfl) (by kernel_rfl) rfl (fl_extract rfl rfl) ?_
              refine WL_extract rfl rfl rfl ?_
              refine WL_nil ?_
              refine WA_one 13 (by kernel_rfl) rfl ?_
              refine WL_store_box_agg (cs' := [v11, (.int .i64 x26.1.2.1), (.int .i64 x26.1.2.2)]) (new := [v11, (.int .i64 x26.1.2.1), (.int .i64 x26.1.2.2)]) hC19 2 rfl rfl (by intro v hv; simp only [List.mem_cons, List.not_mem_nil, or_false] at hv; rcases hv with rfl | rfl | rfl; exact (ro_one (hC19.ro 0 rfl)); exact rfl; exact rfl) rfl Try.sizeOf26 rfl rfl (fun w17 hC20 => ?_)
              try dsimp only [List.set] at hC20
              refine WL_nil ?_
              refine WA_one 14 (by kernel_rfl) rfl ?_
              refine WL_store_box_agg (cs' := [(.int .i64 x26.2.1.1), (.int .i64 x26.2.1.2.1), (.int .i64 x26.2.1.2.2.1), (.bool x26.2.1.2.2.2)]) (new := [(.int .i64 x26.2.1.1), (.int .i64 x26.2.1.2.1), (.int .i64 x26.2.1.2.2.1), (.bool x26.2.1.2.2.2)]) hC20 1 rfl rfl (by intro v hv; simp only [List.mem_cons, List.not_mem_nil, or_false] at hv; rcases hv with rfl | rfl | rfl | rfl; exact rfl; exact rfl; exact rfl; exact rfl) rfl Try.sizeOf35 rfl rfl (fun w18 hC21 => ?_)
              try dsimp only [List.set] at hC21
              refine WL_nil ?_
              refine WA_take 15 rfl (by kernel_rfl) (by kernel_rfl) (by kernel_rfl) rfl (fl_assign rfl) ?_
              refine WL_assign rfl rfl ?_
              refine WL_nil ?_
              refine WA_done (by kernel_rfl) ?_
              have hq3 := Option.some.inj hr4
              subst hq3
              have hC22 : Ctx [] w0 _ [Item.box b2 [(.int .i64 x5), (.int .i64 x6), (.int .i64 x7), (.bool x8)], Item.own v11 (x26.1.1 : (List Int)), Item.box b10 [(.int .i64 x26.2.1.1), (.int .i64 x26.2.1.2.1), (.int .i64 x26.2.1.2.2.1), (.bool x26.2.1.2.2.2)], Item.box b9 [v11, (.int .i64 x26.1.2.1), (.int .i64 x26.1.2.2)], Item.box b5 [v3, (.int .i64 x3), (.int .i64 x4)], Item.own v3 (x2 : (List Int)), Item.box b4 [(.int .i64 0), (.int .i64 0), (.int .i64 0), (.bool false)], Item.box b3 [(.slice none 0 0), (.int .i64 0), (.int .i64 0)]] := hC21.front 7 rfl
              have hC23 : Ctx [] w0 _ [Item.box b3 [(.slice none 0 0), (.int .i64 0), (.int .i64 0)], Item.box b2 [(.int .i64 x5), (.int .i64 x6), (.int .i64 x7), (.bool x8)], Item.own v11 (x26.1.1 : (List Int)), Item.box b10 [(.int .i64 x26.2.1.1), (.int .i64 x26.2.1.2.1), (.int .i64 x26.2.1.2.2.1), (.bool x26.2.1.2.2.2)], Item.box b9 [v11, (.int .i64 x26.1.2.1), (.int .i64 x26.1.2.2)], Item.box b5 [v3, (.int .i64 x3), (.int .i64 x4)], Item.own v3 (x2 : (List Int)), Item.box b4 [(.int .i64 0), (.int .i64 0), (.int .i64 0), (.bool false)]] := hC22.front 7 rfl
              have hC24 : Ctx [] w0 _ [Item.box b4 [(.int .i64 0), (.int .i64 0), (.int .i64 0), (.bool false)], Item.box b3 [(.slice none 0 0), (.int .i64 0), (.int .i64 0)], Item.box b2 [(.int .i64 x5), (.int .i64 x6), (.int .i64 x7), (.bool x8)], Item.own v11 (x26.1.1 : (List Int)), Item.box b10 [(.int .i64 x26.2.1.1), (.int .i64 x26.2.1.2.1), (.int .i64 x26.2.1.2.2.1), (.bool x26.2.1.2.2.2)], Item.box b9 [v11, (.int .i64 x26.1.2.1), (.int .i64 x26.1.2.2)], Item.box b5 [v3, (.int .i64 x3), (.int .i64 x4)], Item.own v3 (x2 : (List Int))] := hC23.front 7 rfl
              have hC25 : Ctx [] w0 _ [Item.own v3 (x2 : (List Int)), Item.box b4 [(.int .i64 0), (.int .i64 0), (.int .i64 0), (.bool false)], Item.box b3 [(.slice none 0 0), (.int .i64 0), (.int .i64 0)], Item.box b2 [(.int .i64 x5), (.int .i64 x6), (.int .i64 x7), (.bool x8)], Item.own v11 (x26.1.1 : (List Int)), Item.box b10 [(.int .i64 x26.2.1.1), (.int .i64 x26.2.1.2.1), (.int .i64 x26.2.1.2.2.1), (.bool x26.2.1.2.2.2)], Item.box b9 [v11, (.int .i64 x26.1.2.1), (.int .i64 x26.1.2.2)], Item.box b5 [v3, (.int .i64 x3), (.int .i64 x4)]] := hC24.front 7 rfl
              have hC26 : Ctx [] w0 _ [Item.box b5 [v3, (.int .i64 x3), (.int .i64 x4)], Item.own v3 (x2 : (List Int)), Item.box b4 [(.int .i64 0), (.int .i64 0), (.int .i64 0), (.bool false)], Item.box b3 [(.slice none 0 0), (.int .i64 0), (.int .i64 0)], Item.box b2 [(.int .i64 x5), (.int .i64 x6), (.int .i64 x7), (.bool x8)], Item.own v11 (x26.1.1 : (List Int)), Item.box b10 [(.int .i64 x26.2.1.1), (.int .i64 x26.2.1.2.1), (.int .i64 x26.2.1.2.2.1), (.bool x26.2.1.2.2.2)], Item.box b9 [v11, (.int .i64 x26.1.2.1), (.int .i64 x26.1.2.2)]] := hC25.front 7 rfl
              have hC27 : Ctx [] w0 _ [Item.own v11 (x26.1.1 : (List Int)), Item.box b5 [v3, (.int .i64 x3), (.int .i64 x4)], Item.own v3 (x2 : (List Int)), Item.box b4 [(.int .i64 0), (.int .i64 0), (.int .i64 0), (.bool false)], Item.box b3 [(.slice none 0 0), (.int .i64 0), (.int .i64 0)], Item.box b2 [(.int .i64 x5), (.int .i64 x6), (.int .i64 x7), (.bool x8)], Item.box b10 [(.int .i64 x26.2.1.1), (.int .i64 x26.2.1.2.1), (.int .i64 x26.2.1.2.2.1), (.bool x26.2.1.2.2.2)], Item.box b9 [v11, (.int .i64 x26.1.2.1), (.int .i64 x26.1.2.2)]] := hC26.front 5 rfl
              have hC28 : Ctx [] w0 _ [Item.box b9 [v11, (.int .i64 x26.1.2.1), (.int .i64 x26.1.2.2)], Item.own v11 (x26.1.1 : (List Int)), Item.box b5 [v3, (.int .i64 x3), (.int .i64 x4)], Item.own v3 (x2 : (List Int)), Item.box b4 [(.int .i64 0), (.int .i64 0), (.int .i64 0), (.bool false)], Item.box b3 [(.slice none 0 0), (.int .i64 0), (.int .i64 0)], Item.box b2 [(.int .i64 x5), (.int .i64 x6), (.int .i64 x7), (.bool x8)], Item.box b10 [(.int .i64 x26.2.1.1), (.int .i64 x26.2.1.2.1), (.int .i64 x26.2.1.2.2.1), (.bool x26.2.1.2.2.2)]] := hC27.front 7 rfl
              have hC29 : Ctx [] w0 _ [Item.box b10 [(.int .i64 x26.2.1.1), (.int .i64 x26.2.1.2.1), (.int .i64 x26.2.1.2.2.1), (.bool x26.2.1.2.2.2)], Item.box b9 [v11, (.int .i64 x26.1.2.1), (.int .i64 x26.1.2.2)], Item.own v11 (x26.1.1 : (List Int)), Item.box b5 [v3, (.int .i64 x3), (.int .i64 x4)], Item.own v3 (x2 : (List Int)), Item.box b4 [(.int .i64 0), (.int .i64 0), (.int .i64 0), (.bool false)], Item.box b3 [(.slice none 0 0), (.int .i64 0), (.int .i64 0)], Item.box b2 [(.int .i64 x5), (.int .i64 x6), (.int .i64 x7), (.bool x8)]] := hC28.front 7 rfl
              refine nrm_sub (l' := [(2, u2), (4, (ptr b2 0)), (6, (ptr b3 0)), (7, (ptr b4 0)), (8, (ptr b5 0)), (9, (.int .i64 x9)), (10, (ptr b9 0)), (11, (ptr b10 0))]) ⟨rfl, rfl, rfl, rfl, rfl, rfl, rfl, rfl, trivial⟩ ?_
              exact ⟨b9, v11, x26.1.1, x26.1.2.1, x26.1.2.2, b10, x26.2.1.1, x26.2.1.2.1, x26.2.1.2.2.1, x26.2.1.2.2.2, rfl, rfl, hC29⟩
            · intro g' hg'
              obtain rfl : g' = 5 := hg'
              intro w16 hB15
              refine AllE_cons rfl rfl rfl ?_
              rintro _ _ ⟨rfl, rfl⟩
              refine AllE_cons rfl rfl rfl ?_
              rintro _ _ ⟨rfl, rfl⟩
              refine AllE_cons rfl rfl rfl ?_
              rintro _ _ ⟨rfl, rfl⟩
              refine AllE_cons rfl rfl rfl ?_
              rintro _ _ ⟨v7, v8, v9, F2, F3, F4, rfl, rfl, hv2, hv3, hv4⟩
              obtain ⟨rfl, rfl⟩ := val_bool hv4
              refine AllE_cons rfl rfl rfl ?_
              rintro _ _ ⟨rfl, rfl⟩
              refine AllE_cons rfl rfl rfl ?_
              rintro _ _ ⟨⟨_, hx2, hx3⟩, rfl⟩
              obtain rfl := Value.tuple.inj hx2
              obtain rfl := Option.some.inj (show (some v7 : Option Value) = some _ from hx3)
              refine AllE_cons rfl rfl rfl ?_
              rintro _ F5 ⟨b9, rfl, hv5⟩
              refine AllE_cons rfl rfl rfl ?_
              rintro _ F6 ⟨b10, rfl, hv6⟩
              refine AllE_nil ?_
              intro hn3 hb3
              have hC15 := hC12.pushL hB15 (Bs := [Item.box b10 [(.int .i64 0), (.int .i64 0), (.int .i64 0), (.bool false)], Item.box b9 [(.slice none 0 0), (.int .i64 0), (.int .i64 0)], Item.own v7 (x26.1 : ((List Int) × Int × Int)), Item.own v8 (x26.2.1 : (Int × Int × Int × Bool))]) (Fs := [F6, F5, F2, F3]) ⟨F6, _, rfl, hv6, F5, _, rfl, hv5, F2, _, rfl, hv2, F3, _, rfl, hv3, rfl⟩ (by simpa using hn3) (fun b h => (hb3 b (by simpa using h)).1)
              have hC16 : Ctx [] w0 _ [Item.own v7 (x26.1 : ((List Int) × Int × Int)), Item.box b10 [(.int .i64 0), (.int .i64 0), (.int .i64 0), (.bool false)], Item.box b9 [(.slice none 0 0), (.int .i64 0), (.int .i64 0)], Item.own v8 (x26.2.1 : (Int × Int × Int × Bool)), Item.box b5 [v3, (.int .i64 x3), (.int .i64 x4)], Item.own v3 (x2 : (List Int)), Item.box b4 [(.int .i64 0), (.int .i64 0), (.int .i64 0), (.bool false)], Item.box b3 [(.slice none 0 0), (.int .i64 0), (.int .i64 0)], Item.box b2 [(.int .i64 x5), (.int .i64 x6), (.int .i64 x7), (.bool x8)]] := hC15.front 2 rfl
              obtain ⟨v11, rfl, hC17⟩ := st26_own hC16
              have hC18 : Ctx [] w0 _ [Item.own v8 (x26.2.1 : (Int × Int × Int × Bool)), Item.own v11 (x26.1.1 : (List Int)), Item.box b10 [(.int .i64 0), (.int .i64 0), (.int .i64 0), (.bool false)], Item.box b9 [(.slice none 0 0), (.int .i64 0), (.int .i64 0)], Item.box b5 [v3, (.int .i64 x3), (.int .i64 x4)], Item.own v3 (x2 : (List Int)), Item.box b4 [(.int .i64 0), (.int .i64 0), (.int .i64 0), (.bool false)], Item.box b3 [(.slice none 0 0), (.int .i64 0), (.int .i64 0)], Item.box b2 [(.int .i64 x5), (.int .i64 x6), (.int .i64 x7), (.bool x8)]] := hC17.front 3 rfl
              obtain ⟨rfl, hC19⟩ := st35_own hC18
              refine WA_take 9 rfl (by kernel_rfl) (by kernel_rfl) (by kernel_rfl) rfl (fl_extract rfl rfl) ?_
              refine WL_extract rfl rfl rfl ?_
              refine WL_nil ?_
              refine WA_take 10 rfl (by kernel_rfl) (by kernel_rfl) (by kernel_rfl) rfl (fl_extract rfl rfl) ?_
              refine WL_extract rfl rfl rfl ?_
              refine WL_nil ?_
              refine WA_one 13 (by kernel_rfl) rfl ?_
              refine WL_store_box_agg (cs' := [v11, (.int .i64 x26.1.2.1), (.int .i64 x26.1.2.2)]) (new := [v11, (.int .i64 x26.1.2.1), (.int .i64 x26.1.2.2)]) hC19 2 rfl rfl (by intro v hv; simp only [List.mem_cons, List.not_mem_nil, or_false] at hv; rcases hv with rfl | rfl | rfl; exact (ro_one (hC19.ro 0 rfl)); exact rfl; exact rfl) rfl Try.sizeOf26 rfl rfl (fun w17 hC20 => ?_)
              try dsimp only [List.set] at hC20
              refine WL_nil ?_
              refine WA_one 14 (by kernel_rfl) rfl ?_
              refine WL_store_box_agg (cs' := [(.int .i64 x26.2.1.1), (.int .i64 x26.2.1.2.1), (.int .i64 x26.2.1.2.2.1), (.bool x26.2.1.2.2.2)]) (new := [(.int .i64 x26.2.1.1), (.int .i64 x26.2.1.2.1), (.int .i64 x26.2.1.2.2.1), (.bool x26.2.1.2.2.2)]) hC20 1 rfl rfl (by intro v hv; simp only [List.mem_cons, List.not_mem_nil, or_false] at hv; rcases hv with rfl | rfl | rfl | rfl; exact rfl; exact rfl; exact rfl; exact rfl) rfl Try.sizeOf35 rfl rfl (fun w18 hC21 => ?_)
              try dsimp only [List.set] at hC21
              refine WL_nil ?_
              refine WA_take 15 rfl (by kernel_rfl) (by kernel_rfl) (by kernel_rfl) rfl (fl_assign rfl) ?_
              refine WL_assign rfl rfl ?_
              refine WL_nil ?_
              refine WA_done (by kernel_rfl) ?_
              have hq3 := Option.some.inj hr4
              subst hq3
              have hC22 : Ctx [] w0 _ [Item.box b2 [(.int .i64 x5), (.int .i64 x6), (.int .i64 x7), (.bool x8)], Item.own v11 (x26.1.1 : (List Int)), Item.box b10 [(.int .i64 x26.2.1.1), (.int .i64 x26.2.1.2.1), (.int .i64 x26.2.1.2.2.1), (.bool x26.2.1.2.2.2)], Item.box b9 [v11, (.int .i64 x26.1.2.1), (.int .i64 x26.1.2.2)], Item.box b5 [v3, (.int .i64 x3), (.int .i64 x4)], Item.own v3 (x2 : (List Int)), Item.box b4 [(.int .i64 0), (.int .i64 0), (.int .i64 0), (.bool false)], Item.box b3 [(.slice none 0 0), (.int .i64 0), (.int .i64 0)]] := hC21.front 7 rfl
              have hC23 : Ctx [] w0 _ [Item.box b3 [(.slice none 0 0), (.int .i64 0), (.int .i64 0)], Item.box b2 [(.int .i64 x5), (.int .i64 x6), (.int .i64 x7), (.bool x8)], Item.own v11 (x26.1.1 : (List Int)), Item.box b10 [(.int .i64 x26.2.1.1), (.int .i64 x26.2.1.2.1), (.int .i64 x26.2.1.2.2.1), (.bool x26.2.1.2.2.2)], Item.box b9 [v11, (.int .i64 x26.1.2.1), (.int .i64 x26.1.2.2)], Item.box b5 [v3, (.int .i64 x3), (.int .i64 x4)], Item.own v3 (x2 : (List Int)), Item.box b4 [(.int .i64 0), (.int .i64 0), (.int .i64 0), (.bool false)]] := hC22.front 7 rfl
              have hC24 : Ctx [] w0 _ [Item.box b4 [(.int .i64 0), (.int .i64 0), (.int .i64 0), (.bool false)], Item.box b3 [(.slice none 0 0), (.int .i64 0), (.int .i64 0)], Item.box b2 [(.int .i64 x5), (.int .i64 x6), (.int .i64 x7), (.bool x8)], Item.own v11 (x26.1.1 : (List Int)), Item.box b10 [(.int .i64 x26.2.1.1), (.int .i64 x26.2.1.2.1), (.int .i64 x26.2.1.2.2.1), (.bool x26.2.1.2.2.2)], Item.box b9 [v11, (.int .i64 x26.1.2.1), (.int .i64 x26.1.2.2)], Item.box b5 [v3, (.int .i64 x3), (.int .i64 x4)], Item.own v3 (x2 : (List Int))] := hC23.front 7 rfl
              have hC25 : Ctx [] w0 _ [Item.own v3 (x2 : (List Int)), Item.box b4 [(.int .i64 0), (.int .i64 0), (.int .i64 0), (.bool false)], Item.box b3 [(.slice none 0 0), (.int .i64 0), (.int .i64 0)], Item.box b2 [(.int .i64 x5), (.int .i64 x6), (.int .i64 x7), (.bool x8)], Item.own v11 (x26.1.1 : (List Int)), Item.box b10 [(.int .i64 x26.2.1.1), (.int .i64 x26.2.1.2.1), (.int .i64 x26.2.1.2.2.1), (.bool x26.2.1.2.2.2)], Item.box b9 [v11, (.int .i64 x26.1.2.1), (.int .i64 x26.1.2.2)], Item.box b5 [v3, (.int .i64 x3), (.int .i64 x4)]] := hC24.front 7 rfl
              have hC26 : Ctx [] w0 _ [Item.box b5 [v3, (.int .i64 x3), (.int .i64 x4)], Item.own v3 (x2 : (List Int)), Item.box b4 [(.int .i64 0), (.int .i64 0), (.int .i64 0), (.bool false)], Item.box b3 [(.slice none 0 0), (.int .i64 0), (.int .i64 0)], Item.box b2 [(.int .i64 x5), (.int .i64 x6), (.int .i64 x7), (.bool x8)], Item.own v11 (x26.1.1 : (List Int)), Item.box b10 [(.int .i64 x26.2.1.1), (.int .i64 x26.2.1.2.1), (.int .i64 x26.2.1.2.2.1), (.bool x26.2.1.2.2.2)], Item.box b9 [v11, (.int .i64 x26.1.2.1), (.int .i64 x26.1.2.2)]] := hC25.front 7 rfl
              have hC27 : Ctx [] w0 _ [Item.own v11 (x26.1.1 : (List Int)), Item.box b5 [v3, (.int .i64 x3), (.int .i64 x4)], Item.own v3 (x2 : (List Int)), Item.box b4 [(.int .i64 0), (.int .i64 0), (.int .i64 0), (.bool false)], Item.box b3 [(.slice none 0 0), (.int .i64 0), (.int .i64 0)], Item.box b2 [(.int .i64 x5), (.int .i64 x6), (.int .i64 x7), (.bool x8)], Item.box b10 [(.int .i64 x26.2.1.1), (.int .i64 x26.2.1.2.1), (.int .i64 x26.2.1.2.2.1), (.bool x26.2.1.2.2.2)], Item.box b9 [v11, (.int .i64 x26.1.2.1), (.int .i64 x26.1.2.2)]] := hC26.front 5 rfl
              have hC28 : Ctx [] w0 _ [Item.box b9 [v11, (.int .i64 x26.1.2.1), (.int .i64 x26.1.2.2)], Item.own v11 (x26.1.1 : (List Int)), Item.box b5 [v3, (.int .i64 x3), (.int .i64 x4)], Item.own v3 (x2 : (List Int)), Item.box b4 [(.int .i64 0), (.int .i64 0), (.int .i64 0), (.bool false)], Item.box b3 [(.slice none 0 0), (.int .i64 0), (.int .i64 0)], Item.box b2 [(.int .i64 x5), (.int .i64 x6), (.int .i64 x7), (.bool x8)], Item.box b10 [(.int .i64 x26.2.1.1), (.int .i64 x26.2.1.2.1), (.int .i64 x26.2.1.2.2.1), (.bool x26.2.1.2.2.2)]] := hC27.front 7 rfl
              have hC29 : Ctx [] w0 _ [Item.box b10 [(.int .i64 x26.2.1.1), (.int .i64 x26.2.1.2.1), (.int .i64 x26.2.1.2.2.1), (.bool x26.2.1.2.2.2)], Item.box b9 [v11, (.int .i64 x26.1.2.1), (.int .i64 x26.1.2.2)], Item.own v11 (x26.1.1 : (List Int)), Item.box b5 [v3, (.int .i64 x3), (.int .i64 x4)], Item.own v3 (x2 : (List Int)), Item.box b4 [(.int .i64 0), (.int .i64 0), (.int .i64 0), (.bool false)], Item.box b3 [(.slice none 0 0), (.int .i64 0), (.int .i64 0)], Item.box b2 [(.int .i64 x5), (.int .i64 x6), (.int .i64 x7), (.bool x8)]] := hC28.front 7 rfl
              refine nrm_sub (l' := [(2, u2), (4, (ptr b2 0)), (6, (ptr b3 0)), (7, (ptr b4 0)), (8, (ptr b5 0)), (9, (.int .i64 x9)), (10, (ptr b9 0)), (11, (ptr b10 0))]) ⟨rfl, rfl, rfl, rfl, rfl, rfl, rfl, rfl, trivial⟩ ?_
              exact ⟨b9, v11, x26.1.1, x26.1.2.1, x26.1.2.2, b10, x26.2.1.1, x26.2.1.2.1, x26.2.1.2.2.1, x26.2.1.2.2.2, rfl, rfl, hC29⟩
          · rintro _ w10 ⟨b6, v5, x18, x19, x20, b7, x21, x22, x23, x24, rfl, rfl, hC11⟩
            try dsimp only at hL1
            refine W_seq_reg ?_
            refine WL_load_box_agg [v5, (.int .i64 x19), (.int .i64 x20)] hC11 1 rfl rfl rfl Try.isAgg26 Try.sizeOf26 rfl rfl ?_
            refine WL_store_box_agg (cs' := [v5, (.int .i64 x19), (.int .i64 x20)]) (new := [v5, (.int .i64 x19), (.int .i64 x20)]) hC11 3 rfl rfl (by intro v hv; simp only [List.mem_cons, List.not_mem_nil, or_false] at hv; rcases hv with rfl | rfl | rfl; exact (ro_one (hC11.ro 2 rfl)); exact rfl; exact rfl) rfl Try.sizeOf26 rfl rfl (fun w19 hC30 => ?_)
            try dsimp only [List.set] at hC30
            refine WL_nil ?_
            refine W_reg ?_
            refine WL_load_box_agg [(.int .i64 x21), (.int .i64 x22), (.int .i64 x23), (.bool x24)] hC30 0 rfl rfl rfl Try.isAgg35 Try.sizeOf35 rfl rfl ?_
            refine WL_store_box_agg (cs' := [(.int .i64 x21), (.int .i64 x22), (.int .i64 x23), (.bool x24)]) (new := [(.int .i64 x21), (.int .i64 x22), (.int .i64 x23), (.bool x24)]) hC30 7 rfl rfl (by intro v hv; simp only [List.mem_cons, List.not_mem_nil, or_false] at hv; rcases hv with rfl | rfl | rfl | rfl; exact rfl; exact rfl; exact rfl; exact rfl) rfl Try.sizeOf35 rfl rfl (fun w20 hC31 => ?_)
            try dsimp only [List.set] at hC31
            refine WL_nil ?_
            refine blk_normal ?_
            refine nrm_normal ?_
            refine W_reg ?_
            refine WL_move rfl rfl ?_
            refine WL_add rfl rfl rfl ?_
            refine WL_assign rfl rfl ?_
            refine WL_nil ?_
            have hC32 : Ctx [] w0 _ [Item.box b2 [(.int .i64 x21), (.int .i64 x22), (.int .i64 x23), (.bool x24)], Item.box b7 [(.int .i64 x21), (.int .i64 x22), (.int .i64 x23), (.bool x24)], Item.box b6 [v5, (.int .i64 x19), (.int .i64 x20)], Item.own v5 (x18 : (List Int)), Item.box b5 [v5, (.int .i64 x19), (.int .i64 x20)], Item.own v3 (x2 : (List Int)), Item.box b4 [(.int .i64 0), (.int .i64 0), (.int .i64 0), (.bool false)], Item.box b3 [(.slice none 0 0), (.int .i64 0), (.int .i64 0)]] := hC31.front 7 rfl
            have hC33 : Ctx [] w0 _ [Item.box b3 [(.slice none 0 0), (.int .i64 0), (.int .i64 0)], Item.box b2 [(.int .i64 x21), (.int .i64 x22), (.int .i64 x23), (.bool x24)], Item.box b7 [(.int .i64 x21), (.int .i64 x22), (.int .i64 x23), (.bool x24)], Item.box b6 [v5, (.int .i64 x19), (.int .i64 x20)], Item.own v5 (x18 : (List Int)), Item.box b5 [v5, (.int .i64 x19), (.int .i64 x20)], Item.own v3 (x2 : (List Int)), Item.box b4 [(.int .i64 0), (.int .i64 0), (.int .i64 0), (.bool false)]] := hC32.front 7 rfl
            have hC34 : Ctx [] w0 _ [Item.box b4 [(.int .i64 0), (.int .i64 0), (.int .i64 0), (.bool false)], Item.box b3 [(.slice none 0 0), (.int .i64 0), (.int .i64 0)], Item.box b2 [(.int .i64 x21), (.int .i64 x22), (.int .i64 x23), (.bool x24)], Item.box b7 [(.int .i64 x21), (.int .i64 x22), (.int .i64 x23), (.bool x24)], Item.box b6 [v5, (.int .i64 x19), (.int .i64 x20)], Item.own v5 (x18 : (List Int)), Item.box b5 [v5, (.int .i64 x19), (.int .i64 x20)], Item.own v3 (x2 : (List Int))] := hC33.front 7 rfl
            have hC35 : Ctx [] w0 _ [Item.own v5 (x18 : (List Int)), Item.box b4 [(.int .i64 0), (.int .i64 0), (.int .i64 0), (.bool false)], Item.box b3 [(.slice none 0 0), (.int .i64 0), (.int .i64 0)], Item.box b2 [(.int .i64 x21), (.int .i64 x22), (.int .i64 x23), (.bool x24)], Item.box b7 [(.int .i64 x21), (.int .i64 x22), (.int .i64 x23), (.bool x24)], Item.box b6 [v5, (.int .i64 x19), (.int .i64 x20)], Item.box b5 [v5, (.int .i64 x19), (.int .i64 x20)], Item.own v3 (x2 : (List Int))] := hC34.front 5 rfl
            have hC36 : Ctx [] w0 _ [Item.box b5 [v5, (.int .i64 x19), (.int .i64 x20)], Item.own v5 (x18 : (List Int)), Item.box b4 [(.int .i64 0), (.int .i64 0), (.int .i64 0), (.bool false)], Item.box b3 [(.slice none 0 0), (.int .i64 0), (.int .i64 0)], Item.box b2 [(.int .i64 x21), (.int .i64 x22), (.int .i64 x23), (.bool x24)], Item.box b7 [(.int .i64 x21), (.int .i64 x22), (.int .i64 x23), (.bool x24)], Item.box b6 [v5, (.int .i64 x19), (.int .i64 x20)], Item.own v3 (x2 : (List Int))] := hC35.front 6 rfl
            have hC37 : Ctx [] w0 _ [Item.box b5 [v5, (.int .i64 x19), (.int .i64 x20)], Item.own v5 (x18 : (List Int)), Item.box b4 [(.int .i64 0), (.int .i64 0), (.int .i64 0), (.bool false)], Item.box b3 [(.slice none 0 0), (.int .i64 0), (.int .i64 0)], Item.box b2 [(.int .i64 x21), (.int .i64 x22), (.int .i64 x23), (.bool x24)]] := hC36.headN 5
            refine nrm_sub (l' := [(2, u2), (4, (ptr b2 0)), (6, (ptr b3 0)), (7, (ptr b4 0)), (8, (ptr b5 0)), (9, (.int .i64 (w64 (x9 + 1))))]) ⟨rfl, rfl, rfl, rfl, rfl, rfl, trivial⟩ ?_
            exact ⟨k1, Nat.lt_succ_self _, v5, x18, x19, x20, x21, x22, x23, x24, w64 (x9 + 1), rfl, hC37, hL1⟩
        · replace hL1 := ite_f hL1 hc2
          refine W_exit ?_
          refine nrm_exit ?_
          refine nrm_exit ?_
          refine blk_exit ?_
          have hq4 := Option.some.inj hL1
          subst hq4
          refine nrm_sub (l' := [(4, (ptr b2 0)), (6, (ptr b3 0)), (7, (ptr b4 0)), (8, (ptr b5 0))]) ⟨rfl, rfl, rfl, rfl, trivial⟩ ?_
          exact ⟨v3, x2, x3, x4, x5, x6, x7, x8, rfl, rfl, hC10⟩
  · rintro l4 _ w21 hs4 ⟨v4, x10, x11, x12, x13, x14, x15, x16, rfl, rfl, hC44⟩
    try dsimp only at hF
    refine nrm_sub' hs4 ?_
    clear hs4
    refine W_seq_reg ?_
    refine WL_load_box_agg [v4, (.int .i64 x11), (.int .i64 x12)] hC44 0 rfl rfl rfl Try.isAgg26 Try.sizeOf26 rfl rfl ?_
    refine WL_load_box_agg [(.int .i64 x13), (.int .i64 x14), (.int .i64 x15), (.bool x16)] hC44 4 rfl rfl rfl Try.isAgg35 Try.sizeOf35 rfl rfl ?_
    obtain ⟨x27, hr6, hF⟩ := bind_some hF
    refine WL_call Try.call22 rfl rfl (c_S_TryCall (x10, x11, x12) v4 ((hC44.ro 1 rfl).now (Keep.refl _ _)) (x13, x14, x15, x16) 0 x27 hr6) ?_
    rintro _ w22 ⟨hB17, v12, v13, v14, F7, F8, F9, rfl, hv7, hv8, hv9, hn4, hb4⟩
    obtain ⟨rfl, rfl⟩ := val_bool hv9
    have hC45 := hC44.pushL hB17 (Bs := [Item.own v12 x27.1, Item.own v13 x27.2.1]) (Fs := [F7, F8]) ⟨F7, _, rfl, hv7, F8, _, rfl, hv8, rfl⟩ (by simpa using hn4) (fun b h => hb4 b (by simpa using h))
    obtain ⟨v15, rfl, hC46⟩ := st26_own hC45
    have hC47 : Ctx [] w0 _ [Item.own v13 (x27.2.1 : (Int × Int × Int × Bool)), Item.own v15 (x27.1.1 : (List Int)), Item.box b5 [v4, (.int .i64 x11), (.int .i64 x12)], Item.own v4 (x10 : (List Int)), Item.box b4 [(.int .i64 0), (.int .i64 0), (.int .i64 0), (.bool false)], Item.box b3 [(.slice none 0 0), (.int .i64 0), (.int .i64 0)], Item.box b2 [(.int .i64 x13), (.int .i64 x14), (.int .i64 x15), (.bool x16)]] := hC46.front 1 rfl
    obtain ⟨rfl, hC48⟩ := st35_own hC47
    refine WL_move rfl rfl ?_
    refine WL_extract rfl rfl rfl ?_
    refine WL_extract rfl rfl rfl ?_
    refine WL_extract rfl rfl rfl ?_
    refine WL_alloc hC48 zero26 rfl rfl (fun b11 w23 hC49 hB18 => ?_)
    refine WL_alloc hC49 zero35 rfl rfl (fun b12 w24 hC50 hB19 => ?_)
    refine WL_store_box_agg (cs' := [v15, (.int .i64 x27.1.2.1), (.int .i64 x27.1.2.2)]) (new := [v15, (.int .i64 x27.1.2.1), (.int .i64 x27.1.2.2)]) hC50 1 rfl rfl (by intro v hv; simp only [List.mem_cons, List.not_mem_nil, or_false] at hv; rcases hv with rfl | rfl | rfl; exact (ro_one (hC50.ro 2 rfl)); exact rfl; exact rfl) rfl Try.sizeOf26 rfl rfl (fun w25 hC51 => ?_)
    try dsimp only [List.set] at hC51
    refine WL_store_box_agg (cs' := [(.int .i64 x27.2.1.1), (.int .i64 x27.2.1.2.1), (.int .i64 x27.2.1.2.2.1), (.bool x27.2.1.2.2.2)]) (new := [(.int .i64 x27.2.1.1), (.int .i64 x27.2.1.2.1), (.int .i64 x27.2.1.2.2.1), (.bool x27.2.1.2.2.2)]) hC51 0 rfl rfl (by intro v hv; simp only [List.mem_cons, List.not_mem_nil, or_false] at hv; rcases hv with rfl | rfl | rfl | rfl; exact rfl; exact rfl; exact rfl; exact rfl) rfl Try.sizeOf35 rfl rfl (fun w26 hC52 => ?_)
    try dsimp only [List.set] at hC52
    refine WL_assign rfl rfl ?_
    refine WL_nil ?_
    obtain ⟨r4, hr7, hF⟩ := bind_some hF
    refine W_cut (fun l w => ∃ x28 : Int, ∃ x29 : Int, ∃ x30 : Int, ∃ x31 : Bool, ∃ v16 : Value, ∃ x32 : (List Int), ∃ x33 : Int, ∃ x34 : Int, (x28, x29, x30, x31, x32, x33, x34) = r4 ∧ l = [(6, (ptr b3 0)), (7, (ptr b4 0))] ∧ Ctx [] w0 w [Item.own v16 (x32 : (List Int)), Item.box b4 [(.int .i64 x28), (.int .i64 x29), (.int .i64 x30), (.bool x31)], Item.box b3 [v16, (.int .i64 x33), (.int .i64 x34)]]) ?_ ?_
    · refine W_drawn 4 rfl hmix (fun w28 hB21 => ?_)
      have hC54 := hC52.grow hB21
      refine WA.sub (l' := [(4, (ptr b2 0)), (6, (ptr b3 0)), (7, (ptr b4 0)), (8, (ptr b5 0)), (13, (ptr b11 0)), (14, (ptr b12 0)), (15, (.bool x27.2.2)), (41, (.tuple #[(.agg #[v15, (.int .i64 x27.1.2.1), (.int .i64 x27.1.2.2)]), (.agg #[(.int .i64 x27.2.1.1), (.int .i64 x27.2.1.2.1), (.int .i64 x27.2.1.2.2.1), (.bool x27.2.1.2.2.2)]), (.bool x27.2.2)])), (42, (.agg #[v4, (.int .i64 x11), (.int .i64 x12)])), (43, (.agg #[(.int .i64 x13), (.int .i64 x14), (.int .i64 x15), (.bool x16)])), (44, (.tuple #[(.agg #[v15, (.int .i64 x27.1.2.1), (.int .i64 x27.1.2.2)]), (.agg #[(.int .i64 x27.2.1.1), (.int .i64 x27.2.1.2.1), (.int .i64 x27.2.1.2.2.1), (.bool x27.2.1.2.2.2)]), (.bool x27.2.2)])), (45, (.agg #[v15, (.int .i64 x27.1.2.1), (.int .i64 x27.1.2.2)])), (46, (.agg #[(.int .i64 x27.2.1.1), (.int .i64 x27.2.1.2.1), (.int .i64 x27.2.1.2.2.1), (.bool x27.2.1.2.2.2)])), (47, (.bool x27.2.2))]) ?_ ⟨rfl, rfl, rfl, rfl, rfl, rfl, rfl, rfl, rfl, rfl, rfl, rfl, rfl, rfl, trivial⟩
      refine WA_postsO [⟨0, [], fun vs => PW.val (.agg #[v15, (.int .i64 x27.1.2.1), (.int .i64 x27.1.2.2)]), []⟩, ⟨1, [], fun vs => PW.val (.agg #[(.int .i64 x27.2.1.1), (.int .i64 x27.2.1.2.1), (.int .i64 x27.2.1.2.2.1), (.bool x27.2.1.2.2.2)]), []⟩] [[], []] [1] 2 rfl (by kernel_rfl) (by kernel_rfl) ?_ ⟨?_, ?_, trivial⟩
      · refine StepsE_cons rfl ?_ ?_
        · intro w29 hB22
          refine DepsE_nil ?_
          refine ⟨_, rfl, ?_⟩
          refine WL_load_box_agg [v15, (.int .i64 x27.1.2.1), (.int .i64 x27.1.2.2)] (hC54.grow hB22) 1 rfl rfl rfl Try.isAgg26 Try.sizeOf26 rfl rfl ?_
          refine WL_nil ?_
          exact FinE_val (Below.refl _ _) rfl rfl ⟨rfl, rfl⟩
        refine StepsE_cons rfl ?_ ?_
        · intro w29 hB22
          refine DepsE_nil ?_
          refine ⟨_, rfl, ?_⟩
          refine WL_load_box_agg [(.int .i64 x27.2.1.1), (.int .i64 x27.2.1.2.1), (.int .i64 x27.2.1.2.2.1), (.bool x27.2.1.2.2.2)] (hC54.grow hB22) 0 rfl rfl rfl Try.isAgg35 Try.sizeOf35 rfl rfl ?_
          refine WL_nil ?_
          exact FinE_val (Below.refl _ _) rfl rfl ⟨rfl, rfl⟩
        exact StepsE_nil
      · intro g' hg'
        obtain rfl : g' = 2 := hg'
        intro w30 hB23
        refine AllE_cons rfl rfl rfl ?_
        rintro _ _ ⟨rfl, rfl⟩
        refine AllE_cons rfl rfl rfl ?_
        rintro _ _ ⟨rfl, rfl⟩
        refine AllE_nil ?_
        intro hn5 hb5
        have hC55 := hC54.grow hB23
        refine WA_one 2 (by kernel_rfl) rfl ?_
        refine WL_store_box_agg (cs' := [v15, (.int .i64 x27.1.2.1), (.int .i64 x27.1.2.2)]) (new := [v15, (.int .i64 x27.1.2.1), (.int .i64 x27.1.2.2)]) hC55 6 rfl rfl (by intro v hv; simp only [List.mem_cons, List.not_mem_nil, or_false] at hv; rcases hv with rfl | rfl | rfl; exact (ro_one (hC55.ro 2 rfl)); exact rfl; exact rfl) rfl Try.sizeOf26 rfl rfl (fun w31 hC56 => ?_)
        try dsimp only [List.set] at hC56
        refine WL_nil ?_
        refine WA_one 3 (by kernel_rfl) rfl ?_
        refine WL_store_box_agg (cs' := [(.int .i64 x27.2.1.1), (.int .i64 x27.2.1.2.1), (.int .i64 x27.2.1.2.2.1), (.bool x27.2.1.2.2.2)]) (new := [(.int .i64 x27.2.1.1), (.int .i64 x27.2.1.2.1), (.int .i64 x27.2.1.2.2.1), (.bool x27.2.1.2.2.2)]) hC56 5 rfl rfl (by intro v hv; simp only [List.mem_cons, List.not_mem_nil, or_false] at hv; rcases hv with rfl | rfl | rfl | rfl; exact rfl; exact rfl; exact rfl; exact rfl) rfl Try.sizeOf35 rfl rfl (fun w32 hC57 => ?_)
        try dsimp only [List.set] at hC57
        refine WL_nil ?_
        refine WA_done (by kernel_rfl) ?_
        have hq5 := Option.some.inj hr7
        subst hq5
        have hC58 : Ctx [] w0 _ [Item.box b3 [v15, (.int .i64 x27.1.2.1), (.int .i64 x27.1.2.2)], Item.box b12 [(.int .i64 x27.2.1.1), (.int .i64 x27.2.1.2.1), (.int .i64 x27.2.1.2.2.1), (.bool x27.2.1.2.2.2)], Item.box b11 [v15, (.int .i64 x27.1.2.1), (.int .i64 x27.1.2.2)], Item.own v15 (x27.1.1 : (List Int)), Item.box b5 [v4, (.int .i64 x11), (.int .i64 x12)], Item.own v4 (x10 : (List Int)), Item.box b4 [(.int .i64 x27.2.1.1), (.int .i64 x27.2.1.2.1), (.int .i64 x27.2.1.2.2.1), (.bool x27.2.1.2.2.2)], Item.box b2 [(.int .i64 x13), (.int .i64 x14), (.int .i64 x15), (.bool x16)]] := hC57.front 6 rfl
        have hC59 : Ctx [] w0 _ [Item.box b4 [(.int .i64 x27.2.1.1), (.int .i64 x27.2.1.2.1), (.int .i64 x27.2.1.2.2.1), (.bool x27.2.1.2.2.2)], Item.box b3 [v15, (.int .i64 x27.1.2.1), (.int .i64 x27.1.2.2)], Item.box b12 [(.int .i64 x27.2.1.1), (.int .i64 x27.2.1.2.1), (.int .i64 x27.2.1.2.2.1), (.bool x27.2.1.2.2.2)], Item.box b11 [v15, (.int .i64 x27.1.2.1), (.int .i64 x27.1.2.2)], Item.own v15 (x27.1.1 : (List Int)), Item.box b5 [v4, (.int .i64 x11), (.int .i64 x12)], Item.own v4 (x10 : (List Int)), Item.box b2 [(.int .i64 x13), (.int .i64 x14), (.int .i64 x15), (.bool x16)]] := hC58.front 6 rfl
        have hC60 : Ctx [] w0 _ [Item.own v15 (x27.1.1 : (List Int)), Item.box b4 [(.int .i64 x27.2.1.1), (.int .i64 x27.2.1.2.1), (.int .i64 x27.2.1.2.2.1), (.bool x27.2.1.2.2.2)], Item.box b3 [v15, (.int .i64 x27.1.2.1), (.int .i64 x27.1.2.2)], Item.box b12 [(.int .i64 x27.2.1.1), (.int .i64 x27.2.1.2.1), (.int .i64 x27.2.1.2.2.1), (.bool x27.2.1.2.2.2)], Item.box b11 [v15, (.int .i64 x27.1.2.1), (.int .i64 x27.1.2.2)], Item.box b5 [v4, (.int .i64 x11), (.int .i64 x12)], Item.own v4 (x10 : (List Int)), Item.box b2 [(.int .i64 x13), (.int .i64 x14), (.int .i64 x15), (.bool x16)]] := hC59.front 4 rfl
        have hC61 : Ctx [] w0 _ [Item.own v15 (x27.1.1 : (List Int)), Item.box b4 [(.int .i64 x27.2.1.1), (.int .i64 x27.2.1.2.1), (.int .i64 x27.2.1.2.2.1), (.bool x27.2.1.2.2.2)], Item.box b3 [v15, (.int .i64 x27.1.2.1), (.int .i64 x27.1.2.2)]] := hC60.headN 3
        refine nrm_sub (l' := [(6, (ptr b3 0)), (7, (ptr b4 0))]) ⟨rfl, rfl, trivial⟩ ?_
        exact ⟨x27.2.1.1, x27.2.1.2.1, x27.2.1.2.2.1, x27.2.1.2.2.2, v15, x27.1.1, x27.1.2.1, x27.1.2.2, rfl, rfl, hC61⟩
      · intro g' hg'
        obtain rfl : g' = 3 := hg'
        intro w30 hB23
        refine AllE_cons rfl rfl rfl ?_
        rintro _ _ ⟨rfl, rfl⟩
        refine AllE_nil ?_
        intro hn5 hb5
        have hC55 := hC54.grow hB23
        refine WA_all2 (i := 1) (j := 2) (by kernel_rfl) rfl rfl ?_ ?_
        · refine WL_load_box_agg [(.int .i64 x27.2.1.1), (.int .i64 x27.2.1.2.1), (.int .i64 x27.2.1.2.2.1), (.bool x27.2.1.2.2.2)] hC55 0 rfl rfl rfl Try.isAgg35 Try.sizeOf35 rfl rfl ?_
          refine WL_nil ?_
          refine WA_one 2 (by kernel_rfl) rfl ?_
          refine WL_store_box_agg (cs' := [v15, (.int .i64 x27.1.2.1), (.int .i64 x27.1.2.2)]) (new := [v15, (.int .i64 x27.1.2.1), (.int .i64 x27.1.2.2)]) hC55 6 rfl rfl (by intro v hv; simp only [List.mem_cons, List.not_mem_nil, or_false] at hv; rcases hv with rfl | rfl | rfl; exact (ro_one (hC55.ro 2 rfl)); exact rfl; exact rfl) rfl Try.sizeOf26 rfl rfl (fun w31 hC56 => ?_)
          try dsimp only [List.set] at hC56
          refine WL_nil ?_
          refine WA_one 3 (by kernel_rfl) rfl ?_
          refine WL_store_box_agg (cs' := [(.int .i64 x27.2.1.1), (.int .i64 x27.2.1.2.1), (.int .i64 x27.2.1.2.2.1), (.bool x27.2.1.2.2.2)]) (new := [(.int .i64 x27.2.1.1), (.int .i64 x27.2.1.2.1), (.int .i64 x27.2.1.2.2.1), (.bool x27.2.1.2.2.2)]) hC56 5 rfl rfl (by intro v hv; simp only [List.mem_cons, List.not_mem_nil, or_false] at hv; rcases hv with rfl | rfl | rfl | rfl; exact rfl; exact rfl; exact rfl; exact rfl) rfl Try.sizeOf35 rfl rfl (fun w32 hC57 => ?_)
          try dsimp only [List.set] at hC57
          refine WL_nil ?_
          refine WA_done (by kernel_rfl) ?_
          have hq5 := Option.some.inj hr7
          subst hq5
          have hC58 : Ctx [] w0 _ [Item.box b3 [v15, (.int .i64 x27.1.2.1), (.int .i64 x27.1.2.2)], Item.box b12 [(.int .i64 x27.2.1.1), (.int .i64 x27.2.1.2.1), (.int .i64 x27.2.1.2.2.1), (.bool x27.2.1.2.2.2)], Item.box b11 [v15, (.int .i64 x27.1.2.1), (.int .i64 x27.1.2.2)], Item.own v15 (x27.1.1 : (List Int)), Item.box b5 [v4, (.int .i64 x11), (.int .i64 x12)], Item.own v4 (x10 : (List Int)), Item.box b4 [(.int .i64 x27.2.1.1), (.int .i64 x27.2.1.2.1), (.int .i64 x27.2.1.2.2.1), (.bool x27.2.1.2.2.2)], Item.box b2 [(.int .i64 x13), (.int .i64 x14), (.int .i64 x15), (.bool x16)]] := hC57.front 6 rfl
          have hC59 : Ctx [] w0 _ [Item.box b4 [(.int .i64 x27.2.1.1), (.int .i64 x27.2.1.2.1), (.int .i64 x27.2.1.2.2.1), (.bool x27.2.1.2.2.2)], Item.box b3 [v15, (.int .i64 x27.1.2.1), (.int .i64 x27.1.2.2)], Item.box b12 [(.int .i64 x27.2.1.1), (.int .i64 x27.2.1.2.1), (.int .i64 x27.2.1.2.2.1), (.bool x27.2.1.2.2.2)], Item.box b11 [v15, (.int .i64 x27.1.2.1), (.int .i64 x27.1.2.2)], Item.own v15 (x27.1.1 : (List Int)), Item.box b5 [v4, (.int .i64 x11), (.int .i64 x12)], Item.own v4 (x10 : (List Int)), Item.box b2 [(.int .i64 x13), (.int .i64 x14), (.int .i64 x15), (.bool x16)]] := hC58.front 6 rfl
          have hC60 : Ctx [] w0 _ [Item.own v15 (x27.1.1 : (List Int)), Item.box b4 [(.int .i64 x27.2.1.1), (.int .i64 x27.2.1.2.1), (.int .i64 x27.2.1.2.2.1), (.bool x27.2.1.2.2.2)], Item.box b3 [v15, (.int .i64 x27.1.2.1), (.int .i64 x27.1.2.2)], Item.box b12 [(.int .i64 x27.2.1.1), (.int .i64 x27.2.1.2.1), (.int .i64 x27.2.1.2.2.1), (.bool x27.2.1.2.2.2)], Item.box b11 [v15, (.int .i64 x27.1.2.1), (.int .i64 x27.1.2.2)], Item.box b5 [v4, (.int .i64 x11), (.int .i64 x12)], Item.own v4 (x10 : (List Int)), Item.box b2 [(.int .i64 x13), (.int .i64 x14), (.int .i64 x15), (.bool x16)]] := hC59.front 4 rfl
          have hC61 : Ctx [] w0 _ [Item.own v15 (x27.1.1 : (List Int)), Item.box b4 [(.int .i64 x27.2.1.1), (.int .i64 x27.2.1.2.1), (.int .i64 x27.2.1.2.2.1), (.bool x27.2.1.2.2.2)], Item.box b3 [v15, (.int .i64 x27.1.2.1), (.int .i64 x27.1.2.2)]] := hC60.headN 3
          refine nrm_sub (l' := [(6, (ptr b3 0)), (7, (ptr b4 0))]) ⟨rfl, rfl, trivial⟩ ?_
          exact ⟨x27.2.1.1, x27.2.1.2.1, x27.2.1.2.2.1, x27.2.1.2.2.2, v15, x27.1.1, x27.1.2.1, x27.1.2.2, rfl, rfl, hC61⟩
        · refine WL_store_box_agg (cs' := [v15, (.int .i64 x27.1.2.1), (.int .i64 x27.1.2.2)]) (new := [v15, (.int .i64 x27.1.2.1), (.int .i64 x27.1.2.2)]) hC55 6 rfl rfl (by intro v hv; simp only [List.mem_cons, List.not_mem_nil, or_false] at hv; rcases hv with rfl | rfl | rfl; exact (ro_one (hC55.ro 2 rfl)); exact rfl; exact rfl) rfl Try.sizeOf26 rfl rfl (fun w31 hC56 => ?_)
          try dsimp only [List.set] at hC56
          refine WL_nil ?_
          refine WA_one 1 (by kernel_rfl) rfl ?_
          refine WL_load_box_agg [(.int .i64 x27.2.1.1), (.int .i64 x27.2.1.2.1), (.int .i64 x27.2.1.2.2.1), (.bool x27.2.1.2.2.2)] hC56 0 rfl rfl rfl Try.isAgg35 Try.sizeOf35 rfl rfl ?_
          refine WL_nil ?_
          refine WA_one 3 (by kernel_rfl) rfl ?_
          refine WL_store_box_agg (cs' := [(.int .i64 x27.2.1.1), (.int .i64 x27.2.1.2.1), (.int .i64 x27.2.1.2.2.1), (.bool x27.2.1.2.2.2)]) (new := [(.int .i64 x27.2.1.1), (.int .i64 x27.2.1.2.1), (.int .i64 x27.2.1.2.2.1), (.bool x27.2.1.2.2.2)]) hC56 5 rfl rfl (by intro v hv; simp only [List.mem_cons, List.not_mem_nil, or_false] at hv; rcases hv with rfl | rfl | rfl | rfl; exact rfl; exact rfl; exact rfl; exact rfl) rfl Try.sizeOf35 rfl rfl (fun w32 hC57 => ?_)
          try dsimp only [List.set] at hC57
          refine WL_nil ?_
          refine WA_done (by kernel_rfl) ?_
          have hq5 := Option.some.inj hr7
          subst hq5
          have hC58 : Ctx [] w0 _ [Item.box b3 [v15, (.int .i64 x27.1.2.1), (.int .i64 x27.1.2.2)], Item.box b12 [(.int .i64 x27.2.1.1), (.int .i64 x27.2.1.2.1), (.int .i64 x27.2.1.2.2.1), (.bool x27.2.1.2.2.2)], Item.box b11 [v15, (.int .i64 x27.1.2.1), (.int .i64 x27.1.2.2)], Item.own v15 (x27.1.1 : (List Int)), Item.box b5 [v4, (.int .i64 x11), (.int .i64 x12)], Item.own v4 (x10 : (List Int)), Item.box b4 [(.int .i64 x27.2.1.1), (.int .i64 x27.2.1.2.1), (.int .i64 x27.2.1.2.2.1), (.bool x27.2.1.2.2.2)], Item.box b2 [(.int .i64 x13), (.int .i64 x14), (.int .i64 x15), (.bool x16)]] := hC57.front 6 rfl
          have hC59 : Ctx [] w0 _ [Item.box b4 [(.int .i64 x27.2.1.1), (.int .i64 x27.2.1.2.1), (.int .i64 x27.2.1.2.2.1), (.bool x27.2.1.2.2.2)], Item.box b3 [v15, (.int .i64 x27.1.2.1), (.int .i64 x27.1.2.2)], Item.box b12 [(.int .i64 x27.2.1.1), (.int .i64 x27.2.1.2.1), (.int .i64 x27.2.1.2.2.1), (.bool x27.2.1.2.2.2)], Item.box b11 [v15, (.int .i64 x27.1.2.1), (.int .i64 x27.1.2.2)], Item.own v15 (x27.1.1 : (List Int)), Item.box b5 [v4, (.int .i64 x11), (.int .i64 x12)], Item.own v4 (x10 : (List Int)), Item.box b2 [(.int .i64 x13), (.int .i64 x14), (.int .i64 x15), (.bool x16)]] := hC58.front 6 rfl
          have hC60 : Ctx [] w0 _ [Item.own v15 (x27.1.1 : (List Int)), Item.box b4 [(.int .i64 x27.2.1.1), (.int .i64 x27.2.1.2.1), (.int .i64 x27.2.1.2.2.1), (.bool x27.2.1.2.2.2)], Item.box b3 [v15, (.int .i64 x27.1.2.1), (.int .i64 x27.1.2.2)], Item.box b12 [(.int .i64 x27.2.1.1), (.int .i64 x27.2.1.2.1), (.int .i64 x27.2.1.2.2.1), (.bool x27.2.1.2.2.2)], Item.box b11 [v15, (.int .i64 x27.1.2.1), (.int .i64 x27.1.2.2)], Item.box b5 [v4, (.int .i64 x11), (.int .i64 x12)], Item.own v4 (x10 : (List Int)), Item.box b2 [(.int .i64 x13), (.int .i64 x14), (.int .i64 x15), (.bool x16)]] := hC59.front 4 rfl
          have hC61 : Ctx [] w0 _ [Item.own v15 (x27.1.1 : (List Int)), Item.box b4 [(.int .i64 x27.2.1.1), (.int .i64 x27.2.1.2.1), (.int .i64 x27.2.1.2.2.1), (.bool x27.2.1.2.2.2)], Item.box b3 [v15, (.int .i64 x27.1.2.1), (.int .i64 x27.1.2.2)]] := hC60.headN 3
          refine nrm_sub (l' := [(6, (ptr b3 0)), (7, (ptr b4 0))]) ⟨rfl, rfl, trivial⟩ ?_
          exact ⟨x27.2.1.1, x27.2.1.2.1, x27.2.1.2.2.1, x27.2.1.2.2.2, v15, x27.1.1, x27.1.2.1, x27.1.2.2, rfl, rfl, hC61⟩
    · rintro _ w27 ⟨x28, x29, x30, x31, v16, x32, x33, x34, rfl, rfl, hC53⟩
      try dsimp only at hF
      refine W_ret ?_
      have hq6 := Option.some.inj hF
      subst hq6
      refine fn_retG2 rfl (rv_cell_agg (cs' := [v16, (.int .i64 x33), (.int .i64 x34)]) hC53 (i := 2) rfl rfl rfl Try.isAgg26 Try.sizeOf26 rfl) (rv_cell_agg (cs' := [(.int .i64 x28), (.int .i64 x29), (.int .i64 x30), (.bool x31)]) hC53 (i := 1) rfl rfl rfl Try.isAgg35 Try.sizeOf35 rfl) ?_
      have hC62 := own_st35 x28 x29 x30 x31 hC53
      have hC64 : Ctx [] w0 _ [Item.own v16 (x32 : (List Int)), Item.own (.agg #[(.int .i64 x28), (.int .i64 x29), (.int .i64 x30), (.bool x31)]) ((x28, x29, x30, x31) : (Int × Int × Int × Bool)), Item.box b4 [(.int .i64 x28), (.int .i64 x29), (.int .i64 x30), (.bool x31)], Item.box b3 [v16, (.int .i64 x33), (.int .i64 x34)]] := hC62.front 1 rfl
      have hC63 := own_st26 v16 x32 x33 x34 hC64
      exact ⟨_, rfl, res2_of hC63⟩

theorem c_S_RunCalls {w0 : World} (a1 : ((List Int) × Int × Int)) (u1 : Value) (g1 : RO [] w0 u1 a1.1) (a2 : (List (Int × Int × Int × Bool))) (u2 : Value) (g2 : RO [] w0 u2 a2) (a3 : (List Int)) (u3 : Value) (g3 : RO [] w0 u3 a3) (rr : (((List Int) × Int × Int) × (List (Int × Int × Int × Bool)))) (hF : S.RunCalls a1 a2 a3 = some rr) :
    Calls Try.prog 45 [(.agg #[u1, (.int .i64 a1.2.1), (.int .i64 a1.2.2)]), u2, u3].toArray w0 fun e w' => ∃ v, e = .returned v ∧ Res2 w0 rr.1 rr.2 v w' := by
  refine calls_of_W Try.func45 rfl rfl ?_
  have hC0 := Ctx.start w0
  unfold S.RunCalls at hF
  refine W_seq_reg ?_
  refine WL_box (cs := [u1, (.int .i64 a1.2.1), (.int .i64 a1.2.2)]) hC0 rfl rfl rfl (fun b1 w1 hC1 hB1 => ?_)
  refine WL_alloc hC1 zero26 rfl rfl (fun b2 w2 hC2 hB2 => ?_)
  refine WL_assign rfl rfl ?_
  refine WL_nil ?_
  refine W_seq_reg ?_
  refine WL_load_box_agg [u1, (.int .i64 a1.2.1), (.int .i64 a1.2.2)] hC2 1 rfl rfl rfl Try.isAgg26 Try.sizeOf26 rfl rfl ?_
  obtain ⟨x1, hr1, hF⟩ := bind_some hF
  refine WL_call Try.call89 rfl rfl (c_S_l27Copy (a1.1, a1.2.1, a1.2.2) u1 (g1.now hC2.keep) x1 hr1) ?_
  rintro v1 w3 ⟨hB3, F1, hv1, hn1, hb1⟩
  have hC3 := hC2.push hB3 (A := Item.own v1 x1) hv1 hn1 hb1
  obtain ⟨v2, rfl, hC4⟩ := st26_own hC3
  refine WL_alloc hC4 zero26 rfl rfl (fun b3 w4 hC5 hB4 => ?_)
  refine WL_store_box_agg (cs' := [v2, (.int .i64 x1.2.1), (.int .i64 x1.2.2)]) (new := [v2, (.int .i64 x1.2.1), (.int .i64 x1.2.2)]) hC5 0 rfl rfl (by intro v hv; simp only [List.mem_cons, List.not_mem_nil, or_false] at hv; rcases hv with rfl | rfl | rfl; exact (ro_one (hC5.ro 1 rfl)); exact rfl; exact rfl) rfl Try.sizeOf26 rfl rfl (fun w5 hC6 => ?_)
  try dsimp only [List.set] at hC6
  refine WL_nil ?_
  refine W_seq_reg ?_
  refine WL_buildSlice (vs := []) hC6 Try.underlying60 ty35 rfl rfl rfl rfl (by simp) rfl rfl (fun b4 w6 hC7 hB5 => ?_)
  have hC8 := hC7.row0 (α := (Int × Int × Int × Bool))
  have hC9 := hC8.front 1 rfl
  dsimp only [List.eraseIdx, List.cons_append, List.nil_append, List.append_nil] at hC9
  have hC10 : Ctx [] w0 w6 (Item.own (.slice (some ⟨b4, 0, none⟩) 0 0) (([] : List (Int × Int × Int × Bool)) : List (Int × Int × Int × Bool)) :: [Item.box b3 [v2, (.int .i64 x1.2.1), (.int .i64 x1.2.2)], Item.own v2 (x1.1 : (List Int)), Item.box b2 [(.slice none 0 0), (.int .i64 0), (.int .i64 0)], Item.box b1 [u1, (.int .i64 a1.2.1), (.int .i64 a1.2.2)]]) := hC9.rowOwn (by simp [maxLen])
  refine WL_assign rfl rfl ?_
  refine WL_nil ?_
  refine W_seq ?_
  refine W_seq_reg ?_
  refine WL_assign rfl rfl ?_
  refine WL_nil ?_
  obtain ⟨r1, hr2, hF⟩ := bind_some hF
  refine W_norm (fun l w => ∃ v5 : Value, ∃ x7 : (List Int), ∃ x8 : Int, ∃ x9 : Int, ∃ v6 : Value, ∃ x10 : (List (Int × Int × Int × Bool)), (x7, x8, x9, x10) = r1 ∧ l = [(6, (ptr b2 0)), (8, (ptr b3 0)), (9, v6)] ∧ Ctx [] w0 w [Item.own v6 (x10 : (List (Int × Int × Int × Bool))), Item.box b3 [v5, (.int .i64 x8), (.int .i64 x9)], Item.own v5 (x7 : (List Int)), Item.box b2 [(.slice none 0 0), (.int .i64 0), (.int .i64 0)]]) ?_ ?_
  · refine W_block ?_
    have hC63 : Ctx [] w0 _ [Item.box b2 [(.slice none 0 0), (.int .i64 0), (.int .i64 0)], Item.own (.slice (some ⟨b4, 0, none⟩) 0 0) (([] : List (Int × Int × Int × Bool)) : (List (Int × Int × Int × Bool))), Item.box b3 [v2, (.int .i64 x1.2.1), (.int .i64 x1.2.2)], Item.own v2 (x1.1 : (List Int)), Item.box b1 [u1, (.int .i64 a1.2.1), (.int .i64 a1.2.2)]] := hC10.front 3 rfl
    have hC64 : Ctx [] w0 _ [Item.own v2 (x1.1 : (List Int)), Item.box b2 [(.slice none 0 0), (.int .i64 0), (.int .i64 0)], Item.own (.slice (some ⟨b4, 0, none⟩) 0 0) (([] : List (Int × Int × Int × Bool)) : (List (Int × Int × Int × Bool))), Item.box b3 [v2, (.int .i64 x1.2.1), (.int .i64 x1.2.2)], Item.box b1 [u1, (.int .i64 a1.2.1), (.int .i64 a1.2.2)]] := hC63.front 3 rfl
    have hC65 : Ctx [] w0 _ [Item.box b3 [v2, (.int .i64 x1.2.1), (.int .i64 x1.2.2)], Item.own v2 (x1.1 : (List Int)), Item.box b2 [(.slice none 0 0), (.int .i64 0), (.int .i64 0)], Item.own (.slice (some ⟨b4, 0, none⟩) 0 0) (([] : List (Int × Int × Int × Bool)) : (List (Int × Int × Int × Bool))), Item.box b1 [u1, (.int .i64 a1.2.1), (.int .i64 a1.2.2)]] := hC64.front 3 rfl
    have hC66 : Ctx [] w0 _ [Item.own (.slice (some ⟨b4, 0, none⟩) 0 0) (([] : List (Int × Int × Int × Bool)) : (List (Int × Int × Int × Bool))), Item.box b3 [v2, (.int .i64 x1.2.1), (.int .i64 x1.2.2)], Item.own v2 (x1.1 : (List Int)), Item.box b2 [(.slice none 0 0), (.int .i64 0), (.int .i64 0)], Item.box b1 [u1, (.int .i64 a1.2.1), (.int .i64 a1.2.2)]] := hC65.front 3 rfl
    have hC67 : Ctx [] w0 _ [Item.own (.slice (some ⟨b4, 0, none⟩) 0 0) (([] : List (Int × Int × Int × Bool)) : (List (Int × Int × Int × Bool))), Item.box b3 [v2, (.int .i64 x1.2.1), (.int .i64 x1.2.2)], Item.own v2 (x1.1 : (List Int)), Item.box b2 [(.slice none 0 0), (.int .i64 0), (.int .i64 0)]] := hC66.headN 4
    refine W.sub (l' := [(1, u2), (2, u3), (6, (ptr b2 0)), (8, (ptr b3 0)), (9, (.slice (some ⟨b4, 0, none⟩) 0 0)), (10, (.int .i64 0))]) ?_ ⟨rfl, rfl, rfl, rfl, rfl, rfl, trivial⟩
    refine W_loop (fun k l w => ∃ v3 : Value, ∃ x2 : (List Int), ∃ x3 : Int, ∃ x4 : Int, ∃ v4 : Value, ∃ x5 : (List (Int × Int × Int × Bool)), ∃ x6 : Int, l = [(1, u2), (2, u3), (6, (ptr b2 0)), (8, (ptr b3 0)), (9, v4), (10, (.int .i64 x6))] ∧ Ctx [] w0 w [Item.own v4 (x5 : (List (Int × Int × Int × Bool))), Item.box b3 [v3, (.int .i64 x3), (.int .i64 x4)], Item.own v3 (x2 : (List Int)), Item.box b2 [(.slice none 0 0), (.int .i64 0), (.int .i64 0)]] ∧ S.RunCalls_l1 a2 a3 k x2 x3 x4 x5 x6 = some r1) FUEL ⟨v2, x1.1, x1.2.1, x1.2.2, (.slice (some ⟨b4, 0, none⟩) 0 0), ([] : List (Int × Int × Int × Bool)), 0, rfl, hC67, hr2⟩ ?_
    clear hr2
    rintro k1 _ w7 ⟨v3, x2, x3, x4, v4, x5, x6, rfl, hC11, hL1⟩
    cases k1 with
    | zero => rw [S.RunCalls_l1] at hL1; cases hL1
    | succ k1 =>
      rw [S.RunCalls_l1] at hL1
      refine W_seq ?_
      refine W_seq_reg ?_
      refine WL_move rfl rfl ?_
      refine WL_move rfl rfl ?_
      refine WL_len Try.underlying60 g2 rfl rfl ?_
      refine WL_lss rfl rfl rfl ?_
      refine WL_nil ?_
      refine W_cond rfl (fun hc1 => ?_) (fun hc1 => ?_)
      · replace hL1 := ite_t hL1 hc1
        refine W_skip ?_
        refine nrm_normal ?_
        refine W_seq ?_
        refine W_block ?_
        refine W_seq_reg ?_
        refine WL_buildSlice (vs := []) hC11 Try.underlying22 ty3 rfl rfl rfl rfl (by simp) rfl rfl (fun b5 w8 hC12 hB7 => ?_)
        have hC13 := hC12.row0 (α := Int)
        have hC14 := hC13.front 1 rfl
        dsimp only [List.eraseIdx, List.cons_append, List.nil_append, List.append_nil] at hC14
        have hC15 : Ctx [] w0 w8 (Item.own (.slice (some ⟨b5, 0, none⟩) 0 0) (([] : List Int) : List Int) :: [Item.own v4 (x5 : (List (Int × Int × Int × Bool))), Item.box b3 [v3, (.int .i64 x3), (.int .i64 x4)], Item.own v3 (x2 : (List Int)), Item.box b2 [(.slice none 0 0), (.int .i64 0), (.int .i64 0)]]) := hC14.rowOwn (by simp [maxLen])
        refine WL_assign rfl rfl ?_
        refine WL_nil ?_
        refine W_seq ?_
        refine W_seq_reg ?_
        refine WL_move rfl rfl ?_
        refine WL_assign rfl rfl ?_
        refine WL_nil ?_
        obtain ⟨r2, hr3, hL1⟩ := bind_some hL1
        refine W_norm (fun l w => ∃ v8 : Value, ∃ x13 : (List Int), x13 = r2 ∧ l = [(1, u2), (2, u3), (6, (ptr b2 0)), (8, (ptr b3 0)), (9, v4), (10, (.int .i64 x6)), (11, v8)] ∧ Ctx [] w0 w [Item.own v8 (x13 : (List Int)), Item.own v4 (x5 : (List (Int × Int × Int × Bool))), Item.box b3 [v3, (.int .i64 x3), (.int .i64 x4)], Item.own v3 (x2 : (List Int)), Item.box b2 [(.slice none 0 0), (.int .i64 0), (.int .i64 0)]]) ?_ ?_
        · refine W_block ?_
          refine W.sub (l' := [(1, u2), (2, u3), (6, (ptr b2 0)), (8, (ptr b3 0)), (9, v4), (10, (.int .i64 x6)), (11, (.slice (some ⟨b5, 0, none⟩) 0 0)), (12, (.int .i64 x6))]) ?_ ⟨rfl, rfl, rfl, rfl, rfl, rfl, rfl, rfl, trivial⟩
          refine W_loop (fun k l w => ∃ v7 : Value, ∃ x11 : (List Int), ∃ x12 : Int, l = [(1, u2), (2, u3), (6, (ptr b2 0)), (8, (ptr b3 0)), (9, v4), (10, (.int .i64 x6)), (11, v7), (12, (.int .i64 x12))] ∧ Ctx [] w0 w [Item.own v7 (x11 : (List Int)), Item.own v4 (x5 : (List (Int × Int × Int × Bool))), Item.box b3 [v3, (.int .i64 x3), (.int .i64 x4)], Item.own v3 (x2 : (List Int)), Item.box b2 [(.slice none 0 0), (.int .i64 0), (.int .i64 0)]] ∧ S.RunCalls_l2 a3 a2 k x11 x12 = some r2) FUEL ⟨(.slice (some ⟨b5, 0, none⟩) 0 0), ([] : List Int), x6, rfl, hC15, hr3⟩ ?_
          clear hr3
          rintro k2 _ w9 ⟨v7, x11, x12, rfl, hC16, hL2⟩
          cases k2 with
          | zero => rw [S.RunCalls_l2] at hL2; cases hL2
          | succ k2 =>
            rw [S.RunCalls_l2] at hL2
            refine W_seq ?_
            refine W_seq_reg ?_
            refine WL_move rfl rfl ?_
            refine WL_move rfl rfl ?_
            refine WL_len Try.underlying22 g3 rfl rfl ?_
            refine WL_lss rfl rfl rfl ?_
            refine WL_nil ?_
            refine W_cond rfl (fun hc2 => ?_) (fun hc2 => ?_)
            · replace hL2 := ite_t hL2 hc2
              refine W_skip ?_
              refine nrm_normal ?_
              refine W_seq ?_
              refine W_block ?_
              refine W_reg ?_
              refine WL_move rfl rfl ?_
              refine WL_move rfl rfl ?_
              refine WL_move rfl rfl ?_
              obtain ⟨x14, hx1, hL2⟩ := bind_some hL2
              refine WL_index Try.underlying22 ty3 g3 hx1 rfl rfl rfl (fun b6 o1 h1 => ?_)
              refine WL_load ty3 h1 hC16.keep rfl rfl (fun v9 h2 => ?_)
              obtain rfl := ro_int h2
              refine WL_buildSlice (vs := [(.int .i64 x14)]) hC16 Try.underlying22 ty3 rfl rfl rfl rfl (by intro v hv; simp only [List.mem_cons, List.not_mem_nil, or_false] at hv; rcases hv with rfl <;> rfl) rfl rfl (fun b7 w10 hC17 hB9 => ?_)
              have hC18 := hC17.row0 (α := Int)
              have hC19 := hC18.triv (int_val (x14))
              have hC20 := hC19.row1
              have hC21 := hC20.front 1 rfl
              dsimp only [List.eraseIdx, List.cons_append, List.nil_append, List.append_nil] at hC21
              have hC22 : Ctx [] w0 w10 (Item.own (.slice (some ⟨b7, 0, none⟩) 1 1) ([x14] : List Int) :: [Item.own v7 (x11 : (List Int)), Item.own v4 (x5 : (List (Int × Int × Int × Bool))), Item.box b3 [v3, (.int .i64 x3), (.int .i64 x4)], Item.own v3 (x2 : (List Int)), Item.box b2 [(.slice none 0 0), (.int .i64 0), (.int .i64 0)]]) := hC21.rowOwn (by simp [maxLen])
              obtain ⟨x15, hx2, hL2⟩ := bind_some hL2
              refine WL_append_flat (α := Int) hC22 1 rfl (hC22.ro 0 rfl) (Keep.refl _ _) Try.underlying22 ty3 rfl hx2 rfl rfl rfl (fun v10 w11 hC23 => ?_)
              try dsimp only [List.set] at hC23
              refine WL_assign rfl rfl ?_
              refine WL_nil ?_
              refine blk_normal ?_
              refine nrm_normal ?_
              refine W_reg ?_
              refine WL_move rfl rfl ?_
              refine WL_move rfl rfl ?_
              refine WL_len Try.underlying60 g2 rfl rfl ?_
              refine WL_add rfl rfl rfl ?_
              refine WL_assign rfl rfl ?_
              refine WL_nil ?_
              have hC24 : Ctx [] w0 _ [Item.box b2 [(.slice none 0 0), (.int .i64 0), (.int .i64 0)], Item.own (.slice (some ⟨b7, 0, none⟩) 1 1) ([x14] : (List Int)), Item.own v10 (x15 : (List Int)), Item.own v4 (x5 : (List (Int × Int × Int × Bool))), Item.box b3 [v3, (.int .i64 x3), (.int .i64 x4)], Item.own v3 (x2 : (List Int))] := hC23.front 5 rfl
              have hC25 : Ctx [] w0 _ [Item.own v3 (x2 : (List Int)), Item.box b2 [(.slice none 0 0), (.int .i64 0), (.int .i64 0)], Item.own (.slice (some ⟨b7, 0, none⟩) 1 1) ([x14] : (List Int)), Item.own v10 (x15 : (List Int)), Item.own v4 (x5 : (List (Int × Int × Int × Bool))), Item.box b3 [v3, (.int .i64 x3), (.int .i64 x4)]] := hC24.front 5 rfl
              have hC26 : Ctx [] w0 _ [Item.box b3 [v3, (.int .i64 x3), (.int .i64 x4)], Item.own v3 (x2 : (List Int)), Item.box b2 [(.slice none 0 0), (.int .i64 0), (.int .i64 0)], Item.own (.slice (some ⟨b7, 0, none⟩) 1 1) ([x14] : (List Int)), Item.own v10 (x15 : (List Int)), Item.own v4 (x5 : (List (Int × Int × Int × Bool)))] := hC25.front 5 rfl
              have hC27 : Ctx [] w0 _ [Item.own v4 (x5 : (List (Int × Int × Int × Bool))), Item.box b3 [v3, (.int .i64 x3), (.int .i64 x4)], Item.own v3 (x2 : (List Int)), Item.box b2 [(.slice none 0 0), (.int .i64 0), (.int .i64 0)], Item.own (.slice (some ⟨b7, 0, none⟩) 1 1) ([x14] : (List Int)), Item.own v10 (x15 : (List Int))] := hC26.front 5 rfl
              have hC28 : Ctx [] w0 _ [Item.own v10 (x15 : (List Int)), Item.own v4 (x5 : (List (Int × Int × Int × Bool))), Item.box b3 [v3, (.int .i64 x3), (.int .i64 x4)], Item.own v3 (x2 : (List Int)), Item.box b2 [(.slice none 0 0), (.int .i64 0), (.int .i64 0)], Item.own (.slice (some ⟨b7, 0, none⟩) 1 1) ([x14] : (List Int))] := hC27.front 5 rfl
              have hC29 : Ctx [] w0 _ [Item.own v10 (x15 : (List Int)), Item.own v4 (x5 : (List (Int × Int × Int × Bool))), Item.box b3 [v3, (.int .i64 x3), (.int .i64 x4)], Item.own v3 (x2 : (List Int)), Item.box b2 [(.slice none 0 0), (.int .i64 0), (.int .i64 0)]] := hC28.headN 5
              refine nrm_sub (l' := [(1, u2), (2, u3), (6, (ptr b2 0)), (8, (ptr b3 0)), (9, v4), (10, (.int .i64 x6)), (11, v10), (12, (.int .i64 (w64 (x12 + (List.length a2 : Int)))))]) ⟨rfl, rfl, rfl, rfl, rfl, rfl, rfl, rfl, trivial⟩ ?_
              exact ⟨k2, Nat.lt_succ_self _, v10, x15, w64 (x12 + (List.length a2 : Int)), rfl, hC29, hL2⟩
            · replace hL2 := ite_f hL2 hc2
              refine W_exit ?_
              refine nrm_exit ?_
              refine nrm_exit ?_
              refine blk_exit ?_
              have hq1 := Option.some.inj hL2
              subst hq1
              refine nrm_sub (l' := [(1, u2), (2, u3), (6, (ptr b2 0)), (8, (ptr b3 0)), (9, v4), (10, (.int .i64 x6)), (11, v7)]) ⟨rfl, rfl, rfl, rfl, rfl, rfl, rfl, trivial⟩ ?_
              exact ⟨v7, x11, rfl, rfl, hC16⟩
        · rintro l3 _ w12 hs3 ⟨v8, x13, rfl, rfl, hC30⟩
          try dsimp only at hL1
          refine nrm_sub' hs3 ?_
          clear hs3
          obtain ⟨r3, hr4, hL1⟩ := bind_some hL1
          refine W_cut (fun l w => ∃ b8 : Nat, ∃ v11 : Value, ∃ x16 : (List Int), ∃ x17 : Int, ∃ x18 : Int, ∃ b9 : Nat, ∃ x19 : Int, ∃ x20 : Int, ∃ x21 : Int, ∃ x22 : Bool, (x16, x17, x18, x19, x20, x21, x22) = r3 ∧ l = [(1, u2), (2, u3), (6, (ptr b2 0)), (8, (ptr b3 0)), (9, v4), (10, (.int .i64 x6)), (13, (ptr b8 0)), (14, (ptr b9 0))] ∧ Ctx [] w0 w [Item.box b9 [(.int .i64 x19), (.int .i64 x20), (.int .i64 x21), (.bool x22)], Item.box b8 [v11, (.int .i64 x17), (.int .i64 x18)], Item.own v11 (x16 : (List Int)), Item.own v4 (x5 : (List (Int × Int × Int × Bool))), Item.box b3 [v3, (.int .i64 x3), (.int .i64 x4)], Item.own v3 (x2 : (List Int)), Item.box b2 [(.slice none 0 0), (.int .i64 0), (.int .i64 0)]]) ?_ ?_
          · refine W_drawn 14 rfl hmix (fun w14 hB12 => ?_)
            have hC32 := hC30.grow hB12
            refine WA_take 1 rfl (by kernel_rfl) (by kernel_rfl) (by kernel_rfl) rfl (fl_move rfl) ?_
            refine WL_move rfl rfl ?_
            refine WL_nil ?_
            refine WA_take 2 rfl (by kernel_rfl) (by kernel_rfl) (by kernel_rfl) rfl (fl_move rfl) ?_
            refine WL_move rfl rfl ?_
            refine WL_nil ?_
            obtain ⟨x23, hx3, hr4⟩ := bind_some hr4
            refine WA_take 3 rfl (by kernel_rfl) (by kernel_rfl) (by kernel_rfl) rfl (fl_index Try.underlying60 ty35 g2 hx3 rfl rfl) ?_
            refine WL_index Try.underlying60 ty35 g2 hx3 rfl rfl rfl (fun b10 o2 h3 => ?_)
            refine WL_nil ?_
            refine WA_take 5 rfl (by kernel_rfl) (by kernel_rfl) (by kernel_rfl) rfl (fl_move rfl) ?_
            refine WL_move rfl rfl ?_
            refine WL_nil ?_
            obtain ⟨x24, hr5, hr4⟩ := bind_some hr4
            refine WA.sub (l' := [(1, u2), (2, u3), (6, (ptr b2 0)), (8, (ptr b3 0)), (9, v4), (10, (.int .i64 x6)), (11, v8), (43, u2), (44, (.int .i64 x6)), (45, (ptr b10 o2)), (47, v8)]) ?_ ⟨rfl, rfl, rfl, rfl, rfl, rfl, rfl, rfl, rfl, rfl, rfl, trivial⟩
            refine WA_postsO [⟨0, [], fun vs => PW.val (.agg #[v3, (.int .i64 x3), (.int .i64 x4)]), []⟩, ⟨4, [], fun vs => PW.val (.agg #[(.int .i64 x23.1), (.int .i64 x23.2.1), (.int .i64 x23.2.2.1), (.bool x23.2.2.2)]), []⟩, ⟨6, [], fun vs => PW.own2 (x24.1 : ((List Int) × Int × Int)) (x24.2 : (Int × Int × Int × Bool)), []⟩, ⟨7, [48], fun vs => PW.val (vs.getD 0 undef), []⟩, ⟨8, [41], fun vs => PW.comp (vs.getD 0 undef) 0, []⟩, ⟨9, [41], fun vs => PW.comp (vs.getD 0 undef) 1, []⟩, ⟨10, [], fun vs => PW.box [(.slice none 0 0), (.int .i64 0), (.int .i64 0)], []⟩, ⟨11, [], fun vs => PW.box [(.int .i64 0), (.int .i64 0), (.int .i64 0), (.bool false)], []⟩] [[], [], [0, 4], [6], [6, 7], [6, 7], [], []] [9] 2 rfl (by kernel_rfl) (by kernel_rfl) ?_ ⟨?_, ?_, trivial⟩
            · refine StepsE_cons rfl ?_ ?_
              · intro w18 hB16
                refine DepsE_nil ?_
                refine ⟨_, rfl, ?_⟩
                refine WL_load_box_agg [v3, (.int .i64 x3), (.int .i64 x4)] (hC32.grow hB16) 2 rfl rfl rfl Try.isAgg26 Try.sizeOf26 rfl rfl ?_
                refine WL_nil ?_
                exact FinE_val (Below.refl _ _) rfl rfl ⟨rfl, rfl⟩
              refine StepsE_cons rfl ?_ ?_
              · intro w18 hB16
                refine DepsE_nil ?_
                refine ⟨_, rfl, ?_⟩
                refine WL_load ty35 h3 (hC32.keep.then hB16) rfl rfl (fun v12 h4 => ?_)
                obtain rfl := ro_st35 h4
                refine WL_nil ?_
                exact FinE_val (Below.refl _ _) rfl rfl ⟨rfl, rfl⟩
              refine StepsE_cons rfl ?_ ?_
              · intro w18 hB16
                refine DepsE_cons rfl rfl rfl ?_
                rintro _ _ ⟨rfl, rfl⟩ _
                refine DepsE_cons rfl rfl rfl ?_
                rintro _ _ ⟨rfl, rfl⟩ _
                refine DepsE_nil ?_
                refine ⟨_, rfl, ?_⟩
                refine WL_call Try.call36 rfl rfl (c_S_FinishCall (x2, x3, x4) v3 ((hC32.grow hB16).ro 3 rfl) x23 x13 v8 ((hC32.grow hB16).ro 0 rfl) x24 hr5) ?_
                rintro _ w15 ⟨hB13, v13, v14, F2, F3, rfl, hv2, hv3, hn2, hb2⟩
                refine WL_nil ?_
                exact FinE_own (F := F2 ++ F3) hB13 rfl rfl ⟨_, _, _, _, rfl, rfl, hv2, hv3⟩ (by simpa using hn2) (fun b h => hb2 b (by simpa using h)) (fun b h => by simp only [List.mem_append] at h; rcases h with h | h <;> first | exact Val.inh hv2 b h | exact Val.inh hv3 b h)
              refine StepsE_cons rfl ?_ ?_
              · intro w18 hB16
                refine DepsE_cons rfl rfl rfl ?_
                rintro _ _ ⟨v13, v14, F2, F3, rfl, rfl, hv2, hv3⟩ _
                obtain ⟨v15, rfl, h5⟩ := ro_st26 (ro_of_own hv2)
                obtain rfl := ro_st35 (ro_of_own hv3)
                refine DepsE_nil ?_
                refine ⟨_, rfl, ?_⟩
                refine WL_move rfl rfl ?_
                refine WL_nil ?_
                exact FinE_val (Below.refl _ _) rfl rfl ⟨rfl, rfl⟩
              refine StepsE_cons rfl ?_ ?_
              · intro w18 hB16
                refine DepsE_cons rfl rfl rfl ?_
                rintro _ _ ⟨v13, v14, F2, F3, rfl, rfl, hv2, hv3⟩ _
                obtain ⟨v15, rfl, h5⟩ := ro_st26 (ro_of_own hv2)
                obtain rfl := ro_st35 (ro_of_own hv3)
                refine DepsE_cons rfl rfl rfl ?_
                rintro _ _ ⟨rfl, rfl⟩ _
                refine DepsE_nil ?_
                refine ⟨_, rfl, ?_⟩
                refine WL_extract rfl rfl rfl ?_
                refine WL_nil ?_
                exact FinE_val (Below.refl _ _) rfl rfl ⟨⟨_, rfl, rfl⟩, rfl⟩
              refine StepsE_cons rfl ?_ ?_
              · intro w18 hB16
                refine DepsE_cons rfl rfl rfl ?_
                rintro _ _ ⟨v13, v14, F2, F3, rfl, rfl, hv2, hv3⟩ _
                obtain ⟨v15, rfl, h5⟩ := ro_st26 (ro_of_own hv2)
                obtain rfl := ro_st35 (ro_of_own hv3)
                refine DepsE_cons rfl rfl rfl ?_
                rintro _ _ ⟨rfl, rfl⟩ _
                refine DepsE_nil ?_
                refine ⟨_, rfl, ?_⟩
                refine WL_extract rfl rfl rfl ?_
                refine WL_nil ?_
                exact FinE_val (Below.refl _ _) rfl rfl ⟨⟨_, rfl, rfl⟩, rfl⟩
              refine StepsE_cons rfl ?_ ?_
              · intro w18 hB16
                refine DepsE_nil ?_
                refine ⟨_, rfl, ?_⟩
                refine WL_alloc (Ctx.start _) zero26 rfl rfl (fun b11 w16 hC33 hB14 => ?_)
                refine WL_nil ?_
                exact FinE_ctx hC33 rfl rfl (fun F h => ⟨b11, rfl, h⟩)
              refine StepsE_cons rfl ?_ ?_
              · intro w18 hB16
                refine DepsE_nil ?_
                refine ⟨_, rfl, ?_⟩
                refine WL_alloc (Ctx.start _) zero35 rfl rfl (fun b12 w17 hC34 hB15 => ?_)
                refine WL_nil ?_
                exact FinE_ctx hC34 rfl rfl (fun F h => ⟨b12, rfl, h⟩)
              exact StepsE_nil
            · intro g' hg'
              obtain rfl : g' = 2 := hg'
              intro w19 hB17
              refine AllE_cons rfl rfl rfl ?_
              rintro _ _ ⟨rfl, rfl⟩
              refine AllE_cons rfl rfl rfl ?_
              rintro _ _ ⟨rfl, rfl⟩
              refine AllE_cons rfl rfl rfl ?_
              rintro _ _ ⟨v13, v14, F2, F3, rfl, rfl, hv2, hv3⟩
              refine AllE_cons rfl rfl rfl ?_
              rintro _ _ ⟨rfl, rfl⟩
              refine AllE_cons rfl rfl rfl ?_
              rintro _ _ ⟨⟨_, hx4, hx5⟩, rfl⟩
              obtain rfl := Value.tuple.inj hx4
              obtain rfl := Option.some.inj (show (some v13 : Option Value) = some _ from hx5)
              refine AllE_cons rfl rfl rfl ?_
              rintro _ _ ⟨⟨_, hx6, hx7⟩, rfl⟩
              obtain rfl := Value.tuple.inj hx6
              obtain rfl := Option.some.inj (show (some v14 : Option Value) = some _ from hx7)
              refine AllE_cons rfl rfl rfl ?_
              rintro _ F4 ⟨b11, rfl, hv4⟩
              refine AllE_cons rfl rfl rfl ?_
              rintro _ F5 ⟨b12, rfl, hv5⟩
              refine AllE_nil ?_
              intro hn3 hb3
              have hC35 := hC32.pushL hB17 (Bs := [Item.box b12 [(.int .i64 0), (.int .i64 0), (.int .i64 0), (.bool false)], Item.box b11 [(.slice none 0 0), (.int .i64 0), (.int .i64 0)], Item.own v13 (x24.1 : ((List Int) × Int × Int)), Item.own v14 (x24.2 : (Int × Int × Int × Bool))]) (Fs := [F5, F4, F2, F3]) ⟨F5, _, rfl, hv5, F4, _, rfl, hv4, F2, _, rfl, hv2, F3, _, rfl, hv3, rfl⟩ (by simpa using hn3) (fun b h => (hb3 b (by simpa using h)).1)
              have hC36 : Ctx [] w0 _ [Item.own v13 (x24.1 : ((List Int) × Int × Int)), Item.box b12 [(.int .i64 0), (.int .i64 0), (.int .i64 0), (.bool false)], Item.box b11 [(.slice none 0 0), (.int .i64 0), (.int .i64 0)], Item.own v14 (x24.2 : (Int × Int × Int × Bool)), Item.own v8 (x13 : (List Int)), Item.own v4 (x5 : (List (Int × Int × Int × Bool))), Item.box b3 [v3, (.int .i64 x3), (.int .i64 x4)], Item.own v3 (x2 : (List Int)), Item.box b2 [(.slice none 0 0), (.int .i64 0), (.int .i64 0)]] := hC35.front 2 rfl
              obtain ⟨v16, rfl, hC37⟩ := st26_own hC36
              have hC38 : Ctx [] w0 _ [Item.own v14 (x24.2 : (Int × Int × Int × Bool)), Item.own v16 (x24.1.1 : (List Int)), Item.box b12 [(.int .i64 0), (.int .i64 0), (.int .i64 0), (.bool false)], Item.box b11 [(.slice none 0 0), (.int .i64 0), (.int .i64 0)], Item.own v8 (x13 : (List Int)), Item.own v4 (x5 : (List (Int × Int × Int × Bool))), Item.box b3 [v3, (.int .i64 x3), (.int .i64 x4)], Item.own v3 (x2 : (List Int)), Item.box b2 [(.slice none 0 0), (.int .i64 0), (.int .i64 0)]] := hC37.front 3 rfl
              obtain ⟨rfl, hC39⟩ := st35_own hC38
              refine WA_one 12 (by kernel_rfl) rfl ?_
              refine WL_store_box_agg (cs' := [v16, (.int .i64 x24.1.2.1), (.int .i64 x24.1.2.2)]) (new := [v16, (.int .i64 x24.1.2.1), (.int .i64 x24.1.2.2)]) hC39 2 rfl rfl (by intro v hv; simp only [List.mem_cons, List.not_mem_nil, or_false] at hv; rcases hv with rfl | rfl | rfl; exact (ro_one (hC39.ro 0 rfl)); exact rfl; exact rfl) rfl Try.sizeOf26 rfl rfl (fun w20 hC40 => ?_)
              try dsimp only [List.set] at hC40
              refine WL_nil ?_
              refine WA_one 13 (by kernel_rfl) rfl ?_
              refine WL_store_box_agg (cs' := [(.int .i64 x24.2.1), (.int .i64 x24.2.2.1), (.int .i64 x24.2.2.2.1), (.bool x24.2.2.2.2)]) (new := [(.int .i64 x24.2.1), (.int .i64 x24.2.2.1), (.int .i64 x24.2.2.2.1), (.bool x24.2.2.2.2)]) hC40 1 rfl rfl (by intro v hv; simp only [List.mem_cons, List.not_mem_nil, or_false] at hv; rcases hv with rfl | rfl | rfl | rfl; exact rfl; exact rfl; exact rfl; exact rfl) rfl Try.sizeOf35 rfl rfl (fun w21 hC41 => ?_)
              try dsimp only [List.set] at hC41
              refine WL_nil ?_
              refine WA_done (by kernel_rfl) ?_
              have hq2 := Option.some.inj hr4
              subst hq2
              have hC42 : Ctx [] w0 _ [Item.box b2 [(.slice none 0 0), (.int .i64 0), (.int .i64 0)], Item.own v16 (x24.1.1 : (List Int)), Item.box b12 [(.int .i64 x24.2.1), (.int .i64 x24.2.2.1), (.int .i64 x24.2.2.2.1), (.bool x24.2.2.2.2)], Item.box b11 [v16, (.int .i64 x24.1.2.1), (.int .i64 x24.1.2.2)], Item.own v8 (x13 : (List Int)), Item.own v4 (x5 : (List (Int × Int × Int × Bool))), Item.box b3 [v3, (.int .i64 x3), (.int .i64 x4)], Item.own v3 (x2 : (List Int))] := hC41.front 7 rfl
              have hC43 : Ctx [] w0 _ [Item.own v3 (x2 : (List Int)), Item.box b2 [(.slice none 0 0), (.int .i64 0), (.int .i64 0)], Item.own v16 (x24.1.1 : (List Int)), Item.box b12 [(.int .i64 x24.2.1), (.int .i64 x24.2.2.1), (.int .i64 x24.2.2.2.1), (.bool x24.2.2.2.2)], Item.box b11 [v16, (.int .i64 x24.1.2.1), (.int .i64 x24.1.2.2)], Item.own v8 (x13 : (List Int)), Item.own v4 (x5 : (List (Int × Int × Int × Bool))), Item.box b3 [v3, (.int .i64 x3), (.int .i64 x4)]] := hC42.front 7 rfl
              have hC44 : Ctx [] w0 _ [Item.box b3 [v3, (.int .i64 x3), (.int .i64 x4)], Item.own v3 (x2 : (List Int)), Item.box b2 [(.slice none 0 0), (.int .i64 0), (.int .i64 0)], Item.own v16 (x24.1.1 : (List Int)), Item.box b12 [(.int .i64 x24.2.1), (.int .i64 x24.2.2.1), (.int .i64 x24.2.2.2.1), (.bool x24.2.2.2.2)], Item.box b11 [v16, (.int .i64 x24.1.2.1), (.int .i64 x24.1.2.2)], Item.own v8 (x13 : (List Int)), Item.own v4 (x5 : (List (Int × Int × Int × Bool)))] := hC43.front 7 rfl
              have hC45 : Ctx [] w0 _ [Item.own v4 (x5 : (List (Int × Int × Int × Bool))), Item.box b3 [v3, (.int .i64 x3), (.int .i64 x4)], Item.own v3 (x2 : (List Int)), Item.box b2 [(.slice none 0 0), (.int .i64 0), (.int .i64 0)], Item.own v16 (x24.1.1 : (List Int)), Item.box b12 [(.int .i64 x24.2.1), (.int .i64 x24.2.2.1), (.int .i64 x24.2.2.2.1), (.bool x24.2.2.2.2)], Item.box b11 [v16, (.int .i64 x24.1.2.1), (.int .i64 x24.1.2.2)], Item.own v8 (x13 : (List Int))] := hC44.front 7 rfl
              have hC46 : Ctx [] w0 _ [Item.own v16 (x24.1.1 : (List Int)), Item.own v4 (x5 : (List (Int × Int × Int × Bool))), Item.box b3 [v3, (.int .i64 x3), (.int .i64 x4)], Item.own v3 (x2 : (List Int)), Item.box b2 [(.slice none 0 0), (.int .i64 0), (.int .i64 0)], Item.box b12 [(.int .i64 x24.2.1), (.int .i64 x24.2.2.1), (.int .i64 x24.2.2.2.1), (.bool x24.2.2.2.2)], Item.box b11 [v16, (.int .i64 x24.1.2.1), (.int .i64 x24.1.2.2)], Item.own v8 (x13 : (List Int))] := hC45.front 4 rfl
              have hC47 : Ctx [] w0 _ [Item.box b11 [v16, (.int .i64 x24.1.2.1), (.int .i64 x24.1.2.2)], Item.own v16 (x24.1.1 : (List Int)), Item.own v4 (x5 : (List (Int × Int × Int × Bool))), Item.box b3 [v3, (.int .i64 x3), (.int .i64 x4)], Item.own v3 (x2 : (List Int)), Item.box b2 [(.slice none 0 0), (.int .i64 0), (.int .i64 0)], Item.box b12 [(.int .i64 x24.2.1), (.int .i64 x24.2.2.1), (.int .i64 x24.2.2.2.1), (.bool x24.2.2.2.2)], Item.own v8 (x13 : (List Int))] := hC46.front 6 rfl
              have hC48 : Ctx [] w0 _ [Item.box b12 [(.int .i64 x24.2.1), (.int .i64 x24.2.2.1), (.int .i64 x24.2.2.2.1), (.bool x24.2.2.2.2)], Item.box b11 [v16, (.int .i64 x24.1.2.1), (.int .i64 x24.1.2.2)], Item.own v16 (x24.1.1 : (List Int)), Item.own v4 (x5 : (List (Int × Int × Int × Bool))), Item.box b3 [v3, (.int .i64 x3), (.int .i64 x4)], Item.own v3 (x2 : (List Int)), Item.box b2 [(.slice none 0 0), (.int .i64 0), (.int .i64 0)], Item.own v8 (x13 : (List Int))] := hC47.front 6 rfl
              have hC49 : Ctx [] w0 _ [Item.box b12 [(.int .i64 x24.2.1), (.int .i64 x24.2.2.1), (.int .i64 x24.2.2.2.1), (.bool x24.2.2.2.2)], Item.box b11 [v16, (.int .i64 x24.1.2.1), (.int .i64 x24.1.2.2)], Item.own v16 (x24.1.1 : (List Int)), Item.own v4 (x5 : (List (Int × Int × Int × Bool))), Item.box b3 [v3, (.int .i64 x3), (.int .i64 x4)], Item.own v3 (x2 : (List Int)), Item.box b2 [(.slice none 0 0), (.int .i64 0), (.int .i64 0)]] := hC48.headN 7
              refine nrm_sub (l' := [(1, u2), (2, u3), (6, (ptr b2 0)), (8, (ptr b3 0)), (9, v4), (10, (.int .i64 x6)), (13, (ptr b11 0)), (14, (ptr b12 0))]) ⟨rfl, rfl, rfl, rfl, rfl, rfl, rfl, rfl, trivial⟩ ?_
              exact ⟨b11, v16, x24.1.1, x24.1.2.1, x24.1.2.2, b12, x24.2.1, x24.2.2.1, x24.2.2.2.1, x24.2.2.2.2, rfl, rfl, hC49⟩
            · intro g' hg'
              obtain rfl : g' = 3 := hg'
              intro w19 hB17
              refine AllE_cons rfl rfl rfl ?_
              rintro _ _ ⟨rfl, rfl⟩
              refine AllE_cons rfl rfl rfl ?_
              rintro _ _ ⟨rfl, rfl⟩
              refine AllE_cons rfl rfl rfl ?_
              rintro _ _ ⟨v13, v14, F2, F3, rfl, rfl, hv2, hv3⟩
              refine AllE_cons rfl rfl rfl ?_
              rintro _ _ ⟨rfl, rfl⟩
              refine AllE_cons rfl rfl rfl ?_
              rintro _ _ ⟨⟨_, hx4, hx5⟩, rfl⟩
              obtain rfl := Value.tuple.inj hx4
              obtain rfl := Option.some.inj (show (some v13 : Option Value) = some _ from hx5)
              refine AllE_cons rfl rfl rfl ?_
              rintro _ F4 ⟨b11, rfl, hv4⟩
              refine AllE_cons rfl rfl rfl ?_
              rintro _ F5 ⟨b12, rfl, hv5⟩
              refine AllE_nil ?_
              intro hn3 hb3
              have hC35 := hC32.pushL hB17 (Bs := [Item.box b12 [(.int .i64 0), (.int .i64 0), (.int .i64 0), (.bool false)], Item.box b11 [(.slice none 0 0), (.int .i64 0), (.int .i64 0)], Item.own v13 (x24.1 : ((List Int) × Int × Int)), Item.own v14 (x24.2 : (Int × Int × Int × Bool))]) (Fs := [F5, F4, F2, F3]) ⟨F5, _, rfl, hv5, F4, _, rfl, hv4, F2, _, rfl, hv2, F3, _, rfl, hv3, rfl⟩ (by simpa using hn3) (fun b h => (hb3 b (by simpa using h)).1)
              have hC36 : Ctx [] w0 _ [Item.own v13 (x24.1 : ((List Int) × Int × Int)), Item.box b12 [(.int .i64 0), (.int .i64 0), (.int .i64 0), (.bool false)], Item.box b11 [(.slice none 0 0), (.int .i64 0), (.int .i64 0)], Item.own v14 (x24.2 : (Int × Int × Int × Bool)), Item.own v8 (x13 : (List Int)), Item.own v4 (x5 : (List (Int × Int × Int × Bool))), Item.box b3 [v3, (.int .i64 x3), (.int .i64 x4)], Item.own v3 (x2 : (List Int)), Item.box b2 [(.slice none 0 0), (.int .i64 0), (.int .i64 0)]] := hC35.front 2 rfl
              obtain ⟨v16, rfl, hC37⟩ := st26_own hC36
              have hC38 : Ctx [] w0 _ [Item.own v14 (x24.2 : (Int × Int × Int × Bool)), Item.own v16 (x24.1.1 : (List Int)), Item.box b12 [(.int .i64 0), (.int .i64 0), (.int .i64 0), (.bool false)], Item.box b11 [(.slice none 0 0), (.int .i64 0), (.int .i64 0)], Item.own v8 (x13 : (List Int)), Item.own v4 (x5 : (List (Int × Int × Int × Bool))), Item.box b3 [v3, (.int .i64 x3), (.int .i64 x4)], Item.own v3 (x2 : (List Int)), Item.box b2 [(.slice none 0 0), (.int .i64 0), (.int .i64 0)]] := hC37.front 3 rfl
              obtain ⟨rfl, hC39⟩ := st35_own hC38
              refine WA_take 9 rfl (by kernel_rfl) (by kernel_rfl) (by kernel_rfl) rfl (fl_extract rfl rfl) ?_
              refine WL_extract rfl rfl rfl ?_
              refine WL_nil ?_
              refine WA_one 12 (by kernel_rfl) rfl ?_
              refine WL_store_box_agg (cs' := [v16, (.int .i64 x24.1.2.1), (.int .i64 x24.1.2.2)]) (new := [v16, (.int .i64 x24.1.2.1), (.int .i64 x24.1.2.2)]) hC39 2 rfl rfl (by intro v hv; simp only [List.mem_cons, List.not_mem_nil, or_false] at hv; rcases hv with rfl | rfl | rfl; exact (ro_one (hC39.ro 0 rfl)); exact rfl; exact rfl) rfl Try.sizeOf26 rfl rfl (fun w20 hC40 => ?_)
              try dsimp only [List.set] at hC40
              refine WL_nil ?_
              refine WA_one 13 (by kernel_rfl) rfl ?_
              refine WL_store_box_agg (cs' := [(.int .i64 x24.2.1), (.int .i64 x24.2.2.1), (.int .i64 x24.2.2.2.1), (.bool x24.2.2.2.2)]) (new := [(.int .i64 x24.2.1), (.int .i64 x24.2.2.1), (.int .i64 x24.2.2.2.1), (.bool x24.2.2.2.2)]) hC40 1 rfl rfl (by intro v hv; simp only [List.mem_cons, List.not_mem_nil, or_false] at hv; rcases hv with rfl | rfl | rfl | rfl; exact rfl; exact rfl; exact rfl; exact rfl) rfl Try.sizeOf35 rfl rfl (fun w21 hC41 => ?_)
              try dsimp only [List.set] at hC41
              refine WL_nil ?_
              refine WA_done (by kernel_rfl) ?_
              have hq2 := Option.some.inj hr4
              subst hq2
              have hC42 : Ctx [] w0 _ [Item.box b2 [(.slice none 0 0), (.int .i64 0), (.int .i64 0)], Item.own v16 (x24.1.1 : (List Int)), Item.box b12 [(.int .i64 x24.2.1), (.int .i64 x24.2.2.1), (.int .i64 x24.2.2.2.1), (.bool x24.2.2.2.2)], Item.box b11 [v16, (.int .i64 x24.1.2.1), (.int .i64 x24.1.2.2)], Item.own v8 (x13 : (List Int)), Item.own v4 (x5 : (List (Int × Int × Int × Bool))), Item.box b3 [v3, (.int .i64 x3), (.int .i64 x4)], Item.own v3 (x2 : (List Int))] := hC41.front 7 rfl
              have hC43 : Ctx [] w0 _ [Item.own v3 (x2 : (List Int)), Item.box b2 [(.slice none 0 0), (.int .i64 0), (.int .i64 0)], Item.own v16 (x24.1.1 : (List Int)), Item.box b12 [(.int .i64 x24.2.1), (.int .i64 x24.2.2.1), (.int .i64 x24.2.2.2.1), (.bool x24.2.2.2.2)], Item.box b11 [v16, (.int .i64 x24.1.2.1), (.int .i64 x24.1.2.2)], Item.own v8 (x13 : (List Int)), Item.own v4 (x5 : (List (Int × Int × Int × Bool))), Item.box b3 [v3, (.int .i64 x3), (.int .i64 x4)]] := hC42.front 7 rfl
              have hC44 : Ctx [] w0 _ [Item.box b3 [v3, (.int .i64 x3), (.int .i64 x4)], Item.own v3 (x2 : (List Int)), Item.box b2 [(.slice none 0 0), (.int .i64 0), (.int .i64 0)], Item.own v16 (x24.1.1 : (List Int)), Item.box b12 [(.int .i64 x24.2.1), (.int .i64 x24.2.2.1), (.int .i64 x24.2.2.2.1), (.bool x24.2.2.2.2)], Item.box b11 [v16, (.int .i64 x24.1.2.1), (.int .i64 x24.1.2.2)], Item.own v8 (x13 : (List Int)), Item.own v4 (x5 : (List (Int × Int × Int × Bool)))] := hC43.front 7 rfl
              have hC45 : Ctx [] w0 _ [Item.own v4 (x5 : (List (Int × Int × Int × Bool))), Item.box b3 [v3, (.int .i64 x3), (.int .i64 x4)], Item.own v3 (x2 : (List Int)), Item.box b2 [(.slice none 0 0), (.int .i64 0), (.int .i64 0)], Item.own v16 (x24.1.1 : (List Int)), Item.box b12 [(.int .i64 x24.2.1), (.int .i64 x24.2.2.1), (.int .i64 x24.2.2.2.1), (.bool x24.2.2.2.2)], Item.box b11 [v16, (.int .i64 x24.1.2.1), (.int .i64 x24.1.2.2)], Item.own v8 (x13 : (List Int))] := hC44.front 7 rfl
              have hC46 : Ctx [] w0 _ [Item.own v16 (x24.1.1 : (List Int)), Item.own v4 (x5 : (List (Int × Int × Int × Bool))), Item.box b3 [v3, (.int .i64 x3), (.int .i64 x4)], Item.own v3 (x2 : (List Int)), Item.box b2 [(.slice none 0 0), (.int .i64 0), (.int .i64 0)], Item.box b12 [(.int .i64 x24.2.1), (.int .i64 x24.2.2.1), (.int .i64 x24.2.2.2.1), (.bool x24.2.2.2.2)], Item.box b11 [v16, (.int .i64 x24.1.2.1), (.int .i64 x24.1.2.2)], Item.own v8 (x13 : (List Int))] := hC45.front 4 rfl
              have hC47 : Ctx [] w0 _ [Item.box b11 [v16, (.int .i64 x24.1.2.1), (.int .i64 x24.1.2.2)], Item.own v16 (x24.1.1 : (List Int)), Item.own v4 (x5 : (List (Int × Int × Int × Bool))), Item.box b3 [v3, (.int .i64 x3), (.int .i64 x4)], Item.own v3 (x2 : (List Int)), Item.box b2 [(.slice none 0 0), (.int .i64 0), (.int .i64 0)], Item.box b12 [(.int .i64 x24.2.1), (.int .i64 x24.2.2.1), (.int .i64 x24.2.2.2.1), (.bool x24.2.2.2.2)], Item.own v8 (x13 : (List Int))] := hC46.front 6 rfl
              have hC48 : Ctx [] w0 _ [Item.box b12 [(.int .i64 x24.2.1), (.int .i64 x24.2.2.1), (.int .i64 x24.2.2.2.1), (.bool x24.2.2.2.2)], Item.box b11 [v16, (.int .i64 x24.1.2.1), (.int .i64 x24.1.2.2)], Item.own v16 (x24.1.1 : (List Int)), Item.own v4 (x5 : (List (Int × Int × Int × Bool))), Item.box b3 [v3, (.int .i64 x3), (.int .i64 x4)], Item.own v3 (x2 : (List Int)), Item.box b2 [(.slice none 0 0), (.int .i64 0), (.int .i64 0)], Item.own v8 (x13 : (List Int))] := hC47.front 6 rfl
              have hC49 : Ctx [] w0 _ [Item.box b12 [(.int .i64 x24.2.1), (.int .i64 x24.2.2.1), (.int .i64 x24.2.2.2.1), (.bool x24.2.2.2.2)], Item.box b11 [v16, (.int .i64 x24.1.2.1), (.int .i64 x24.1.2.2)], Item.own v16 (x24.1.1 : (List Int)), Item.own v4 (x5 : (List (Int × Int × Int × Bool))), Item.box b3 [v3, (.int .i64 x3), (.int .i64 x4)], Item.own v3 (x2 : (List Int)), Item.box b2 [(.slice none 0 0), (.int .i64 0), (.int .i64 0)]] := hC48.headN 7
              refine nrm_sub (l' := [(1, u2), (2, u3), (6, (ptr b2 0)), (8, (ptr b3 0)), (9, v4), (10, (.int .i64 x6)), (13, (ptr b11 0)), (14, (ptr b12 0))]) ⟨rfl, rfl, rfl, rfl, rfl, rfl, rfl, rfl, trivial⟩ ?_
              exact ⟨b11, v16, x24.1.1, x24.1.2.1, x24.1.2.2, b12, x24.2.1, x24.2.2.1, x24.2.2.2.1, x24.2.2.2.2, rfl, rfl, hC49⟩
          · rintro _ w13 ⟨b8, v11, x16, x17, x18, b9, x19, x20, x21, x22, rfl, rfl, hC31⟩
            try dsimp only at hL1
            refine W_seq_reg ?_
            refine WL_load_box_agg [v11, (.int .i64 x17), (.int .i64 x18)] hC31 1 rfl rfl rfl Try.isAgg26 Try.sizeOf26 rfl rfl ?_
            refine WL_store_box_agg (cs' := [v11, (.int .i64 x17), (.int .i64 x18)]) (new := [v11, (.int .i64 x17), (.int .i64 x18)]) hC31 4 rfl rfl (by intro v hv; simp only [List.mem_cons, List.not_mem_nil, or_false] at hv; rcases hv with rfl | rfl | rfl; exact (ro_one (hC31.ro 2 rfl)); exact rfl; exact rfl) rfl Try.sizeOf26 rfl rfl (fun w22 hC50 => ?_)
            try dsimp only [List.set] at hC50
            refine WL_nil ?_
            refine W_reg ?_
            refine WL_move rfl rfl ?_
            refine WL_load_box_agg [(.int .i64 x19), (.int .i64 x20), (.int .i64 x21), (.bool x22)] hC50 0 rfl rfl rfl Try.isAgg35 Try.sizeOf35 rfl rfl ?_
            refine WL_buildSlice (vs := [(.agg #[(.int .i64 x19), (.int .i64 x20), (.int .i64 x21), (.bool x22)])]) hC50 Try.underlying60 ty35 rfl rfl rfl rfl (by intro v hv; simp only [List.mem_cons, List.not_mem_nil, or_false] at hv; rcases hv with rfl <;> rfl) rfl rfl (fun b13 w23 hC51 hB18 => ?_)
            have hC52 := hC51.row0 (α := (Int × Int × Int × Bool))
            have hC53 := own_st35 x19 x20 x21 x22 hC52
            have hC54 := hC53.row1
            have hC55 := hC54.front 1 rfl
            dsimp only [List.eraseIdx, List.cons_append, List.nil_append, List.append_nil] at hC55
            have hC56 : Ctx [] w0 w23 (Item.own (.slice (some ⟨b13, 0, none⟩) 1 1) ([(x19, x20, x21, x22)] : List (Int × Int × Int × Bool)) :: [Item.box b9 [(.int .i64 x19), (.int .i64 x20), (.int .i64 x21), (.bool x22)], Item.box b8 [v11, (.int .i64 x17), (.int .i64 x18)], Item.own v11 (x16 : (List Int)), Item.own v4 (x5 : (List (Int × Int × Int × Bool))), Item.box b3 [v11, (.int .i64 x17), (.int .i64 x18)], Item.own v3 (x2 : (List Int)), Item.box b2 [(.slice none 0 0), (.int .i64 0), (.int .i64 0)]]) := hC55.rowOwn (by simp [maxLen])
            obtain ⟨x25, hx8, hL1⟩ := bind_some hL1
            refine WL_append_flat (α := (Int × Int × Int × Bool)) hC56 4 rfl (hC56.ro 0 rfl) (Keep.refl _ _) Try.underlying60 ty35 rfl hx8 rfl rfl rfl (fun v17 w24 hC57 => ?_)
            try dsimp only [List.set] at hC57
            refine WL_assign rfl rfl ?_
            refine WL_nil ?_
            refine blk_normal ?_
            refine nrm_normal ?_
            refine W_reg ?_
            refine WL_move rfl rfl ?_
            refine WL_add rfl rfl rfl ?_
            refine WL_assign rfl rfl ?_
            refine WL_nil ?_
            have hC58 : Ctx [] w0 _ [Item.box b2 [(.slice none 0 0), (.int .i64 0), (.int .i64 0)], Item.own (.slice (some ⟨b13, 0, none⟩) 1 1) ([(x19, x20, x21, x22)] : (List (Int × Int × Int × Bool))), Item.box b9 [(.int .i64 x19), (.int .i64 x20), (.int .i64 x21), (.bool x22)], Item.box b8 [v11, (.int .i64 x17), (.int .i64 x18)], Item.own v11 (x16 : (List Int)), Item.own v17 (x25 : (List (Int × Int × Int × Bool))), Item.box b3 [v11, (.int .i64 x17), (.int .i64 x18)], Item.own v3 (x2 : (List Int))] := hC57.front 7 rfl
            have hC59 : Ctx [] w0 _ [Item.own v11 (x16 : (List Int)), Item.box b2 [(.slice none 0 0), (.int .i64 0), (.int .i64 0)], Item.own (.slice (some ⟨b13, 0, none⟩) 1 1) ([(x19, x20, x21, x22)] : (List (Int × Int × Int × Bool))), Item.box b9 [(.int .i64 x19), (.int .i64 x20), (.int .i64 x21), (.bool x22)], Item.box b8 [v11, (.int .i64 x17), (.int .i64 x18)], Item.own v17 (x25 : (List (Int × Int × Int × Bool))), Item.box b3 [v11, (.int .i64 x17), (.int .i64 x18)], Item.own v3 (x2 : (List Int))] := hC58.front 4 rfl
            have hC60 : Ctx [] w0 _ [Item.box b3 [v11, (.int .i64 x17), (.int .i64 x18)], Item.own v11 (x16 : (List Int)), Item.box b2 [(.slice none 0 0), (.int .i64 0), (.int .i64 0)], Item.own (.slice (some ⟨b13, 0, none⟩) 1 1) ([(x19, x20, x21, x22)] : (List (Int × Int × Int × Bool))), Item.box b9 [(.int .i64 x19), (.int .i64 x20), (.int .i64 x21), (.bool x22)], Item.box b8 [v11, (.int .i64 x17), (.int .i64 x18)], Item.own v17 (x25 : (List (Int × Int × Int × Bool))), Item.own v3 (x2 : (List Int))] := hC59.front 6 rfl
            have hC61 : Ctx [] w0 _ [Item.own v17 (x25 : (List (Int × Int × Int × Bool))), Item.box b3 [v11, (.int .i64 x17), (.int .i64 x18)], Item.own v11 (x16 : (List Int)), Item.box b2 [(.slice none 0 0), (.int .i64 0), (.int .i64 0)], Item.own (.slice (some ⟨b13, 0, none⟩) 1 1) ([(x19, x20, x21, x22)] : (List (Int × Int × Int × Bool))), Item.box b9 [(.int .i64 x19), (.int .i64 x20), (.int .i64 x21), (.bool x22)], Item.box b8 [v11, (.int .i64 x17), (.int .i64 x18)], Item.own v3 (x2 : (List Int))] := hC60.front 6 rfl
            have hC62 : Ctx [] w0 _ [Item.own v17 (x25 : (List (Int × Int × Int × Bool))), Item.box b3 [v11, (.int .i64 x17), (.int .i64 x18)], Item.own v11 (x16 : (List Int)), Item.box b2 [(.slice none 0 0), (.int .i64 0), (.int .i64 0)]] := hC61.headN 4
            refine nrm_sub (l' := [(1, u2), (2, u3), (6, (ptr b2 0)), (8, (ptr b3 0)), (9, v17), (10, (.int .i64 (w64 (x6 + 1))))]) ⟨rfl, rfl, rfl, rfl, rfl, rfl, trivial⟩ ?_
            exact ⟨k1, Nat.lt_succ_self _, v11, x16, x17, x18, v17, x25, w64 (x6 + 1), rfl, hC62, hL1⟩
      · replace hL1 := ite_f hL1 hc1
        refine W_exit ?_
        refine nrm_exit ?_
        refine nrm_exit ?_
        refine blk_exit ?_
        have hq3 := Option.some.inj hL1
        subst hq3
        refine nrm_sub (l' := [(6, (ptr b2 0)), (8, (ptr b3 0)), (9, v4)]) ⟨rfl, rfl, rfl, trivial⟩ ?_
        exact ⟨v3, x2, x3, x4, v4, x5, rfl, rfl, hC11⟩
  · rintro l5 _ w25 hs5 ⟨v5, x7, x8, x9, v6, x10, rfl, rfl, hC68⟩
    try dsimp only at hF
    refine nrm_sub' hs5 ?_
    clear hs5
    refine W_seq_reg ?_
    refine WL_load_box_agg [v5, (.int .i64 x8), (.int .i64 x9)] hC68 1 rfl rfl rfl Try.isAgg26 Try.sizeOf26 rfl rfl ?_
    refine WL_move rfl rfl ?_
    refine WL_store_box_agg (cs' := [v5, (.int .i64 x8), (.int .i64 x9)]) (new := [v5, (.int .i64 x8), (.int .i64 x9)]) hC68 3 rfl rfl (by intro v hv; simp only [List.mem_cons, List.not_mem_nil, or_false] at hv; rcases hv with rfl | rfl | rfl; exact (ro_one (hC68.ro 2 rfl)); exact rfl; exact rfl) rfl Try.sizeOf26 rfl rfl (fun w26 hC69 => ?_)
    try dsimp only [List.set] at hC69
    refine WL_assign rfl rfl ?_
    refine WL_nil ?_
    refine W_ret ?_
    have hq4 := Option.some.inj hF
    subst hq4
    refine fn_retG2 rfl (rv_cell_agg (cs' := [v5, (.int .i64 x8), (.int .i64 x9)]) hC69 (i := 3) rfl rfl rfl Try.isAgg26 Try.sizeOf26 rfl) (rv_tmp rfl) ?_
    have hC72 : Ctx [] w0 _ [Item.own v5 (x7 : (List Int)), Item.own v6 (x10 : (List (Int × Int × Int × Bool))), Item.box b3 [v5, (.int .i64 x8), (.int .i64 x9)], Item.box b2 [v5, (.int .i64 x8), (.int .i64 x9)]] := hC69.front 2 rfl
    have hC71 := own_st26 v5 x7 x8 x9 hC72
    exact ⟨_, rfl, res2_of hC71⟩

theorem c_Q_szCallS {w0 : World} (a1 : (List (Int × Int × Int × Bool))) (u1 : Value) (g1 : RO [] w0 u1 a1) (a2 : Int) (rr : Int) (hF : Q.szCallS a1 a2 = some rr) :
    Calls Try.prog 46 [u1, (.int .i64 a2)].toArray w0 fun e w' => ∃ v, e = .returned v ∧ Res w0 rr v w' := by
  refine calls_of_W Try.func46 rfl rfl ?_
  have hC0 := Ctx.start w0
  unfold Q.szCallS at hF
  refine W_seq_reg ?_
  refine WL_assign rfl rfl ?_
  refine WL_nil ?_
  refine W_seq_reg ?_
  refine WL_move rfl rfl ?_
  refine WL_move rfl rfl ?_
  refine WL_len Try.underlying65 g1 rfl rfl ?_
  refine WL_sub rfl rfl rfl ?_
  refine WL_assign rfl rfl ?_
  refine WL_nil ?_
  refine W_seq ?_
  refine W_seq_reg ?_
  refine WL_move rfl rfl ?_
  refine WL_lss rfl rfl rfl ?_
  refine WL_nil ?_
  refine W_cond rfl (fun hc1 => ?_) (fun hc1 => ?_)
  · replace hF := ite_t hF hc1
    refine W_seq_reg ?_
    refine WL_assign rfl rfl ?_
    refine WL_nil ?_
    refine W_ret ?_
    refine nrm_ret ?_
    have hq1 := Option.some.inj hF
    subst hq1
    refine fn_ret1 rfl rfl ?_
    exact ⟨_, rfl, int_res hC0 _⟩
  · replace hF := ite_f hF hc1
    refine W_skip ?_
    refine nrm_normal ?_
    refine W_seq_reg ?_
    refine WL_move rfl rfl ?_
    refine WL_assign rfl rfl ?_
    refine WL_nil ?_
    refine W_ret ?_
    have hq2 := Option.some.inj hF
    subst hq2
    refine fn_ret1 rfl rfl ?_
    exact ⟨_, rfl, int_res hC0 _⟩

theorem c_Q_toCall {w0 : World} (a1 : (Int × Int × Int × Bool)) (rr : (Int × Int × Int × Bool)) (hF : Q.toCall a1 = some rr) :
    Calls Try.prog 23 [(.agg #[(.int .i64 a1.1), (.int .i64 a1.2.1), (.int .i64 a1.2.2.1), (.bool a1.2.2.2)])].toArray w0 fun e w' => ∃ v, e = .returned v ∧ Res w0 rr v w' := by
  refine calls_of_W Try.func23 rfl rfl ?_
  have hC0 := Ctx.start w0
  unfold Q.toCall at hF
  refine W_seq_reg ?_
  refine WL_box (cs := [(.int .i64 a1.1), (.int .i64 a1.2.1), (.int .i64 a1.2.2.1), (.bool a1.2.2.2)]) hC0 rfl rfl rfl (fun b1 w1 hC1 hB1 => ?_)
  refine WL_alloc hC1 zero35 rfl rfl (fun b2 w2 hC2 hB2 => ?_)
  refine WL_nil ?_
  refine W_seq_reg ?_
  refine WL_alloc hC2 zero35 rfl rfl (fun b3 w3 hC3 hB3 => ?_)
  refine WL_nil ?_
  refine W_seq_reg ?_
  refine WL_field Try.underlying34 rfl rfl (fun w => ⟨_, Try.sizeOf3 w⟩) rfl rfl ?_
  refine WL_load_box hC3 2 rfl rfl Try.isAgg3 rfl rfl ?_
  refine WL_field Try.underlying35 rfl rfl (fun w => ⟨_, Try.sizeOf3 w⟩) rfl rfl ?_
  refine WL_store_box (cs' := [(.int .i64 a1.1), (.int .i64 0), (.int .i64 0), (.bool false)]) hC3 0 rfl rfl rfl rfl Try.sizeOf3 rfl rfl (fun w4 hC4 => ?_)
  try dsimp only [List.set] at hC4
  refine WL_nil ?_
  refine W_seq_reg ?_
  refine WL_field Try.underlying34 rfl rfl (fun w => ⟨_, Try.sizeOf3 w⟩) rfl rfl ?_
  refine WL_load_box hC4 2 rfl rfl Try.isAgg3 rfl rfl ?_
  refine WL_field Try.underlying35 rfl rfl (fun w => ⟨_, Try.sizeOf3 w⟩) rfl rfl ?_
  refine WL_store_box (cs' := [(.int .i64 a1.1), (.int .i64 a1.2.1), (.int .i64 0), (.bool false)]) hC4 0 rfl rfl rfl rfl Try.sizeOf3 rfl rfl (fun w5 hC5 => ?_)
  try dsimp only [List.set] at hC5
  refine WL_nil ?_
  refine W_seq_reg ?_
  refine WL_field Try.underlying34 rfl rfl (fun w => ⟨_, Try.sizeOf3 w⟩) rfl rfl ?_
  refine WL_load_box hC5 2 rfl rfl Try.isAgg3 rfl rfl ?_
  refine WL_field Try.underlying35 rfl rfl (fun w => ⟨_, Try.sizeOf3 w⟩) rfl rfl ?_
  refine WL_store_box (cs' := [(.int .i64 a1.1), (.int .i64 a1.2.1), (.int .i64 a1.2.2.1), (.bool false)]) hC5 0 rfl rfl rfl rfl Try.sizeOf3 rfl rfl (fun w6 hC6 => ?_)
  try dsimp only [List.set] at hC6
  refine WL_nil ?_
  refine W_seq_reg ?_
  refine WL_field Try.underlying34 rfl rfl (fun w => ⟨_, Try.sizeOf4 w⟩) rfl rfl ?_
  refine WL_load_box hC6 2 rfl rfl Try.isAgg4 rfl rfl ?_
  refine WL_field Try.underlying35 rfl rfl (fun w => ⟨_, Try.sizeOf4 w⟩) rfl rfl ?_
  refine WL_store_box (cs' := [(.int .i64 a1.1), (.int .i64 a1.2.1), (.int .i64 a1.2.2.1), (.bool a1.2.2.2)]) hC6 0 rfl rfl rfl rfl Try.sizeOf4 rfl rfl (fun w7 hC7 => ?_)
  try dsimp only [List.set] at hC7
  refine WL_nil ?_
  refine W_seq_reg ?_
  refine WL_load_box_agg [(.int .i64 a1.1), (.int .i64 a1.2.1), (.int .i64 a1.2.2.1), (.bool a1.2.2.2)] hC7 0 rfl rfl rfl Try.isAgg35 Try.sizeOf35 rfl rfl ?_
  refine WL_store_box_agg (cs' := [(.int .i64 a1.1), (.int .i64 a1.2.1), (.int .i64 a1.2.2.1), (.bool a1.2.2.2)]) (new := [(.int .i64 a1.1), (.int .i64 a1.2.1), (.int .i64 a1.2.2.1), (.bool a1.2.2.2)]) hC7 1 rfl rfl (by intro v hv; simp only [List.mem_cons, List.not_mem_nil, or_false] at hv; rcases hv with rfl | rfl | rfl | rfl; exact rfl; exact rfl; exact rfl; exact rfl) rfl Try.sizeOf35 rfl rfl (fun w8 hC8 => ?_)
  try dsimp only [List.set] at hC8
  refine WL_nil ?_
  refine W_ret ?_
  have hq1 := Option.some.inj hF
  subst hq1
  refine fn_retG1 rfl (rv_cell_agg (cs' := [(.int .i64 a1.1), (.int .i64 a1.2.1), (.int .i64 a1.2.2.1), (.bool a1.2.2.2)]) hC8 (i := 1) rfl rfl rfl Try.isAgg35 Try.sizeOf35 rfl) ?_
  have hC9 := own_st35 a1.1 a1.2.1 a1.2.2.1 a1.2.2.2 hC8
  exact ⟨_, rfl, own_res hC9 0 rfl⟩

theorem c_Q_toCallS {w0 : World} (a1 : (List (Int × Int × Int × Bool))) (u1 : Value) (g1 : RO [] w0 u1 a1) (rr : (List (Int × Int × Int × Bool))) (hF : Q.toCallS a1 = some rr) :
    Calls Try.prog 47 [u1].toArray w0 fun e w' => ∃ v, e = .returned v ∧ Res w0 rr v w' := by
  refine calls_of_W Try.func47 rfl rfl ?_
  have hC0 := Ctx.start w0
  unfold Q.toCallS at hF
  refine W_seq_reg ?_
  refine WL_assign rfl rfl ?_
  refine WL_nil ?_
  refine W_seq_reg ?_
  refine WL_move rfl rfl ?_
  refine WL_len Try.underlying65 g1 rfl rfl ?_
  obtain ⟨x1, hx1, hF⟩ := bind_some hF
  refine WL_makeSlice hC0 Try.underlying60 ty35 rfl zc35 zr35 hx1 rfl rfl rfl (fun b1 w1 hC1 hB1 => ?_)
  refine WL_assign rfl rfl ?_
  refine WL_nil ?_
  refine W_seq ?_
  refine W_seq_reg ?_
  refine WL_assign rfl rfl ?_
  refine WL_nil ?_
  obtain ⟨r1, hr1, hF⟩ := bind_some hF
  refine W_norm (fun l w => ∃ x4 : (List (Int × Int × Int × Bool)), x4 = r1 ∧ l = [(3, (.slice (some ⟨b1, 0, none⟩) (Int.toNat (List.length a1 : Int)) (Int.toNat (List.length a1 : Int))))] ∧ Ctx [] w0 w [Item.own (.slice (some ⟨b1, 0, none⟩) (Int.toNat (List.length a1 : Int)) (Int.toNat (List.length a1 : Int))) (x4 : (List (Int × Int × Int × Bool)))]) ?_ ?_
  · refine W_block ?_
    refine W.sub (l' := [(0, u1), (3, (.slice (some ⟨b1, 0, none⟩) (Int.toNat (List.length a1 : Int)) (Int.toNat (List.length a1 : Int)))), (4, (.int .i64 0))]) ?_ ⟨rfl, rfl, rfl, trivial⟩
    refine W_loop (fun k l w => ∃ x2 : (List (Int × Int × Int × Bool)), ∃ x3 : Int, l = [(0, u1), (3, (.slice (some ⟨b1, 0, none⟩) (Int.toNat (List.length a1 : Int)) (Int.toNat (List.length a1 : Int)))), (4, (.int .i64 x3))] ∧ Ctx [] w0 w [Item.own (.slice (some ⟨b1, 0, none⟩) (Int.toNat (List.length a1 : Int)) (Int.toNat (List.length a1 : Int))) (x2 : (List (Int × Int × Int × Bool)))] ∧ Q.toCallS_l1 a1 k x2 x3 = some r1) FUEL ⟨x1, 0, rfl, hC1, hr1⟩ ?_
    clear hr1
    rintro k1 _ w2 ⟨x2, x3, rfl, hC2, hL1⟩
    cases k1 with
    | zero => rw [Q.toCallS_l1] at hL1; cases hL1
    | succ k1 =>
      rw [Q.toCallS_l1] at hL1
      refine W_seq ?_
      refine W_seq_reg ?_
      refine WL_move rfl rfl ?_
      refine WL_move rfl rfl ?_
      refine WL_len Try.underlying65 g1 rfl rfl ?_
      refine WL_lss rfl rfl rfl ?_
      refine WL_nil ?_
      refine W_cond rfl (fun hc1 => ?_) (fun hc1 => ?_)
      · replace hL1 := ite_t hL1 hc1
        refine W_skip ?_
        refine nrm_normal ?_
        refine W_seq ?_
        refine W_block ?_
        refine W_reg ?_
        refine WL_move rfl rfl ?_
        refine WL_move rfl rfl ?_
        refine WL_move rfl rfl ?_
        refine WL_move rfl rfl ?_
        obtain ⟨x5, hx2, hL1⟩ := bind_some hL1
        refine WL_index Try.underlying65 ty34 g1 hx2 rfl rfl rfl (fun b2 o1 h1 => ?_)
        refine WL_load ty34 h1 hC2.keep rfl rfl (fun v1 h2 => ?_)
        obtain rfl := ro_st34 h2
        obtain ⟨x6, hr2, hL1⟩ := bind_some hL1
        refine WL_call Try.call23 rfl rfl (c_Q_toCall x5 x6 hr2) ?_
        rintro v2 w3 ⟨hB3, F1, hv1, hn1, hb1⟩
        have hC3 := hC2.push hB3 (A := Item.own v2 x6) hv1 hn1 hb1
        obtain ⟨rfl, hC4⟩ := st35_own hC3
        obtain ⟨x7, hx3, hL1⟩ := bind_some hL1
        refine WL_index_own hC4 0 rfl Try.underlying60 ty35 hx3 rfl rfl rfl (fun b3 hE1 => ?_)
        have hC6 := own_st35 x6.1 x6.2.1 x6.2.2.1 x6.2.2.2 hC4
        refine WL_store_elem hC6 0 rfl ty35 hE1 hx3 rfl rfl rfl (fun w4 hC5 => ?_)
        try dsimp only [List.set] at hC5
        refine WL_nil ?_
        refine blk_normal ?_
        refine nrm_normal ?_
        refine W_reg ?_
        refine WL_move rfl rfl ?_
        refine WL_add rfl rfl rfl ?_
        refine WL_assign rfl rfl ?_
        refine WL_nil ?_
        refine nrm_sub (l' := [(0, u1), (3, (.slice (some ⟨b1, 0, none⟩) (Int.toNat (List.length a1 : Int)) (Int.toNat (List.length a1 : Int)))), (4, (.int .i64 (w64 (x3 + 1))))]) ⟨rfl, rfl, rfl, trivial⟩ ?_
        exact ⟨k1, Nat.lt_succ_self _, (List.set x2 (Int.toNat x3) (x6.1, x6.2.1, x6.2.2.1, x6.2.2.2)), w64 (x3 + 1), rfl, hC5, hL1⟩
      · replace hL1 := ite_f hL1 hc1
        refine W_exit ?_
        refine nrm_exit ?_
        refine nrm_exit ?_
        refine blk_exit ?_
        have hq1 := Option.some.inj hL1
        subst hq1
        refine nrm_sub (l' := [(3, (.slice (some ⟨b1, 0, none⟩) (Int.toNat (List.length a1 : Int)) (Int.toNat (List.length a1 : Int))))]) ⟨rfl, trivial⟩ ?_
        exact ⟨x2, rfl, rfl, hC2⟩
  · rintro l2 _ w5 hs2 ⟨x4, rfl, rfl, hC7⟩
    try dsimp only at hF
    refine nrm_sub' hs2 ?_
    clear hs2
    refine W_seq_reg ?_
    refine WL_move rfl rfl ?_
    refine WL_assign rfl rfl ?_
    refine WL_nil ?_
    refine W_ret ?_
    have hq2 := Option.some.inj hF
    subst hq2
    refine fn_ret1 rfl rfl ?_
    exact ⟨_, rfl, own_res hC7 0 rfl⟩

theorem c_Q_eqCall {w0 : World} (a1 : (Int × Int × Int × Bool)) (a2 : (Int × Int × Int × Bool)) (rr : Bool) (hF : Q.eqCall a1 a2 = some rr) :
    Calls Try.prog 25 [(.agg #[(.int .i64 a1.1), (.int .i64 a1.2.1), (.int .i64 a1.2.2.1), (.bool a1.2.2.2)]), (.agg #[(.int .i64 a2.1), (.int .i64 a2.2.1), (.int .i64 a2.2.2.1), (.bool a2.2.2.2)])].toArray w0 fun e w' => ∃ v, e = .returned v ∧ Res w0 rr v w' := by
  refine calls_of_W Try.func25 rfl rfl ?_
  have hC0 := Ctx.start w0
  unfold Q.eqCall at hF
  refine W_seq_reg ?_
  refine WL_box (cs := [(.int .i64 a1.1), (.int .i64 a1.2.1), (.int .i64 a1.2.2.1), (.bool a1.2.2.2)]) hC0 rfl rfl rfl (fun b1 w1 hC1 hB1 => ?_)
  refine WL_box (cs := [(.int .i64 a2.1), (.int .i64 a2.2.1), (.int .i64 a2.2.2.1), (.bool a2.2.2.2)]) hC1 rfl rfl rfl (fun b2 w2 hC2 hB2 => ?_)
  refine WL_assign rfl rfl ?_
  refine WL_nil ?_
  refine W_seq ?_
  refine W_seq_reg ?_
  refine WL_field Try.underlying35 rfl rfl (fun w => ⟨_, Try.sizeOf3 w⟩) rfl rfl ?_
  refine WL_load_box hC2 1 rfl rfl Try.isAgg3 rfl rfl ?_
  refine WL_field Try.underlying35 rfl rfl (fun w => ⟨_, Try.sizeOf3 w⟩) rfl rfl ?_
  refine WL_load_box hC2 0 rfl rfl Try.isAgg3 rfl rfl ?_
  refine WL_neq rfl rfl rfl ?_
  refine WL_nil ?_
  refine W_cond rfl (fun hc1 => ?_) (fun hc1 => ?_)
  · replace hF := ite_t hF hc1
    refine W_seq_reg ?_
    refine WL_assign rfl rfl ?_
    refine WL_nil ?_
    refine W_ret ?_
    refine nrm_ret ?_
    have hq1 := Option.some.inj hF
    subst hq1
    refine fn_ret1 rfl rfl ?_
    exact ⟨_, rfl, bool_res hC2 _⟩
  · replace hF := ite_f hF hc1
    refine W_skip ?_
    refine nrm_normal ?_
    refine W_seq ?_
    refine W_seq_reg ?_
    refine WL_field Try.underlying35 rfl rfl (fun w => ⟨_, Try.sizeOf3 w⟩) rfl rfl ?_
    refine WL_load_box hC2 1 rfl rfl Try.isAgg3 rfl rfl ?_
    refine WL_field Try.underlying35 rfl rfl (fun w => ⟨_, Try.sizeOf3 w⟩) rfl rfl ?_
    refine WL_load_box hC2 0 rfl rfl Try.isAgg3 rfl rfl ?_
    refine WL_neq rfl rfl rfl ?_
    refine WL_nil ?_
    refine W_cond rfl (fun hc2 => ?_) (fun hc2 => ?_)
    · replace hF := ite_t hF hc2
      refine W_seq_reg ?_
      refine WL_assign rfl rfl ?_
      refine WL_nil ?_
      refine W_ret ?_
      refine nrm_ret ?_
      have hq2 := Option.some.inj hF
      subst hq2
      refine fn_ret1 rfl rfl ?_
      exact ⟨_, rfl, bool_res hC2 _⟩
    · replace hF := ite_f hF hc2
      refine W_skip ?_
      refine nrm_normal ?_
      refine W_seq ?_
      refine W_seq_reg ?_
      refine WL_field Try.underlying35 rfl rfl (fun w => ⟨_, Try.sizeOf3 w⟩) rfl rfl ?_
      refine WL_load_box hC2 1 rfl rfl Try.isAgg3 rfl rfl ?_
      refine WL_field Try.underlying35 rfl rfl (fun w => ⟨_, Try.sizeOf3 w⟩) rfl rfl ?_
      refine WL_load_box hC2 0 rfl rfl Try.isAgg3 rfl rfl ?_
      refine WL_neq rfl rfl rfl ?_
      refine WL_nil ?_
      refine W_cond rfl (fun hc3 => ?_) (fun hc3 => ?_)
      · replace hF := ite_t hF hc3
        refine W_seq_reg ?_
        refine WL_assign rfl rfl ?_
        refine WL_nil ?_
        refine W_ret ?_
        refine nrm_ret ?_
        have hq3 := Option.some.inj hF
        subst hq3
        refine fn_ret1 rfl rfl ?_
        exact ⟨_, rfl, bool_res hC2 _⟩
      · replace hF := ite_f hF hc3
        refine W_skip ?_
        refine nrm_normal ?_
        refine W_seq ?_
        refine W_seq_reg ?_
        refine WL_field Try.underlying35 rfl rfl (fun w => ⟨_, Try.sizeOf4 w⟩) rfl rfl ?_
        refine WL_load_box hC2 1 rfl rfl Try.isAgg4 rfl rfl ?_
        refine WL_field Try.underlying35 rfl rfl (fun w => ⟨_, Try.sizeOf4 w⟩) rfl rfl ?_
        refine WL_load_box hC2 0 rfl rfl Try.isAgg4 rfl rfl ?_
        refine WL_bool_neq Try.underlying4 rfl rfl rfl ?_
        refine WL_nil ?_
        refine W_cond rfl (fun hc4 => ?_) (fun hc4 => ?_)
        · replace hF := ite_t hF hc4
          refine W_seq_reg ?_
          refine WL_assign rfl rfl ?_
          refine WL_nil ?_
          refine W_ret ?_
          refine nrm_ret ?_
          have hq4 := Option.some.inj hF
          subst hq4
          refine fn_ret1 rfl rfl ?_
          exact ⟨_, rfl, bool_res hC2 _⟩
        · replace hF := ite_f hF hc4
          refine W_skip ?_
          refine nrm_normal ?_
          refine W_seq_reg ?_
          refine WL_assign rfl rfl ?_
          refine WL_nil ?_
          refine W_ret ?_
          have hq5 := Option.some.inj hF
          subst hq5
          refine fn_ret1 rfl rfl ?_
          exact ⟨_, rfl, bool_res hC2 _⟩

theorem c_Q_eqCallS {w0 : World} (a1 : (List (Int × Int × Int × Bool))) (u1 : Value) (g1 : RO [] w0 u1 a1) (a2 : (List (Int × Int × Int × Bool))) (u2 : Value) (g2 : RO [] w0 u2 a2) (rr : Bool) (hF : Q.eqCallS a1 a2 = some rr) :
    Calls Try.prog 48 [u1, u2].toArray w0 fun e w' => ∃ v, e = .returned v ∧ Res w0 rr v w' := by
  refine calls_of_W Try.func48 rfl rfl ?_
  have hC0 := Ctx.start w0
  unfold Q.eqCallS at hF
  refine W_seq_reg ?_
  refine WL_assign rfl rfl ?_
  refine WL_nil ?_
  refine W_seq ?_
  refine W_seq_reg ?_
  refine WL_move rfl rfl ?_
  refine WL_len Try.underlying60 g1 rfl rfl ?_
  refine WL_move rfl rfl ?_
  refine WL_len Try.underlying60 g2 rfl rfl ?_
  refine WL_neq rfl rfl rfl ?_
  refine WL_nil ?_
  refine W_cond rfl (fun hc1 => ?_) (fun hc1 => ?_)
  · replace hF := ite_t hF hc1
    refine W_seq_reg ?_
    refine WL_assign rfl rfl ?_
    refine WL_nil ?_
    refine W_ret ?_
    refine nrm_ret ?_
    have hq1 := Option.some.inj hF
    subst hq1
    refine fn_ret1 rfl rfl ?_
    exact ⟨_, rfl, bool_res hC0 _⟩
  · replace hF := ite_f hF hc1
    refine W_skip ?_
    refine nrm_normal ?_
    refine W_seq ?_
    refine W_seq_reg ?_
    refine WL_assign rfl rfl ?_
    refine WL_nil ?_
    obtain ⟨r1, hr1, hF⟩ := bind_some hF
    refine W_norm (fun l w => .inl () = r1 ∧ l = [] ∧ Below w0.heap.size w0 w ∧ Ctx [] w0 w []) ?_ ?_
    · refine W_block ?_
      refine W.sub (l' := [(0, u1), (1, u2), (5, (.int .i64 0))]) ?_ ⟨rfl, rfl, rfl, trivial⟩
      refine W_loop (fun k l w => ∃ x1 : Int, l = [(0, u1), (1, u2), (5, (.int .i64 x1))] ∧ Below w0.heap.size w0 w ∧ Ctx [] w0 w [] ∧ Q.eqCallS_l1 a1 a2 k x1 = some r1) FUEL ⟨0, rfl, (Below.refl _ _), hC0, hr1⟩ ?_
      clear hr1
      rintro k1 _ w1 ⟨x1, rfl, hB1, hC1, hL1⟩
      cases k1 with
      | zero => rw [Q.eqCallS_l1] at hL1; cases hL1
      | succ k1 =>
        rw [Q.eqCallS_l1] at hL1
        refine W_seq ?_
        refine W_seq_reg ?_
        refine WL_move rfl rfl ?_
        refine WL_move rfl rfl ?_
        refine WL_len Try.underlying60 g1 rfl rfl ?_
        refine WL_lss rfl rfl rfl ?_
        refine WL_nil ?_
        refine W_cond rfl (fun hc2 => ?_) (fun hc2 => ?_)
        · replace hL1 := ite_t hL1 hc2
          refine W_skip ?_
          refine nrm_normal ?_
          refine W_seq ?_
          refine W_block ?_
          refine W_seq ?_
          refine W_drawn 10 rfl hmix (fun w2 hB2 => ?_)
          have hC2 := hC1.grow hB2
          refine WA_take 0 rfl (by kernel_rfl) (by kernel_rfl) (by kernel_rfl) rfl (fl_move rfl) ?_
          refine WL_move rfl rfl ?_
          refine WL_nil ?_
          refine WA_take 1 rfl (by kernel_rfl) (by kernel_rfl) (by kernel_rfl) rfl (fl_move rfl) ?_
          refine WL_move rfl rfl ?_
          refine WL_nil ?_
          obtain ⟨x2, hx1, hL1⟩ := bind_some hL1
          refine WA_take 2 rfl (by kernel_rfl) (by kernel_rfl) (by kernel_rfl) rfl (fl_index Try.underlying60 ty35 g1 hx1 rfl rfl) ?_
          refine WL_index Try.underlying60 ty35 g1 hx1 rfl rfl rfl (fun b1 o1 h1 => ?_)
          refine WL_nil ?_
          refine WA_take 4 rfl (by kernel_rfl) (by kernel_rfl) (by kernel_rfl) rfl (fl_move rfl) ?_
          refine WL_move rfl rfl ?_
          refine WL_nil ?_
          refine WA_take 5 rfl (by kernel_rfl) (by kernel_rfl) (by kernel_rfl) rfl (fl_move rfl) ?_
          refine WL_move rfl rfl ?_
          refine WL_nil ?_
          obtain ⟨x3, hx2, hL1⟩ := bind_some hL1
          refine WA_take 6 rfl (by kernel_rfl) (by kernel_rfl) (by kernel_rfl) rfl (fl_index Try.underlying60 ty35 g2 hx2 rfl rfl) ?_
          refine WL_index Try.underlying60 ty35 g2 hx2 rfl rfl rfl (fun b2 o2 h2 => ?_)
          refine WL_nil ?_
          refine WA.sub (l' := [(0, u1), (1, u2), (5, (.int .i64 x1)), (11, (.int .i64 x1)), (12, u1), (13, (.int .i64 (List.length a1 : Int))), (14, (.bool (decide (x1 < (List.length a1 : Int))))), (17, u1), (18, (.int .i64 x1)), (19, (ptr b1 o1)), (21, u2), (22, (.int .i64 x1)), (23, (ptr b2 o2))]) ?_ ⟨rfl, rfl, rfl, rfl, rfl, rfl, rfl, rfl, rfl, rfl, rfl, rfl, rfl, trivial⟩
          refine WA_postsE [⟨3, [], fun vs => PW.val (.agg #[(.int .i64 x2.1), (.int .i64 x2.2.1), (.int .i64 x2.2.2.1), (.bool x2.2.2.2)]), []⟩, ⟨7, [], fun vs => PW.val (.agg #[(.int .i64 x3.1), (.int .i64 x3.2.1), (.int .i64 x3.2.2.1), (.bool x3.2.2.2)]), []⟩] [[], []] 2 rfl (by kernel_rfl) (by kernel_rfl) rfl ?_ ?_
          · refine StepsE_cons rfl ?_ ?_
            · intro w3 hB3
              refine DepsE_nil ?_
              refine ⟨_, rfl, ?_⟩
              refine WL_load ty35 h1 (hC2.keep.then hB3) rfl rfl (fun v1 h3 => ?_)
              obtain rfl := ro_st35 h3
              refine WL_nil ?_
              exact FinE_val (Below.refl _ _) rfl rfl ⟨rfl, rfl⟩
            refine StepsE_cons rfl ?_ ?_
            · intro w3 hB3
              refine DepsE_nil ?_
              refine ⟨_, rfl, ?_⟩
              refine WL_load ty35 h2 (hC2.keep.then hB3) rfl rfl (fun v2 h4 => ?_)
              obtain rfl := ro_st35 h4
              refine WL_nil ?_
              exact FinE_val (Below.refl _ _) rfl rfl ⟨rfl, rfl⟩
            exact StepsE_nil
          · intro w4 hB4
            refine AllE_cons rfl rfl rfl ?_
            rintro _ _ ⟨rfl, rfl⟩
            refine AllE_cons rfl rfl rfl ?_
            rintro _ _ ⟨rfl, rfl⟩
            refine AllE_nil ?_
            intro hn1 hb1
            have hC3 := hC2.grow hB4
            obtain ⟨x4, hr2, hL1⟩ := bind_some hL1
            refine WA_one 8 (by kernel_rfl) rfl ?_
            refine WL_call Try.call25 rfl rfl (c_Q_eqCall x2 x3 x4 hr2) ?_
            intro _ w5 hv1
            obtain ⟨rfl, hB5⟩ := res_bool hv1
            have hC4 := hC3.grow hB5
            refine WL_nil ?_
            refine WA_take 9 rfl (by kernel_rfl) (by kernel_rfl) (by kernel_rfl) rfl (fl_not rfl) ?_
            refine WL_not rfl rfl ?_
            refine WL_nil ?_
            refine WA_done (by kernel_rfl) ?_
            refine nrm_normal ?_
            refine W_cond rfl (fun hc3 => ?_) (fun hc3 => ?_)
            · replace hL1 := ite_t hL1 hc3
              refine W_seq_reg ?_
              refine WL_assign rfl rfl ?_
              refine WL_nil ?_
              refine W_ret ?_
              refine blk_ret ?_
              refine nrm_ret ?_
              refine nrm_ret ?_
              refine blk_ret ?_
              refine nrm_ret ?_
              refine nrm_ret ?_
              have hq2 := Option.some.inj hL1
              subst hq2
              dsimp only at hF
              have hq3 := Option.some.inj hF
              subst hq3
              refine fn_ret1 rfl rfl ?_
              exact ⟨_, rfl, bool_res hC4 _⟩
            · replace hL1 := ite_f hL1 hc3
              refine W_skip ?_
              refine blk_normal ?_
              refine nrm_normal ?_
              refine W_reg ?_
              refine WL_move rfl rfl ?_
              refine WL_add rfl rfl rfl ?_
              refine WL_assign rfl rfl ?_
              refine WL_nil ?_
              refine nrm_sub (l' := [(0, u1), (1, u2), (5, (.int .i64 (w64 (x1 + 1))))]) ⟨rfl, rfl, rfl, trivial⟩ ?_
              exact ⟨k1, Nat.lt_succ_self _, w64 (x1 + 1), rfl, ((((Keep.of hB1).then hB2).then hB4).then hB5).below, hC4, hL1⟩
        · replace hL1 := ite_f hL1 hc2
          refine W_exit ?_
          refine nrm_exit ?_
          refine nrm_exit ?_
          refine blk_exit ?_
          have hq4 := Option.some.inj hL1
          subst hq4
          refine nrm_sub (l' := []) trivial ?_
          exact ⟨rfl, rfl, (Keep.of hB1).below, hC1⟩
    · rintro l2 _ w6 hs2 ⟨rfl, rfl, hB6, hC5⟩
      try dsimp only at hF
      refine nrm_sub' hs2 ?_
      clear hs2
      refine W_seq_reg ?_
      refine WL_assign rfl rfl ?_
      refine WL_nil ?_
      refine W_ret ?_
      have hq5 := Option.some.inj hF
      subst hq5
      refine fn_ret1 rfl rfl ?_
      exact ⟨_, rfl, bool_res hC5 _⟩

theorem c_Q_markCallS {w0 : World} {Fs : List (List Nat)} (a1 : (List (Int × Int × Int × Bool))) (u1 : Value) (a2 : Int) (hH : Hold [Item.own u1 (a1 : (List (Int × Int × Int × Bool)))] w0 Fs) (hn : Fs.flatten.Nodup) (rr : (Int × (List (Int × Int × Int × Bool)))) (hF : Q.markCallS a1 a2 = some rr) :
    Calls Try.prog 49 [u1, (.int .i64 a2)].toArray w0 fun e w' => ∃ v, e = .returned v ∧ v = (.int .i64 rr.1) ∧ Ctx Fs.flatten w0 w' [Item.own u1 (rr.2 : (List (Int × Int × Int × Bool)))] := by
  refine calls_of_W Try.func49 rfl rfl ?_
  have hC0 := Ctx.startIn hH hn
  unfold Q.markCallS at hF
  refine W_seq_reg ?_
  refine WL_assign rfl rfl ?_
  refine WL_nil ?_
  refine W_seq ?_
  refine W_seq_reg ?_
  refine WL_assign rfl rfl ?_
  refine WL_nil ?_
  obtain ⟨r1, hr1, hF⟩ := bind_some hF
  refine W_norm (fun l w => ∃ x4 : (List (Int × Int × Int × Bool)), ∃ x5 : Int, (x4, x5) = r1 ∧ l = [(1, (.int .i64 x5))] ∧ Ctx Fs.flatten w0 w [Item.own u1 (x4 : (List (Int × Int × Int × Bool)))]) ?_ ?_
  · refine W_block ?_
    refine W.sub (l' := [(0, u1), (1, (.int .i64 a2)), (5, (.int .i64 0))]) ?_ ⟨rfl, rfl, rfl, trivial⟩
    refine W_loop (fun k l w => ∃ x1 : (List (Int × Int × Int × Bool)), ∃ x2 : Int, ∃ x3 : Int, l = [(0, u1), (1, (.int .i64 x2)), (5, (.int .i64 x3))] ∧ Ctx Fs.flatten w0 w [Item.own u1 (x1 : (List (Int × Int × Int × Bool)))] ∧ Q.markCallS_l1 k x1 x2 x3 = some r1) FUEL ⟨a1, a2, 0, rfl, hC0, hr1⟩ ?_
    clear hr1
    rintro k1 _ w1 ⟨x1, x2, x3, rfl, hC1, hL1⟩
    cases k1 with
    | zero => rw [Q.markCallS_l1] at hL1; cases hL1
    | succ k1 =>
      rw [Q.markCallS_l1] at hL1
      refine W_seq ?_
      refine W_seq_reg ?_
      refine WL_move rfl rfl ?_
      refine WL_move rfl rfl ?_
      refine WL_len Try.underlying60 (hC1.ro 0 rfl) rfl rfl ?_
      refine WL_lss rfl rfl rfl ?_
      refine WL_nil ?_
      refine W_cond rfl (fun hc1 => ?_) (fun hc1 => ?_)
      · replace hL1 := ite_t hL1 hc1
        refine W_skip ?_
        refine nrm_normal ?_
        refine W_seq ?_
        refine W_block ?_
        refine W_seq_reg ?_
        refine WL_move rfl rfl ?_
        refine WL_move rfl rfl ?_
        refine WL_move rfl rfl ?_
        obtain ⟨x6, hx1, hL1⟩ := bind_some hL1
        refine WL_index_own hC1 0 rfl Try.underlying60 ty35 hx1 rfl rfl rfl (fun b1 hE1 => ?_)
        refine WL_field Try.underlying35 rfl rfl (fun w => ⟨_, Try.sizeOf3 w⟩) rfl rfl ?_
        obtain ⟨cs1, hC3⟩ := hC1.openElem hx1
        obtain ⟨he1, hC4⟩ := st35_own (hC3.cellsOwn rfl)
        obtain rfl := cells_of_agg he1
        refine WL_store_hole (fo := 0) (cs' := [(.int .i64 x2), (.int .i64 x6.2.1), (.int .i64 x6.2.2.1), (.bool x6.2.2.2)]) hC4 0 rfl hE1 rfl rfl rfl rfl Try.sizeOf3 rfl rfl (fun w2 hC2 => ?_)
        try dsimp only [List.set] at hC2
        have hC5 := own_st35 x2 x6.2.1 x6.2.2.1 x6.2.2.2 hC2
        have hC6 := hC5.ownCells.closeElem
        refine WL_nil ?_
        refine W_seq_reg ?_
        refine WL_move rfl rfl ?_
        refine WL_add rfl rfl rfl ?_
        refine WL_assign rfl rfl ?_
        refine WL_nil ?_
        refine W_seq_reg ?_
        refine WL_move rfl rfl ?_
        refine WL_move rfl rfl ?_
        refine WL_move rfl rfl ?_
        obtain ⟨x7, hx2, hL1⟩ := bind_some hL1
        refine WL_index_own hC6 0 rfl Try.underlying60 ty35 hx2 rfl rfl rfl (fun b2 hE2 => ?_)
        refine WL_field Try.underlying35 rfl rfl (fun w => ⟨_, Try.sizeOf3 w⟩) rfl rfl ?_
        obtain ⟨cs2, hC8⟩ := hC6.openElem hx2
        obtain ⟨he2, hC9⟩ := st35_own (hC8.cellsOwn rfl)
        obtain rfl := cells_of_agg he2
        refine WL_store_hole (fo := 1) (cs' := [(.int .i64 x7.1), (.int .i64 (w64 (x2 + 1))), (.int .i64 x7.2.2.1), (.bool x7.2.2.2)]) hC9 0 rfl hE2 rfl rfl rfl rfl Try.sizeOf3 rfl rfl (fun w3 hC7 => ?_)
        try dsimp only [List.set] at hC7
        have hC10 := own_st35 x7.1 (w64 (x2 + 1)) x7.2.2.1 x7.2.2.2 hC7
        have hC11 := hC10.ownCells.closeElem
        refine WL_nil ?_
        refine W_seq_reg ?_
        refine WL_move rfl rfl ?_
        refine WL_add rfl rfl rfl ?_
        refine WL_assign rfl rfl ?_
        refine WL_nil ?_
        refine W_seq_reg ?_
        refine WL_move rfl rfl ?_
        refine WL_move rfl rfl ?_
        refine WL_move rfl rfl ?_
        obtain ⟨x8, hx3, hL1⟩ := bind_some hL1
        refine WL_index_own hC11 0 rfl Try.underlying60 ty35 hx3 rfl rfl rfl (fun b3 hE3 => ?_)
        refine WL_field Try.underlying35 rfl rfl (fun w => ⟨_, Try.sizeOf3 w⟩) rfl rfl ?_
        obtain ⟨cs3, hC13⟩ := hC11.openElem hx3
        obtain ⟨he3, hC14⟩ := st35_own (hC13.cellsOwn rfl)
        obtain rfl := cells_of_agg he3
        refine WL_store_hole (fo := 2) (cs' := [(.int .i64 x8.1), (.int .i64 x8.2.1), (.int .i64 (w64 ((w64 (x2 + 1)) + 1))), (.bool x8.2.2.2)]) hC14 0 rfl hE3 rfl rfl rfl rfl Try.sizeOf3 rfl rfl (fun w4 hC12 => ?_)
        try dsimp only [List.set] at hC12
        have hC15 := own_st35 x8.1 x8.2.1 (w64 ((w64 (x2 + 1)) + 1)) x8.2.2.2 hC12
        have hC16 := hC15.ownCells.closeElem
        refine WL_nil ?_
        refine W_seq_reg ?_
        refine WL_move rfl rfl ?_
        refine WL_add rfl rfl rfl ?_
        refine WL_assign rfl rfl ?_
        refine WL_nil ?_
        refine W_seq_reg ?_
        refine WL_move rfl rfl ?_
        refine WL_move rfl rfl ?_
        refine WL_move rfl rfl ?_
        refine WL_rem (by decide) rfl rfl rfl ?_
        refine WL_eql rfl rfl rfl ?_
        obtain ⟨x9, hx4, hL1⟩ := bind_some hL1
        refine WL_index_own hC16 0 rfl Try.underlying60 ty35 hx4 rfl rfl rfl (fun b4 hE4 => ?_)
        refine WL_field Try.underlying35 rfl rfl (fun w => ⟨_, Try.sizeOf4 w⟩) rfl rfl ?_
        obtain ⟨cs4, hC18⟩ := hC16.openElem hx4
        obtain ⟨he4, hC19⟩ := st35_own (hC18.cellsOwn rfl)
        obtain rfl := cells_of_agg he4
        refine WL_store_hole (fo := 3) (cs' := [(.int .i64 x9.1), (.int .i64 x9.2.1), (.int .i64 x9.2.2.1), (.bool (decide (((w64 ((w64 ((w64 (x2 + 1)) + 1)) + 1)).tmod 3) = 0)))]) hC19 0 rfl hE4 rfl rfl rfl rfl Try.sizeOf4 rfl rfl (fun w5 hC17 => ?_)
        try dsimp only [List.set] at hC17
        have hC20 := own_st35 x9.1 x9.2.1 x9.2.2.1 (decide (((w64 ((w64 ((w64 (x2 + 1)) + 1)) + 1)).tmod 3) = 0)) hC17
        have hC21 := hC20.ownCells.closeElem
        refine WL_nil ?_
        refine W_reg ?_
        refine WL_move rfl rfl ?_
        refine WL_add rfl rfl rfl ?_
        refine WL_assign rfl rfl ?_
        refine WL_nil ?_
        refine blk_normal ?_
        refine nrm_normal ?_
        refine W_reg ?_
        refine WL_move rfl rfl ?_
        refine WL_add rfl rfl rfl ?_
        refine WL_assign rfl rfl ?_
        refine WL_nil ?_
        refine nrm_sub (l' := [(0, u1), (1, (.int .i64 (w64 ((w64 ((w64 ((w64 (x2 + 1)) + 1)) + 1)) + 1)))), (5, (.int .i64 (w64 (x3 + 1))))]) ⟨rfl, rfl, rfl, trivial⟩ ?_
        exact ⟨k1, Nat.lt_succ_self _, (List.set (List.set (List.set (List.set x1 (Int.toNat x3) (x2, x6.2.1, x6.2.2.1, x6.2.2.2)) (Int.toNat x3) (x7.1, w64 (x2 + 1), x7.2.2.1, x7.2.2.2)) (Int.toNat x3) (x8.1, x8.2.1, w64 ((w64 (x2 + 1)) + 1), x8.2.2.2)) (Int.toNat x3) (x9.1, x9.2.1, x9.2.2.1, (decide (((w64 ((w64 ((w64 (x2 + 1)) + 1)) + 1)).tmod 3) = 0)))), w64 ((w64 ((w64 ((w64 (x2 + 1)) + 1)) + 1)) + 1), w64 (x3 + 1), rfl, hC21, hL1⟩
      · replace hL1 := ite_f hL1 hc1
        refine W_exit ?_
        refine nrm_exit ?_
        refine nrm_exit ?_
        refine blk_exit ?_
        have hq1 := Option.some.inj hL1
        subst hq1
        refine nrm_sub (l' := [(1, (.int .i64 x2))]) ⟨rfl, trivial⟩ ?_
        exact ⟨x1, x2, rfl, rfl, hC1⟩
  · rintro l2 _ w6 hs2 ⟨x4, x5, rfl, rfl, hC22⟩
    try dsimp only at hF
    refine nrm_sub' hs2 ?_
    clear hs2
    refine W_seq_reg ?_
    refine WL_move rfl rfl ?_
    refine WL_assign rfl rfl ?_
    refine WL_nil ?_
    refine W_ret ?_
    have hq2 := Option.some.inj hF
    subst hq2
    refine fn_ret1 rfl rfl ?_
    exact ⟨_, rfl, rfl, hC22⟩

theorem c_Q_heldCallS {w0 : World} (a1 : (List (Int × Int × Int × Bool))) (u1 : Value) (g1 : RO [] w0 u1 a1) (a2 : Int) (rr : Int) (hF : Q.heldCallS a1 a2 = some rr) :
    Calls Try.prog 50 [u1, (.int .i64 a2)].toArray w0 fun e w' => ∃ v, e = .returned v ∧ Res w0 rr v w' := by
  refine calls_of_W Try.func50 rfl rfl ?_
  have hC0 := Ctx.start w0
  unfold Q.heldCallS at hF
  refine W_seq_reg ?_
  refine WL_assign rfl rfl ?_
  refine WL_nil ?_
  refine W_seq ?_
  refine W_seq_reg ?_
  refine WL_assign rfl rfl ?_
  refine WL_nil ?_
  obtain ⟨r1, hr1, hF⟩ := bind_some hF
  refine W_norm (fun l w => ∃ x3 : Int, .inl x3 = r1 ∧ l = [(1, (.int .i64 x3))] ∧ Below w0.heap.size w0 w ∧ Ctx [] w0 w []) ?_ ?_
  · refine W_block ?_
    refine W.sub (l' := [(0, u1), (1, (.int .i64 a2)), (5, (.int .i64 0))]) ?_ ⟨rfl, rfl, rfl, trivial⟩
    refine W_loop (fun k l w => ∃ x1 : Int, ∃ x2 : Int, l = [(0, u1), (1, (.int .i64 x1)), (5, (.int .i64 x2))] ∧ Below w0.heap.size w0 w ∧ Ctx [] w0 w [] ∧ Q.heldCallS_l1 a1 k x1 x2 = some r1) FUEL ⟨a2, 0, rfl, (Below.refl _ _), hC0, hr1⟩ ?_
    clear hr1
    rintro k1 _ w1 ⟨x1, x2, rfl, hB1, hC1, hL1⟩
    cases k1 with
    | zero => rw [Q.heldCallS_l1] at hL1; cases hL1
    | succ k1 =>
      rw [Q.heldCallS_l1] at hL1
      refine W_seq ?_
      refine W_seq_reg ?_
      refine WL_move rfl rfl ?_
      refine WL_move rfl rfl ?_
      refine WL_len Try.underlying60 g1 rfl rfl ?_
      refine WL_lss rfl rfl rfl ?_
      refine WL_nil ?_
      refine W_cond rfl (fun hc1 => ?_) (fun hc1 => ?_)
      · replace hL1 := ite_t hL1 hc1
        refine W_skip ?_
        refine nrm_normal ?_
        refine W_seq ?_
        refine W_block ?_
        refine W_seq ?_
        refine W_seq_reg ?_
        refine WL_move rfl rfl ?_
        refine WL_move rfl rfl ?_
        obtain ⟨x4, hx1, hL1⟩ := bind_some hL1
        refine WL_index Try.underlying60 ty35 g1 hx1 rfl rfl rfl (fun b1 o1 h1 => ?_)
        refine WL_field Try.underlying35 rfl rfl (fun w => ⟨_, Try.sizeOf3 w⟩) rfl rfl ?_
        refine WL_load ty3 h1.fst hC1.keep rfl rfl (fun v1 h2 => ?_)
        obtain rfl := ro_int h2
        refine WL_move rfl rfl ?_
        refine WL_neq rfl rfl rfl ?_
        refine WL_nil ?_
        refine W_cond rfl (fun hc2 => ?_) (fun hc2 => ?_)
        · replace hL1 := ite_t hL1 hc2
          refine W_seq_reg ?_
          refine WL_assign rfl rfl ?_
          refine WL_nil ?_
          refine W_ret ?_
          refine nrm_ret ?_
          refine blk_ret ?_
          refine nrm_ret ?_
          refine nrm_ret ?_
          refine blk_ret ?_
          refine nrm_ret ?_
          refine nrm_ret ?_
          have hq1 := Option.some.inj hL1
          subst hq1
          dsimp only at hF
          have hq2 := Option.some.inj hF
          subst hq2
          refine fn_ret1 rfl rfl ?_
          exact ⟨_, rfl, int_res hC1 _⟩
        · replace hL1 := ite_f hL1 hc2
          refine W_skip ?_
          refine nrm_normal ?_
          refine W_seq_reg ?_
          refine WL_move rfl rfl ?_
          refine WL_add rfl rfl rfl ?_
          refine WL_assign rfl rfl ?_
          refine WL_nil ?_
          refine W_seq ?_
          refine W_seq_reg ?_
          refine WL_move rfl rfl ?_
          refine WL_move rfl rfl ?_
          obtain ⟨x5, hx2, hL1⟩ := bind_some hL1
          refine WL_index Try.underlying60 ty35 g1 hx2 rfl rfl rfl (fun b2 o2 h3 => ?_)
          refine WL_field Try.underlying35 rfl rfl (fun w => ⟨_, Try.sizeOf3 w⟩) rfl rfl ?_
          refine WL_load ty3 h3.snd.fst hC1.keep rfl rfl (fun v2 h4 => ?_)
          obtain rfl := ro_int h4
          refine WL_move rfl rfl ?_
          refine WL_neq rfl rfl rfl ?_
          refine WL_nil ?_
          refine W_cond rfl (fun hc3 => ?_) (fun hc3 => ?_)
          · replace hL1 := ite_t hL1 hc3
            refine W_seq_reg ?_
            refine WL_assign rfl rfl ?_
            refine WL_nil ?_
            refine W_ret ?_
            refine nrm_ret ?_
            refine blk_ret ?_
            refine nrm_ret ?_
            refine nrm_ret ?_
            refine blk_ret ?_
            refine nrm_ret ?_
            refine nrm_ret ?_
            have hq3 := Option.some.inj hL1
            subst hq3
            dsimp only at hF
            have hq4 := Option.some.inj hF
            subst hq4
            refine fn_ret1 rfl rfl ?_
            exact ⟨_, rfl, int_res hC1 _⟩
          · replace hL1 := ite_f hL1 hc3
            refine W_skip ?_
            refine nrm_normal ?_
            refine W_seq_reg ?_
            refine WL_move rfl rfl ?_
            refine WL_add rfl rfl rfl ?_
            refine WL_assign rfl rfl ?_
            refine WL_nil ?_
            refine W_seq ?_
            refine W_seq_reg ?_
            refine WL_move rfl rfl ?_
            refine WL_move rfl rfl ?_
            obtain ⟨x6, hx3, hL1⟩ := bind_some hL1
            refine WL_index Try.underlying60 ty35 g1 hx3 rfl rfl rfl (fun b3 o3 h5 => ?_)
            refine WL_field Try.underlying35 rfl rfl (fun w => ⟨_, Try.sizeOf3 w⟩) rfl rfl ?_
            refine WL_load ty3 h5.snd.snd.fst hC1.keep rfl rfl (fun v3 h6 => ?_)
            obtain rfl := ro_int h6
            refine WL_move rfl rfl ?_
            refine WL_neq rfl rfl rfl ?_
            refine WL_nil ?_
            refine W_cond rfl (fun hc4 => ?_) (fun hc4 => ?_)
            · replace hL1 := ite_t hL1 hc4
              refine W_seq_reg ?_
              refine WL_assign rfl rfl ?_
              refine WL_nil ?_
              refine W_ret ?_
              refine nrm_ret ?_
              refine blk_ret ?_
              refine nrm_ret ?_
              refine nrm_ret ?_
              refine blk_ret ?_
              refine nrm_ret ?_
              refine nrm_ret ?_
              have hq5 := Option.some.inj hL1
              subst hq5
              dsimp only at hF
              have hq6 := Option.some.inj hF
              subst hq6
              refine fn_ret1 rfl rfl ?_
              exact ⟨_, rfl, int_res hC1 _⟩
            · replace hL1 := ite_f hL1 hc4
              refine W_skip ?_
              refine nrm_normal ?_
              refine W_seq_reg ?_
              refine WL_move rfl rfl ?_
              refine WL_add rfl rfl rfl ?_
              refine WL_assign rfl rfl ?_
              refine WL_nil ?_
              refine W_seq ?_
              refine W_seq_reg ?_
              refine WL_move rfl rfl ?_
              refine WL_move rfl rfl ?_
              obtain ⟨x7, hx4, hL1⟩ := bind_some hL1
              refine WL_index Try.underlying60 ty35 g1 hx4 rfl rfl rfl (fun b4 o4 h7 => ?_)
              refine WL_field Try.underlying35 rfl rfl (fun w => ⟨_, Try.sizeOf4 w⟩) rfl rfl ?_
              refine WL_load ty4 h7.snd.snd.snd hC1.keep rfl rfl (fun v4 h8 => ?_)
              obtain rfl := ro_bool h8
              refine WL_move rfl rfl ?_
              refine WL_rem (by decide) rfl rfl rfl ?_
              refine WL_eql rfl rfl rfl ?_
              refine WL_bool_neq Try.underlying4 rfl rfl rfl ?_
              refine WL_nil ?_
              refine W_cond rfl (fun hc5 => ?_) (fun hc5 => ?_)
              · replace hL1 := ite_t hL1 hc5
                refine W_seq_reg ?_
                refine WL_assign rfl rfl ?_
                refine WL_nil ?_
                refine W_ret ?_
                refine nrm_ret ?_
                refine blk_ret ?_
                refine nrm_ret ?_
                refine nrm_ret ?_
                refine blk_ret ?_
                refine nrm_ret ?_
                refine nrm_ret ?_
                have hq7 := Option.some.inj hL1
                subst hq7
                dsimp only at hF
                have hq8 := Option.some.inj hF
                subst hq8
                refine fn_ret1 rfl rfl ?_
                exact ⟨_, rfl, int_res hC1 _⟩
              · replace hL1 := ite_f hL1 hc5
                refine W_skip ?_
                refine nrm_normal ?_
                refine W_reg ?_
                refine WL_move rfl rfl ?_
                refine WL_add rfl rfl rfl ?_
                refine WL_assign rfl rfl ?_
                refine WL_nil ?_
                refine blk_normal ?_
                refine nrm_normal ?_
                refine W_reg ?_
                refine WL_move rfl rfl ?_
                refine WL_add rfl rfl rfl ?_
                refine WL_assign rfl rfl ?_
                refine WL_nil ?_
                refine nrm_sub (l' := [(0, u1), (1, (.int .i64 (w64 ((w64 ((w64 ((w64 (x1 + 1)) + 1)) + 1)) + 1)))), (5, (.int .i64 (w64 (x2 + 1))))]) ⟨rfl, rfl, rfl, trivial⟩ ?_
                exact ⟨k1, Nat.lt_succ_self _, w64 ((w64 ((w64 ((w64 (x1 + 1)) + 1)) + 1)) + 1), w64 (x2 + 1), rfl, (Keep.of hB1).below, hC1, hL1⟩
      · replace hL1 := ite_f hL1 hc1
        refine W_exit ?_
        refine nrm_exit ?_
        refine nrm_exit ?_
        refine blk_exit ?_
        have hq9 := Option.some.inj hL1
        subst hq9
        refine nrm_sub (l' := [(1, (.int .i64 x1))]) ⟨rfl, trivial⟩ ?_
        exact ⟨x1, rfl, rfl, (Keep.of hB1).below, hC1⟩
  · rintro l2 _ w2 hs2 ⟨x3, rfl, rfl, hB2, hC2⟩
    try dsimp only at hF
    refine nrm_sub' hs2 ?_
    clear hs2
    refine W_seq_reg ?_
    refine WL_move rfl rfl ?_
    refine WL_assign rfl rfl ?_
    refine WL_nil ?_
    refine W_ret ?_
    have hq10 := Option.some.inj hF
    subst hq10
    refine fn_ret1 rfl rfl ?_
    exact ⟨_, rfl, int_res hC2 _⟩

end Go.Gx.Px
