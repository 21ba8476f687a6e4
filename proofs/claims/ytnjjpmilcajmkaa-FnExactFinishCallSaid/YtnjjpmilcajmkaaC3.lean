/- The contracts of the Go functions against the pure functions, printed by program. Conditions: each says them. -/
import Derived.Test.YtnjjpmilcajmkaaC2
set_option linter.unusedVariables false
set_option linter.unusedSimpArgs false
set_option maxRecDepth 100000
set_option maxHeartbeats 4000000
namespace Go.Gx.Px
open Go.Proofs Go.RowKit

theorem c_M_TryCall {w0 : World} (a1 : ((List Int) × Int × Int)) (u1 : Value) (g1 : RO [] w0 u1 a1.1) (a2 : (Int × Int × Int × Bool)) (a3 : Int) (rr : (((List Int) × Int × Int) × (Int × Int × Int × Bool) × Bool)) (hF : M.TryCall a1 a2 a3 = some rr) :
    Calls Try.prog 24 [(.agg #[u1, (.int .i64 a1.2.1), (.int .i64 a1.2.2)]), (.agg #[(.int .i64 a2.1), (.int .i64 a2.2.1), (.int .i64 a2.2.2.1), (.bool a2.2.2.2)]), (.int .i64 a3)].toArray w0 fun e w' => ∃ v, e = .returned v ∧ Res3 w0 rr.1 rr.2.1 rr.2.2 v w' := by
  refine calls_of_W Try.func24 rfl rfl ?_
  have hC0 := Ctx.start w0
  unfold M.TryCall at hF
  refine W_seq_reg ?_
  refine WL_box (cs := [u1, (.int .i64 a1.2.1), (.int .i64 a1.2.2)]) hC0 rfl rfl rfl (fun b1 w1 hC1 hB1 => ?_)
  refine WL_box (cs := [(.int .i64 a2.1), (.int .i64 a2.2.1), (.int .i64 a2.2.2.1), (.bool a2.2.2.2)]) hC1 rfl rfl rfl (fun b2 w2 hC2 hB2 => ?_)
  refine WL_alloc hC2 zero26 rfl rfl (fun b3 w3 hC3 hB3 => ?_)
  refine WL_alloc hC3 zero35 rfl rfl (fun b4 w4 hC4 hB4 => ?_)
  refine WL_assign rfl rfl ?_
  refine WL_nil ?_
  refine W_seq_reg ?_
  refine WL_load_box_agg [u1, (.int .i64 a1.2.1), (.int .i64 a1.2.2)] hC4 3 rfl rfl rfl Try.isAgg26 Try.sizeOf26 rfl rfl ?_
  obtain ⟨x1, hr1, hF⟩ := bind_some hF
  refine WL_call Try.call93 rfl rfl (c_M_copyLedger (a1.1, a1.2.1, a1.2.2) u1 (g1.now hC4.keep) x1 hr1) ?_
  rintro v1 w5 ⟨hB5, F1, hv1, hn1, hb1⟩
  have hC5 := hC4.push hB5 (A := Item.own v1 x1) hv1 hn1 hb1
  obtain ⟨v2, rfl, hC6⟩ := st26_own hC5
  refine WL_alloc hC6 zero26 rfl rfl (fun b5 w6 hC7 hB6 => ?_)
  refine WL_store_box_agg (cs' := [v2, (.int .i64 x1.2.1), (.int .i64 x1.2.2)]) (new := [v2, (.int .i64 x1.2.1), (.int .i64 x1.2.2)]) hC7 0 rfl rfl (by intro v hv; simp only [List.mem_cons, List.not_mem_nil, or_false] at hv; rcases hv with rfl | rfl | rfl; exact (ro_one (hC7.ro 1 rfl)); exact rfl; exact rfl) rfl Try.sizeOf26 rfl rfl (fun w7 hC8 => ?_)
  try dsimp only [List.set] at hC8
  refine WL_nil ?_
  refine W_seq ?_
  obtain ⟨r1, hr2, hF⟩ := bind_some hF
  refine W_cut (fun l w => ∃ x2 : Bool, x2 = r1 ∧ l = [(2, (.int .i64 a3)), (4, (ptr b2 0)), (6, (ptr b3 0)), (7, (ptr b4 0)), (9, (ptr b5 0)), (46, (.bool x2))] ∧ Below w7.heap.size w7 w ∧ Ctx [] w0 w [Item.box b5 [v2, (.int .i64 x1.2.1), (.int .i64 x1.2.2)], Item.own v2 (x1.1 : (List Int)), Item.box b4 [(.int .i64 0), (.int .i64 0), (.int .i64 0), (.bool false)], Item.box b3 [(.slice none 0 0), (.int .i64 0), (.int .i64 0)], Item.box b2 [(.int .i64 a2.1), (.int .i64 a2.2.1), (.int .i64 a2.2.2.1), (.bool a2.2.2.2)]]) ?_ ?_
  · refine W_reg ?_
    refine WL_load_box_agg [u1, (.int .i64 a1.2.1), (.int .i64 a1.2.2)] hC8 5 rfl rfl rfl Try.isAgg26 Try.sizeOf26 rfl rfl ?_
    obtain ⟨x3, hr3, hr2⟩ := bind_some hr2
    refine WL_call Try.call31 rfl rfl (c_M_IsLedger (a1.1, a1.2.1, a1.2.2) u1 (g1.now hC8.keep) x3 hr3) ?_
    intro _ w9 hv2
    obtain ⟨rfl, hB8⟩ := res_bool hv2
    have hC10 := hC8.grow hB8
    refine WL_not rfl rfl ?_
    refine WL_move rfl rfl ?_
    refine WL_fork (fun hc1 => ?_) (fun hc1 => ?_)
    · replace hr2 := ite_t hr2 hc1
      refine WL_guard_skip rfl rfl (by simp) rfl ?_
      refine WL_guard_skip rfl rfl (by simp) rfl ?_
      refine WL_guard_skip rfl rfl (by simp) rfl ?_
      refine WL_guard_skip rfl rfl (by simp) rfl ?_
      refine WL_pick_t rfl rfl rfl ?_
      refine WL_move rfl rfl ?_
      refine WL_guard_skip rfl rfl (by simp) rfl ?_
      refine WL_guard_skip rfl rfl (by simp) rfl ?_
      refine WL_guard_skip rfl rfl (by simp) rfl ?_
      refine WL_guard_skip rfl rfl (by simp) rfl ?_
      refine WL_pick_t rfl rfl rfl ?_
      refine WL_move rfl rfl ?_
      refine WL_guard_skip rfl rfl (by simp) rfl ?_
      refine WL_guard_skip rfl rfl (by simp) rfl ?_
      refine WL_guard_skip rfl rfl (by simp) rfl ?_
      refine WL_guard_skip rfl rfl (by simp) rfl ?_
      refine WL_pick_t rfl rfl rfl ?_
      refine WL_move rfl rfl ?_
      refine WL_guard_skip rfl rfl (by simp) rfl ?_
      refine WL_guard_skip rfl rfl (by simp) rfl ?_
      refine WL_pick_t rfl rfl rfl ?_
      refine WL_move rfl rfl ?_
      refine WL_guard_skip rfl rfl (by simp) rfl ?_
      refine WL_guard_skip rfl rfl (by simp) rfl ?_
      refine WL_guard_skip rfl rfl (by simp) rfl ?_
      refine WL_pick_t rfl rfl rfl ?_
      refine WL_move rfl rfl ?_
      refine WL_guard_skip rfl rfl (by simp) rfl ?_
      refine WL_guard_skip rfl rfl (by simp) rfl ?_
      refine WL_guard_skip rfl rfl (by simp) rfl ?_
      refine WL_pick_t rfl rfl rfl ?_
      refine WL_nil ?_
      have hq1 := Option.some.inj hr2
      subst hq1
      have hC11 : Ctx [] w0 _ [Item.box b2 [(.int .i64 a2.1), (.int .i64 a2.2.1), (.int .i64 a2.2.2.1), (.bool a2.2.2.2)], Item.box b5 [v2, (.int .i64 x1.2.1), (.int .i64 x1.2.2)], Item.own v2 (x1.1 : (List Int)), Item.box b4 [(.int .i64 0), (.int .i64 0), (.int .i64 0), (.bool false)], Item.box b3 [(.slice none 0 0), (.int .i64 0), (.int .i64 0)], Item.box b1 [u1, (.int .i64 a1.2.1), (.int .i64 a1.2.2)]] := hC10.front 4 rfl
      have hC12 : Ctx [] w0 _ [Item.box b3 [(.slice none 0 0), (.int .i64 0), (.int .i64 0)], Item.box b2 [(.int .i64 a2.1), (.int .i64 a2.2.1), (.int .i64 a2.2.2.1), (.bool a2.2.2.2)], Item.box b5 [v2, (.int .i64 x1.2.1), (.int .i64 x1.2.2)], Item.own v2 (x1.1 : (List Int)), Item.box b4 [(.int .i64 0), (.int .i64 0), (.int .i64 0), (.bool false)], Item.box b1 [u1, (.int .i64 a1.2.1), (.int .i64 a1.2.2)]] := hC11.front 4 rfl
      have hC13 : Ctx [] w0 _ [Item.box b4 [(.int .i64 0), (.int .i64 0), (.int .i64 0), (.bool false)], Item.box b3 [(.slice none 0 0), (.int .i64 0), (.int .i64 0)], Item.box b2 [(.int .i64 a2.1), (.int .i64 a2.2.1), (.int .i64 a2.2.2.1), (.bool a2.2.2.2)], Item.box b5 [v2, (.int .i64 x1.2.1), (.int .i64 x1.2.2)], Item.own v2 (x1.1 : (List Int)), Item.box b1 [u1, (.int .i64 a1.2.1), (.int .i64 a1.2.2)]] := hC12.front 4 rfl
      have hC14 : Ctx [] w0 _ [Item.own v2 (x1.1 : (List Int)), Item.box b4 [(.int .i64 0), (.int .i64 0), (.int .i64 0), (.bool false)], Item.box b3 [(.slice none 0 0), (.int .i64 0), (.int .i64 0)], Item.box b2 [(.int .i64 a2.1), (.int .i64 a2.2.1), (.int .i64 a2.2.2.1), (.bool a2.2.2.2)], Item.box b5 [v2, (.int .i64 x1.2.1), (.int .i64 x1.2.2)], Item.box b1 [u1, (.int .i64 a1.2.1), (.int .i64 a1.2.2)]] := hC13.front 4 rfl
      have hC15 : Ctx [] w0 _ [Item.box b5 [v2, (.int .i64 x1.2.1), (.int .i64 x1.2.2)], Item.own v2 (x1.1 : (List Int)), Item.box b4 [(.int .i64 0), (.int .i64 0), (.int .i64 0), (.bool false)], Item.box b3 [(.slice none 0 0), (.int .i64 0), (.int .i64 0)], Item.box b2 [(.int .i64 a2.1), (.int .i64 a2.2.1), (.int .i64 a2.2.2.1), (.bool a2.2.2.2)], Item.box b1 [u1, (.int .i64 a1.2.1), (.int .i64 a1.2.2)]] := hC14.front 4 rfl
      have hC16 : Ctx [] w0 _ [Item.box b5 [v2, (.int .i64 x1.2.1), (.int .i64 x1.2.2)], Item.own v2 (x1.1 : (List Int)), Item.box b4 [(.int .i64 0), (.int .i64 0), (.int .i64 0), (.bool false)], Item.box b3 [(.slice none 0 0), (.int .i64 0), (.int .i64 0)], Item.box b2 [(.int .i64 a2.1), (.int .i64 a2.2.1), (.int .i64 a2.2.2.1), (.bool a2.2.2.2)]] := hC15.headN 5
      refine nrm_sub (l' := [(2, (.int .i64 a3)), (4, (ptr b2 0)), (6, (ptr b3 0)), (7, (ptr b4 0)), (9, (ptr b5 0)), (46, (.bool true))]) ⟨rfl, rfl, rfl, rfl, rfl, rfl, trivial⟩ ?_
      exact ⟨true, rfl, rfl, (Keep.of hB8).below, hC16⟩
    · replace hr2 := ite_f hr2 hc1
      refine WL_guard rfl rfl ?_
      refine WL_field Try.underlying35 rfl rfl (fun w => ⟨_, Try.sizeOf3 w⟩) rfl rfl ?_
      refine WL_guard rfl rfl ?_
      refine WL_load_box hC10 4 rfl rfl Try.isAgg3 rfl rfl ?_
      obtain ⟨x4, hr4, hr2⟩ := bind_some hr2
      refine WL_guard rfl rfl ?_
      refine WL_call Try.call94 rfl rfl (c_M_isKey a2.1 x4 hr4) ?_
      intro _ w10 hv3
      obtain ⟨rfl, hB9⟩ := res_bool hv3
      have hC17 := hC10.grow hB9
      refine WL_guard rfl rfl ?_
      refine WL_not rfl rfl ?_
      refine WL_pick_f rfl rfl rfl ?_
      refine WL_move rfl rfl ?_
      refine WL_fork (fun hc2 => ?_) (fun hc2 => ?_)
      · replace hr2 := ite_t hr2 hc2
        refine WL_guard_skip rfl rfl (by simp) rfl ?_
        refine WL_guard_skip rfl rfl (by simp) rfl ?_
        refine WL_guard_skip rfl rfl (by simp) rfl ?_
        refine WL_guard_skip rfl rfl (by simp) rfl ?_
        refine WL_pick_t rfl rfl rfl ?_
        refine WL_move rfl rfl ?_
        refine WL_guard_skip rfl rfl (by simp) rfl ?_
        refine WL_guard_skip rfl rfl (by simp) rfl ?_
        refine WL_guard_skip rfl rfl (by simp) rfl ?_
        refine WL_guard_skip rfl rfl (by simp) rfl ?_
        refine WL_pick_t rfl rfl rfl ?_
        refine WL_move rfl rfl ?_
        refine WL_guard_skip rfl rfl (by simp) rfl ?_
        refine WL_guard_skip rfl rfl (by simp) rfl ?_
        refine WL_pick_t rfl rfl rfl ?_
        refine WL_move rfl rfl ?_
        refine WL_guard_skip rfl rfl (by simp) rfl ?_
        refine WL_guard_skip rfl rfl (by simp) rfl ?_
        refine WL_guard_skip rfl rfl (by simp) rfl ?_
        refine WL_pick_t rfl rfl rfl ?_
        refine WL_move rfl rfl ?_
        refine WL_guard_skip rfl rfl (by simp) rfl ?_
        refine WL_guard_skip rfl rfl (by simp) rfl ?_
        refine WL_guard_skip rfl rfl (by simp) rfl ?_
        refine WL_pick_t rfl rfl rfl ?_
        refine WL_nil ?_
        have hq2 := Option.some.inj hr2
        subst hq2
        have hC18 : Ctx [] w0 _ [Item.box b2 [(.int .i64 a2.1), (.int .i64 a2.2.1), (.int .i64 a2.2.2.1), (.bool a2.2.2.2)], Item.box b5 [v2, (.int .i64 x1.2.1), (.int .i64 x1.2.2)], Item.own v2 (x1.1 : (List Int)), Item.box b4 [(.int .i64 0), (.int .i64 0), (.int .i64 0), (.bool false)], Item.box b3 [(.slice none 0 0), (.int .i64 0), (.int .i64 0)], Item.box b1 [u1, (.int .i64 a1.2.1), (.int .i64 a1.2.2)]] := hC17.front 4 rfl
        have hC19 : Ctx [] w0 _ [Item.box b3 [(.slice none 0 0), (.int .i64 0), (.int .i64 0)], Item.box b2 [(.int .i64 a2.1), (.int .i64 a2.2.1), (.int .i64 a2.2.2.1), (.bool a2.2.2.2)], Item.box b5 [v2, (.int .i64 x1.2.1), (.int .i64 x1.2.2)], Item.own v2 (x1.1 : (List Int)), Item.box b4 [(.int .i64 0), (.int .i64 0), (.int .i64 0), (.bool false)], Item.box b1 [u1, (.int .i64 a1.2.1), (.int .i64 a1.2.2)]] := hC18.front 4 rfl
        have hC20 : Ctx [] w0 _ [Item.box b4 [(.int .i64 0), (.int .i64 0), (.int .i64 0), (.bool false)], Item.box b3 [(.slice none 0 0), (.int .i64 0), (.int .i64 0)], Item.box b2 [(.int .i64 a2.1), (.int .i64 a2.2.1), (.int .i64 a2.2.2.1), (.bool a2.2.2.2)], Item.box b5 [v2, (.int .i64 x1.2.1), (.int .i64 x1.2.2)], Item.own v2 (x1.1 : (List Int)), Item.box b1 [u1, (.int .i64 a1.2.1), (.int .i64 a1.2.2)]] := hC19.front 4 rfl
        have hC21 : Ctx [] w0 _ [Item.own v2 (x1.1 : (List Int)), Item.box b4 [(.int .i64 0), (.int .i64 0), (.int .i64 0), (.bool false)], Item.box b3 [(.slice none 0 0), (.int .i64 0), (.int .i64 0)], Item.box b2 [(.int .i64 a2.1), (.int .i64 a2.2.1), (.int .i64 a2.2.2.1), (.bool a2.2.2.2)], Item.box b5 [v2, (.int .i64 x1.2.1), (.int .i64 x1.2.2)], Item.box b1 [u1, (.int .i64 a1.2.1), (.int .i64 a1.2.2)]] := hC20.front 4 rfl
        have hC22 : Ctx [] w0 _ [Item.box b5 [v2, (.int .i64 x1.2.1), (.int .i64 x1.2.2)], Item.own v2 (x1.1 : (List Int)), Item.box b4 [(.int .i64 0), (.int .i64 0), (.int .i64 0), (.bool false)], Item.box b3 [(.slice none 0 0), (.int .i64 0), (.int .i64 0)], Item.box b2 [(.int .i64 a2.1), (.int .i64 a2.2.1), (.int .i64 a2.2.2.1), (.bool a2.2.2.2)], Item.box b1 [u1, (.int .i64 a1.2.1), (.int .i64 a1.2.2)]] := hC21.front 4 rfl
        have hC23 : Ctx [] w0 _ [Item.box b5 [v2, (.int .i64 x1.2.1), (.int .i64 x1.2.2)], Item.own v2 (x1.1 : (List Int)), Item.box b4 [(.int .i64 0), (.int .i64 0), (.int .i64 0), (.bool false)], Item.box b3 [(.slice none 0 0), (.int .i64 0), (.int .i64 0)], Item.box b2 [(.int .i64 a2.1), (.int .i64 a2.2.1), (.int .i64 a2.2.2.1), (.bool a2.2.2.2)]] := hC22.headN 5
        refine nrm_sub (l' := [(2, (.int .i64 a3)), (4, (ptr b2 0)), (6, (ptr b3 0)), (7, (ptr b4 0)), (9, (ptr b5 0)), (46, (.bool true))]) ⟨rfl, rfl, rfl, rfl, rfl, rfl, trivial⟩ ?_
        exact ⟨true, rfl, rfl, ((Keep.of hB8).then hB9).below, hC23⟩
      · replace hr2 := ite_f hr2 hc2
        refine WL_guard rfl rfl ?_
        refine WL_field Try.underlying35 rfl rfl (fun w => ⟨_, Try.sizeOf3 w⟩) rfl rfl ?_
        refine WL_guard rfl rfl ?_
        refine WL_load_box hC17 4 rfl rfl Try.isAgg3 rfl rfl ?_
        obtain ⟨x5, hr5, hr2⟩ := bind_some hr2
        refine WL_guard rfl rfl ?_
        refine WL_call Try.call95 rfl rfl (c_M_isCost a2.2.1 x5 hr5) ?_
        intro _ w11 hv4
        obtain ⟨rfl, hB10⟩ := res_bool hv4
        have hC24 := hC17.grow hB10
        refine WL_guard rfl rfl ?_
        refine WL_not rfl rfl ?_
        refine WL_pick_f rfl rfl rfl ?_
        refine WL_move rfl rfl ?_
        refine WL_fork (fun hc3 => ?_) (fun hc3 => ?_)
        · replace hr2 := ite_t hr2 hc3
          refine WL_guard_skip rfl rfl (by simp) rfl ?_
          refine WL_guard_skip rfl rfl (by simp) rfl ?_
          refine WL_guard_skip rfl rfl (by simp) rfl ?_
          refine WL_guard_skip rfl rfl (by simp) rfl ?_
          refine WL_pick_t rfl rfl rfl ?_
          refine WL_move rfl rfl ?_
          refine WL_guard_skip rfl rfl (by simp) rfl ?_
          refine WL_guard_skip rfl rfl (by simp) rfl ?_
          refine WL_pick_t rfl rfl rfl ?_
          refine WL_move rfl rfl ?_
          refine WL_guard_skip rfl rfl (by simp) rfl ?_
          refine WL_guard_skip rfl rfl (by simp) rfl ?_
          refine WL_guard_skip rfl rfl (by simp) rfl ?_
          refine WL_pick_t rfl rfl rfl ?_
          refine WL_move rfl rfl ?_
          refine WL_guard_skip rfl rfl (by simp) rfl ?_
          refine WL_guard_skip rfl rfl (by simp) rfl ?_
          refine WL_guard_skip rfl rfl (by simp) rfl ?_
          refine WL_pick_t rfl rfl rfl ?_
          refine WL_nil ?_
          have hq3 := Option.some.inj hr2
          subst hq3
          have hC25 : Ctx [] w0 _ [Item.box b2 [(.int .i64 a2.1), (.int .i64 a2.2.1), (.int .i64 a2.2.2.1), (.bool a2.2.2.2)], Item.box b5 [v2, (.int .i64 x1.2.1), (.int .i64 x1.2.2)], Item.own v2 (x1.1 : (List Int)), Item.box b4 [(.int .i64 0), (.int .i64 0), (.int .i64 0), (.bool false)], Item.box b3 [(.slice none 0 0), (.int .i64 0), (.int .i64 0)], Item.box b1 [u1, (.int .i64 a1.2.1), (.int .i64 a1.2.2)]] := hC24.front 4 rfl
          have hC26 : Ctx [] w0 _ [Item.box b3 [(.slice none 0 0), (.int .i64 0), (.int .i64 0)], Item.box b2 [(.int .i64 a2.1), (.int .i64 a2.2.1), (.int .i64 a2.2.2.1), (.bool a2.2.2.2)], Item.box b5 [v2, (.int .i64 x1.2.1), (.int .i64 x1.2.2)], Item.own v2 (x1.1 : (List Int)), Item.box b4 [(.int .i64 0), (.int .i64 0), (.int .i64 0), (.bool false)], Item.box b1 [u1, (.int .i64 a1.2.1), (.int .i64 a1.2.2)]] := hC25.front 4 rfl
          have hC27 : Ctx [] w0 _ [Item.box b4 [(.int .i64 0), (.int .i64 0), (.int .i64 0), (.bool false)], Item.box b3 [(.slice none 0 0), (.int .i64 0), (.int .i64 0)], Item.box b2 [(.int .i64 a2.1), (.int .i64 a2.2.1), (.int .i64 a2.2.2.1), (.bool a2.2.2.2)], Item.box b5 [v2, (.int .i64 x1.2.1), (.int .i64 x1.2.2)], Item.own v2 (x1.1 : (List Int)), Item.box b1 [u1, (.int .i64 a1.2.1), (.int .i64 a1.2.2)]] := hC26.front 4 rfl
          have hC28 : Ctx [] w0 _ [Item.own v2 (x1.1 : (List Int)), Item.box b4 [(.int .i64 0), (.int .i64 0), (.int .i64 0), (.bool false)], Item.box b3 [(.slice none 0 0), (.int .i64 0), (.int .i64 0)], Item.box b2 [(.int .i64 a2.1), (.int .i64 a2.2.1), (.int .i64 a2.2.2.1), (.bool a2.2.2.2)], Item.box b5 [v2, (.int .i64 x1.2.1), (.int .i64 x1.2.2)], Item.box b1 [u1, (.int .i64 a1.2.1), (.int .i64 a1.2.2)]] := hC27.front 4 rfl
          have hC29 : Ctx [] w0 _ [Item.box b5 [v2, (.int .i64 x1.2.1), (.int .i64 x1.2.2)], Item.own v2 (x1.1 : (List Int)), Item.box b4 [(.int .i64 0), (.int .i64 0), (.int .i64 0), (.bool false)], Item.box b3 [(.slice none 0 0), (.int .i64 0), (.int .i64 0)], Item.box b2 [(.int .i64 a2.1), (.int .i64 a2.2.1), (.int .i64 a2.2.2.1), (.bool a2.2.2.2)], Item.box b1 [u1, (.int .i64 a1.2.1), (.int .i64 a1.2.2)]] := hC28.front 4 rfl
          have hC30 : Ctx [] w0 _ [Item.box b5 [v2, (.int .i64 x1.2.1), (.int .i64 x1.2.2)], Item.own v2 (x1.1 : (List Int)), Item.box b4 [(.int .i64 0), (.int .i64 0), (.int .i64 0), (.bool false)], Item.box b3 [(.slice none 0 0), (.int .i64 0), (.int .i64 0)], Item.box b2 [(.int .i64 a2.1), (.int .i64 a2.2.1), (.int .i64 a2.2.2.1), (.bool a2.2.2.2)]] := hC29.headN 5
          refine nrm_sub (l' := [(2, (.int .i64 a3)), (4, (ptr b2 0)), (6, (ptr b3 0)), (7, (ptr b4 0)), (9, (ptr b5 0)), (46, (.bool true))]) ⟨rfl, rfl, rfl, rfl, rfl, rfl, trivial⟩ ?_
          exact ⟨true, rfl, rfl, (((Keep.of hB8).then hB9).then hB10).below, hC30⟩
        · replace hr2 := ite_f hr2 hc3
          refine WL_guard rfl rfl ?_
          refine WL_field Try.underlying35 rfl rfl (fun w => ⟨_, Try.sizeOf3 w⟩) rfl rfl ?_
          refine WL_guard rfl rfl ?_
          refine WL_load_box hC24 4 rfl rfl Try.isAgg3 rfl rfl ?_
          obtain ⟨x6, hr6, hr2⟩ := bind_some hr2
          refine WL_guard rfl rfl ?_
          refine WL_call Try.call97 rfl rfl (c_M_within a2.2.2.1 0 1000 x6 hr6) ?_
          intro _ w12 hv5
          obtain ⟨rfl, hB11⟩ := res_bool hv5
          have hC31 := hC24.grow hB11
          refine WL_guard rfl rfl ?_
          refine WL_not rfl rfl ?_
          refine WL_pick_f rfl rfl rfl ?_
          refine WL_move rfl rfl ?_
          refine WL_fork (fun hc4 => ?_) (fun hc4 => ?_)
          · replace hr2 := ite_t hr2 hc4
            refine WL_guard_skip rfl rfl (by simp) rfl ?_
            refine WL_guard_skip rfl rfl (by simp) rfl ?_
            refine WL_pick_t rfl rfl rfl ?_
            refine WL_move rfl rfl ?_
            refine WL_guard_skip rfl rfl (by simp) rfl ?_
            refine WL_guard_skip rfl rfl (by simp) rfl ?_
            refine WL_guard_skip rfl rfl (by simp) rfl ?_
            refine WL_pick_t rfl rfl rfl ?_
            refine WL_move rfl rfl ?_
            refine WL_guard_skip rfl rfl (by simp) rfl ?_
            refine WL_guard_skip rfl rfl (by simp) rfl ?_
            refine WL_guard_skip rfl rfl (by simp) rfl ?_
            refine WL_pick_t rfl rfl rfl ?_
            refine WL_nil ?_
            have hq4 := Option.some.inj hr2
            subst hq4
            have hC32 : Ctx [] w0 _ [Item.box b2 [(.int .i64 a2.1), (.int .i64 a2.2.1), (.int .i64 a2.2.2.1), (.bool a2.2.2.2)], Item.box b5 [v2, (.int .i64 x1.2.1), (.int .i64 x1.2.2)], Item.own v2 (x1.1 : (List Int)), Item.box b4 [(.int .i64 0), (.int .i64 0), (.int .i64 0), (.bool false)], Item.box b3 [(.slice none 0 0), (.int .i64 0), (.int .i64 0)], Item.box b1 [u1, (.int .i64 a1.2.1), (.int .i64 a1.2.2)]] := hC31.front 4 rfl
            have hC33 : Ctx [] w0 _ [Item.box b3 [(.slice none 0 0), (.int .i64 0), (.int .i64 0)], Item.box b2 [(.int .i64 a2.1), (.int .i64 a2.2.1), (.int .i64 a2.2.2.1), (.bool a2.2.2.2)], Item.box b5 [v2, (.int .i64 x1.2.1), (.int .i64 x1.2.2)], Item.own v2 (x1.1 : (List Int)), Item.box b4 [(.int .i64 0), (.int .i64 0), (.int .i64 0), (.bool false)], Item.box b1 [u1, (.int .i64 a1.2.1), (.int .i64 a1.2.2)]] := hC32.front 4 rfl
            have hC34 : Ctx [] w0 _ [Item.box b4 [(.int .i64 0), (.int .i64 0), (.int .i64 0), (.bool false)], Item.box b3 [(.slice none 0 0), (.int .i64 0), (.int .i64 0)], Item.box b2 [(.int .i64 a2.1), (.int .i64 a2.2.1), (.int .i64 a2.2.2.1), (.bool a2.2.2.2)], Item.box b5 [v2, (.int .i64 x1.2.1), (.int .i64 x1.2.2)], Item.own v2 (x1.1 : (List Int)), Item.box b1 [u1, (.int .i64 a1.2.1), (.int .i64 a1.2.2)]] := hC33.front 4 rfl
            have hC35 : Ctx [] w0 _ [Item.own v2 (x1.1 : (List Int)), Item.box b4 [(.int .i64 0), (.int .i64 0), (.int .i64 0), (.bool false)], Item.box b3 [(.slice none 0 0), (.int .i64 0), (.int .i64 0)], Item.box b2 [(.int .i64 a2.1), (.int .i64 a2.2.1), (.int .i64 a2.2.2.1), (.bool a2.2.2.2)], Item.box b5 [v2, (.int .i64 x1.2.1), (.int .i64 x1.2.2)], Item.box b1 [u1, (.int .i64 a1.2.1), (.int .i64 a1.2.2)]] := hC34.front 4 rfl
            have hC36 : Ctx [] w0 _ [Item.box b5 [v2, (.int .i64 x1.2.1), (.int .i64 x1.2.2)], Item.own v2 (x1.1 : (List Int)), Item.box b4 [(.int .i64 0), (.int .i64 0), (.int .i64 0), (.bool false)], Item.box b3 [(.slice none 0 0), (.int .i64 0), (.int .i64 0)], Item.box b2 [(.int .i64 a2.1), (.int .i64 a2.2.1), (.int .i64 a2.2.2.1), (.bool a2.2.2.2)], Item.box b1 [u1, (.int .i64 a1.2.1), (.int .i64 a1.2.2)]] := hC35.front 4 rfl
            have hC37 : Ctx [] w0 _ [Item.box b5 [v2, (.int .i64 x1.2.1), (.int .i64 x1.2.2)], Item.own v2 (x1.1 : (List Int)), Item.box b4 [(.int .i64 0), (.int .i64 0), (.int .i64 0), (.bool false)], Item.box b3 [(.slice none 0 0), (.int .i64 0), (.int .i64 0)], Item.box b2 [(.int .i64 a2.1), (.int .i64 a2.2.1), (.int .i64 a2.2.2.1), (.bool a2.2.2.2)]] := hC36.headN 5
            refine nrm_sub (l' := [(2, (.int .i64 a3)), (4, (ptr b2 0)), (6, (ptr b3 0)), (7, (ptr b4 0)), (9, (ptr b5 0)), (46, (.bool true))]) ⟨rfl, rfl, rfl, rfl, rfl, rfl, trivial⟩ ?_
            exact ⟨true, rfl, rfl, ((((Keep.of hB8).then hB9).then hB10).then hB11).below, hC37⟩
          · replace hr2 := ite_f hr2 hc4
            refine WL_guard rfl rfl ?_
            refine WL_field Try.underlying35 rfl rfl (fun w => ⟨_, Try.sizeOf4 w⟩) rfl rfl ?_
            refine WL_guard rfl rfl ?_
            refine WL_load_box hC31 4 rfl rfl Try.isAgg4 rfl rfl ?_
            refine WL_pick_f rfl rfl rfl ?_
            refine WL_move rfl rfl ?_
            refine WL_fork (fun hc5 => ?_) (fun hc5 => ?_)
            · replace hr2 := ite_t hr2 hc5
              refine WL_guard_skip rfl rfl (by simp) rfl ?_
              refine WL_guard_skip rfl rfl (by simp) rfl ?_
              refine WL_guard_skip rfl rfl (by simp) rfl ?_
              refine WL_pick_t rfl rfl rfl ?_
              refine WL_move rfl rfl ?_
              refine WL_guard_skip rfl rfl (by simp) rfl ?_
              refine WL_guard_skip rfl rfl (by simp) rfl ?_
              refine WL_guard_skip rfl rfl (by simp) rfl ?_
              refine WL_pick_t rfl rfl rfl ?_
              refine WL_nil ?_
              have hq5 := Option.some.inj hr2
              subst hq5
              have hC38 : Ctx [] w0 _ [Item.box b2 [(.int .i64 a2.1), (.int .i64 a2.2.1), (.int .i64 a2.2.2.1), (.bool a2.2.2.2)], Item.box b5 [v2, (.int .i64 x1.2.1), (.int .i64 x1.2.2)], Item.own v2 (x1.1 : (List Int)), Item.box b4 [(.int .i64 0), (.int .i64 0), (.int .i64 0), (.bool false)], Item.box b3 [(.slice none 0 0), (.int .i64 0), (.int .i64 0)], Item.box b1 [u1, (.int .i64 a1.2.1), (.int .i64 a1.2.2)]] := hC31.front 4 rfl
              have hC39 : Ctx [] w0 _ [Item.box b3 [(.slice none 0 0), (.int .i64 0), (.int .i64 0)], Item.box b2 [(.int .i64 a2.1), (.int .i64 a2.2.1), (.int .i64 a2.2.2.1), (.bool a2.2.2.2)], Item.box b5 [v2, (.int .i64 x1.2.1), (.int .i64 x1.2.2)], Item.own v2 (x1.1 : (List Int)), Item.box b4 [(.int .i64 0), (.int .i64 0), (.int .i64 0), (.bool false)], Item.box b1 [u1, (.int .i64 a1.2.1), (.int .i64 a1.2.2)]] := hC38.front 4 rfl
              have hC40 : Ctx [] w0 _ [Item.box b4 [(.int .i64 0), (.int .i64 0), (.int .i64 0), (.bool false)], Item.box b3 [(.slice none 0 0), (.int .i64 0), (.int .i64 0)], Item.box b2 [(.int .i64 a2.1), (.int .i64 a2.2.1), (.int .i64 a2.2.2.1), (.bool a2.2.2.2)], Item.box b5 [v2, (.int .i64 x1.2.1), (.int .i64 x1.2.2)], Item.own v2 (x1.1 : (List Int)), Item.box b1 [u1, (.int .i64 a1.2.1), (.int .i64 a1.2.2)]] := hC39.front 4 rfl
              have hC41 : Ctx [] w0 _ [Item.own v2 (x1.1 : (List Int)), Item.box b4 [(.int .i64 0), (.int .i64 0), (.int .i64 0), (.bool false)], Item.box b3 [(.slice none 0 0), (.int .i64 0), (.int .i64 0)], Item.box b2 [(.int .i64 a2.1), (.int .i64 a2.2.1), (.int .i64 a2.2.2.1), (.bool a2.2.2.2)], Item.box b5 [v2, (.int .i64 x1.2.1), (.int .i64 x1.2.2)], Item.box b1 [u1, (.int .i64 a1.2.1), (.int .i64 a1.2.2)]] := hC40.front 4 rfl
              have hC42 : Ctx [] w0 _ [Item.box b5 [v2, (.int .i64 x1.2.1), (.int .i64 x1.2.2)], Item.own v2 (x1.1 : (List Int)), Item.box b4 [(.int .i64 0), (.int .i64 0), (.int .i64 0), (.bool false)], Item.box b3 [(.slice none 0 0), (.int .i64 0), (.int .i64 0)], Item.box b2 [(.int .i64 a2.1), (.int .i64 a2.2.1), (.int .i64 a2.2.2.1), (.bool a2.2.2.2)], Item.box b1 [u1, (.int .i64 a1.2.1), (.int .i64 a1.2.2)]] := hC41.front 4 rfl
              have hC43 : Ctx [] w0 _ [Item.box b5 [v2, (.int .i64 x1.2.1), (.int .i64 x1.2.2)], Item.own v2 (x1.1 : (List Int)), Item.box b4 [(.int .i64 0), (.int .i64 0), (.int .i64 0), (.bool false)], Item.box b3 [(.slice none 0 0), (.int .i64 0), (.int .i64 0)], Item.box b2 [(.int .i64 a2.1), (.int .i64 a2.2.1), (.int .i64 a2.2.2.1), (.bool a2.2.2.2)]] := hC42.headN 5
              refine nrm_sub (l' := [(2, (.int .i64 a3)), (4, (ptr b2 0)), (6, (ptr b3 0)), (7, (ptr b4 0)), (9, (ptr b5 0)), (46, (.bool true))]) ⟨rfl, rfl, rfl, rfl, rfl, rfl, trivial⟩ ?_
              exact ⟨true, rfl, rfl, ((((Keep.of hB8).then hB9).then hB10).then hB11).below, hC43⟩
            · replace hr2 := ite_f hr2 hc5
              refine WL_guard rfl rfl ?_
              refine WL_field Try.underlying26 rfl rfl (fun w => ⟨_, Try.sizeOf3 w⟩) rfl rfl ?_
              refine WL_guard rfl rfl ?_
              refine WL_load_box hC31 5 rfl rfl Try.isAgg3 rfl rfl ?_
              refine WL_guard rfl rfl ?_
              refine WL_gtr rfl rfl rfl ?_
              refine WL_pick_f rfl rfl rfl ?_
              refine WL_move rfl rfl ?_
              refine WL_fork (fun hc6 => ?_) (fun hc6 => ?_)
              · replace hr2 := ite_t hr2 hc6
                refine WL_guard_skip rfl rfl (by simp) rfl ?_
                refine WL_guard_skip rfl rfl (by simp) rfl ?_
                refine WL_guard_skip rfl rfl (by simp) rfl ?_
                refine WL_pick_t rfl rfl rfl ?_
                refine WL_nil ?_
                have hq6 := Option.some.inj hr2
                subst hq6
                have hC44 : Ctx [] w0 _ [Item.box b2 [(.int .i64 a2.1), (.int .i64 a2.2.1), (.int .i64 a2.2.2.1), (.bool a2.2.2.2)], Item.box b5 [v2, (.int .i64 x1.2.1), (.int .i64 x1.2.2)], Item.own v2 (x1.1 : (List Int)), Item.box b4 [(.int .i64 0), (.int .i64 0), (.int .i64 0), (.bool false)], Item.box b3 [(.slice none 0 0), (.int .i64 0), (.int .i64 0)], Item.box b1 [u1, (.int .i64 a1.2.1), (.int .i64 a1.2.2)]] := hC31.front 4 rfl
                have hC45 : Ctx [] w0 _ [Item.box b3 [(.slice none 0 0), (.int .i64 0), (.int .i64 0)], Item.box b2 [(.int .i64 a2.1), (.int .i64 a2.2.1), (.int .i64 a2.2.2.1), (.bool a2.2.2.2)], Item.box b5 [v2, (.int .i64 x1.2.1), (.int .i64 x1.2.2)], Item.own v2 (x1.1 : (List Int)), Item.box b4 [(.int .i64 0), (.int .i64 0), (.int .i64 0), (.bool false)], Item.box b1 [u1, (.int .i64 a1.2.1), (.int .i64 a1.2.2)]] := hC44.front 4 rfl
                have hC46 : Ctx [] w0 _ [Item.box b4 [(.int .i64 0), (.int .i64 0), (.int .i64 0), (.bool false)], Item.box b3 [(.slice none 0 0), (.int .i64 0), (.int .i64 0)], Item.box b2 [(.int .i64 a2.1), (.int .i64 a2.2.1), (.int .i64 a2.2.2.1), (.bool a2.2.2.2)], Item.box b5 [v2, (.int .i64 x1.2.1), (.int .i64 x1.2.2)], Item.own v2 (x1.1 : (List Int)), Item.box b1 [u1, (.int .i64 a1.2.1), (.int .i64 a1.2.2)]] := hC45.front 4 rfl
                have hC47 : Ctx [] w0 _ [Item.own v2 (x1.1 : (List Int)), Item.box b4 [(.int .i64 0), (.int .i64 0), (.int .i64 0), (.bool false)], Item.box b3 [(.slice none 0 0), (.int .i64 0), (.int .i64 0)], Item.box b2 [(.int .i64 a2.1), (.int .i64 a2.2.1), (.int .i64 a2.2.2.1), (.bool a2.2.2.2)], Item.box b5 [v2, (.int .i64 x1.2.1), (.int .i64 x1.2.2)], Item.box b1 [u1, (.int .i64 a1.2.1), (.int .i64 a1.2.2)]] := hC46.front 4 rfl
                have hC48 : Ctx [] w0 _ [Item.box b5 [v2, (.int .i64 x1.2.1), (.int .i64 x1.2.2)], Item.own v2 (x1.1 : (List Int)), Item.box b4 [(.int .i64 0), (.int .i64 0), (.int .i64 0), (.bool false)], Item.box b3 [(.slice none 0 0), (.int .i64 0), (.int .i64 0)], Item.box b2 [(.int .i64 a2.1), (.int .i64 a2.2.1), (.int .i64 a2.2.2.1), (.bool a2.2.2.2)], Item.box b1 [u1, (.int .i64 a1.2.1), (.int .i64 a1.2.2)]] := hC47.front 4 rfl
                have hC49 : Ctx [] w0 _ [Item.box b5 [v2, (.int .i64 x1.2.1), (.int .i64 x1.2.2)], Item.own v2 (x1.1 : (List Int)), Item.box b4 [(.int .i64 0), (.int .i64 0), (.int .i64 0), (.bool false)], Item.box b3 [(.slice none 0 0), (.int .i64 0), (.int .i64 0)], Item.box b2 [(.int .i64 a2.1), (.int .i64 a2.2.1), (.int .i64 a2.2.2.1), (.bool a2.2.2.2)]] := hC48.headN 5
                refine nrm_sub (l' := [(2, (.int .i64 a3)), (4, (ptr b2 0)), (6, (ptr b3 0)), (7, (ptr b4 0)), (9, (ptr b5 0)), (46, (.bool true))]) ⟨rfl, rfl, rfl, rfl, rfl, rfl, trivial⟩ ?_
                exact ⟨true, rfl, rfl, ((((Keep.of hB8).then hB9).then hB10).then hB11).below, hC49⟩
              · replace hr2 := ite_f hr2 hc6
                refine WL_guard rfl rfl ?_
                refine WL_field Try.underlying26 rfl rfl (fun w => ⟨_, Try.sizeOf3 w⟩) rfl rfl ?_
                refine WL_guard rfl rfl ?_
                refine WL_load_box hC31 5 rfl rfl Try.isAgg3 rfl rfl ?_
                refine WL_guard rfl rfl ?_
                refine WL_gtr rfl rfl rfl ?_
                refine WL_pick_f rfl rfl rfl ?_
                refine WL_nil ?_
                have hq7 := Option.some.inj hr2
                subst hq7
                have hC50 : Ctx [] w0 _ [Item.box b2 [(.int .i64 a2.1), (.int .i64 a2.2.1), (.int .i64 a2.2.2.1), (.bool a2.2.2.2)], Item.box b5 [v2, (.int .i64 x1.2.1), (.int .i64 x1.2.2)], Item.own v2 (x1.1 : (List Int)), Item.box b4 [(.int .i64 0), (.int .i64 0), (.int .i64 0), (.bool false)], Item.box b3 [(.slice none 0 0), (.int .i64 0), (.int .i64 0)], Item.box b1 [u1, (.int .i64 a1.2.1), (.int .i64 a1.2.2)]] := hC31.front 4 rfl
                have hC51 : Ctx [] w0 _ [Item.box b3 [(.slice none 0 0), (.int .i64 0), (.int .i64 0)], Item.box b2 [(.int .i64 a2.1), (.int .i64 a2.2.1), (.int .i64 a2.2.2.1), (.bool a2.2.2.2)], Item.box b5 [v2, (.int .i64 x1.2.1), (.int .i64 x1.2.2)], Item.own v2 (x1.1 : (List Int)), Item.box b4 [(.int .i64 0), (.int .i64 0), (.int .i64 0), (.bool false)], Item.box b1 [u1, (.int .i64 a1.2.1), (.int .i64 a1.2.2)]] := hC50.front 4 rfl
                have hC52 : Ctx [] w0 _ [Item.box b4 [(.int .i64 0), (.int .i64 0), (.int .i64 0), (.bool false)], Item.box b3 [(.slice none 0 0), (.int .i64 0), (.int .i64 0)], Item.box b2 [(.int .i64 a2.1), (.int .i64 a2.2.1), (.int .i64 a2.2.2.1), (.bool a2.2.2.2)], Item.box b5 [v2, (.int .i64 x1.2.1), (.int .i64 x1.2.2)], Item.own v2 (x1.1 : (List Int)), Item.box b1 [u1, (.int .i64 a1.2.1), (.int .i64 a1.2.2)]] := hC51.front 4 rfl
                have hC53 : Ctx [] w0 _ [Item.own v2 (x1.1 : (List Int)), Item.box b4 [(.int .i64 0), (.int .i64 0), (.int .i64 0), (.bool false)], Item.box b3 [(.slice none 0 0), (.int .i64 0), (.int .i64 0)], Item.box b2 [(.int .i64 a2.1), (.int .i64 a2.2.1), (.int .i64 a2.2.2.1), (.bool a2.2.2.2)], Item.box b5 [v2, (.int .i64 x1.2.1), (.int .i64 x1.2.2)], Item.box b1 [u1, (.int .i64 a1.2.1), (.int .i64 a1.2.2)]] := hC52.front 4 rfl
                have hC54 : Ctx [] w0 _ [Item.box b5 [v2, (.int .i64 x1.2.1), (.int .i64 x1.2.2)], Item.own v2 (x1.1 : (List Int)), Item.box b4 [(.int .i64 0), (.int .i64 0), (.int .i64 0), (.bool false)], Item.box b3 [(.slice none 0 0), (.int .i64 0), (.int .i64 0)], Item.box b2 [(.int .i64 a2.1), (.int .i64 a2.2.1), (.int .i64 a2.2.2.1), (.bool a2.2.2.2)], Item.box b1 [u1, (.int .i64 a1.2.1), (.int .i64 a1.2.2)]] := hC53.front 4 rfl
                have hC55 : Ctx [] w0 _ [Item.box b5 [v2, (.int .i64 x1.2.1), (.int .i64 x1.2.2)], Item.own v2 (x1.1 : (List Int)), Item.box b4 [(.int .i64 0), (.int .i64 0), (.int .i64 0), (.bool false)], Item.box b3 [(.slice none 0 0), (.int .i64 0), (.int .i64 0)], Item.box b2 [(.int .i64 a2.1), (.int .i64 a2.2.1), (.int .i64 a2.2.2.1), (.bool a2.2.2.2)]] := hC54.headN 5
                refine nrm_sub (l' := [(2, (.int .i64 a3)), (4, (ptr b2 0)), (6, (ptr b3 0)), (7, (ptr b4 0)), (9, (ptr b5 0)), (46, (.bool (decide (999998000 < a1.2.2))))]) ⟨rfl, rfl, rfl, rfl, rfl, rfl, trivial⟩ ?_
                exact ⟨(decide (999998000 < a1.2.2)), rfl, rfl, ((((Keep.of hB8).then hB9).then hB10).then hB11).below, hC55⟩
  · rintro _ w8 ⟨x2, rfl, rfl, hB7, hC9⟩
    try dsimp only at hF
    refine W_cond rfl (fun hc7 => ?_) (fun hc7 => ?_)
    · replace hF := ite_t hF hc7
      obtain ⟨r2, hr7, hF⟩ := bind_some hF
      refine W_cut (fun l w => ∃ x7 : Int, ∃ x8 : Int, ∃ x9 : Int, ∃ x10 : Bool, ∃ v3 : Value, ∃ x11 : (List Int), ∃ x12 : Int, ∃ x13 : Int, ∃ x14 : Bool, (x7, x8, x9, x10, x11, x12, x13, x14) = r2 ∧ l = [(6, (ptr b3 0)), (7, (ptr b4 0)), (8, (.bool x14))] ∧ Ctx [] w0 w [Item.own v3 (x11 : (List Int)), Item.box b4 [(.int .i64 x7), (.int .i64 x8), (.int .i64 x9), (.bool x10)], Item.box b3 [v3, (.int .i64 x12), (.int .i64 x13)]]) ?_ ?_
      · refine W_drawn 5 rfl hmix (fun w14 hB13 => ?_)
        have hC57 := hC9.grow hB13
        refine WA.sub (l' := [(2, (.int .i64 a3)), (4, (ptr b2 0)), (6, (ptr b3 0)), (7, (ptr b4 0)), (9, (ptr b5 0)), (46, (.bool x2))]) ?_ ⟨rfl, rfl, rfl, rfl, rfl, rfl, trivial⟩
        refine WA_postsO [⟨0, [], fun vs => PW.val (.agg #[v2, (.int .i64 x1.2.1), (.int .i64 x1.2.2)]), []⟩, ⟨1, [], fun vs => PW.val (.agg #[(.int .i64 a2.1), (.int .i64 a2.2.1), (.int .i64 a2.2.2.1), (.bool a2.2.2.2)]), []⟩] [[], []] [1] 3 rfl (by kernel_rfl) (by kernel_rfl) ?_ ⟨?_, ?_, trivial⟩
        · refine StepsE_cons rfl ?_ ?_
          · intro w15 hB14
            refine DepsE_nil ?_
            refine ⟨_, rfl, ?_⟩
            refine WL_load_box_agg [v2, (.int .i64 x1.2.1), (.int .i64 x1.2.2)] (hC57.grow hB14) 0 rfl rfl rfl Try.isAgg26 Try.sizeOf26 rfl rfl ?_
            refine WL_nil ?_
            exact FinE_val (Below.refl _ _) rfl rfl ⟨rfl, rfl⟩
          refine StepsE_cons rfl ?_ ?_
          · intro w15 hB14
            refine DepsE_nil ?_
            refine ⟨_, rfl, ?_⟩
            refine WL_load_box_agg [(.int .i64 a2.1), (.int .i64 a2.2.1), (.int .i64 a2.2.2.1), (.bool a2.2.2.2)] (hC57.grow hB14) 4 rfl rfl rfl Try.isAgg35 Try.sizeOf35 rfl rfl ?_
            refine WL_nil ?_
            exact FinE_val (Below.refl _ _) rfl rfl ⟨rfl, rfl⟩
          exact StepsE_nil
        · intro g' hg'
          obtain rfl : g' = 3 := hg'
          intro w16 hB15
          refine AllE_cons rfl rfl rfl ?_
          rintro _ _ ⟨rfl, rfl⟩
          refine AllE_cons rfl rfl rfl ?_
          rintro _ _ ⟨rfl, rfl⟩
          refine AllE_nil ?_
          intro hn2 hb2
          have hC58 := hC57.grow hB15
          refine WA_one 2 (by kernel_rfl) rfl ?_
          refine WL_store_box_agg (cs' := [v2, (.int .i64 x1.2.1), (.int .i64 x1.2.2)]) (new := [v2, (.int .i64 x1.2.1), (.int .i64 x1.2.2)]) hC58 3 rfl rfl (by intro v hv; simp only [List.mem_cons, List.not_mem_nil, or_false] at hv; rcases hv with rfl | rfl | rfl; exact (ro_one (hC58.ro 1 rfl)); exact rfl; exact rfl) rfl Try.sizeOf26 rfl rfl (fun w17 hC59 => ?_)
          try dsimp only [List.set] at hC59
          refine WL_nil ?_
          refine WA_one 3 (by kernel_rfl) rfl ?_
          refine WL_store_box_agg (cs' := [(.int .i64 a2.1), (.int .i64 a2.2.1), (.int .i64 a2.2.2.1), (.bool a2.2.2.2)]) (new := [(.int .i64 a2.1), (.int .i64 a2.2.1), (.int .i64 a2.2.2.1), (.bool a2.2.2.2)]) hC59 2 rfl rfl (by intro v hv; simp only [List.mem_cons, List.not_mem_nil, or_false] at hv; rcases hv with rfl | rfl | rfl | rfl; exact rfl; exact rfl; exact rfl; exact rfl) rfl Try.sizeOf35 rfl rfl (fun w18 hC60 => ?_)
          try dsimp only [List.set] at hC60
          refine WL_nil ?_
          refine WA_take 4 rfl (by kernel_rfl) (by kernel_rfl) (by kernel_rfl) rfl (fl_assign rfl) ?_
          refine WL_assign rfl rfl ?_
          refine WL_nil ?_
          refine WA_done (by kernel_rfl) ?_
          have hq8 := Option.some.inj hr7
          subst hq8
          have hC61 : Ctx [] w0 _ [Item.box b3 [v2, (.int .i64 x1.2.1), (.int .i64 x1.2.2)], Item.box b5 [v2, (.int .i64 x1.2.1), (.int .i64 x1.2.2)], Item.own v2 (x1.1 : (List Int)), Item.box b4 [(.int .i64 a2.1), (.int .i64 a2.2.1), (.int .i64 a2.2.2.1), (.bool a2.2.2.2)], Item.box b2 [(.int .i64 a2.1), (.int .i64 a2.2.1), (.int .i64 a2.2.2.1), (.bool a2.2.2.2)]] := hC60.front 3 rfl
          have hC62 : Ctx [] w0 _ [Item.box b4 [(.int .i64 a2.1), (.int .i64 a2.2.1), (.int .i64 a2.2.2.1), (.bool a2.2.2.2)], Item.box b3 [v2, (.int .i64 x1.2.1), (.int .i64 x1.2.2)], Item.box b5 [v2, (.int .i64 x1.2.1), (.int .i64 x1.2.2)], Item.own v2 (x1.1 : (List Int)), Item.box b2 [(.int .i64 a2.1), (.int .i64 a2.2.1), (.int .i64 a2.2.2.1), (.bool a2.2.2.2)]] := hC61.front 3 rfl
          have hC63 : Ctx [] w0 _ [Item.own v2 (x1.1 : (List Int)), Item.box b4 [(.int .i64 a2.1), (.int .i64 a2.2.1), (.int .i64 a2.2.2.1), (.bool a2.2.2.2)], Item.box b3 [v2, (.int .i64 x1.2.1), (.int .i64 x1.2.2)], Item.box b5 [v2, (.int .i64 x1.2.1), (.int .i64 x1.2.2)], Item.box b2 [(.int .i64 a2.1), (.int .i64 a2.2.1), (.int .i64 a2.2.2.1), (.bool a2.2.2.2)]] := hC62.front 3 rfl
          have hC64 : Ctx [] w0 _ [Item.own v2 (x1.1 : (List Int)), Item.box b4 [(.int .i64 a2.1), (.int .i64 a2.2.1), (.int .i64 a2.2.2.1), (.bool a2.2.2.2)], Item.box b3 [v2, (.int .i64 x1.2.1), (.int .i64 x1.2.2)]] := hC63.headN 3
          refine nrm_sub (l' := [(6, (ptr b3 0)), (7, (ptr b4 0)), (8, (.bool false))]) ⟨rfl, rfl, rfl, trivial⟩ ?_
          exact ⟨a2.1, a2.2.1, a2.2.2.1, a2.2.2.2, v2, x1.1, x1.2.1, x1.2.2, false, rfl, rfl, hC64⟩
        · intro g' hg'
          obtain rfl : g' = 4 := hg'
          intro w16 hB15
          refine AllE_cons rfl rfl rfl ?_
          rintro _ _ ⟨rfl, rfl⟩
          refine AllE_nil ?_
          intro hn2 hb2
          have hC58 := hC57.grow hB15
          refine WA_all2 (i := 1) (j := 2) (by kernel_rfl) rfl rfl ?_ ?_
          · refine WL_load_box_agg [(.int .i64 a2.1), (.int .i64 a2.2.1), (.int .i64 a2.2.2.1), (.bool a2.2.2.2)] hC58 4 rfl rfl rfl Try.isAgg35 Try.sizeOf35 rfl rfl ?_
            refine WL_nil ?_
            refine WA_one 2 (by kernel_rfl) rfl ?_
            refine WL_store_box_agg (cs' := [v2, (.int .i64 x1.2.1), (.int .i64 x1.2.2)]) (new := [v2, (.int .i64 x1.2.1), (.int .i64 x1.2.2)]) hC58 3 rfl rfl (by intro v hv; simp only [List.mem_cons, List.not_mem_nil, or_false] at hv; rcases hv with rfl | rfl | rfl; exact (ro_one (hC58.ro 1 rfl)); exact rfl; exact rfl) rfl Try.sizeOf26 rfl rfl (fun w17 hC59 => ?_)
            try dsimp only [List.set] at hC59
            refine WL_nil ?_
            refine WA_one 3 (by kernel_rfl) rfl ?_
            refine WL_store_box_agg (cs' := [(.int .i64 a2.1), (.int .i64 a2.2.1), (.int .i64 a2.2.2.1), (.bool a2.2.2.2)]) (new := [(.int .i64 a2.1), (.int .i64 a2.2.1), (.int .i64 a2.2.2.1), (.bool a2.2.2.2)]) hC59 2 rfl rfl (by intro v hv; simp only [List.mem_cons, List.not_mem_nil, or_false] at hv; rcases hv with rfl | rfl | rfl | rfl; exact rfl; exact rfl; exact rfl; exact rfl) rfl Try.sizeOf35 rfl rfl (fun w18 hC60 => ?_)
            try dsimp only [List.set] at hC60
            refine WL_nil ?_
            refine WA_take 4 rfl (by kernel_rfl) (by kernel_rfl) (by kernel_rfl) rfl (fl_assign rfl) ?_
            refine WL_assign rfl rfl ?_
            refine WL_nil ?_
            refine WA_done (by kernel_rfl) ?_
            have hq8 := Option.some.inj hr7
            subst hq8
            have hC61 : Ctx [] w0 _ [Item.box b3 [v2, (.int .i64 x1.2.1), (.int .i64 x1.2.2)], Item.box b5 [v2, (.int .i64 x1.2.1), (.int .i64 x1.2.2)], Item.own v2 (x1.1 : (List Int)), Item.box b4 [(.int .i64 a2.1), (.int .i64 a2.2.1), (.int .i64 a2.2.2.1), (.bool a2.2.2.2)], Item.box b2 [(.int .i64 a2.1), (.int .i64 a2.2.1), (.int .i64 a2.2.2.1), (.bool a2.2.2.2)]] := hC60.front 3 rfl
            have hC62 : Ctx [] w0 _ [Item.box b4 [(.int .i64 a2.1), (.int .i64 a2.2.1), (.int .i64 a2.2.2.1), (.bool a2.2.2.2)], Item.box b3 [v2, (.int .i64 x1.2.1), (.int .i64 x1.2.2)], Item.box b5 [v2, (.int .i64 x1.2.1), (.int .i64 x1.2.2)], Item.own v2 (x1.1 : (List Int)), Item.box b2 [(.int .i64 a2.1), (.int .i64 a2.2.1), (.int .i64 a2.2.2.1), (.bool a2.2.2.2)]] := hC61.front 3 rfl
            have hC63 : Ctx [] w0 _ [Item.own v2 (x1.1 : (List Int)), Item.box b4 [(.int .i64 a2.1), (.int .i64 a2.2.1), (.int .i64 a2.2.2.1), (.bool a2.2.2.2)], Item.box b3 [v2, (.int .i64 x1.2.1), (.int .i64 x1.2.2)], Item.box b5 [v2, (.int .i64 x1.2.1), (.int .i64 x1.2.2)], Item.box b2 [(.int .i64 a2.1), (.int .i64 a2.2.1), (.int .i64 a2.2.2.1), (.bool a2.2.2.2)]] := hC62.front 3 rfl
            have hC64 : Ctx [] w0 _ [Item.own v2 (x1.1 : (List Int)), Item.box b4 [(.int .i64 a2.1), (.int .i64 a2.2.1), (.int .i64 a2.2.2.1), (.bool a2.2.2.2)], Item.box b3 [v2, (.int .i64 x1.2.1), (.int .i64 x1.2.2)]] := hC63.headN 3
            refine nrm_sub (l' := [(6, (ptr b3 0)), (7, (ptr b4 0)), (8, (.bool false))]) ⟨rfl, rfl, rfl, trivial⟩ ?_
            exact ⟨a2.1, a2.2.1, a2.2.2.1, a2.2.2.2, v2, x1.1, x1.2.1, x1.2.2, false, rfl, rfl, hC64⟩
          · refine WL_store_box_agg (cs' := [v2, (.int .i64 x1.2.1), (.int .i64 x1.2.2)]) (new := [v2, (.int .i64 x1.2.1), (.int .i64 x1.2.2)]) hC58 3 rfl rfl (by intro v hv; simp only [List.mem_cons, List.not_mem_nil, or_false] at hv; rcases hv with rfl | rfl | rfl; exact (ro_one (hC58.ro 1 rfl)); exact rfl; exact rfl) rfl Try.sizeOf26 rfl rfl (fun w17 hC59 => ?_)
            try dsimp only [List.set] at hC59
            refine WL_nil ?_
            refine WA_one 1 (by kernel_rfl) rfl ?_
            refine WL_load_box_agg [(.int .i64 a2.1), (.int .i64 a2.2.1), (.int .i64 a2.2.2.1), (.bool a2.2.2.2)] hC59 4 rfl rfl rfl Try.isAgg35 Try.sizeOf35 rfl rfl ?_
            refine WL_nil ?_
            refine WA_one 3 (by kernel_rfl) rfl ?_
            refine WL_store_box_agg (cs' := [(.int .i64 a2.1), (.int .i64 a2.2.1), (.int .i64 a2.2.2.1), (.bool a2.2.2.2)]) (new := [(.int .i64 a2.1), (.int .i64 a2.2.1), (.int .i64 a2.2.2.1), (.bool a2.2.2.2)]) hC59 2 rfl rfl (by intro v hv; simp only [List.mem_cons, List.not_mem_nil, or_false] at hv; rcases hv with rfl | rfl | rfl | rfl; exact rfl; exact rfl; exact rfl; exact rfl) rfl Try.sizeOf35 rfl rfl (fun w18 hC60 => ?_)
            try dsimp only [List.set] at hC60
            refine WL_nil ?_
            refine WA_take 4 rfl (by kernel_rfl) (by kernel_rfl) (by kernel_rfl) rfl (fl_assign rfl) ?_
            refine WL_assign rfl rfl ?_
            refine WL_nil ?_
            refine WA_done (by kernel_rfl) ?_
            have hq8 := Option.some.inj hr7
            subst hq8
            have hC61 : Ctx [] w0 _ [Item.box b3 [v2, (.int .i64 x1.2.1), (.int .i64 x1.2.2)], Item.box b5 [v2, (.int .i64 x1.2.1), (.int .i64 x1.2.2)], Item.own v2 (x1.1 : (List Int)), Item.box b4 [(.int .i64 a2.1), (.int .i64 a2.2.1), (.int .i64 a2.2.2.1), (.bool a2.2.2.2)], Item.box b2 [(.int .i64 a2.1), (.int .i64 a2.2.1), (.int .i64 a2.2.2.1), (.bool a2.2.2.2)]] := hC60.front 3 rfl
            have hC62 : Ctx [] w0 _ [Item.box b4 [(.int .i64 a2.1), (.int .i64 a2.2.1), (.int .i64 a2.2.2.1), (.bool a2.2.2.2)], Item.box b3 [v2, (.int .i64 x1.2.1), (.int .i64 x1.2.2)], Item.box b5 [v2, (.int .i64 x1.2.1), (.int .i64 x1.2.2)], Item.own v2 (x1.1 : (List Int)), Item.box b2 [(.int .i64 a2.1), (.int .i64 a2.2.1), (.int .i64 a2.2.2.1), (.bool a2.2.2.2)]] := hC61.front 3 rfl
            have hC63 : Ctx [] w0 _ [Item.own v2 (x1.1 : (List Int)), Item.box b4 [(.int .i64 a2.1), (.int .i64 a2.2.1), (.int .i64 a2.2.2.1), (.bool a2.2.2.2)], Item.box b3 [v2, (.int .i64 x1.2.1), (.int .i64 x1.2.2)], Item.box b5 [v2, (.int .i64 x1.2.1), (.int .i64 x1.2.2)], Item.box b2 [(.int .i64 a2.1), (.int .i64 a2.2.1), (.int .i64 a2.2.2.1), (.bool a2.2.2.2)]] := hC62.front 3 rfl
            have hC64 : Ctx [] w0 _ [Item.own v2 (x1.1 : (List Int)), Item.box b4 [(.int .i64 a2.1), (.int .i64 a2.2.1), (.int .i64 a2.2.2.1), (.bool a2.2.2.2)], Item.box b3 [v2, (.int .i64 x1.2.1), (.int .i64 x1.2.2)]] := hC63.headN 3
            refine nrm_sub (l' := [(6, (ptr b3 0)), (7, (ptr b4 0)), (8, (.bool false))]) ⟨rfl, rfl, rfl, trivial⟩ ?_
            exact ⟨a2.1, a2.2.1, a2.2.2.1, a2.2.2.2, v2, x1.1, x1.2.1, x1.2.2, false, rfl, rfl, hC64⟩
      · rintro _ w13 ⟨x7, x8, x9, x10, v3, x11, x12, x13, x14, rfl, rfl, hC56⟩
        try dsimp only at hF
        refine W_ret ?_
        refine nrm_ret ?_
        have hq9 := Option.some.inj hF
        subst hq9
        refine fn_retG3 rfl (rv_cell_agg (cs' := [v3, (.int .i64 x12), (.int .i64 x13)]) hC56 (i := 2) rfl rfl rfl Try.isAgg26 Try.sizeOf26 rfl) (rv_cell_agg (cs' := [(.int .i64 x7), (.int .i64 x8), (.int .i64 x9), (.bool x10)]) hC56 (i := 1) rfl rfl rfl Try.isAgg35 Try.sizeOf35 rfl) (rv_tmp rfl) ?_
        have hC65 := hC56.triv (bool_val (x14))
        have hC66 := own_st35 x7 x8 x9 x10 hC65
        have hC68 : Ctx [] w0 _ [Item.own v3 (x11 : (List Int)), Item.own (.agg #[(.int .i64 x7), (.int .i64 x8), (.int .i64 x9), (.bool x10)]) ((x7, x8, x9, x10) : (Int × Int × Int × Bool)), Item.own (.bool x14) (x14 : Bool), Item.box b4 [(.int .i64 x7), (.int .i64 x8), (.int .i64 x9), (.bool x10)], Item.box b3 [v3, (.int .i64 x12), (.int .i64 x13)]] := hC66.front 2 rfl
        have hC67 := own_st26 v3 x11 x12 x13 hC68
        exact ⟨_, rfl, res3_of hC67⟩
    · replace hF := ite_f hF hc7
      refine W_skip ?_
      refine nrm_normal ?_
      refine W_seq_reg ?_
      refine WL_field Try.underlying35 rfl rfl (fun w => ⟨_, Try.sizeOf3 w⟩) rfl rfl ?_
      refine WL_load_box hC9 4 rfl rfl Try.isAgg3 rfl rfl ?_
      refine WL_add rfl rfl rfl ?_
      refine WL_field Try.underlying35 rfl rfl (fun w => ⟨_, Try.sizeOf3 w⟩) rfl rfl ?_
      refine WL_store_box (cs' := [(.int .i64 a2.1), (.int .i64 a2.2.1), (.int .i64 (w64 (a2.2.2.1 + 1))), (.bool a2.2.2.2)]) hC9 4 rfl rfl rfl rfl Try.sizeOf3 rfl rfl (fun w19 hC69 => ?_)
      try dsimp only [List.set] at hC69
      refine WL_nil ?_
      refine W_seq ?_
      refine W_seq_reg ?_
      refine WL_move rfl rfl ?_
      refine WL_eql rfl rfl rfl ?_
      refine WL_nil ?_
      refine W_cond rfl (fun hc8 => ?_) (fun hc8 => ?_)
      · replace hF := ite_t hF hc8
        obtain ⟨r3, hr8, hF⟩ := bind_some hF
        refine W_cut (fun l w => ∃ x15 : Int, ∃ x16 : Int, ∃ x17 : Int, ∃ x18 : Bool, ∃ v4 : Value, ∃ x19 : (List Int), ∃ x20 : Int, ∃ x21 : Int, ∃ x22 : Bool, (x15, x16, x17, x18, x19, x20, x21, x22) = r3 ∧ l = [(6, (ptr b3 0)), (7, (ptr b4 0)), (8, (.bool x22))] ∧ Ctx [] w0 w [Item.own v4 (x19 : (List Int)), Item.box b4 [(.int .i64 x15), (.int .i64 x16), (.int .i64 x17), (.bool x18)], Item.box b3 [v4, (.int .i64 x20), (.int .i64 x21)]]) ?_ ?_
        · refine W_drawn 5 rfl hmix (fun w21 hB17 => ?_)
          have hC71 := hC69.grow hB17
          refine WA.sub (l' := [(2, (.int .i64 a3)), (4, (ptr b2 0)), (6, (ptr b3 0)), (7, (ptr b4 0)), (9, (ptr b5 0)), (46, (.bool x2)), (49, (ptr b2 2)), (50, (.int .i64 a2.2.2.1)), (51, (.int .i64 (w64 (a2.2.2.1 + 1)))), (52, (ptr b2 2)), (53, (.int .i64 a3)), (54, (.bool (decide (a3 = 1))))]) ?_ ⟨rfl, rfl, rfl, rfl, rfl, rfl, rfl, rfl, rfl, rfl, rfl, rfl, trivial⟩
          refine WA_postsO [⟨0, [], fun vs => PW.val (.agg #[v2, (.int .i64 x1.2.1), (.int .i64 x1.2.2)]), []⟩, ⟨1, [], fun vs => PW.val (.agg #[(.int .i64 a2.1), (.int .i64 a2.2.1), (.int .i64 (w64 (a2.2.2.1 + 1))), (.bool a2.2.2.2)]), []⟩] [[], []] [1] 3 rfl (by kernel_rfl) (by kernel_rfl) ?_ ⟨?_, ?_, trivial⟩
          · refine StepsE_cons rfl ?_ ?_
            · intro w22 hB18
              refine DepsE_nil ?_
              refine ⟨_, rfl, ?_⟩
              refine WL_load_box_agg [v2, (.int .i64 x1.2.1), (.int .i64 x1.2.2)] (hC71.grow hB18) 0 rfl rfl rfl Try.isAgg26 Try.sizeOf26 rfl rfl ?_
              refine WL_nil ?_
              exact FinE_val (Below.refl _ _) rfl rfl ⟨rfl, rfl⟩
            refine StepsE_cons rfl ?_ ?_
            · intro w22 hB18
              refine DepsE_nil ?_
              refine ⟨_, rfl, ?_⟩
              refine WL_load_box_agg [(.int .i64 a2.1), (.int .i64 a2.2.1), (.int .i64 (w64 (a2.2.2.1 + 1))), (.bool a2.2.2.2)] (hC71.grow hB18) 4 rfl rfl rfl Try.isAgg35 Try.sizeOf35 rfl rfl ?_
              refine WL_nil ?_
              exact FinE_val (Below.refl _ _) rfl rfl ⟨rfl, rfl⟩
            exact StepsE_nil
          · intro g' hg'
            obtain rfl : g' = 3 := hg'
            intro w23 hB19
            refine AllE_cons rfl rfl rfl ?_
            rintro _ _ ⟨rfl, rfl⟩
            refine AllE_cons rfl rfl rfl ?_
            rintro _ _ ⟨rfl, rfl⟩
            refine AllE_nil ?_
            intro hn3 hb3
            have hC72 := hC71.grow hB19
            refine WA_one 2 (by kernel_rfl) rfl ?_
            refine WL_store_box_agg (cs' := [v2, (.int .i64 x1.2.1), (.int .i64 x1.2.2)]) (new := [v2, (.int .i64 x1.2.1), (.int .i64 x1.2.2)]) hC72 3 rfl rfl (by intro v hv; simp only [List.mem_cons, List.not_mem_nil, or_false] at hv; rcases hv with rfl | rfl | rfl; exact (ro_one (hC72.ro 1 rfl)); exact rfl; exact rfl) rfl Try.sizeOf26 rfl rfl (fun w24 hC73 => ?_)
            try dsimp only [List.set] at hC73
            refine WL_nil ?_
            refine WA_one 3 (by kernel_rfl) rfl ?_
            refine WL_store_box_agg (cs' := [(.int .i64 a2.1), (.int .i64 a2.2.1), (.int .i64 (w64 (a2.2.2.1 + 1))), (.bool a2.2.2.2)]) (new := [(.int .i64 a2.1), (.int .i64 a2.2.1), (.int .i64 (w64 (a2.2.2.1 + 1))), (.bool a2.2.2.2)]) hC73 2 rfl rfl (by intro v hv; simp only [List.mem_cons, List.not_mem_nil, or_false] at hv; rcases hv with rfl | rfl | rfl | rfl; exact rfl; exact rfl; exact rfl; exact rfl) rfl Try.sizeOf35 rfl rfl (fun w25 hC74 => ?_)
            try dsimp only [List.set] at hC74
            refine WL_nil ?_
            refine WA_take 4 rfl (by kernel_rfl) (by kernel_rfl) (by kernel_rfl) rfl (fl_assign rfl) ?_
            refine WL_assign rfl rfl ?_
            refine WL_nil ?_
            refine WA_done (by kernel_rfl) ?_
            have hq10 := Option.some.inj hr8
            subst hq10
            have hC75 : Ctx [] w0 _ [Item.box b3 [v2, (.int .i64 x1.2.1), (.int .i64 x1.2.2)], Item.box b5 [v2, (.int .i64 x1.2.1), (.int .i64 x1.2.2)], Item.own v2 (x1.1 : (List Int)), Item.box b4 [(.int .i64 a2.1), (.int .i64 a2.2.1), (.int .i64 (w64 (a2.2.2.1 + 1))), (.bool a2.2.2.2)], Item.box b2 [(.int .i64 a2.1), (.int .i64 a2.2.1), (.int .i64 (w64 (a2.2.2.1 + 1))), (.bool a2.2.2.2)]] := hC74.front 3 rfl
            have hC76 : Ctx [] w0 _ [Item.box b4 [(.int .i64 a2.1), (.int .i64 a2.2.1), (.int .i64 (w64 (a2.2.2.1 + 1))), (.bool a2.2.2.2)], Item.box b3 [v2, (.int .i64 x1.2.1), (.int .i64 x1.2.2)], Item.box b5 [v2, (.int .i64 x1.2.1), (.int .i64 x1.2.2)], Item.own v2 (x1.1 : (List Int)), Item.box b2 [(.int .i64 a2.1), (.int .i64 a2.2.1), (.int .i64 (w64 (a2.2.2.1 + 1))), (.bool a2.2.2.2)]] := hC75.front 3 rfl
            have hC77 : Ctx [] w0 _ [Item.own v2 (x1.1 : (List Int)), Item.box b4 [(.int .i64 a2.1), (.int .i64 a2.2.1), (.int .i64 (w64 (a2.2.2.1 + 1))), (.bool a2.2.2.2)], Item.box b3 [v2, (.int .i64 x1.2.1), (.int .i64 x1.2.2)], Item.box b5 [v2, (.int .i64 x1.2.1), (.int .i64 x1.2.2)], Item.box b2 [(.int .i64 a2.1), (.int .i64 a2.2.1), (.int .i64 (w64 (a2.2.2.1 + 1))), (.bool a2.2.2.2)]] := hC76.front 3 rfl
            have hC78 : Ctx [] w0 _ [Item.own v2 (x1.1 : (List Int)), Item.box b4 [(.int .i64 a2.1), (.int .i64 a2.2.1), (.int .i64 (w64 (a2.2.2.1 + 1))), (.bool a2.2.2.2)], Item.box b3 [v2, (.int .i64 x1.2.1), (.int .i64 x1.2.2)]] := hC77.headN 3
            refine nrm_sub (l' := [(6, (ptr b3 0)), (7, (ptr b4 0)), (8, (.bool true))]) ⟨rfl, rfl, rfl, trivial⟩ ?_
            exact ⟨a2.1, a2.2.1, w64 (a2.2.2.1 + 1), a2.2.2.2, v2, x1.1, x1.2.1, x1.2.2, true, rfl, rfl, hC78⟩
          · intro g' hg'
            obtain rfl : g' = 4 := hg'
            intro w23 hB19
            refine AllE_cons rfl rfl rfl ?_
            rintro _ _ ⟨rfl, rfl⟩
            refine AllE_nil ?_
            intro hn3 hb3
            have hC72 := hC71.grow hB19
            refine WA_all2 (i := 1) (j := 2) (by kernel_rfl) rfl rfl ?_ ?_
            · refine WL_load_box_agg [(.int .i64 a2.1), (.int .i64 a2.2.1), (.int .i64 (w64 (a2.2.2.1 + 1))), (.bool a2.2.2.2)] hC72 4 rfl rfl rfl Try.isAgg35 Try.sizeOf35 rfl rfl ?_
              refine WL_nil ?_
              refine WA_one 2 (by kernel_rfl) rfl ?_
              refine WL_store_box_agg (cs' := [v2, (.int .i64 x1.2.1), (.int .i64 x1.2.2)]) (new := [v2, (.int .i64 x1.2.1), (.int .i64 x1.2.2)]) hC72 3 rfl rfl (by intro v hv; simp only [List.mem_cons, List.not_mem_nil, or_false] at hv; rcases hv with rfl | rfl | rfl; exact (ro_one (hC72.ro 1 rfl)); exact rfl; exact rfl) rfl Try.sizeOf26 rfl rfl (fun w24 hC73 => ?_)
              try dsimp only [List.set] at hC73
              refine WL_nil ?_
              refine WA_one 3 (by kernel_rfl) rfl ?_
              refine WL_store_box_agg (cs' := [(.int .i64 a2.1), (.int .i64 a2.2.1), (.int .i64 (w64 (a2.2.2.1 + 1))), (.bool a2.2.2.2)]) (new := [(.int .i64 a2.1), (.int .i64 a2.2.1), (.int .i64 (w64 (a2.2.2.1 + 1))), (.bool a2.2.2.2)]) hC73 2 rfl rfl (by intro v hv; simp only [List.mem_cons, List.not_mem_nil, or_false] at hv; rcases hv with rfl | rfl | rfl | rfl; exact rfl; exact rfl; exact rfl; exact rfl) rfl Try.sizeOf35 rfl rfl (fun w25 hC74 => ?_)
              try dsimp only [List.set] at hC74
              refine WL_nil ?_
              refine WA_take 4 rfl (by kernel_rfl) (by kernel_rfl) (by kernel_rfl) rfl (fl_assign rfl) ?_
              refine WL_assign rfl rfl ?_
              refine WL_nil ?_
              refine WA_done (by kernel_rfl) ?_
              have hq10 := Option.some.inj hr8
              subst hq10
              have hC75 : Ctx [] w0 _ [Item.box b3 [v2, (.int .i64 x1.2.1), (.int .i64 x1.2.2)], Item.box b5 [v2, (.int .i64 x1.2.1), (.int .i64 x1.2.2)], Item.own v2 (x1.1 : (List Int)), Item.box b4 [(.int .i64 a2.1), (.int .i64 a2.2.1), (.int .i64 (w64 (a2.2.2.1 + 1))), (.bool a2.2.2.2)], Item.box b2 [(.int .i64 a2.1), (.int .i64 a2.2.1), (.int .i64 (w64 (a2.2.2.1 + 1))), (.bool a2.2.2.2)]] := hC74.front 3 rfl
              have hC76 : Ctx [] w0 _ [Item.box b4 [(.int .i64 a2.1), (.int .i64 a2.2.1), (.int .i64 (w64 (a2.2.2.1 + 1))), (.bool a2.2.2.2)], Item.box b3 [v2, (.int .i64 x1.2.1), (.int .i64 x1.2.2)], Item.box b5 [v2, (.int .i64 x1.2.1), (.int .i64 x1.2.2)], Item.own v2 (x1.1 : (List Int)), Item.box b2 [(.int .i64 a2.1), (.int .i64 a2.2.1), (.int .i64 (w64 (a2.2.2.1 + 1))), (.bool a2.2.2.2)]] := hC75.front 3 rfl
              have hC77 : Ctx [] w0 _ [Item.own v2 (x1.1 : (List Int)), Item.box b4 [(.int .i64 a2.1), (.int .i64 a2.2.1), (.int .i64 (w64 (a2.2.2.1 + 1))), (.bool a2.2.2.2)], Item.box b3 [v2, (.int .i64 x1.2.1), (.int .i64 x1.2.2)], Item.box b5 [v2, (.int .i64 x1.2.1), (.int .i64 x1.2.2)], Item.box b2 [(.int .i64 a2.1), (.int .i64 a2.2.1), (.int .i64 (w64 (a2.2.2.1 + 1))), (.bool a2.2.2.2)]] := hC76.front 3 rfl
              have hC78 : Ctx [] w0 _ [Item.own v2 (x1.1 : (List Int)), Item.box b4 [(.int .i64 a2.1), (.int .i64 a2.2.1), (.int .i64 (w64 (a2.2.2.1 + 1))), (.bool a2.2.2.2)], Item.box b3 [v2, (.int .i64 x1.2.1), (.int .i64 x1.2.2)]] := hC77.headN 3
              refine nrm_sub (l' := [(6, (ptr b3 0)), (7, (ptr b4 0)), (8, (.bool true))]) ⟨rfl, rfl, rfl, trivial⟩ ?_
              exact ⟨a2.1, a2.2.1, w64 (a2.2.2.1 + 1), a2.2.2.2, v2, x1.1, x1.2.1, x1.2.2, true, rfl, rfl, hC78⟩
            · refine WL_store_box_agg (cs' := [v2, (.int .i64 x1.2.1), (.int .i64 x1.2.2)]) (new := [v2, (.int .i64 x1.2.1), (.int .i64 x1.2.2)]) hC72 3 rfl rfl (by intro v hv; simp only [List.mem_cons, List.not_mem_nil, or_false] at hv; rcases hv with rfl | rfl | rfl; exact (ro_one (hC72.ro 1 rfl)); exact rfl; exact rfl) rfl Try.sizeOf26 rfl rfl (fun w24 hC73 => ?_)
              try dsimp only [List.set] at hC73
              refine WL_nil ?_
              refine WA_one 1 (by kernel_rfl) rfl ?_
              refine WL_load_box_agg [(.int .i64 a2.1), (.int .i64 a2.2.1), (.int .i64 (w64 (a2.2.2.1 + 1))), (.bool a2.2.2.2)] hC73 4 rfl rfl rfl Try.isAgg35 Try.sizeOf35 rfl rfl ?_
              refine WL_nil ?_
              refine WA_one 3 (by kernel_rfl) rfl ?_
              refine WL_store_box_agg (cs' := [(.int .i64 a2.1), (.int .i64 a2.2.1), (.int .i64 (w64 (a2.2.2.1 + 1))), (.bool a2.2.2.2)]) (new := [(.int .i64 a2.1), (.int .i64 a2.2.1), (.int .i64 (w64 (a2.2.2.1 + 1))), (.bool a2.2.2.2)]) hC73 2 rfl rfl (by intro v hv; simp only [List.mem_cons, List.not_mem_nil, or_false] at hv; rcases hv with rfl | rfl | rfl | rfl; exact rfl; exact rfl; exact rfl; exact rfl) rfl Try.sizeOf35 rfl rfl (fun w25 hC74 => ?_)
              try dsimp only [List.set] at hC74
              refine WL_nil ?_
              refine WA_take 4 rfl (by kernel_rfl) (by kernel_rfl) (by kernel_rfl) rfl (fl_assign rfl) ?_
              refine WL_assign rfl rfl ?_
              refine WL_nil ?_
              refine WA_done (by kernel_rfl) ?_
              have hq10 := Option.some.inj hr8
              subst hq10
              have hC75 : Ctx [] w0 _ [Item.box b3 [v2, (.int .i64 x1.2.1), (.int .i64 x1.2.2)], Item.box b5 [v2, (.int .i64 x1.2.1), (.int .i64 x1.2.2)], Item.own v2 (x1.1 : (List Int)), Item.box b4 [(.int .i64 a2.1), (.int .i64 a2.2.1), (.int .i64 (w64 (a2.2.2.1 + 1))), (.bool a2.2.2.2)], Item.box b2 [(.int .i64 a2.1), (.int .i64 a2.2.1), (.int .i64 (w64 (a2.2.2.1 + 1))), (.bool a2.2.2.2)]] := hC74.front 3 rfl
              have hC76 : Ctx [] w0 _ [Item.box b4 [(.int .i64 a2.1), (.int .i64 a2.2.1), (.int .i64 (w64 (a2.2.2.1 + 1))), (.bool a2.2.2.2)], Item.box b3 [v2, (.int .i64 x1.2.1), (.int .i64 x1.2.2)], Item.box b5 [v2, (.int .i64 x1.2.1), (.int .i64 x1.2.2)], Item.own v2 (x1.1 : (List Int)), Item.box b2 [(.int .i64 a2.1), (.int .i64 a2.2.1), (.int .i64 (w64 (a2.2.2.1 + 1))), (.bool a2.2.2.2)]] := hC75.front 3 rfl
              have hC77 : Ctx [] w0 _ [Item.own v2 (x1.1 : (List Int)), Item.box b4 [(.int .i64 a2.1), (.int .i64 a2.2.1), (.int .i64 (w64 (a2.2.2.1 + 1))), (.bool a2.2.2.2)], Item.box b3 [v2, (.int .i64 x1.2.1), (.int .i64 x1.2.2)], Item.box b5 [v2, (.int .i64 x1.2.1), (.int .i64 x1.2.2)], Item.box b2 [(.int .i64 a2.1), (.int .i64 a2.2.1), (.int .i64 (w64 (a2.2.2.1 + 1))), (.bool a2.2.2.2)]] := hC76.front 3 rfl
              have hC78 : Ctx [] w0 _ [Item.own v2 (x1.1 : (List Int)), Item.box b4 [(.int .i64 a2.1), (.int .i64 a2.2.1), (.int .i64 (w64 (a2.2.2.1 + 1))), (.bool a2.2.2.2)], Item.box b3 [v2, (.int .i64 x1.2.1), (.int .i64 x1.2.2)]] := hC77.headN 3
              refine nrm_sub (l' := [(6, (ptr b3 0)), (7, (ptr b4 0)), (8, (.bool true))]) ⟨rfl, rfl, rfl, trivial⟩ ?_
              exact ⟨a2.1, a2.2.1, w64 (a2.2.2.1 + 1), a2.2.2.2, v2, x1.1, x1.2.1, x1.2.2, true, rfl, rfl, hC78⟩
        · rintro _ w20 ⟨x15, x16, x17, x18, v4, x19, x20, x21, x22, rfl, rfl, hC70⟩
          try dsimp only at hF
          refine W_ret ?_
          refine nrm_ret ?_
          have hq11 := Option.some.inj hF
          subst hq11
          refine fn_retG3 rfl (rv_cell_agg (cs' := [v4, (.int .i64 x20), (.int .i64 x21)]) hC70 (i := 2) rfl rfl rfl Try.isAgg26 Try.sizeOf26 rfl) (rv_cell_agg (cs' := [(.int .i64 x15), (.int .i64 x16), (.int .i64 x17), (.bool x18)]) hC70 (i := 1) rfl rfl rfl Try.isAgg35 Try.sizeOf35 rfl) (rv_tmp rfl) ?_
          have hC79 := hC70.triv (bool_val (x22))
          have hC80 := own_st35 x15 x16 x17 x18 hC79
          have hC82 : Ctx [] w0 _ [Item.own v4 (x19 : (List Int)), Item.own (.agg #[(.int .i64 x15), (.int .i64 x16), (.int .i64 x17), (.bool x18)]) ((x15, x16, x17, x18) : (Int × Int × Int × Bool)), Item.own (.bool x22) (x22 : Bool), Item.box b4 [(.int .i64 x15), (.int .i64 x16), (.int .i64 x17), (.bool x18)], Item.box b3 [v4, (.int .i64 x20), (.int .i64 x21)]] := hC80.front 2 rfl
          have hC81 := own_st26 v4 x19 x20 x21 hC82
          exact ⟨_, rfl, res3_of hC81⟩
      · replace hF := ite_f hF hc8
        refine W_skip ?_
        refine nrm_normal ?_
        refine W_seq_reg ?_
        refine WL_field Try.underlying35 rfl rfl (fun w => ⟨_, Try.sizeOf3 w⟩) rfl rfl ?_
        refine WL_load_box hC69 4 rfl rfl Try.isAgg3 rfl rfl ?_
        refine WL_field Try.underlying35 rfl rfl (fun w => ⟨_, Try.sizeOf3 w⟩) rfl rfl ?_
        refine WL_load_box hC69 4 rfl rfl Try.isAgg3 rfl rfl ?_
        obtain ⟨x23, hr9, hF⟩ := bind_some hF
        have hC83 : Ctx [] w0 _ [Item.own v2 (x1.1 : (List Int)), Item.box b5 [v2, (.int .i64 x1.2.1), (.int .i64 x1.2.2)], Item.box b4 [(.int .i64 0), (.int .i64 0), (.int .i64 0), (.bool false)], Item.box b3 [(.slice none 0 0), (.int .i64 0), (.int .i64 0)], Item.box b2 [(.int .i64 a2.1), (.int .i64 a2.2.1), (.int .i64 (w64 (a2.2.2.1 + 1))), (.bool a2.2.2.2)]] := hC69.front 1 rfl
        obtain ⟨Fs1, hH1, hn4, hF1, hO1, hb4⟩ := Ctx.lend2 (As := [Item.box b4 [(.int .i64 0), (.int .i64 0), (.int .i64 0), (.bool false)], Item.box b3 [(.slice none 0 0), (.int .i64 0), (.int .i64 0)], Item.box b2 [(.int .i64 a2.1), (.int .i64 a2.2.1), (.int .i64 (w64 (a2.2.2.1 + 1))), (.bool a2.2.2.2)]]) [Item.own v2 (x1.1 : (List Int)), Item.box b5 [v2, (.int .i64 x1.2.1), (.int .i64 x1.2.2)]] hC83
        refine WL_call Try.call96 rfl rfl (c_M_Ledger_receive b5 (x1.1, x1.2.1, x1.2.2) v2 a2.1 a2.2.1 hH1 hn4 x23 hr9) ?_
        rintro _ w26 ⟨v5, rfl, hq12⟩
        have hC84 : Ctx [] w0 w26 [Item.own v5 (x23.1 : (List Int)), Item.box b5 [v5, (.int .i64 x23.2.1), (.int .i64 x23.2.2)], Item.box b4 [(.int .i64 0), (.int .i64 0), (.int .i64 0), (.bool false)], Item.box b3 [(.slice none 0 0), (.int .i64 0), (.int .i64 0)], Item.box b2 [(.int .i64 a2.1), (.int .i64 a2.2.1), (.int .i64 (w64 (a2.2.2.1 + 1))), (.bool a2.2.2.2)]] := hb4 _ _ hq12
        refine WL_nil ?_
        refine W_seq ?_
        refine W_seq_reg ?_
        refine WL_move rfl rfl ?_
        refine WL_eql rfl rfl rfl ?_
        refine WL_nil ?_
        obtain ⟨r4, hr10, hF⟩ := bind_some hF
        refine W_norm (fun l w => ∃ v6 : Value, ∃ x24 : (List Int), ∃ x25 : Int, ∃ x26 : Int, (x24, x25, x26) = r4 ∧ l = [(2, (.int .i64 a3)), (4, (ptr b2 0)), (6, (ptr b3 0)), (7, (ptr b4 0)), (9, (ptr b5 0))] ∧ Ctx [] w0 w [Item.own v6 (x24 : (List Int)), Item.box b5 [v6, (.int .i64 x25), (.int .i64 x26)], Item.box b4 [(.int .i64 0), (.int .i64 0), (.int .i64 0), (.bool false)], Item.box b3 [(.slice none 0 0), (.int .i64 0), (.int .i64 0)], Item.box b2 [(.int .i64 a2.1), (.int .i64 a2.2.1), (.int .i64 (w64 (a2.2.2.1 + 1))), (.bool a2.2.2.2)]]) ?_ ?_
        · refine W_cond rfl (fun hc9 => ?_) (fun hc9 => ?_)
          · replace hr10 := ite_t hr10 hc9
            refine W_reg ?_
            refine WL_field Try.underlying35 rfl rfl (fun w => ⟨_, Try.sizeOf3 w⟩) rfl rfl ?_
            refine WL_load_box hC84 4 rfl rfl Try.isAgg3 rfl rfl ?_
            refine WL_field Try.underlying35 rfl rfl (fun w => ⟨_, Try.sizeOf3 w⟩) rfl rfl ?_
            refine WL_load_box hC84 4 rfl rfl Try.isAgg3 rfl rfl ?_
            obtain ⟨x27, hr11, hr10⟩ := bind_some hr10
            have hC86 : Ctx [] w0 _ [Item.box b5 [v5, (.int .i64 x23.2.1), (.int .i64 x23.2.2)], Item.own v5 (x23.1 : (List Int)), Item.box b4 [(.int .i64 0), (.int .i64 0), (.int .i64 0), (.bool false)], Item.box b3 [(.slice none 0 0), (.int .i64 0), (.int .i64 0)], Item.box b2 [(.int .i64 a2.1), (.int .i64 a2.2.1), (.int .i64 (w64 (a2.2.2.1 + 1))), (.bool a2.2.2.2)]] := hC84.front 1 rfl
            have hC87 : Ctx [] w0 _ [Item.own v5 (x23.1 : (List Int)), Item.box b5 [v5, (.int .i64 x23.2.1), (.int .i64 x23.2.2)], Item.box b4 [(.int .i64 0), (.int .i64 0), (.int .i64 0), (.bool false)], Item.box b3 [(.slice none 0 0), (.int .i64 0), (.int .i64 0)], Item.box b2 [(.int .i64 a2.1), (.int .i64 a2.2.1), (.int .i64 (w64 (a2.2.2.1 + 1))), (.bool a2.2.2.2)]] := hC86.front 1 rfl
            obtain ⟨Fs2, hH2, hn5, hF2, hO2, hb5⟩ := Ctx.lend2 (As := [Item.box b4 [(.int .i64 0), (.int .i64 0), (.int .i64 0), (.bool false)], Item.box b3 [(.slice none 0 0), (.int .i64 0), (.int .i64 0)], Item.box b2 [(.int .i64 a2.1), (.int .i64 a2.2.1), (.int .i64 (w64 (a2.2.2.1 + 1))), (.bool a2.2.2.2)]]) [Item.own v5 (x23.1 : (List Int)), Item.box b5 [v5, (.int .i64 x23.2.1), (.int .i64 x23.2.2)]] hC87
            refine WL_call Try.call96 rfl rfl (c_M_Ledger_receive b5 (x23.1, x23.2.1, x23.2.2) v5 a2.1 a2.2.1 hH2 hn5 x27 hr11) ?_
            rintro _ w28 ⟨v7, rfl, hq13⟩
            have hC88 : Ctx [] w0 w28 [Item.own v7 (x27.1 : (List Int)), Item.box b5 [v7, (.int .i64 x27.2.1), (.int .i64 x27.2.2)], Item.box b4 [(.int .i64 0), (.int .i64 0), (.int .i64 0), (.bool false)], Item.box b3 [(.slice none 0 0), (.int .i64 0), (.int .i64 0)], Item.box b2 [(.int .i64 a2.1), (.int .i64 a2.2.1), (.int .i64 (w64 (a2.2.2.1 + 1))), (.bool a2.2.2.2)]] := hb5 _ _ hq13
            refine WL_nil ?_
            have hq14 := Option.some.inj hr10
            subst hq14
            refine nrm_sub (l' := [(2, (.int .i64 a3)), (4, (ptr b2 0)), (6, (ptr b3 0)), (7, (ptr b4 0)), (9, (ptr b5 0))]) ⟨rfl, rfl, rfl, rfl, rfl, trivial⟩ ?_
            exact ⟨v7, x27.1, x27.2.1, x27.2.2, rfl, rfl, hC88⟩
          · replace hr10 := ite_f hr10 hc9
            refine W_skip ?_
            have hq15 := Option.some.inj hr10
            subst hq15
            refine nrm_sub (l' := [(2, (.int .i64 a3)), (4, (ptr b2 0)), (6, (ptr b3 0)), (7, (ptr b4 0)), (9, (ptr b5 0))]) ⟨rfl, rfl, rfl, rfl, rfl, trivial⟩ ?_
            exact ⟨v5, x23.1, x23.2.1, x23.2.2, rfl, rfl, hC84⟩
        · rintro l4 _ w27 hs4 ⟨v6, x24, x25, x26, rfl, rfl, hC85⟩
          try dsimp only at hF
          refine nrm_sub' hs4 ?_
          clear hs4
          refine W_seq_reg ?_
          refine WL_move rfl rfl ?_
          refine WL_neq rfl rfl rfl ?_
          refine WL_field Try.underlying35 rfl rfl (fun w => ⟨_, Try.sizeOf4 w⟩) rfl rfl ?_
          refine WL_store_box (cs' := [(.int .i64 a2.1), (.int .i64 a2.2.1), (.int .i64 (w64 (a2.2.2.1 + 1))), (.bool (!decide (a3 = 2)))]) hC85 4 rfl rfl rfl rfl Try.sizeOf4 rfl rfl (fun w29 hC89 => ?_)
          try dsimp only [List.set] at hC89
          refine WL_nil ?_
          obtain ⟨r5, hr12, hF⟩ := bind_some hF
          refine W_cut (fun l w => ∃ x28 : Int, ∃ x29 : Int, ∃ x30 : Int, ∃ x31 : Bool, ∃ v8 : Value, ∃ x32 : (List Int), ∃ x33 : Int, ∃ x34 : Int, ∃ x35 : Bool, (x28, x29, x30, x31, x32, x33, x34, x35) = r5 ∧ l = [(6, (ptr b3 0)), (7, (ptr b4 0)), (8, (.bool x35))] ∧ Ctx [] w0 w [Item.own v8 (x32 : (List Int)), Item.box b4 [(.int .i64 x28), (.int .i64 x29), (.int .i64 x30), (.bool x31)], Item.box b3 [v8, (.int .i64 x33), (.int .i64 x34)]]) ?_ ?_
          · refine W_drawn 5 rfl hmix (fun w31 hB22 => ?_)
            have hC91 := hC89.grow hB22
            refine WA.sub (l' := [(2, (.int .i64 a3)), (4, (ptr b2 0)), (6, (ptr b3 0)), (7, (ptr b4 0)), (9, (ptr b5 0)), (69, (.int .i64 a3)), (70, (.bool (!decide (a3 = 2)))), (71, (ptr b2 3))]) ?_ ⟨rfl, rfl, rfl, rfl, rfl, rfl, rfl, rfl, trivial⟩
            refine WA_postsO [⟨0, [], fun vs => PW.val (.agg #[v6, (.int .i64 x25), (.int .i64 x26)]), []⟩, ⟨1, [], fun vs => PW.val (.agg #[(.int .i64 a2.1), (.int .i64 a2.2.1), (.int .i64 (w64 (a2.2.2.1 + 1))), (.bool (!decide (a3 = 2)))]), []⟩] [[], []] [1] 3 rfl (by kernel_rfl) (by kernel_rfl) ?_ ⟨?_, ?_, trivial⟩
            · refine StepsE_cons rfl ?_ ?_
              · intro w32 hB23
                refine DepsE_nil ?_
                refine ⟨_, rfl, ?_⟩
                refine WL_load_box_agg [v6, (.int .i64 x25), (.int .i64 x26)] (hC91.grow hB23) 1 rfl rfl rfl Try.isAgg26 Try.sizeOf26 rfl rfl ?_
                refine WL_nil ?_
                exact FinE_val (Below.refl _ _) rfl rfl ⟨rfl, rfl⟩
              refine StepsE_cons rfl ?_ ?_
              · intro w32 hB23
                refine DepsE_nil ?_
                refine ⟨_, rfl, ?_⟩
                refine WL_load_box_agg [(.int .i64 a2.1), (.int .i64 a2.2.1), (.int .i64 (w64 (a2.2.2.1 + 1))), (.bool (!decide (a3 = 2)))] (hC91.grow hB23) 4 rfl rfl rfl Try.isAgg35 Try.sizeOf35 rfl rfl ?_
                refine WL_nil ?_
                exact FinE_val (Below.refl _ _) rfl rfl ⟨rfl, rfl⟩
              exact StepsE_nil
            · intro g' hg'
              obtain rfl : g' = 3 := hg'
              intro w33 hB24
              refine AllE_cons rfl rfl rfl ?_
              rintro _ _ ⟨rfl, rfl⟩
              refine AllE_cons rfl rfl rfl ?_
              rintro _ _ ⟨rfl, rfl⟩
              refine AllE_nil ?_
              intro hn6 hb6
              have hC92 := hC91.grow hB24
              refine WA_one 2 (by kernel_rfl) rfl ?_
              refine WL_store_box_agg (cs' := [v6, (.int .i64 x25), (.int .i64 x26)]) (new := [v6, (.int .i64 x25), (.int .i64 x26)]) hC92 3 rfl rfl (by intro v hv; simp only [List.mem_cons, List.not_mem_nil, or_false] at hv; rcases hv with rfl | rfl | rfl; exact (ro_one (hC92.ro 0 rfl)); exact rfl; exact rfl) rfl Try.sizeOf26 rfl rfl (fun w34 hC93 => ?_)
              try dsimp only [List.set] at hC93
              refine WL_nil ?_
              refine WA_one 3 (by kernel_rfl) rfl ?_
              refine WL_store_box_agg (cs' := [(.int .i64 a2.1), (.int .i64 a2.2.1), (.int .i64 (w64 (a2.2.2.1 + 1))), (.bool (!decide (a3 = 2)))]) (new := [(.int .i64 a2.1), (.int .i64 a2.2.1), (.int .i64 (w64 (a2.2.2.1 + 1))), (.bool (!decide (a3 = 2)))]) hC93 2 rfl rfl (by intro v hv; simp only [List.mem_cons, List.not_mem_nil, or_false] at hv; rcases hv with rfl | rfl | rfl | rfl; exact rfl; exact rfl; exact rfl; exact rfl) rfl Try.sizeOf35 rfl rfl (fun w35 hC94 => ?_)
              try dsimp only [List.set] at hC94
              refine WL_nil ?_
              refine WA_take 4 rfl (by kernel_rfl) (by kernel_rfl) (by kernel_rfl) rfl (fl_assign rfl) ?_
              refine WL_assign rfl rfl ?_
              refine WL_nil ?_
              refine WA_done (by kernel_rfl) ?_
              have hq16 := Option.some.inj hr12
              subst hq16
              have hC95 : Ctx [] w0 _ [Item.box b3 [v6, (.int .i64 x25), (.int .i64 x26)], Item.own v6 (x24 : (List Int)), Item.box b5 [v6, (.int .i64 x25), (.int .i64 x26)], Item.box b4 [(.int .i64 a2.1), (.int .i64 a2.2.1), (.int .i64 (w64 (a2.2.2.1 + 1))), (.bool (!decide (a3 = 2)))], Item.box b2 [(.int .i64 a2.1), (.int .i64 a2.2.1), (.int .i64 (w64 (a2.2.2.1 + 1))), (.bool (!decide (a3 = 2)))]] := hC94.front 3 rfl
              have hC96 : Ctx [] w0 _ [Item.box b4 [(.int .i64 a2.1), (.int .i64 a2.2.1), (.int .i64 (w64 (a2.2.2.1 + 1))), (.bool (!decide (a3 = 2)))], Item.box b3 [v6, (.int .i64 x25), (.int .i64 x26)], Item.own v6 (x24 : (List Int)), Item.box b5 [v6, (.int .i64 x25), (.int .i64 x26)], Item.box b2 [(.int .i64 a2.1), (.int .i64 a2.2.1), (.int .i64 (w64 (a2.2.2.1 + 1))), (.bool (!decide (a3 = 2)))]] := hC95.front 3 rfl
              have hC97 : Ctx [] w0 _ [Item.own v6 (x24 : (List Int)), Item.box b4 [(.int .i64 a2.1), (.int .i64 a2.2.1), (.int .i64 (w64 (a2.2.2.1 + 1))), (.bool (!decide (a3 = 2)))], Item.box b3 [v6, (.int .i64 x25), (.int .i64 x26)], Item.box b5 [v6, (.int .i64 x25), (.int .i64 x26)], Item.box b2 [(.int .i64 a2.1), (.int .i64 a2.2.1), (.int .i64 (w64 (a2.2.2.1 + 1))), (.bool (!decide (a3 = 2)))]] := hC96.front 2 rfl
              have hC98 : Ctx [] w0 _ [Item.own v6 (x24 : (List Int)), Item.box b4 [(.int .i64 a2.1), (.int .i64 a2.2.1), (.int .i64 (w64 (a2.2.2.1 + 1))), (.bool (!decide (a3 = 2)))], Item.box b3 [v6, (.int .i64 x25), (.int .i64 x26)]] := hC97.headN 3
              refine nrm_sub (l' := [(6, (ptr b3 0)), (7, (ptr b4 0)), (8, (.bool true))]) ⟨rfl, rfl, rfl, trivial⟩ ?_
              exact ⟨a2.1, a2.2.1, w64 (a2.2.2.1 + 1), (!decide (a3 = 2)), v6, x24, x25, x26, true, rfl, rfl, hC98⟩
            · intro g' hg'
              obtain rfl : g' = 4 := hg'
              intro w33 hB24
              refine AllE_cons rfl rfl rfl ?_
              rintro _ _ ⟨rfl, rfl⟩
              refine AllE_nil ?_
              intro hn6 hb6
              have hC92 := hC91.grow hB24
              refine WA_all2 (i := 1) (j := 2) (by kernel_rfl) rfl rfl ?_ ?_
              · refine WL_load_box_agg [(.int .i64 a2.1), (.int .i64 a2.2.1), (.int .i64 (w64 (a2.2.2.1 + 1))), (.bool (!decide (a3 = 2)))] hC92 4 rfl rfl rfl Try.isAgg35 Try.sizeOf35 rfl rfl ?_
                refine WL_nil ?_
                refine WA_one 2 (by kernel_rfl) rfl ?_
                refine WL_store_box_agg (cs' := [v6, (.int .i64 x25), (.int .i64 x26)]) (new := [v6, (.int .i64 x25), (.int .i64 x26)]) hC92 3 rfl rfl (by intro v hv; simp only [List.mem_cons, List.not_mem_nil, or_false] at hv; rcases hv with rfl | rfl | rfl; exact (ro_one (hC92.ro 0 rfl)); exact rfl; exact rfl) rfl Try.sizeOf26 rfl rfl (fun w34 hC93 => ?_)
                try dsimp only [List.set] at hC93
                refine WL_nil ?_
                refine WA_one 3 (by kernel_rfl) rfl ?_
                refine WL_store_box_agg (cs' := [(.int .i64 a2.1), (.int .i64 a2.2.1), (.int .i64 (w64 (a2.2.2.1 + 1))), (.bool (!decide (a3 = 2)))]) (new := [(.int .i64 a2.1), (.int .i64 a2.2.1), (.int .i64 (w64 (a2.2.2.1 + 1))), (.bool (!decide (a3 = 2)))]) hC93 2 rfl rfl (by intro v hv; simp only [List.mem_cons, List.not_mem_nil, or_false] at hv; rcases hv with rfl | rfl | rfl | rfl; exact rfl; exact rfl; exact rfl; exact rfl) rfl Try.sizeOf35 rfl rfl (fun w35 hC94 => ?_)
                try dsimp only [List.set] at hC94
                refine WL_nil ?_
                refine WA_take 4 rfl (by kernel_rfl) (by kernel_rfl) (by kernel_rfl) rfl (fl_assign rfl) ?_
                refine WL_assign rfl rfl ?_
                refine WL_nil ?_
                refine WA_done (by kernel_rfl) ?_
                have hq16 := Option.some.inj hr12
                subst hq16
                have hC95 : Ctx [] w0 _ [Item.box b3 [v6, (.int .i64 x25), (.int .i64 x26)], Item.own v6 (x24 : (List Int)), Item.box b5 [v6, (.int .i64 x25), (.int .i64 x26)], Item.box b4 [(.int .i64 a2.1), (.int .i64 a2.2.1), (.int .i64 (w64 (a2.2.2.1 + 1))), (.bool (!decide (a3 = 2)))], Item.box b2 [(.int .i64 a2.1), (.int .i64 a2.2.1), (.int .i64 (w64 (a2.2.2.1 + 1))), (.bool (!decide (a3 = 2)))]] := hC94.front 3 rfl
                have hC96 : Ctx [] w0 _ [Item.box b4 [(.int .i64 a2.1), (.int .i64 a2.2.1), (.int .i64 (w64 (a2.2.2.1 + 1))), (.bool (!decide (a3 = 2)))], Item.box b3 [v6, (.int .i64 x25), (.int .i64 x26)], Item.own v6 (x24 : (List Int)), Item.box b5 [v6, (.int .i64 x25), (.int .i64 x26)], Item.box b2 [(.int .i64 a2.1), (.int .i64 a2.2.1), (.int .i64 (w64 (a2.2.2.1 + 1))), (.bool (!decide (a3 = 2)))]] := hC95.front 3 rfl
                have hC97 : Ctx [] w0 _ [Item.own v6 (x24 : (List Int)), Item.box b4 [(.int .i64 a2.1), (.int .i64 a2.2.1), (.int .i64 (w64 (a2.2.2.1 + 1))), (.bool (!decide (a3 = 2)))], Item.box b3 [v6, (.int .i64 x25), (.int .i64 x26)], Item.box b5 [v6, (.int .i64 x25), (.int .i64 x26)], Item.box b2 [(.int .i64 a2.1), (.int .i64 a2.2.1), (.int .i64 (w64 (a2.2.2.1 + 1))), (.bool (!decide (a3 = 2)))]] := hC96.front 2 rfl
                have hC98 : Ctx [] w0 _ [Item.own v6 (x24 : (List Int)), Item.box b4 [(.int .i64 a2.1), (.int .i64 a2.2.1), (.int .i64 (w64 (a2.2.2.1 + 1))), (.bool (!decide (a3 = 2)))], Item.box b3 [v6, (.int .i64 x25), (.int .i64 x26)]] := hC97.headN 3
                refine nrm_sub (l' := [(6, (ptr b3 0)), (7, (ptr b4 0)), (8, (.bool true))]) ⟨rfl, rfl, rfl, trivial⟩ ?_
                exact ⟨a2.1, a2.2.1, w64 (a2.2.2.1 + 1), (!decide (a3 = 2)), v6, x24, x25, x26, true, rfl, rfl, hC98⟩
              · refine WL_store_box_agg (cs' := [v6, (.int .i64 x25), (.int .i64 x26)]) (new := [v6, (.int .i64 x25), (.int .i64 x26)]) hC92 3 rfl rfl (by intro v hv; simp only [List.mem_cons, List.not_mem_nil, or_false] at hv; rcases hv with rfl | rfl | rfl; exact (ro_one (hC92.ro 0 rfl)); exact rfl; exact rfl) rfl Try.sizeOf26 rfl rfl (fun w34 hC93 => ?_)
                try dsimp only [List.set] at hC93
                refine WL_nil ?_
                refine WA_one 1 (by kernel_rfl) rfl ?_
                refine WL_load_box_agg [(.int .i64 a2.1), (.int .i64 a2.2.1), (.int .i64 (w64 (a2.2.2.1 + 1))), (.bool (!decide (a3 = 2)))] hC93 4 rfl rfl rfl Try.isAgg35 Try.sizeOf35 rfl rfl ?_
                refine WL_nil ?_
                refine WA_one 3 (by kernel_rfl) rfl ?_
                refine WL_store_box_agg (cs' := [(.int .i64 a2.1), (.int .i64 a2.2.1), (.int .i64 (w64 (a2.2.2.1 + 1))), (.bool (!decide (a3 = 2)))]) (new := [(.int .i64 a2.1), (.int .i64 a2.2.1), (.int .i64 (w64 (a2.2.2.1 + 1))), (.bool (!decide (a3 = 2)))]) hC93 2 rfl rfl (by intro v hv; simp only [List.mem_cons, List.not_mem_nil, or_false] at hv; rcases hv with rfl | rfl | rfl | rfl; exact rfl; exact rfl; exact rfl; exact rfl) rfl Try.sizeOf35 rfl rfl (fun w35 hC94 => ?_)
                try dsimp only [List.set] at hC94
                refine WL_nil ?_
                refine WA_take 4 rfl (by kernel_rfl) (by kernel_rfl) (by kernel_rfl) rfl (fl_assign rfl) ?_
                refine WL_assign rfl rfl ?_
                refine WL_nil ?_
                refine WA_done (by kernel_rfl) ?_
                have hq16 := Option.some.inj hr12
                subst hq16
                have hC95 : Ctx [] w0 _ [Item.box b3 [v6, (.int .i64 x25), (.int .i64 x26)], Item.own v6 (x24 : (List Int)), Item.box b5 [v6, (.int .i64 x25), (.int .i64 x26)], Item.box b4 [(.int .i64 a2.1), (.int .i64 a2.2.1), (.int .i64 (w64 (a2.2.2.1 + 1))), (.bool (!decide (a3 = 2)))], Item.box b2 [(.int .i64 a2.1), (.int .i64 a2.2.1), (.int .i64 (w64 (a2.2.2.1 + 1))), (.bool (!decide (a3 = 2)))]] := hC94.front 3 rfl
                have hC96 : Ctx [] w0 _ [Item.box b4 [(.int .i64 a2.1), (.int .i64 a2.2.1), (.int .i64 (w64 (a2.2.2.1 + 1))), (.bool (!decide (a3 = 2)))], Item.box b3 [v6, (.int .i64 x25), (.int .i64 x26)], Item.own v6 (x24 : (List Int)), Item.box b5 [v6, (.int .i64 x25), (.int .i64 x26)], Item.box b2 [(.int .i64 a2.1), (.int .i64 a2.2.1), (.int .i64 (w64 (a2.2.2.1 + 1))), (.bool (!decide (a3 = 2)))]] := hC95.front 3 rfl
                have hC97 : Ctx [] w0 _ [Item.own v6 (x24 : (List Int)), Item.box b4 [(.int .i64 a2.1), (.int .i64 a2.2.1), (.int .i64 (w64 (a2.2.2.1 + 1))), (.bool (!decide (a3 = 2)))], Item.box b3 [v6, (.int .i64 x25), (.int .i64 x26)], Item.box b5 [v6, (.int .i64 x25), (.int .i64 x26)], Item.box b2 [(.int .i64 a2.1), (.int .i64 a2.2.1), (.int .i64 (w64 (a2.2.2.1 + 1))), (.bool (!decide (a3 = 2)))]] := hC96.front 2 rfl
                have hC98 : Ctx [] w0 _ [Item.own v6 (x24 : (List Int)), Item.box b4 [(.int .i64 a2.1), (.int .i64 a2.2.1), (.int .i64 (w64 (a2.2.2.1 + 1))), (.bool (!decide (a3 = 2)))], Item.box b3 [v6, (.int .i64 x25), (.int .i64 x26)]] := hC97.headN 3
                refine nrm_sub (l' := [(6, (ptr b3 0)), (7, (ptr b4 0)), (8, (.bool true))]) ⟨rfl, rfl, rfl, trivial⟩ ?_
                exact ⟨a2.1, a2.2.1, w64 (a2.2.2.1 + 1), (!decide (a3 = 2)), v6, x24, x25, x26, true, rfl, rfl, hC98⟩
          · rintro _ w30 ⟨x28, x29, x30, x31, v8, x32, x33, x34, x35, rfl, rfl, hC90⟩
            try dsimp only at hF
            refine W_ret ?_
            have hq17 := Option.some.inj hF
            subst hq17
            refine fn_retG3 rfl (rv_cell_agg (cs' := [v8, (.int .i64 x33), (.int .i64 x34)]) hC90 (i := 2) rfl rfl rfl Try.isAgg26 Try.sizeOf26 rfl) (rv_cell_agg (cs' := [(.int .i64 x28), (.int .i64 x29), (.int .i64 x30), (.bool x31)]) hC90 (i := 1) rfl rfl rfl Try.isAgg35 Try.sizeOf35 rfl) (rv_tmp rfl) ?_
            have hC99 := hC90.triv (bool_val (x35))
            have hC100 := own_st35 x28 x29 x30 x31 hC99
            have hC102 : Ctx [] w0 _ [Item.own v8 (x32 : (List Int)), Item.own (.agg #[(.int .i64 x28), (.int .i64 x29), (.int .i64 x30), (.bool x31)]) ((x28, x29, x30, x31) : (Int × Int × Int × Bool)), Item.own (.bool x35) (x35 : Bool), Item.box b4 [(.int .i64 x28), (.int .i64 x29), (.int .i64 x30), (.bool x31)], Item.box b3 [v8, (.int .i64 x33), (.int .i64 x34)]] := hC100.front 2 rfl
            have hC101 := own_st26 v8 x32 x33 x34 hC102
            exact ⟨_, rfl, res3_of hC101⟩

theorem c_Slices_Grow_Lint_int {w0 : World} (a2 : Int) (rr : (List Int)) (hF : Slices.Grow_Lint_int a2 = some rr) :
    Calls Try.prog 139 [(.slice none 0 0), (.int .i64 a2)].toArray w0 fun e w' => ∃ v, e = .returned v ∧ Res w0 rr v w' := by
  refine calls_of_W Try.func139 rfl rfl ?_
  unfold Slices.Grow_Lint_int at hF
  obtain ⟨m, rfl, hlim, rfl⟩ := grow0_some hF
  have hlim' : m ≤ 4294967296 := by rw [LIM_eq] at hlim; exact hlim
  refine W_seq_reg ?_
  refine WL_assign rfl rfl ?_
  refine WL_nil ?_
  refine W_seq ?_
  refine W_seq_reg ?_
  refine WL_move rfl rfl ?_
  refine WL_lss rfl rfl rfl ?_
  rw [decide_eq_false (show ¬ (m : Int) < 0 by omega)]
  refine WL_nil ?_
  refine W_cond_f rfl ?_
  refine W_skip ?_
  refine nrm_normal ?_
  refine W_seq ?_
  refine W_seq_reg ?_
  refine WL_move rfl rfl ?_
  refine WL_move rfl rfl ?_
  refine WL_cap Try.underlying22 rfl rfl ?_
  refine WL_move rfl rfl ?_
  refine WL_len_nil Try.underlying22 rfl rfl ?_
  refine WL_sub rfl rfl rfl ?_
  rw [show w64 (((0 : Nat) : Int) - 0) = 0 from w64_id (by decide) (by decide)]
  refine WL_sub rfl rfl rfl ?_
  rw [show w64 ((m : Int) - 0) = (m : Int) by rw [w64_id (by omega) (by omega)]; omega]
  refine WL_assign rfl rfl ?_
  refine WL_nil ?_
  refine W_seq_reg ?_
  refine WL_move rfl rfl ?_
  refine WL_gtr rfl rfl rfl ?_
  by_cases hm : 0 < m
  · rw [decide_eq_true (show (0 : Int) < (m : Int) by omega)]
    refine WL_nil ?_
    refine W_cond_t rfl ?_
    refine W_reg ?_
    refine WL_move rfl rfl ?_
    refine WL_move rfl rfl ?_
    refine WL_cap Try.underlying22 rfl rfl ?_
    refine WL_sl_nil0 Try.underlying22 ty3 rfl rfl rfl ?_
    refine WL_move rfl rfl ?_
    refine WL_zeros_nil Try.underlying22 ty3 rfl Try.underlying3 hm hlim rfl rfl rfl (fun c' row' k2 k3 k4 => ?_)
    refine WL_move rfl rfl ?_
    refine WL_len_nil Try.underlying22 rfl rfl ?_
    refine WL_sl_h Try.underlying22 ty3 (hi := 0) (Nat.zero_le _) (by omega) rfl rfl rfl ?_
    refine WL_assign rfl rfl ?_
    refine WL_nil ?_
    refine nrm_normal ?_
    refine W_seq_reg ?_
    refine WL_move rfl rfl ?_
    refine WL_assign rfl rfl ?_
    refine WL_nil ?_
    refine W_ret ?_
    refine fn_ret1 rfl rfl ?_
    exact ⟨_, rfl, below_new w0 _, _, own_empty (heap_alloc_new w0.drew _) k2 k4, by simp, by simp⟩
  · rw [decide_eq_false (show ¬ (0 : Int) < (m : Int) by omega)]
    refine WL_nil ?_
    refine W_cond_f rfl ?_
    refine W_skip ?_
    refine nrm_normal ?_
    refine W_seq_reg ?_
    refine WL_move rfl rfl ?_
    refine WL_assign rfl rfl ?_
    refine WL_nil ?_
    refine W_ret ?_
    refine fn_ret1 rfl rfl ?_
    exact ⟨_, rfl, Below.refl _ _, [], nil_val, by simp, by simp⟩

theorem c_Slices_Concat_Lint_int {w0 : World} (a1 : (List (List Int))) (u1 : Value) (g1 : RO [] w0 u1 a1) (rr : (List Int)) (hF : Slices.Concat_Lint_int a1 = some rr) :
    Calls Try.prog 105 [u1].toArray w0 fun e w' => ∃ v, e = .returned v ∧ Res w0 rr v w' := by
  refine calls_of_W Try.func105 rfl rfl ?_
  have hC0 := Ctx.start w0
  unfold Slices.Concat_Lint_int at hF
  refine W_seq_reg ?_
  refine WL_assign rfl rfl ?_
  refine WL_nil ?_
  refine W_seq_reg ?_
  refine WL_assign rfl rfl ?_
  refine WL_nil ?_
  refine W_seq ?_
  refine W_seq_reg ?_
  refine WL_move rfl rfl ?_
  refine WL_len Try.underlying178 g1 rfl rfl ?_
  refine WL_move rfl rfl ?_
  refine WL_nil ?_
  obtain ⟨r1, hr1, hF⟩ := bind_some hF
  refine W_norm (fun l w => ∃ x3 : Int, x3 = r1 ∧ l = [(0, u1), (3, (.int .i64 x3))] ∧ Below w0.heap.size w0 w ∧ Ctx [] w0 w []) ?_ ?_
  · refine W_block ?_
    refine W.sub (l' := [(0, u1), (3, (.int .i64 0)), (9, u1), (10, (.int .i64 (List.length a1 : Int))), (11, (.int .i64 0))]) ?_ ⟨rfl, rfl, rfl, rfl, rfl, trivial⟩
    refine W_loop (fun k l w => ∃ x1 : Int, ∃ x2 : Int, l = [(0, u1), (3, (.int .i64 x1)), (9, u1), (10, (.int .i64 (List.length a1 : Int))), (11, (.int .i64 x2))] ∧ Below w0.heap.size w0 w ∧ Ctx [] w0 w [] ∧ Slices.Concat_Lint_int_l1 a1 k x1 x2 = some r1) FUEL ⟨0, 0, rfl, (Below.refl _ _), hC0, hr1⟩ ?_
    clear hr1
    rintro k1 _ w1 ⟨x1, x2, rfl, hB1, hC1, hL1⟩
    cases k1 with
    | zero => rw [Slices.Concat_Lint_int_l1] at hL1; cases hL1
    | succ k1 =>
      rw [Slices.Concat_Lint_int_l1] at hL1
      refine W_seq_reg ?_
      refine WL_lss rfl rfl rfl ?_
      refine WL_nil ?_
      refine W_seq ?_
      refine W_cond rfl (fun hc1 => ?_) (fun hc1 => ?_)
      · replace hL1 := ite_t hL1 hc1
        refine W_skip ?_
        refine nrm_normal ?_
        refine W_seq ?_
        refine W_block ?_
        refine W_seq_reg ?_
        obtain ⟨x4, hx1, hL1⟩ := bind_some hL1
        refine WL_index Try.underlying178 ty22 g1 hx1 rfl rfl rfl (fun b1 o1 h1 => ?_)
        refine WL_load ty22 h1 hC1.keep rfl rfl (fun v1 h2 => ?_)
        refine WL_assign rfl rfl ?_
        refine WL_nil ?_
        refine W_seq_reg ?_
        refine WL_move rfl rfl ?_
        refine WL_move rfl rfl ?_
        refine WL_len Try.underlying22 h2 rfl rfl ?_
        refine WL_add rfl rfl rfl ?_
        refine WL_assign rfl rfl ?_
        refine WL_nil ?_
        refine W_seq_reg ?_
        refine WL_move rfl rfl ?_
        refine WL_lss rfl rfl rfl ?_
        refine WL_nil ?_
        obtain ⟨r2, hr2, hL1⟩ := bind_some hL1
        refine W_norm (fun l w => () = r2 ∧ l = [(0, u1), (3, (.int .i64 (w64 (x1 + (List.length x4 : Int))))), (9, u1), (10, (.int .i64 (List.length a1 : Int))), (11, (.int .i64 x2))] ∧ Below w1.heap.size w1 w ∧ Ctx [] w0 w []) ?_ ?_
        · refine W_cond rfl (fun hc2 => ?_) (fun hc2 => ?_)
          · replace hr2 := ite_t hr2 hc2
            cases hr2
          · replace hr2 := ite_f hr2 hc2
            refine W_skip ?_
            have hq1 := Option.some.inj hr2
            subst hq1
            refine nrm_sub (l' := [(0, u1), (3, (.int .i64 (w64 (x1 + (List.length x4 : Int))))), (9, u1), (10, (.int .i64 (List.length a1 : Int))), (11, (.int .i64 x2))]) ⟨rfl, rfl, rfl, rfl, rfl, trivial⟩ ?_
            exact ⟨rfl, rfl, (Below.refl _ _), hC1⟩
        · rintro l2 _ w2 hs2 ⟨rfl, rfl, hB2, hC2⟩
          try dsimp only at hL1
          refine blk_normal ?_
          refine nrm_sub' hs2 ?_
          clear hs2
          refine W_reg ?_
          refine WL_add rfl rfl rfl ?_
          refine WL_move rfl rfl ?_
          refine WL_nil ?_
          refine nrm_sub (l' := [(0, u1), (3, (.int .i64 (w64 (x1 + (List.length x4 : Int))))), (9, u1), (10, (.int .i64 (List.length a1 : Int))), (11, (.int .i64 (w64 (x2 + 1))))]) ⟨rfl, rfl, rfl, rfl, rfl, trivial⟩ ?_
          exact ⟨k1, Nat.lt_succ_self _, w64 (x1 + (List.length x4 : Int)), w64 (x2 + 1), rfl, ((Keep.of hB1).then hB2).below, hC2, hL1⟩
      · replace hL1 := ite_f hL1 hc1
        refine W_exit ?_
        refine nrm_exit ?_
        refine nrm_exit ?_
        refine blk_exit ?_
        have hq2 := Option.some.inj hL1
        subst hq2
        refine nrm_sub (l' := [(0, u1), (3, (.int .i64 x1))]) ⟨rfl, rfl, trivial⟩ ?_
        exact ⟨x1, rfl, rfl, (Keep.of hB1).below, hC1⟩
  · rintro l3 _ w3 hs3 ⟨x3, rfl, rfl, hB3, hC3⟩
    try dsimp only at hF
    refine nrm_sub' hs3 ?_
    clear hs3
    refine W_seq_reg ?_
    refine WL_move rfl rfl ?_
    obtain ⟨x5, hr3, hF⟩ := bind_some hF
    refine WL_call Try.call139 rfl rfl (c_Slices_Grow_Lint_int x3 x5 hr3) ?_
    rintro v2 w4 ⟨hB4, F1, hv1, hn1, hb1⟩
    have hC4 := hC3.push hB4 (A := Item.own v2 x5) hv1 hn1 hb1
    refine WL_assign rfl rfl ?_
    refine WL_nil ?_
    refine W_seq ?_
    refine W_seq_reg ?_
    refine WL_move rfl rfl ?_
    refine WL_len Try.underlying178 g1 rfl rfl ?_
    refine WL_move rfl rfl ?_
    refine WL_nil ?_
    obtain ⟨r3, hr4, hF⟩ := bind_some hF
    refine W_norm (fun l w => ∃ v4 : Value, ∃ x8 : (List Int), x8 = r3 ∧ l = [(6, v4)] ∧ Ctx [] w0 w [Item.own v4 (x8 : (List Int))]) ?_ ?_
    · refine W_block ?_
      refine W.sub (l' := [(6, v2), (25, u1), (26, (.int .i64 (List.length a1 : Int))), (27, (.int .i64 0))]) ?_ ⟨rfl, rfl, rfl, rfl, trivial⟩
      refine W_loop (fun k l w => ∃ v3 : Value, ∃ x6 : (List Int), ∃ x7 : Int, l = [(6, v3), (25, u1), (26, (.int .i64 (List.length a1 : Int))), (27, (.int .i64 x7))] ∧ Ctx [] w0 w [Item.own v3 (x6 : (List Int))] ∧ Slices.Concat_Lint_int_l2 a1 k x6 x7 = some r3) FUEL ⟨v2, x5, 0, rfl, hC4, hr4⟩ ?_
      clear hr4
      rintro k2 _ w5 ⟨v3, x6, x7, rfl, hC5, hL2⟩
      cases k2 with
      | zero => rw [Slices.Concat_Lint_int_l2] at hL2; cases hL2
      | succ k2 =>
        rw [Slices.Concat_Lint_int_l2] at hL2
        refine W_seq_reg ?_
        refine WL_lss rfl rfl rfl ?_
        refine WL_nil ?_
        refine W_seq ?_
        refine W_cond rfl (fun hc3 => ?_) (fun hc3 => ?_)
        · replace hL2 := ite_t hL2 hc3
          refine W_skip ?_
          refine nrm_normal ?_
          refine W_seq ?_
          refine W_block ?_
          refine W_seq_reg ?_
          obtain ⟨x9, hx2, hL2⟩ := bind_some hL2
          refine WL_index Try.underlying178 ty22 g1 hx2 rfl rfl rfl (fun b2 o2 h3 => ?_)
          refine WL_load ty22 h3 hC5.keep rfl rfl (fun v5 h4 => ?_)
          refine WL_assign rfl rfl ?_
          refine WL_nil ?_
          refine W_reg ?_
          refine WL_move rfl rfl ?_
          refine WL_move rfl rfl ?_
          obtain ⟨x10, hx3, hL2⟩ := bind_some hL2
          refine WL_append_flat (α := Int) hC5 0 rfl h4 hC5.keep Try.underlying22 ty3 rfl hx3 rfl rfl rfl (fun v6 w6 hC6 => ?_)
          try dsimp only [List.set] at hC6
          refine WL_assign rfl rfl ?_
          refine WL_nil ?_
          refine blk_normal ?_
          refine nrm_normal ?_
          refine W_reg ?_
          refine WL_add rfl rfl rfl ?_
          refine WL_move rfl rfl ?_
          refine WL_nil ?_
          refine nrm_sub (l' := [(6, v6), (25, u1), (26, (.int .i64 (List.length a1 : Int))), (27, (.int .i64 (w64 (x7 + 1))))]) ⟨rfl, rfl, rfl, rfl, trivial⟩ ?_
          exact ⟨k2, Nat.lt_succ_self _, v6, x10, w64 (x7 + 1), rfl, hC6, hL2⟩
        · replace hL2 := ite_f hL2 hc3
          refine W_exit ?_
          refine nrm_exit ?_
          refine nrm_exit ?_
          refine blk_exit ?_
          have hq3 := Option.some.inj hL2
          subst hq3
          refine nrm_sub (l' := [(6, v3)]) ⟨rfl, trivial⟩ ?_
          exact ⟨v3, x6, rfl, rfl, hC5⟩
    · rintro l5 _ w7 hs5 ⟨v4, x8, rfl, rfl, hC7⟩
      try dsimp only at hF
      refine nrm_sub' hs5 ?_
      clear hs5
      refine W_seq_reg ?_
      refine WL_move rfl rfl ?_
      refine WL_assign rfl rfl ?_
      refine WL_nil ?_
      refine W_ret ?_
      have hq4 := Option.some.inj hF
      subst hq4
      refine fn_ret1 rfl rfl ?_
      exact ⟨_, rfl, own_res hC7 0 rfl⟩

theorem c_M_FinishCall {w0 : World} (a1 : ((List Int) × Int × Int)) (u1 : Value) (g1 : RO [] w0 u1 a1.1) (a2 : (Int × Int × Int × Bool)) (a3 : (List Int)) (u2 : Value) (g2 : RO [] w0 u2 a3) (rr : (((List Int) × Int × Int) × (Int × Int × Int × Bool))) (hF : M.FinishCall a1 a2 a3 = some rr) :
    Calls Try.prog 38 [(.agg #[u1, (.int .i64 a1.2.1), (.int .i64 a1.2.2)]), (.agg #[(.int .i64 a2.1), (.int .i64 a2.2.1), (.int .i64 a2.2.2.1), (.bool a2.2.2.2)]), u2].toArray w0 fun e w' => ∃ v, e = .returned v ∧ Res2 w0 rr.1 rr.2 v w' := by
  refine calls_of_W Try.func38 rfl rfl ?_
  have hC0 := Ctx.start w0
  unfold M.FinishCall at hF
  refine W_seq_reg ?_
  refine WL_box (cs := [u1, (.int .i64 a1.2.1), (.int .i64 a1.2.2)]) hC0 rfl rfl rfl (fun b1 w1 hC1 hB1 => ?_)
  refine WL_box (cs := [(.int .i64 a2.1), (.int .i64 a2.2.1), (.int .i64 a2.2.2.1), (.bool a2.2.2.2)]) hC1 rfl rfl rfl (fun b2 w2 hC2 hB2 => ?_)
  refine WL_alloc hC2 zero26 rfl rfl (fun b3 w3 hC3 hB3 => ?_)
  refine WL_alloc hC3 zero35 rfl rfl (fun b4 w4 hC4 hB4 => ?_)
  refine WL_nil ?_
  refine W_seq_reg ?_
  refine WL_load_box_agg [u1, (.int .i64 a1.2.1), (.int .i64 a1.2.2)] hC4 3 rfl rfl rfl Try.isAgg26 Try.sizeOf26 rfl rfl ?_
  obtain ⟨x1, hr1, hF⟩ := bind_some hF
  refine WL_call Try.call93 rfl rfl (c_M_copyLedger (a1.1, a1.2.1, a1.2.2) u1 (g1.now hC4.keep) x1 hr1) ?_
  rintro v1 w5 ⟨hB5, F1, hv1, hn1, hb1⟩
  have hC5 := hC4.push hB5 (A := Item.own v1 x1) hv1 hn1 hb1
  obtain ⟨v2, rfl, hC6⟩ := st26_own hC5
  refine WL_alloc hC6 zero26 rfl rfl (fun b5 w6 hC7 hB6 => ?_)
  refine WL_store_box_agg (cs' := [v2, (.int .i64 x1.2.1), (.int .i64 x1.2.2)]) (new := [v2, (.int .i64 x1.2.1), (.int .i64 x1.2.2)]) hC7 0 rfl rfl (by intro v hv; simp only [List.mem_cons, List.not_mem_nil, or_false] at hv; rcases hv with rfl | rfl | rfl; exact (ro_one (hC7.ro 1 rfl)); exact rfl; exact rfl) rfl Try.sizeOf26 rfl rfl (fun w7 hC8 => ?_)
  try dsimp only [List.set] at hC8
  refine WL_nil ?_
  refine W_seq ?_
  refine W_seq_reg ?_
  refine WL_move rfl rfl ?_
  refine WL_move rfl rfl ?_
  refine WL_len Try.underlying22 g2 rfl rfl ?_
  refine WL_min rfl rfl rfl ?_
  obtain ⟨x2, hx1, hF⟩ := bind_some hF
  refine WL_slice_h Try.underlying22 ty3 g2 hx1 rfl rfl rfl (fun v3 h1 => ?_)
  refine WL_buildSlice (vs := [(.int .i64 0)]) hC8 Try.underlying22 ty3 rfl rfl rfl rfl (by intro v hv; simp only [List.mem_cons, List.not_mem_nil, or_false] at hv; rcases hv with rfl <;> rfl) rfl rfl (fun b6 w8 hC9 hB7 => ?_)
  have hC10 := hC9.row0 (α := Int)
  have hC11 := hC10.triv (int_val (0))
  have hC12 := hC11.row1
  have hC13 := hC12.front 1 rfl
  dsimp only [List.eraseIdx, List.cons_append, List.nil_append, List.append_nil] at hC13
  have hC14 : Ctx [] w0 w8 (Item.own (.slice (some ⟨b6, 0, none⟩) 1 1) ([0] : List Int) :: [Item.box b5 [v2, (.int .i64 x1.2.1), (.int .i64 x1.2.2)], Item.own v2 (x1.1 : (List Int)), Item.box b4 [(.int .i64 0), (.int .i64 0), (.int .i64 0), (.bool false)], Item.box b3 [(.slice none 0 0), (.int .i64 0), (.int .i64 0)], Item.box b2 [(.int .i64 a2.1), (.int .i64 a2.2.1), (.int .i64 a2.2.2.1), (.bool a2.2.2.2)], Item.box b1 [u1, (.int .i64 a1.2.1), (.int .i64 a1.2.2)]]) := hC13.rowOwn (by simp [maxLen])
  refine WL_buildSlice (vs := [v3, (.slice (some ⟨b6, 0, none⟩) 1 1)]) hC14 Try.underlying178 ty22 rfl rfl rfl rfl (by intro v hv; simp only [List.mem_cons, List.not_mem_nil, or_false] at hv; rcases hv with rfl | rfl; exact (by rw [ro_cells h1]; rfl); exact (by rw [ro_cells (hC14.ro 0 rfl)]; rfl)) (by simp only [List.flatMap_cons, List.flatMap_nil, ro_cells h1, ro_cells (hC14.ro 0 rfl)]; rfl) rfl (fun b7 w9 hC15 hB8 => ?_)
  obtain ⟨x3, hr2, hF⟩ := bind_some hF
  refine WL_call Try.call105 rfl rfl (c_Slices_Concat_Lint_int ([x2, [0]] : List (List Int)) (.slice (some ⟨b7, 0, none⟩) 2 2) ((hC15.litRO (m := 2) 0 rfl (rowro_cons (repw_slice (h1.now hC15.keep)) (rowro_cons (repw_slice (hC15.ro 1 rfl)) rowro_nil)) rfl (by simp [maxLen]) (by decide)).now (Keep.refl _ _)) x3 hr2) ?_
  rintro v4 w10 ⟨hB9, F2, hv2, hn2, hb2⟩
  have hC16 := hC15.push hB9 (A := Item.own v4 x3) hv2 hn2 hb2
  refine WL_len Try.underlying22 (hC16.ro 0 rfl) rfl rfl ?_
  refine WL_move rfl rfl ?_
  refine WL_nil ?_
  obtain ⟨r1, hr3, hF⟩ := bind_some hF
  refine W_norm (fun l w => ∃ v6 : Value, ∃ x12 : (List Int), ∃ x13 : Int, ∃ x14 : Int, ∃ x15 : Int, ∃ x16 : Int, ∃ x17 : Int, ∃ x18 : Bool, (x12, x13, x14, x15, x16, x17, x18) = r1 ∧ l = [(4, (ptr b2 0)), (6, (ptr b3 0)), (7, (ptr b4 0)), (8, (ptr b5 0))] ∧ Ctx [] w0 w [Item.box b5 [v6, (.int .i64 x13), (.int .i64 x14)], Item.own v6 (x12 : (List Int)), Item.box b4 [(.int .i64 0), (.int .i64 0), (.int .i64 0), (.bool false)], Item.box b3 [(.slice none 0 0), (.int .i64 0), (.int .i64 0)], Item.box b2 [(.int .i64 x15), (.int .i64 x16), (.int .i64 x17), (.bool x18)]]) ?_ ?_
  · refine W_block ?_
    have hC37 : Ctx [] w0 _ [Item.box b2 [(.int .i64 a2.1), (.int .i64 a2.2.1), (.int .i64 a2.2.2.1), (.bool a2.2.2.2)], Item.own v4 (x3 : (List Int)), Item.box b7 [v3, (.slice (some ⟨b6, 0, none⟩) 1 1)], Item.own (.slice (some ⟨b6, 0, none⟩) 1 1) ([0] : (List Int)), Item.box b5 [v2, (.int .i64 x1.2.1), (.int .i64 x1.2.2)], Item.own v2 (x1.1 : (List Int)), Item.box b4 [(.int .i64 0), (.int .i64 0), (.int .i64 0), (.bool false)], Item.box b3 [(.slice none 0 0), (.int .i64 0), (.int .i64 0)], Item.box b1 [u1, (.int .i64 a1.2.1), (.int .i64 a1.2.2)]] := hC16.front 7 rfl
    have hC38 : Ctx [] w0 _ [Item.box b3 [(.slice none 0 0), (.int .i64 0), (.int .i64 0)], Item.box b2 [(.int .i64 a2.1), (.int .i64 a2.2.1), (.int .i64 a2.2.2.1), (.bool a2.2.2.2)], Item.own v4 (x3 : (List Int)), Item.box b7 [v3, (.slice (some ⟨b6, 0, none⟩) 1 1)], Item.own (.slice (some ⟨b6, 0, none⟩) 1 1) ([0] : (List Int)), Item.box b5 [v2, (.int .i64 x1.2.1), (.int .i64 x1.2.2)], Item.own v2 (x1.1 : (List Int)), Item.box b4 [(.int .i64 0), (.int .i64 0), (.int .i64 0), (.bool false)], Item.box b1 [u1, (.int .i64 a1.2.1), (.int .i64 a1.2.2)]] := hC37.front 7 rfl
    have hC39 : Ctx [] w0 _ [Item.box b4 [(.int .i64 0), (.int .i64 0), (.int .i64 0), (.bool false)], Item.box b3 [(.slice none 0 0), (.int .i64 0), (.int .i64 0)], Item.box b2 [(.int .i64 a2.1), (.int .i64 a2.2.1), (.int .i64 a2.2.2.1), (.bool a2.2.2.2)], Item.own v4 (x3 : (List Int)), Item.box b7 [v3, (.slice (some ⟨b6, 0, none⟩) 1 1)], Item.own (.slice (some ⟨b6, 0, none⟩) 1 1) ([0] : (List Int)), Item.box b5 [v2, (.int .i64 x1.2.1), (.int .i64 x1.2.2)], Item.own v2 (x1.1 : (List Int)), Item.box b1 [u1, (.int .i64 a1.2.1), (.int .i64 a1.2.2)]] := hC38.front 7 rfl
    have hC40 : Ctx [] w0 _ [Item.own v2 (x1.1 : (List Int)), Item.box b4 [(.int .i64 0), (.int .i64 0), (.int .i64 0), (.bool false)], Item.box b3 [(.slice none 0 0), (.int .i64 0), (.int .i64 0)], Item.box b2 [(.int .i64 a2.1), (.int .i64 a2.2.1), (.int .i64 a2.2.2.1), (.bool a2.2.2.2)], Item.own v4 (x3 : (List Int)), Item.box b7 [v3, (.slice (some ⟨b6, 0, none⟩) 1 1)], Item.own (.slice (some ⟨b6, 0, none⟩) 1 1) ([0] : (List Int)), Item.box b5 [v2, (.int .i64 x1.2.1), (.int .i64 x1.2.2)], Item.box b1 [u1, (.int .i64 a1.2.1), (.int .i64 a1.2.2)]] := hC39.front 7 rfl
    have hC41 : Ctx [] w0 _ [Item.box b5 [v2, (.int .i64 x1.2.1), (.int .i64 x1.2.2)], Item.own v2 (x1.1 : (List Int)), Item.box b4 [(.int .i64 0), (.int .i64 0), (.int .i64 0), (.bool false)], Item.box b3 [(.slice none 0 0), (.int .i64 0), (.int .i64 0)], Item.box b2 [(.int .i64 a2.1), (.int .i64 a2.2.1), (.int .i64 a2.2.2.1), (.bool a2.2.2.2)], Item.own v4 (x3 : (List Int)), Item.box b7 [v3, (.slice (some ⟨b6, 0, none⟩) 1 1)], Item.own (.slice (some ⟨b6, 0, none⟩) 1 1) ([0] : (List Int)), Item.box b1 [u1, (.int .i64 a1.2.1), (.int .i64 a1.2.2)]] := hC40.front 7 rfl
    have hC42 : Ctx [] w0 _ [Item.own v4 (x3 : (List Int)), Item.box b5 [v2, (.int .i64 x1.2.1), (.int .i64 x1.2.2)], Item.own v2 (x1.1 : (List Int)), Item.box b4 [(.int .i64 0), (.int .i64 0), (.int .i64 0), (.bool false)], Item.box b3 [(.slice none 0 0), (.int .i64 0), (.int .i64 0)], Item.box b2 [(.int .i64 a2.1), (.int .i64 a2.2.1), (.int .i64 a2.2.2.1), (.bool a2.2.2.2)], Item.box b7 [v3, (.slice (some ⟨b6, 0, none⟩) 1 1)], Item.own (.slice (some ⟨b6, 0, none⟩) 1 1) ([0] : (List Int)), Item.box b1 [u1, (.int .i64 a1.2.1), (.int .i64 a1.2.2)]] := hC41.front 5 rfl
    have hC43 : Ctx [] w0 _ [Item.own v4 (x3 : (List Int)), Item.box b5 [v2, (.int .i64 x1.2.1), (.int .i64 x1.2.2)], Item.own v2 (x1.1 : (List Int)), Item.box b4 [(.int .i64 0), (.int .i64 0), (.int .i64 0), (.bool false)], Item.box b3 [(.slice none 0 0), (.int .i64 0), (.int .i64 0)], Item.box b2 [(.int .i64 a2.1), (.int .i64 a2.2.1), (.int .i64 a2.2.2.1), (.bool a2.2.2.2)]] := hC42.headN 6
    refine W.sub (l' := [(4, (ptr b2 0)), (6, (ptr b3 0)), (7, (ptr b4 0)), (8, (ptr b5 0)), (20, v4), (21, (.int .i64 (List.length x3 : Int))), (22, (.int .i64 0))]) ?_ ⟨rfl, rfl, rfl, rfl, rfl, rfl, rfl, trivial⟩
    refine W_loop (fun k l w => ∃ v5 : Value, ∃ x4 : (List Int), ∃ x5 : Int, ∃ x6 : Int, ∃ x7 : Int, ∃ x8 : Int, ∃ x9 : Int, ∃ x10 : Bool, ∃ x11 : Int, l = [(4, (ptr b2 0)), (6, (ptr b3 0)), (7, (ptr b4 0)), (8, (ptr b5 0)), (20, v4), (21, (.int .i64 (List.length x3 : Int))), (22, (.int .i64 x11))] ∧ Ctx [] w0 w [Item.own v4 (x3 : (List Int)), Item.box b5 [v5, (.int .i64 x5), (.int .i64 x6)], Item.own v5 (x4 : (List Int)), Item.box b4 [(.int .i64 0), (.int .i64 0), (.int .i64 0), (.bool false)], Item.box b3 [(.slice none 0 0), (.int .i64 0), (.int .i64 0)], Item.box b2 [(.int .i64 x7), (.int .i64 x8), (.int .i64 x9), (.bool x10)]] ∧ M.FinishCall_l1 x3 k x4 x5 x6 x7 x8 x9 x10 x11 = some r1) FUEL ⟨v2, x1.1, x1.2.1, x1.2.2, a2.1, a2.2.1, a2.2.2.1, a2.2.2.2, 0, rfl, hC43, hr3⟩ ?_
    clear hr3
    rintro k1 _ w11 ⟨v5, x4, x5, x6, x7, x8, x9, x10, x11, rfl, hC17, hL1⟩
    cases k1 with
    | zero => rw [M.FinishCall_l1] at hL1; cases hL1
    | succ k1 =>
      rw [M.FinishCall_l1] at hL1
      refine W_seq_reg ?_
      refine WL_lss rfl rfl rfl ?_
      refine WL_nil ?_
      refine W_seq ?_
      refine W_cond rfl (fun hc1 => ?_) (fun hc1 => ?_)
      · replace hL1 := ite_t hL1 hc1
        refine W_skip ?_
        refine nrm_normal ?_
        refine W_seq ?_
        refine W_block ?_
        refine W_seq_reg ?_
        obtain ⟨x19, hx2, hL1⟩ := bind_some hL1
        refine WL_index Try.underlying22 ty3 (hC17.ro 0 rfl) hx2 rfl rfl rfl (fun b8 o1 h2 => ?_)
        refine WL_load ty3 h2 (Keep.refl _ _) rfl rfl (fun v7 h3 => ?_)
        obtain rfl := ro_int h3
        refine WL_assign rfl rfl ?_
        refine WL_nil ?_
        refine W_reg ?_
        refine WL_load_box_agg [v5, (.int .i64 x5), (.int .i64 x6)] hC17 1 rfl rfl rfl Try.isAgg26 Try.sizeOf26 rfl rfl ?_
        refine WL_load_box_agg [(.int .i64 x7), (.int .i64 x8), (.int .i64 x9), (.bool x10)] hC17 5 rfl rfl rfl Try.isAgg35 Try.sizeOf35 rfl rfl ?_
        refine WL_move rfl rfl ?_
        obtain ⟨x20, hr4, hL1⟩ := bind_some hL1
        refine WL_call Try.call24 rfl rfl (c_M_TryCall (x4, x5, x6) v5 ((hC17.ro 2 rfl).now (Keep.refl _ _)) (x7, x8, x9, x10) x19 x20 hr4) ?_
        rintro _ w12 ⟨hB11, v8, v9, v10, F3, F4, F5, rfl, hv3, hv4, hv5, hn3, hb3⟩
        obtain ⟨rfl, rfl⟩ := val_bool hv5
        have hC18 := hC17.pushL hB11 (Bs := [Item.own v8 x20.1, Item.own v9 x20.2.1]) (Fs := [F3, F4]) ⟨F3, _, rfl, hv3, F4, _, rfl, hv4, rfl⟩ (by simpa using hn3) (fun b h => hb3 b (by simpa using h))
        obtain ⟨v11, rfl, hC19⟩ := st26_own hC18
        have hC20 : Ctx [] w0 _ [Item.own v9 (x20.2.1 : (Int × Int × Int × Bool)), Item.own v11 (x20.1.1 : (List Int)), Item.own v4 (x3 : (List Int)), Item.box b5 [v5, (.int .i64 x5), (.int .i64 x6)], Item.own v5 (x4 : (List Int)), Item.box b4 [(.int .i64 0), (.int .i64 0), (.int .i64 0), (.bool false)], Item.box b3 [(.slice none 0 0), (.int .i64 0), (.int .i64 0)], Item.box b2 [(.int .i64 x7), (.int .i64 x8), (.int .i64 x9), (.bool x10)]] := hC19.front 1 rfl
        obtain ⟨rfl, hC21⟩ := st35_own hC20
        refine WL_move rfl rfl ?_
        refine WL_extract rfl rfl rfl ?_
        refine WL_extract rfl rfl rfl ?_
        refine WL_extract rfl rfl rfl ?_
        refine WL_store_box_agg (cs' := [v11, (.int .i64 x20.1.2.1), (.int .i64 x20.1.2.2)]) (new := [v11, (.int .i64 x20.1.2.1), (.int .i64 x20.1.2.2)]) hC21 2 rfl rfl (by intro v hv; simp only [List.mem_cons, List.not_mem_nil, or_false] at hv; rcases hv with rfl | rfl | rfl; exact (ro_one (hC21.ro 0 rfl)); exact rfl; exact rfl) rfl Try.sizeOf26 rfl rfl (fun w13 hC22 => ?_)
        try dsimp only [List.set] at hC22
        refine WL_store_box_agg (cs' := [(.int .i64 x20.2.1.1), (.int .i64 x20.2.1.2.1), (.int .i64 x20.2.1.2.2.1), (.bool x20.2.1.2.2.2)]) (new := [(.int .i64 x20.2.1.1), (.int .i64 x20.2.1.2.1), (.int .i64 x20.2.1.2.2.1), (.bool x20.2.1.2.2.2)]) hC22 6 rfl rfl (by intro v hv; simp only [List.mem_cons, List.not_mem_nil, or_false] at hv; rcases hv with rfl | rfl | rfl | rfl; exact rfl; exact rfl; exact rfl; exact rfl) rfl Try.sizeOf35 rfl rfl (fun w14 hC23 => ?_)
        try dsimp only [List.set] at hC23
        refine WL_nil ?_
        refine blk_normal ?_
        refine nrm_normal ?_
        refine W_reg ?_
        refine WL_add rfl rfl rfl ?_
        refine WL_move rfl rfl ?_
        refine WL_nil ?_
        have hC24 : Ctx [] w0 _ [Item.box b2 [(.int .i64 x20.2.1.1), (.int .i64 x20.2.1.2.1), (.int .i64 x20.2.1.2.2.1), (.bool x20.2.1.2.2.2)], Item.own v11 (x20.1.1 : (List Int)), Item.own v4 (x3 : (List Int)), Item.box b5 [v11, (.int .i64 x20.1.2.1), (.int .i64 x20.1.2.2)], Item.own v5 (x4 : (List Int)), Item.box b4 [(.int .i64 0), (.int .i64 0), (.int .i64 0), (.bool false)], Item.box b3 [(.slice none 0 0), (.int .i64 0), (.int .i64 0)]] := hC23.front 6 rfl
        have hC25 : Ctx [] w0 _ [Item.box b3 [(.slice none 0 0), (.int .i64 0), (.int .i64 0)], Item.box b2 [(.int .i64 x20.2.1.1), (.int .i64 x20.2.1.2.1), (.int .i64 x20.2.1.2.2.1), (.bool x20.2.1.2.2.2)], Item.own v11 (x20.1.1 : (List Int)), Item.own v4 (x3 : (List Int)), Item.box b5 [v11, (.int .i64 x20.1.2.1), (.int .i64 x20.1.2.2)], Item.own v5 (x4 : (List Int)), Item.box b4 [(.int .i64 0), (.int .i64 0), (.int .i64 0), (.bool false)]] := hC24.front 6 rfl
        have hC26 : Ctx [] w0 _ [Item.box b4 [(.int .i64 0), (.int .i64 0), (.int .i64 0), (.bool false)], Item.box b3 [(.slice none 0 0), (.int .i64 0), (.int .i64 0)], Item.box b2 [(.int .i64 x20.2.1.1), (.int .i64 x20.2.1.2.1), (.int .i64 x20.2.1.2.2.1), (.bool x20.2.1.2.2.2)], Item.own v11 (x20.1.1 : (List Int)), Item.own v4 (x3 : (List Int)), Item.box b5 [v11, (.int .i64 x20.1.2.1), (.int .i64 x20.1.2.2)], Item.own v5 (x4 : (List Int))] := hC25.front 6 rfl
        have hC27 : Ctx [] w0 _ [Item.own v11 (x20.1.1 : (List Int)), Item.box b4 [(.int .i64 0), (.int .i64 0), (.int .i64 0), (.bool false)], Item.box b3 [(.slice none 0 0), (.int .i64 0), (.int .i64 0)], Item.box b2 [(.int .i64 x20.2.1.1), (.int .i64 x20.2.1.2.1), (.int .i64 x20.2.1.2.2.1), (.bool x20.2.1.2.2.2)], Item.own v4 (x3 : (List Int)), Item.box b5 [v11, (.int .i64 x20.1.2.1), (.int .i64 x20.1.2.2)], Item.own v5 (x4 : (List Int))] := hC26.front 3 rfl
        have hC28 : Ctx [] w0 _ [Item.box b5 [v11, (.int .i64 x20.1.2.1), (.int .i64 x20.1.2.2)], Item.own v11 (x20.1.1 : (List Int)), Item.box b4 [(.int .i64 0), (.int .i64 0), (.int .i64 0), (.bool false)], Item.box b3 [(.slice none 0 0), (.int .i64 0), (.int .i64 0)], Item.box b2 [(.int .i64 x20.2.1.1), (.int .i64 x20.2.1.2.1), (.int .i64 x20.2.1.2.2.1), (.bool x20.2.1.2.2.2)], Item.own v4 (x3 : (List Int)), Item.own v5 (x4 : (List Int))] := hC27.front 5 rfl
        have hC29 : Ctx [] w0 _ [Item.own v4 (x3 : (List Int)), Item.box b5 [v11, (.int .i64 x20.1.2.1), (.int .i64 x20.1.2.2)], Item.own v11 (x20.1.1 : (List Int)), Item.box b4 [(.int .i64 0), (.int .i64 0), (.int .i64 0), (.bool false)], Item.box b3 [(.slice none 0 0), (.int .i64 0), (.int .i64 0)], Item.box b2 [(.int .i64 x20.2.1.1), (.int .i64 x20.2.1.2.1), (.int .i64 x20.2.1.2.2.1), (.bool x20.2.1.2.2.2)], Item.own v5 (x4 : (List Int))] := hC28.front 5 rfl
        have hC30 : Ctx [] w0 _ [Item.own v4 (x3 : (List Int)), Item.box b5 [v11, (.int .i64 x20.1.2.1), (.int .i64 x20.1.2.2)], Item.own v11 (x20.1.1 : (List Int)), Item.box b4 [(.int .i64 0), (.int .i64 0), (.int .i64 0), (.bool false)], Item.box b3 [(.slice none 0 0), (.int .i64 0), (.int .i64 0)], Item.box b2 [(.int .i64 x20.2.1.1), (.int .i64 x20.2.1.2.1), (.int .i64 x20.2.1.2.2.1), (.bool x20.2.1.2.2.2)]] := hC29.headN 6
        refine nrm_sub (l' := [(4, (ptr b2 0)), (6, (ptr b3 0)), (7, (ptr b4 0)), (8, (ptr b5 0)), (20, v4), (21, (.int .i64 (List.length x3 : Int))), (22, (.int .i64 (w64 (x11 + 1))))]) ⟨rfl, rfl, rfl, rfl, rfl, rfl, rfl, trivial⟩ ?_
        exact ⟨k1, Nat.lt_succ_self _, v11, x20.1.1, x20.1.2.1, x20.1.2.2, x20.2.1.1, x20.2.1.2.1, x20.2.1.2.2.1, x20.2.1.2.2.2, w64 (x11 + 1), rfl, hC30, hL1⟩
      · replace hL1 := ite_f hL1 hc1
        refine W_exit ?_
        refine nrm_exit ?_
        refine nrm_exit ?_
        refine blk_exit ?_
        have hq1 := Option.some.inj hL1
        subst hq1
        have hC31 : Ctx [] w0 _ [Item.box b2 [(.int .i64 x7), (.int .i64 x8), (.int .i64 x9), (.bool x10)], Item.own v4 (x3 : (List Int)), Item.box b5 [v5, (.int .i64 x5), (.int .i64 x6)], Item.own v5 (x4 : (List Int)), Item.box b4 [(.int .i64 0), (.int .i64 0), (.int .i64 0), (.bool false)], Item.box b3 [(.slice none 0 0), (.int .i64 0), (.int .i64 0)]] := hC17.front 5 rfl
        have hC32 : Ctx [] w0 _ [Item.box b3 [(.slice none 0 0), (.int .i64 0), (.int .i64 0)], Item.box b2 [(.int .i64 x7), (.int .i64 x8), (.int .i64 x9), (.bool x10)], Item.own v4 (x3 : (List Int)), Item.box b5 [v5, (.int .i64 x5), (.int .i64 x6)], Item.own v5 (x4 : (List Int)), Item.box b4 [(.int .i64 0), (.int .i64 0), (.int .i64 0), (.bool false)]] := hC31.front 5 rfl
        have hC33 : Ctx [] w0 _ [Item.box b4 [(.int .i64 0), (.int .i64 0), (.int .i64 0), (.bool false)], Item.box b3 [(.slice none 0 0), (.int .i64 0), (.int .i64 0)], Item.box b2 [(.int .i64 x7), (.int .i64 x8), (.int .i64 x9), (.bool x10)], Item.own v4 (x3 : (List Int)), Item.box b5 [v5, (.int .i64 x5), (.int .i64 x6)], Item.own v5 (x4 : (List Int))] := hC32.front 5 rfl
        have hC34 : Ctx [] w0 _ [Item.own v5 (x4 : (List Int)), Item.box b4 [(.int .i64 0), (.int .i64 0), (.int .i64 0), (.bool false)], Item.box b3 [(.slice none 0 0), (.int .i64 0), (.int .i64 0)], Item.box b2 [(.int .i64 x7), (.int .i64 x8), (.int .i64 x9), (.bool x10)], Item.own v4 (x3 : (List Int)), Item.box b5 [v5, (.int .i64 x5), (.int .i64 x6)]] := hC33.front 5 rfl
        have hC35 : Ctx [] w0 _ [Item.box b5 [v5, (.int .i64 x5), (.int .i64 x6)], Item.own v5 (x4 : (List Int)), Item.box b4 [(.int .i64 0), (.int .i64 0), (.int .i64 0), (.bool false)], Item.box b3 [(.slice none 0 0), (.int .i64 0), (.int .i64 0)], Item.box b2 [(.int .i64 x7), (.int .i64 x8), (.int .i64 x9), (.bool x10)], Item.own v4 (x3 : (List Int))] := hC34.front 5 rfl
        have hC36 : Ctx [] w0 _ [Item.box b5 [v5, (.int .i64 x5), (.int .i64 x6)], Item.own v5 (x4 : (List Int)), Item.box b4 [(.int .i64 0), (.int .i64 0), (.int .i64 0), (.bool false)], Item.box b3 [(.slice none 0 0), (.int .i64 0), (.int .i64 0)], Item.box b2 [(.int .i64 x7), (.int .i64 x8), (.int .i64 x9), (.bool x10)]] := hC35.headN 5
        refine nrm_sub (l' := [(4, (ptr b2 0)), (6, (ptr b3 0)), (7, (ptr b4 0)), (8, (ptr b5 0))]) ⟨rfl, rfl, rfl, rfl, trivial⟩ ?_
        exact ⟨v5, x4, x5, x6, x7, x8, x9, x10, rfl, rfl, hC36⟩
  · rintro l2 _ w15 hs2 ⟨v6, x12, x13, x14, x15, x16, x17, x18, rfl, rfl, hC44⟩
    try dsimp only at hF
    refine nrm_sub' hs2 ?_
    clear hs2
    obtain ⟨r2, hr5, hF⟩ := bind_some hF
    refine W_cut (fun l w => ∃ x21 : Int, ∃ x22 : Int, ∃ x23 : Int, ∃ x24 : Bool, ∃ v12 : Value, ∃ x25 : (List Int), ∃ x26 : Int, ∃ x27 : Int, (x21, x22, x23, x24, x25, x26, x27) = r2 ∧ l = [(6, (ptr b3 0)), (7, (ptr b4 0))] ∧ Ctx [] w0 w [Item.own v12 (x25 : (List Int)), Item.box b4 [(.int .i64 x21), (.int .i64 x22), (.int .i64 x23), (.bool x24)], Item.box b3 [v12, (.int .i64 x26), (.int .i64 x27)]]) ?_ ?_
    · refine W_drawn 4 rfl hmix (fun w17 hB14 => ?_)
      have hC46 := hC44.grow hB14
      refine WA.sub (l' := [(4, (ptr b2 0)), (6, (ptr b3 0)), (7, (ptr b4 0)), (8, (ptr b5 0))]) ?_ ⟨rfl, rfl, rfl, rfl, trivial⟩
      refine WA_postsO [⟨0, [], fun vs => PW.val (.agg #[v6, (.int .i64 x13), (.int .i64 x14)]), []⟩, ⟨1, [], fun vs => PW.val (.agg #[(.int .i64 x15), (.int .i64 x16), (.int .i64 x17), (.bool x18)]), []⟩] [[], []] [1] 2 rfl (by kernel_rfl) (by kernel_rfl) ?_ ⟨?_, ?_, trivial⟩
      · refine StepsE_cons rfl ?_ ?_
        · intro w18 hB15
          refine DepsE_nil ?_
          refine ⟨_, rfl, ?_⟩
          refine WL_load_box_agg [v6, (.int .i64 x13), (.int .i64 x14)] (hC46.grow hB15) 0 rfl rfl rfl Try.isAgg26 Try.sizeOf26 rfl rfl ?_
          refine WL_nil ?_
          exact FinE_val (Below.refl _ _) rfl rfl ⟨rfl, rfl⟩
        refine StepsE_cons rfl ?_ ?_
        · intro w18 hB15
          refine DepsE_nil ?_
          refine ⟨_, rfl, ?_⟩
          refine WL_load_box_agg [(.int .i64 x15), (.int .i64 x16), (.int .i64 x17), (.bool x18)] (hC46.grow hB15) 4 rfl rfl rfl Try.isAgg35 Try.sizeOf35 rfl rfl ?_
          refine WL_nil ?_
          exact FinE_val (Below.refl _ _) rfl rfl ⟨rfl, rfl⟩
        exact StepsE_nil
      · intro g' hg'
        obtain rfl : g' = 2 := hg'
        intro w19 hB16
        refine AllE_cons rfl rfl rfl ?_
        rintro _ _ ⟨rfl, rfl⟩
        refine AllE_cons rfl rfl rfl ?_
        rintro _ _ ⟨rfl, rfl⟩
        refine AllE_nil ?_
        intro hn4 hb4
        have hC47 := hC46.grow hB16
        refine WA_one 2 (by kernel_rfl) rfl ?_
        refine WL_store_box_agg (cs' := [v6, (.int .i64 x13), (.int .i64 x14)]) (new := [v6, (.int .i64 x13), (.int .i64 x14)]) hC47 3 rfl rfl (by intro v hv; simp only [List.mem_cons, List.not_mem_nil, or_false] at hv; rcases hv with rfl | rfl | rfl; exact (ro_one (hC47.ro 1 rfl)); exact rfl; exact rfl) rfl Try.sizeOf26 rfl rfl (fun w20 hC48 => ?_)
        try dsimp only [List.set] at hC48
        refine WL_nil ?_
        refine WA_one 3 (by kernel_rfl) rfl ?_
        refine WL_store_box_agg (cs' := [(.int .i64 x15), (.int .i64 x16), (.int .i64 x17), (.bool x18)]) (new := [(.int .i64 x15), (.int .i64 x16), (.int .i64 x17), (.bool x18)]) hC48 2 rfl rfl (by intro v hv; simp only [List.mem_cons, List.not_mem_nil, or_false] at hv; rcases hv with rfl | rfl | rfl | rfl; exact rfl; exact rfl; exact rfl; exact rfl) rfl Try.sizeOf35 rfl rfl (fun w21 hC49 => ?_)
        try dsimp only [List.set] at hC49
        refine WL_nil ?_
        refine WA_done (by kernel_rfl) ?_
        have hq2 := Option.some.inj hr5
        subst hq2
        have hC50 : Ctx [] w0 _ [Item.box b3 [v6, (.int .i64 x13), (.int .i64 x14)], Item.box b5 [v6, (.int .i64 x13), (.int .i64 x14)], Item.own v6 (x12 : (List Int)), Item.box b4 [(.int .i64 x15), (.int .i64 x16), (.int .i64 x17), (.bool x18)], Item.box b2 [(.int .i64 x15), (.int .i64 x16), (.int .i64 x17), (.bool x18)]] := hC49.front 3 rfl
        have hC51 : Ctx [] w0 _ [Item.box b4 [(.int .i64 x15), (.int .i64 x16), (.int .i64 x17), (.bool x18)], Item.box b3 [v6, (.int .i64 x13), (.int .i64 x14)], Item.box b5 [v6, (.int .i64 x13), (.int .i64 x14)], Item.own v6 (x12 : (List Int)), Item.box b2 [(.int .i64 x15), (.int .i64 x16), (.int .i64 x17), (.bool x18)]] := hC50.front 3 rfl
        have hC52 : Ctx [] w0 _ [Item.own v6 (x12 : (List Int)), Item.box b4 [(.int .i64 x15), (.int .i64 x16), (.int .i64 x17), (.bool x18)], Item.box b3 [v6, (.int .i64 x13), (.int .i64 x14)], Item.box b5 [v6, (.int .i64 x13), (.int .i64 x14)], Item.box b2 [(.int .i64 x15), (.int .i64 x16), (.int .i64 x17), (.bool x18)]] := hC51.front 3 rfl
        have hC53 : Ctx [] w0 _ [Item.own v6 (x12 : (List Int)), Item.box b4 [(.int .i64 x15), (.int .i64 x16), (.int .i64 x17), (.bool x18)], Item.box b3 [v6, (.int .i64 x13), (.int .i64 x14)]] := hC52.headN 3
        refine nrm_sub (l' := [(6, (ptr b3 0)), (7, (ptr b4 0))]) ⟨rfl, rfl, trivial⟩ ?_
        exact ⟨x15, x16, x17, x18, v6, x12, x13, x14, rfl, rfl, hC53⟩
      · intro g' hg'
        obtain rfl : g' = 3 := hg'
        intro w19 hB16
        refine AllE_cons rfl rfl rfl ?_
        rintro _ _ ⟨rfl, rfl⟩
        refine AllE_nil ?_
        intro hn4 hb4
        have hC47 := hC46.grow hB16
        refine WA_all2 (i := 1) (j := 2) (by kernel_rfl) rfl rfl ?_ ?_
        · refine WL_load_box_agg [(.int .i64 x15), (.int .i64 x16), (.int .i64 x17), (.bool x18)] hC47 4 rfl rfl rfl Try.isAgg35 Try.sizeOf35 rfl rfl ?_
          refine WL_nil ?_
          refine WA_one 2 (by kernel_rfl) rfl ?_
          refine WL_store_box_agg (cs' := [v6, (.int .i64 x13), (.int .i64 x14)]) (new := [v6, (.int .i64 x13), (.int .i64 x14)]) hC47 3 rfl rfl (by intro v hv; simp only [List.mem_cons, List.not_mem_nil, or_false] at hv; rcases hv with rfl | rfl | rfl; exact (ro_one (hC47.ro 1 rfl)); exact rfl; exact rfl) rfl Try.sizeOf26 rfl rfl (fun w20 hC48 => ?_)
          try dsimp only [List.set] at hC48
          refine WL_nil ?_
          refine WA_one 3 (by kernel_rfl) rfl ?_
          refine WL_store_box_agg (cs' := [(.int .i64 x15), (.int .i64 x16), (.int .i64 x17), (.bool x18)]) (new := [(.int .i64 x15), (.int .i64 x16), (.int .i64 x17), (.bool x18)]) hC48 2 rfl rfl (by intro v hv; simp only [List.mem_cons, List.not_mem_nil, or_false] at hv; rcases hv with rfl | rfl | rfl | rfl; exact rfl; exact rfl; exact rfl; exact rfl) rfl Try.sizeOf35 rfl rfl (fun w21 hC49 => ?_)
          try dsimp only [List.set] at hC49
          refine WL_nil ?_
          refine WA_done (by kernel_rfl) ?_
          have hq2 := Option.some.inj hr5
          subst hq2
          have hC50 : Ctx [] w0 _ [Item.box b3 [v6, (.int .i64 x13), (.int .i64 x14)], Item.box b5 [v6, (.int .i64 x13), (.int .i64 x14)], Item.own v6 (x12 : (List Int)), Item.box b4 [(.int .i64 x15), (.int .i64 x16), (.int .i64 x17), (.bool x18)], Item.box b2 [(.int .i64 x15), (.int .i64 x16), (.int .i64 x17), (.bool x18)]] := hC49.front 3 rfl
          have hC51 : Ctx [] w0 _ [Item.box b4 [(.int .i64 x15), (.int .i64 x16), (.int .i64 x17), (.bool x18)], Item.box b3 [v6, (.int .i64 x13), (.int .i64 x14)], Item.box b5 [v6, (.int .i64 x13), (.int .i64 x14)], Item.own v6 (x12 : (List Int)), Item.box b2 [(.int .i64 x15), (.int .i64 x16), (.int .i64 x17), (.bool x18)]] := hC50.front 3 rfl
          have hC52 : Ctx [] w0 _ [Item.own v6 (x12 : (List Int)), Item.box b4 [(.int .i64 x15), (.int .i64 x16), (.int .i64 x17), (.bool x18)], Item.box b3 [v6, (.int .i64 x13), (.int .i64 x14)], Item.box b5 [v6, (.int .i64 x13), (.int .i64 x14)], Item.box b2 [(.int .i64 x15), (.int .i64 x16), (.int .i64 x17), (.bool x18)]] := hC51.front 3 rfl
          have hC53 : Ctx [] w0 _ [Item.own v6 (x12 : (List Int)), Item.box b4 [(.int .i64 x15), (.int .i64 x16), (.int .i64 x17), (.bool x18)], Item.box b3 [v6, (.int .i64 x13), (.int .i64 x14)]] := hC52.headN 3
          refine nrm_sub (l' := [(6, (ptr b3 0)), (7, (ptr b4 0))]) ⟨rfl, rfl, trivial⟩ ?_
          exact ⟨x15, x16, x17, x18, v6, x12, x13, x14, rfl, rfl, hC53⟩
        · refine WL_store_box_agg (cs' := [v6, (.int .i64 x13), (.int .i64 x14)]) (new := [v6, (.int .i64 x13), (.int .i64 x14)]) hC47 3 rfl rfl (by intro v hv; simp only [List.mem_cons, List.not_mem_nil, or_false] at hv; rcases hv with rfl | rfl | rfl; exact (ro_one (hC47.ro 1 rfl)); exact rfl; exact rfl) rfl Try.sizeOf26 rfl rfl (fun w20 hC48 => ?_)
          try dsimp only [List.set] at hC48
          refine WL_nil ?_
          refine WA_one 1 (by kernel_rfl) rfl ?_
          refine WL_load_box_agg [(.int .i64 x15), (.int .i64 x16), (.int .i64 x17), (.bool x18)] hC48 4 rfl rfl rfl Try.isAgg35 Try.sizeOf35 rfl rfl ?_
          refine WL_nil ?_
          refine WA_one 3 (by kernel_rfl) rfl ?_
          refine WL_store_box_agg (cs' := [(.int .i64 x15), (.int .i64 x16), (.int .i64 x17), (.bool x18)]) (new := [(.int .i64 x15), (.int .i64 x16), (.int .i64 x17), (.bool x18)]) hC48 2 rfl rfl (by intro v hv; simp only [List.mem_cons, List.not_mem_nil, or_false] at hv; rcases hv with rfl | rfl | rfl | rfl; exact rfl; exact rfl; exact rfl; exact rfl) rfl Try.sizeOf35 rfl rfl (fun w21 hC49 => ?_)
          try dsimp only [List.set] at hC49
          refine WL_nil ?_
          refine WA_done (by kernel_rfl) ?_
          have hq2 := Option.some.inj hr5
          subst hq2
          have hC50 : Ctx [] w0 _ [Item.box b3 [v6, (.int .i64 x13), (.int .i64 x14)], Item.box b5 [v6, (.int .i64 x13), (.int .i64 x14)], Item.own v6 (x12 : (List Int)), Item.box b4 [(.int .i64 x15), (.int .i64 x16), (.int .i64 x17), (.bool x18)], Item.box b2 [(.int .i64 x15), (.int .i64 x16), (.int .i64 x17), (.bool x18)]] := hC49.front 3 rfl
          have hC51 : Ctx [] w0 _ [Item.box b4 [(.int .i64 x15), (.int .i64 x16), (.int .i64 x17), (.bool x18)], Item.box b3 [v6, (.int .i64 x13), (.int .i64 x14)], Item.box b5 [v6, (.int .i64 x13), (.int .i64 x14)], Item.own v6 (x12 : (List Int)), Item.box b2 [(.int .i64 x15), (.int .i64 x16), (.int .i64 x17), (.bool x18)]] := hC50.front 3 rfl
          have hC52 : Ctx [] w0 _ [Item.own v6 (x12 : (List Int)), Item.box b4 [(.int .i64 x15), (.int .i64 x16), (.int .i64 x17), (.bool x18)], Item.box b3 [v6, (.int .i64 x13), (.int .i64 x14)], Item.box b5 [v6, (.int .i64 x13), (.int .i64 x14)], Item.box b2 [(.int .i64 x15), (.int .i64 x16), (.int .i64 x17), (.bool x18)]] := hC51.front 3 rfl
          have hC53 : Ctx [] w0 _ [Item.own v6 (x12 : (List Int)), Item.box b4 [(.int .i64 x15), (.int .i64 x16), (.int .i64 x17), (.bool x18)], Item.box b3 [v6, (.int .i64 x13), (.int .i64 x14)]] := hC52.headN 3
          refine nrm_sub (l' := [(6, (ptr b3 0)), (7, (ptr b4 0))]) ⟨rfl, rfl, trivial⟩ ?_
          exact ⟨x15, x16, x17, x18, v6, x12, x13, x14, rfl, rfl, hC53⟩
    · rintro _ w16 ⟨x21, x22, x23, x24, v12, x25, x26, x27, rfl, rfl, hC45⟩
      try dsimp only at hF
      refine W_ret ?_
      have hq3 := Option.some.inj hF
      subst hq3
      refine fn_retG2 rfl (rv_cell_agg (cs' := [v12, (.int .i64 x26), (.int .i64 x27)]) hC45 (i := 2) rfl rfl rfl Try.isAgg26 Try.sizeOf26 rfl) (rv_cell_agg (cs' := [(.int .i64 x21), (.int .i64 x22), (.int .i64 x23), (.bool x24)]) hC45 (i := 1) rfl rfl rfl Try.isAgg35 Try.sizeOf35 rfl) ?_
      have hC54 := own_st35 x21 x22 x23 x24 hC45
      have hC56 : Ctx [] w0 _ [Item.own v12 (x25 : (List Int)), Item.own (.agg #[(.int .i64 x21), (.int .i64 x22), (.int .i64 x23), (.bool x24)]) ((x21, x22, x23, x24) : (Int × Int × Int × Bool)), Item.box b4 [(.int .i64 x21), (.int .i64 x22), (.int .i64 x23), (.bool x24)], Item.box b3 [v12, (.int .i64 x26), (.int .i64 x27)]] := hC54.front 1 rfl
      have hC55 := own_st26 v12 x25 x26 x27 hC56
      exact ⟨_, rfl, res2_of hC55⟩

end Go.Gx.Px
