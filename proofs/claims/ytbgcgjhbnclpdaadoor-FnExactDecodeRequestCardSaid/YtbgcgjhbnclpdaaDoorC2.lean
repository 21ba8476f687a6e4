/- The contracts of the Go functions against the pure functions, printed by program. Conditions: each says them. -/
import Derived.Test.YtbgcgjhbnclpdaaDoorC1
set_option linter.unusedVariables false
set_option linter.unusedSimpArgs false
set_option maxRecDepth 100000
set_option maxHeartbeats 4000000
namespace Go.Gx.Px
open Go.Proofs Go.RowKit

theorem c_M_DecodeRequest {w0 : World} (a1 : Str) (rr : ((Int × (List Int)) × Int × Bool)) (hF : M.DecodeRequest a1 = some rr) :
 Calls Tryd.prog 25 [(sv a1)].toArray w0 fun e w' => ∃ v, e = .returned v ∧ Res3 w0 rr.1 rr.2.1 rr.2.2 v w' := by
 refine calls_of_W Tryd.func25 rfl rfl ?_
 have hC0 := Ctx.start w0
 unfold M.DecodeRequest at hF
 refine W_seq_reg ?_
 refine WL_allocK hC0 zero29 rfl rfl (fun b1 w1 hC1 hB1 hN1 => ?_)
 refine WL_assign rfl rfl ?_
 refine WL_assign rfl rfl ?_
 refine WL_nil (W_seq_reg ?_)
 refine WL_move rfl rfl ?_
 refine WL_build (vs := [(0, (sv a1))]) rfl rfl rfl (built79_0 rfl) ?_
 refine WL_boxK (cs := [(sv a1), (.bool false)]) hC1 rfl rfl rfl (fun b2 w2 hC2 hB2 hN2 => ?_)
 refine WL_assign rfl rfl ?_
 refine WL_nil (W_seq_reg ?_)
 refine WL_move rfl rfl ?_
 obtain ⟨x1, hr1, hF⟩ := bind_some hF
 obtain ⟨Fs1, hH1, hn1, hF1, hO1, hb1⟩ := Ctx.lend2 (As := [Item.box b1 [(.int .i64 0), (.slice none 0 0)]]) [Item.box b2 [(sv a1), (.bool false)]] hC2
 refine WL_call Tryd.call57 rfl rfl (c_M_varintReader_list b2 (a1, false) 3 hH1 hn1 x1 hr1) ?_
 rintro v1 w3 ⟨_, rfl, hq1⟩
 have hC3 : Ctx [] w0 w3 [Item.own v1 (x1.1 : (List Int)), Item.box b2 [(sv x1.2.1), (.bool x1.2.2)], Item.box b1 [(.int .i64 0), (.slice none 0 0)]] := hb1 _ _ hq1
 refine WL_assign rfl rfl ?_
 refine WL_nil (W_seq ?_)
 obtain ⟨r1, hr2, hF⟩ := bind_some hF
 refine W_cut (fun l w => ∃ x2 : Bool, x2 = r1 ∧ l = [(0, (sv a1)), (2, (ptr b1 0)), (5, (ptr b2 0)), (6, v1), (23, (.bool x2))] ∧ Below w3.heap.size w3 w ∧ Ctx [] w0 w [Item.own v1 (x1.1 : (List Int)), Item.box b2 [(sv x1.2.1), (.bool x1.2.2)], Item.box b1 [(.int .i64 0), (.slice none 0 0)]]) ?_ ?_
 ·refine W_reg ?_
  refine WL_move rfl rfl ?_
  refine WL_nilCheck rfl rfl ?_
  refine WL_field Tryd.underlying79 rfl rfl (fun w => ⟨_, Tryd.sizeOf4 w⟩) rfl rfl ?_
  refine WL_load_box hC3 1 rfl rfl Tryd.isAgg4 rfl rfl ?_
  refine WL_move rfl rfl ?_
  refine WL_fork (fun hc1 => ?_) (fun hc1 => ?_)
  ·replace hr2 := ite_t hr2 hc1
   refine WL_guard_skip rfl rfl (by simp) rfl ?_
   refine WL_guard_skip rfl rfl (by simp) rfl ?_
   refine WL_guard_skip rfl rfl (by simp) rfl ?_
   refine WL_guard_skip rfl rfl (by simp) rfl ?_
   refine WL_pick_t rfl rfl rfl ?_
   refine WL_nil ?_
   have hq2 := Option.some.inj hr2
   subst hq2
   refine nrm_sub (l' := [(0, (sv a1)), (2, (ptr b1 0)), (5, (ptr b2 0)), (6, v1), (23, (.bool true))]) ⟨rfl, rfl, rfl, rfl, rfl, trivial⟩ ?_
   exact ⟨true, rfl, rfl, (Below.refl _ _), hC3⟩
  replace hr2 := ite_f hr2 hc1
  refine WL_guard rfl rfl ?_
  refine WL_move rfl rfl ?_
  obtain ⟨x3, hx1, hr2⟩ := bind_some hr2
  refine WL_guard rfl rfl ?_
  refine WL_index Tryd.underlying22 ty3 (hC3.ro 0 rfl) hx1 rfl rfl rfl (fun b3 o1 h1 => ?_)
  refine WL_guard rfl rfl ?_
  refine WL_load ty3 h1 (Keep.refl _ _) rfl rfl (fun v2 h2 => ?_)
  obtain rfl := ro_int h2
  refine WL_guard rfl rfl ?_
  refine WL_gtr rfl rfl rfl ?_
  refine WL_pick_f rfl rfl rfl ?_
  refine WL_nil ?_
  have hq3 := Option.some.inj hr2
  subst hq3
  refine nrm_sub (l' := [(0, (sv a1)), (2, (ptr b1 0)), (5, (ptr b2 0)), (6, v1), (23, (.bool (decide (3 < x3))))]) ⟨rfl, rfl, rfl, rfl, rfl, trivial⟩ ?_
  exact ⟨(decide (3 < x3)), rfl, rfl, (Below.refl _ _), hC3⟩
 rintro _ w4 ⟨x2, rfl, rfl, hB3, hC4⟩
 try dsimp only at hF
 refine W_cond rfl (fun hc2 => ?_) (fun hc2 => ?_)
 ·replace hF := ite_t hF hc2
  refine W_seq_reg ?_
  refine WL_build (vs := []) rfl rfl rfl built29 ?_
  refine WL_store_box_aggK (cs' := [(.int .i64 0), (.slice none 0 0)]) (new := [(.int .i64 0), (.slice none 0 0)]) hC4 2 rfl rfl (by intro v hv; simp only [List.mem_cons, List.not_mem_nil, or_false] at hv; rcases hv with rfl | rfl; exact rfl; exact rfl) rfl Tryd.sizeOf29 rfl rfl (fun w5 hC5 hKp1 => ?_)
  try dsimp only [List.set] at hC5
  refine WL_assign rfl rfl ?_
  refine WL_assign rfl rfl ?_
  refine WL_nil (W_ret (nrm_ret ?_))
  have hq4 := Option.some.inj hF
  subst hq4
  refine fn_retG3 rfl (rv_cell_agg (cs' := [(.int .i64 0), (.slice none 0 0)]) hC5 (i := 2) rfl rfl rfl Tryd.isAgg29 Tryd.sizeOf29 rfl) (rv_tmp rfl) (rv_tmp rfl) ?_
  have hC6 := hC5.triv (bool_val (false))
  have hC7 := hC6.triv (int_val (0))
  have hC9 := hC7.triv (nil_val (α := Int))
  have hC8 := own_st29 0 (.slice none 0 0) ([]) hC9
  exact ⟨_, rfl, res3_of hC8⟩
 replace hF := ite_f hF hc2
 refine W_skip (nrm_normal ?_)
 obtain ⟨r2, hr3, hF⟩ := bind_some hF
 refine W_cut (fun l w => ∃ x4 : Str, ∃ x5 : Bool, ∃ b4 : Nat, ∃ x6 : Int, ∃ v3 : Value, ∃ x7 : (List Int), (x4, x5, x6, x7) = r2 ∧ l = [(0, (sv a1)), (2, (ptr b1 0)), (5, (ptr b2 0)), (6, v1), (7, (ptr b4 0))] ∧ Ctx [] w0 w [Item.box b4 [(.int .i64 x6), v3], Item.own v3 (x7 : (List Int)), Item.own v1 (x1.1 : (List Int)), Item.box b2 [(sv x4), (.bool x5)], Item.box b1 [(.int .i64 0), (.slice none 0 0)]]) ?_ ?_
 ·refine W_drawn 11 rfl hmix (fun w7 hB5 => ?_)
  have hC11 := hC4.grow hB5
  refine WA_tk 0 (by kernel_rfl) rfl rfl (fl_move rfl) ?_
  refine WL_move rfl rfl ?_
  refine WL_nil ?_
  obtain ⟨x8, hx2, hr3⟩ := bind_some hr3
  refine WA_tk 1 (by kernel_rfl) rfl rfl (fl_index_own hC11 0 rfl Tryd.underlying22 ty3 hx2 rfl rfl) ?_
  refine WL_index_own hC11 0 rfl Tryd.underlying22 ty3 hx2 rfl rfl rfl (fun b5 hE1 => ?_)
  refine WL_nil ?_
  refine WA_tk 3 (by kernel_rfl) rfl rfl (fl_move rfl) ?_
  refine WL_move rfl rfl ?_
  refine WL_nil ?_
  refine WA_tk 4 (by kernel_rfl) rfl rfl (fl_move rfl) ?_
  refine WL_move rfl rfl ?_
  refine WL_nil ?_
  obtain ⟨x9, hx3, hr3⟩ := bind_some hr3
  refine WA_tk 5 (by kernel_rfl) rfl rfl (fl_index_own hC11 0 rfl Tryd.underlying22 ty3 hx3 rfl rfl) ?_
  refine WL_index_own hC11 0 rfl Tryd.underlying22 ty3 hx3 rfl rfl rfl (fun b6 hE2 => ?_)
  refine WL_nil ?_
  refine WA_all3 (i := 2) (j := 6) (m := 9) (by kernel_rfl) rfl rfl rfl ?_ ?_ ?_
  ·refine WL_load ty3 (hC11.at 0 rfl hE1 hx2) (Keep.refl _ _) rfl rfl (fun v4 h3 => ?_)
   obtain rfl := ro_int h3
   refine WL_nil ?_
   refine WA_all2 (i := 6) (j := 9) (by kernel_rfl) rfl rfl ?_ ?_
   ·refine WL_load ty3 (hC11.at 0 rfl hE2 hx3) (Keep.refl _ _) rfl rfl (fun v5 h4 => ?_)
    obtain rfl := ro_int h4
    refine WL_nil ?_
    refine WA_all2 (i := 7) (j := 9) (by kernel_rfl) rfl rfl ?_ ?_
    ·obtain ⟨x10, hr4, hr3⟩ := bind_some hr3
     have hC12 := hC11.f1
     obtain ⟨Fs2, hH2, hn2, hF2, hO2, hb2⟩ := Ctx.lend2 (As := [Item.own v1 (x1.1 : (List Int)), Item.box b1 [(.int .i64 0), (.slice none 0 0)]]) [Item.box b2 [(sv x1.2.1), (.bool x1.2.2)]] hC12
     refine WL_call Tryd.call57 rfl rfl (c_M_varintReader_list b2 (x1.2.1, x1.2.2) x9 hH2 hn2 x10 hr4) ?_
     rintro v6 w9 ⟨_, rfl, hq5⟩
     have hC13 : Ctx [] w0 w9 [Item.own v6 (x10.1 : (List Int)), Item.box b2 [(sv x10.2.1), (.bool x10.2.2)], Item.own v1 (x1.1 : (List Int)), Item.box b1 [(.int .i64 0), (.slice none 0 0)]] := hb2 _ _ hq5
     refine WL_nil ?_
     refine WA_tk 8 (by kernel_rfl) rfl rfl (fl_build (vs := [(0, (.int .i64 x8)), (1, v6)]) rfl rfl (built29_0_1 rfl (ro_cells (hC13.ro 0 rfl)))) ?_
     refine WL_build (vs := [(0, (.int .i64 x8)), (1, v6)]) rfl rfl rfl (built29_0_1 rfl (ro_cells (hC13.ro 0 rfl))) ?_
     refine WL_nil ?_
     refine WA_one 9 (by kernel_rfl) rfl ?_
     refine WL_allocK hC13 zero29 rfl rfl (fun b7 w10 hC14 hB6 hN3 => ?_)
     refine WL_nil ?_
     refine WA_one 10 (by kernel_rfl) rfl ?_
     refine WL_store_box_aggK (cs' := [(.int .i64 x8), v6]) (new := [(.int .i64 x8), v6]) hC14 0 rfl rfl (by intro v hv; simp only [List.mem_cons, List.not_mem_nil, or_false] at hv; rcases hv with rfl | rfl; exact rfl; exact (ro_one (hC14.ro 1 rfl))) rfl Tryd.sizeOf29 rfl rfl (fun w11 hC15 hKp2 => ?_)
     try dsimp only [List.set] at hC15
     have hk1 := Keep.over (Keep.of hB6) hN3 hKp2
     refine WL_nil ?_
     refine WA_done (by kernel_rfl) ?_
     have hq6 := Option.some.inj hr3
     subst hq6
     have hC16 := hC15.f4
     have hC17 := hC16.f3
     have hC18 := hC17.f4
     have hC19 := hC18.f4
     have hC20 := hC19.f4
     refine nrm_sub (l' := [(0, (sv a1)), (2, (ptr b1 0)), (5, (ptr b2 0)), (6, v1), (7, (ptr b7 0))]) ⟨rfl, rfl, rfl, rfl, rfl, trivial⟩ ?_
     exact ⟨x10.2.1, x10.2.2, b7, x8, v6, x10.1, rfl, rfl, hC20⟩
    refine WL_allocK hC11 zero29 rfl rfl (fun b7 w9 hC12 hB6 hN3 => ?_)
    refine WL_nil ?_
    obtain ⟨x10, hr4, hr3⟩ := bind_some hr3
    refine WA_one 7 (by kernel_rfl) rfl ?_
    have hC13 := hC12.f2
    obtain ⟨Fs2, hH2, hn2, hF2, hO2, hb2⟩ := Ctx.lend2 (As := [Item.box b7 [(.int .i64 0), (.slice none 0 0)], Item.own v1 (x1.1 : (List Int)), Item.box b1 [(.int .i64 0), (.slice none 0 0)]]) [Item.box b2 [(sv x1.2.1), (.bool x1.2.2)]] hC13
    refine WL_call Tryd.call57 rfl rfl (c_M_varintReader_list b2 (x1.2.1, x1.2.2) x9 hH2 hn2 x10 hr4) ?_
    rintro v6 w10 ⟨_, rfl, hq5⟩
    have hC14 : Ctx [] w0 w10 [Item.own v6 (x10.1 : (List Int)), Item.box b2 [(sv x10.2.1), (.bool x10.2.2)], Item.box b7 [(.int .i64 0), (.slice none 0 0)], Item.own v1 (x1.1 : (List Int)), Item.box b1 [(.int .i64 0), (.slice none 0 0)]] := hb2 _ _ hq5
    refine WL_nil ?_
    refine WA_tk 8 (by kernel_rfl) rfl rfl (fl_build (vs := [(0, (.int .i64 x8)), (1, v6)]) rfl rfl (built29_0_1 rfl (ro_cells (hC14.ro 0 rfl)))) ?_
    refine WL_build (vs := [(0, (.int .i64 x8)), (1, v6)]) rfl rfl rfl (built29_0_1 rfl (ro_cells (hC14.ro 0 rfl))) ?_
    refine WL_nil ?_
    refine WA_one 10 (by kernel_rfl) rfl ?_
    refine WL_store_box_aggK (cs' := [(.int .i64 x8), v6]) (new := [(.int .i64 x8), v6]) hC14 2 rfl rfl (by intro v hv; simp only [List.mem_cons, List.not_mem_nil, or_false] at hv; rcases hv with rfl | rfl; exact rfl; exact (ro_one (hC14.ro 0 rfl))) rfl Tryd.sizeOf29 rfl rfl (fun w11 hC15 hKp2 => ?_)
    try dsimp only [List.set] at hC15
    refine WL_nil ?_
    refine WA_done (by kernel_rfl) ?_
    have hq6 := Option.some.inj hr3
    subst hq6
    have hC16 := hC15.f4
    have hC17 := hC16.f2
    have hC18 := hC17.f4
    have hC19 := hC18.f3
    have hC20 := hC19.f4
    refine nrm_sub (l' := [(0, (sv a1)), (2, (ptr b1 0)), (5, (ptr b2 0)), (6, v1), (7, (ptr b7 0))]) ⟨rfl, rfl, rfl, rfl, rfl, trivial⟩ ?_
    exact ⟨x10.2.1, x10.2.2, b7, x8, v6, x10.1, rfl, rfl, hC20⟩
   refine WL_allocK hC11 zero29 rfl rfl (fun b7 w9 hC12 hB6 hN3 => ?_)
   refine WL_nil ?_
   refine WA_one 6 (by kernel_rfl) rfl ?_
   refine WL_load ty3 (hC11.at 0 rfl hE2 hx3) (Keep.of hB6) rfl rfl (fun v5 h4 => ?_)
   obtain rfl := ro_int h4
   refine WL_nil ?_
   obtain ⟨x10, hr4, hr3⟩ := bind_some hr3
   refine WA_one 7 (by kernel_rfl) rfl ?_
   have hC13 := hC12.f2
   obtain ⟨Fs2, hH2, hn2, hF2, hO2, hb2⟩ := Ctx.lend2 (As := [Item.box b7 [(.int .i64 0), (.slice none 0 0)], Item.own v1 (x1.1 : (List Int)), Item.box b1 [(.int .i64 0), (.slice none 0 0)]]) [Item.box b2 [(sv x1.2.1), (.bool x1.2.2)]] hC13
   refine WL_call Tryd.call57 rfl rfl (c_M_varintReader_list b2 (x1.2.1, x1.2.2) x9 hH2 hn2 x10 hr4) ?_
   rintro v6 w10 ⟨_, rfl, hq5⟩
   have hC14 : Ctx [] w0 w10 [Item.own v6 (x10.1 : (List Int)), Item.box b2 [(sv x10.2.1), (.bool x10.2.2)], Item.box b7 [(.int .i64 0), (.slice none 0 0)], Item.own v1 (x1.1 : (List Int)), Item.box b1 [(.int .i64 0), (.slice none 0 0)]] := hb2 _ _ hq5
   refine WL_nil ?_
   refine WA_tk 8 (by kernel_rfl) rfl rfl (fl_build (vs := [(0, (.int .i64 x8)), (1, v6)]) rfl rfl (built29_0_1 rfl (ro_cells (hC14.ro 0 rfl)))) ?_
   refine WL_build (vs := [(0, (.int .i64 x8)), (1, v6)]) rfl rfl rfl (built29_0_1 rfl (ro_cells (hC14.ro 0 rfl))) ?_
   refine WL_nil ?_
   refine WA_one 10 (by kernel_rfl) rfl ?_
   refine WL_store_box_aggK (cs' := [(.int .i64 x8), v6]) (new := [(.int .i64 x8), v6]) hC14 2 rfl rfl (by intro v hv; simp only [List.mem_cons, List.not_mem_nil, or_false] at hv; rcases hv with rfl | rfl; exact rfl; exact (ro_one (hC14.ro 0 rfl))) rfl Tryd.sizeOf29 rfl rfl (fun w11 hC15 hKp2 => ?_)
   try dsimp only [List.set] at hC15
   refine WL_nil ?_
   refine WA_done (by kernel_rfl) ?_
   have hq6 := Option.some.inj hr3
   subst hq6
   have hC16 := hC15.f4
   have hC17 := hC16.f2
   have hC18 := hC17.f4
   have hC19 := hC18.f3
   have hC20 := hC19.f4
   refine nrm_sub (l' := [(0, (sv a1)), (2, (ptr b1 0)), (5, (ptr b2 0)), (6, v1), (7, (ptr b7 0))]) ⟨rfl, rfl, rfl, rfl, rfl, trivial⟩ ?_
   exact ⟨x10.2.1, x10.2.2, b7, x8, v6, x10.1, rfl, rfl, hC20⟩
  ·refine WL_load ty3 (hC11.at 0 rfl hE2 hx3) (Keep.refl _ _) rfl rfl (fun v4 h3 => ?_)
   obtain rfl := ro_int h3
   refine WL_nil ?_
   refine WA_all3 (i := 2) (j := 7) (m := 9) (by kernel_rfl) rfl rfl rfl ?_ ?_ ?_
   ·refine WL_load ty3 (hC11.at 0 rfl hE1 hx2) (Keep.refl _ _) rfl rfl (fun v5 h4 => ?_)
    obtain rfl := ro_int h4
    refine WL_nil ?_
    refine WA_all2 (i := 7) (j := 9) (by kernel_rfl) rfl rfl ?_ ?_
    ·obtain ⟨x10, hr4, hr3⟩ := bind_some hr3
     have hC12 := hC11.f1
     obtain ⟨Fs2, hH2, hn2, hF2, hO2, hb2⟩ := Ctx.lend2 (As := [Item.own v1 (x1.1 : (List Int)), Item.box b1 [(.int .i64 0), (.slice none 0 0)]]) [Item.box b2 [(sv x1.2.1), (.bool x1.2.2)]] hC12
     refine WL_call Tryd.call57 rfl rfl (c_M_varintReader_list b2 (x1.2.1, x1.2.2) x9 hH2 hn2 x10 hr4) ?_
     rintro v6 w9 ⟨_, rfl, hq5⟩
     have hC13 : Ctx [] w0 w9 [Item.own v6 (x10.1 : (List Int)), Item.box b2 [(sv x10.2.1), (.bool x10.2.2)], Item.own v1 (x1.1 : (List Int)), Item.box b1 [(.int .i64 0), (.slice none 0 0)]] := hb2 _ _ hq5
     refine WL_nil ?_
     refine WA_tk 8 (by kernel_rfl) rfl rfl (fl_build (vs := [(0, (.int .i64 x8)), (1, v6)]) rfl rfl (built29_0_1 rfl (ro_cells (hC13.ro 0 rfl)))) ?_
     refine WL_build (vs := [(0, (.int .i64 x8)), (1, v6)]) rfl rfl rfl (built29_0_1 rfl (ro_cells (hC13.ro 0 rfl))) ?_
     refine WL_nil ?_
     refine WA_one 9 (by kernel_rfl) rfl ?_
     refine WL_allocK hC13 zero29 rfl rfl (fun b7 w10 hC14 hB6 hN3 => ?_)
     refine WL_nil ?_
     refine WA_one 10 (by kernel_rfl) rfl ?_
     refine WL_store_box_aggK (cs' := [(.int .i64 x8), v6]) (new := [(.int .i64 x8), v6]) hC14 0 rfl rfl (by intro v hv; simp only [List.mem_cons, List.not_mem_nil, or_false] at hv; rcases hv with rfl | rfl; exact rfl; exact (ro_one (hC14.ro 1 rfl))) rfl Tryd.sizeOf29 rfl rfl (fun w11 hC15 hKp2 => ?_)
     try dsimp only [List.set] at hC15
     have hk1 := Keep.over (Keep.of hB6) hN3 hKp2
     refine WL_nil ?_
     refine WA_done (by kernel_rfl) ?_
     have hq6 := Option.some.inj hr3
     subst hq6
     have hC16 := hC15.f4
     have hC17 := hC16.f3
     have hC18 := hC17.f4
     have hC19 := hC18.f4
     have hC20 := hC19.f4
     refine nrm_sub (l' := [(0, (sv a1)), (2, (ptr b1 0)), (5, (ptr b2 0)), (6, v1), (7, (ptr b7 0))]) ⟨rfl, rfl, rfl, rfl, rfl, trivial⟩ ?_
     exact ⟨x10.2.1, x10.2.2, b7, x8, v6, x10.1, rfl, rfl, hC20⟩
    refine WL_allocK hC11 zero29 rfl rfl (fun b7 w9 hC12 hB6 hN3 => ?_)
    refine WL_nil ?_
    obtain ⟨x10, hr4, hr3⟩ := bind_some hr3
    refine WA_one 7 (by kernel_rfl) rfl ?_
    have hC13 := hC12.f2
    obtain ⟨Fs2, hH2, hn2, hF2, hO2, hb2⟩ := Ctx.lend2 (As := [Item.box b7 [(.int .i64 0), (.slice none 0 0)], Item.own v1 (x1.1 : (List Int)), Item.box b1 [(.int .i64 0), (.slice none 0 0)]]) [Item.box b2 [(sv x1.2.1), (.bool x1.2.2)]] hC13
    refine WL_call Tryd.call57 rfl rfl (c_M_varintReader_list b2 (x1.2.1, x1.2.2) x9 hH2 hn2 x10 hr4) ?_
    rintro v6 w10 ⟨_, rfl, hq5⟩
    have hC14 : Ctx [] w0 w10 [Item.own v6 (x10.1 : (List Int)), Item.box b2 [(sv x10.2.1), (.bool x10.2.2)], Item.box b7 [(.int .i64 0), (.slice none 0 0)], Item.own v1 (x1.1 : (List Int)), Item.box b1 [(.int .i64 0), (.slice none 0 0)]] := hb2 _ _ hq5
    refine WL_nil ?_
    refine WA_tk 8 (by kernel_rfl) rfl rfl (fl_build (vs := [(0, (.int .i64 x8)), (1, v6)]) rfl rfl (built29_0_1 rfl (ro_cells (hC14.ro 0 rfl)))) ?_
    refine WL_build (vs := [(0, (.int .i64 x8)), (1, v6)]) rfl rfl rfl (built29_0_1 rfl (ro_cells (hC14.ro 0 rfl))) ?_
    refine WL_nil ?_
    refine WA_one 10 (by kernel_rfl) rfl ?_
    refine WL_store_box_aggK (cs' := [(.int .i64 x8), v6]) (new := [(.int .i64 x8), v6]) hC14 2 rfl rfl (by intro v hv; simp only [List.mem_cons, List.not_mem_nil, or_false] at hv; rcases hv with rfl | rfl; exact rfl; exact (ro_one (hC14.ro 0 rfl))) rfl Tryd.sizeOf29 rfl rfl (fun w11 hC15 hKp2 => ?_)
    try dsimp only [List.set] at hC15
    refine WL_nil ?_
    refine WA_done (by kernel_rfl) ?_
    have hq6 := Option.some.inj hr3
    subst hq6
    have hC16 := hC15.f4
    have hC17 := hC16.f2
    have hC18 := hC17.f4
    have hC19 := hC18.f3
    have hC20 := hC19.f4
    refine nrm_sub (l' := [(0, (sv a1)), (2, (ptr b1 0)), (5, (ptr b2 0)), (6, v1), (7, (ptr b7 0))]) ⟨rfl, rfl, rfl, rfl, rfl, trivial⟩ ?_
    exact ⟨x10.2.1, x10.2.2, b7, x8, v6, x10.1, rfl, rfl, hC20⟩
   ·obtain ⟨x10, hr4, hr3⟩ := bind_some hr3
    have hC12 := hC11.f1
    obtain ⟨Fs2, hH2, hn2, hF2, hO2, hb2⟩ := Ctx.lend2 (As := [Item.own v1 (x1.1 : (List Int)), Item.box b1 [(.int .i64 0), (.slice none 0 0)]]) [Item.box b2 [(sv x1.2.1), (.bool x1.2.2)]] hC12
    refine WL_call Tryd.call57 rfl rfl (c_M_varintReader_list b2 (x1.2.1, x1.2.2) x9 hH2 hn2 x10 hr4) ?_
    rintro v5 w9 ⟨_, rfl, hq5⟩
    have hC13 : Ctx [] w0 w9 [Item.own v5 (x10.1 : (List Int)), Item.box b2 [(sv x10.2.1), (.bool x10.2.2)], Item.own v1 (x1.1 : (List Int)), Item.box b1 [(.int .i64 0), (.slice none 0 0)]] := hb2 _ _ hq5
    refine WL_nil ?_
    refine WA.sub (l' := [(0, (sv a1)), (2, (ptr b1 0)), (5, (ptr b2 0)), (6, v1), (23, (.bool x2)), (25, v1), (26, (ptr b5 (Int.toNat 0 * Rep.sz Int))), (28, (ptr b2 0)), (29, v1), (30, (ptr b6 (Int.toNat 2 * Rep.sz Int))), (31, (.int .i64 x9)), (32, v5)]) ?_ ⟨rfl, rfl, rfl, rfl, rfl, rfl, rfl, rfl, rfl, rfl, rfl, rfl, trivial⟩
    refine WA_postsE [⟨2, [], fun vs => PW.val (.int .i64 x8), []⟩, ⟨8, [], fun vs => PW.val (.agg #[(.int .i64 x8), v5]), []⟩, ⟨9, [], fun vs => PW.box [(.int .i64 0), (.slice none 0 0)], []⟩] [[], [2], []] 1 rfl (by kernel_rfl) (by kernel_rfl) rfl ?_ ?_
    ·refine StepsE_cons rfl ?_ ?_
     ·intro w11 hB7
      refine DepsE_nil ?_
      refine ⟨_, rfl, ?_⟩
      refine WL_load ty3 (hC13.at 2 rfl hE1 hx2) (Keep.of hB7) rfl rfl (fun v6 h4 => ?_)
      obtain rfl := ro_int h4
      refine WL_nil ?_
      exact FinE_val (Below.refl _ _) rfl rfl ⟨rfl, rfl⟩
     refine StepsE_cons rfl ?_ ?_
     ·intro w11 hB7
      refine DepsE_cons rfl rfl rfl ?_
      rintro _ _ ⟨rfl, rfl⟩ _
      refine DepsE_nil ?_
      refine ⟨_, rfl, ?_⟩
      refine WL_build (vs := [(0, (.int .i64 x8)), (1, v5)]) rfl rfl rfl (built29_0_1 rfl (ro_cells (hC13.ro 0 rfl))) ?_
      refine WL_nil ?_
      exact FinE_val (Below.refl _ _) rfl rfl ⟨rfl, rfl⟩
     refine StepsE_cons rfl ?_ ?_
     ·intro w11 hB7
      refine DepsE_nil ?_
      refine ⟨_, rfl, ?_⟩
      refine WL_alloc (Ctx.start _) zero29 rfl rfl (fun b7 w10 hC14 hB6 => ?_)
      refine WL_nil ?_
      exact FinE_ctx hC14 rfl rfl (fun F h => ⟨b7, rfl, h⟩)
     exact StepsE_nil
    intro w12 hB8
    refine AllE_cons rfl rfl rfl ?_
    rintro _ _ ⟨rfl, rfl⟩
    refine AllE_cons rfl rfl rfl ?_
    rintro _ _ ⟨rfl, rfl⟩
    refine AllE_cons rfl rfl rfl ?_
    rintro _ F1 ⟨b7, rfl, hv1⟩
    refine AllE_nil ?_
    intro hn3 hb3
    have hC15 := hC13.pushL hB8 (Bs := [Item.box b7 [(.int .i64 0), (.slice none 0 0)]]) (Fs := [F1]) ⟨F1, _, rfl, hv1, rfl⟩ (by simpa using hn3) (fun b h => (hb3 b (by simpa using h)).1)
    refine WA_one 10 (by kernel_rfl) rfl ?_
    refine WL_store_box_aggK (cs' := [(.int .i64 x8), v5]) (new := [(.int .i64 x8), v5]) hC15 0 rfl rfl (by intro v hv; simp only [List.mem_cons, List.not_mem_nil, or_false] at hv; rcases hv with rfl | rfl; exact rfl; exact (ro_one (hC15.ro 1 rfl))) rfl Tryd.sizeOf29 rfl rfl (fun w13 hC16 hKp2 => ?_)
    try dsimp only [List.set] at hC16
    refine WL_nil ?_
    refine WA_done (by kernel_rfl) ?_
    have hq6 := Option.some.inj hr3
    subst hq6
    have hC17 := hC16.f4
    have hC18 := hC17.f3
    have hC19 := hC18.f4
    have hC20 := hC19.f4
    have hC21 := hC20.f4
    refine nrm_sub (l' := [(0, (sv a1)), (2, (ptr b1 0)), (5, (ptr b2 0)), (6, v1), (7, (ptr b7 0))]) ⟨rfl, rfl, rfl, rfl, rfl, trivial⟩ ?_
    exact ⟨x10.2.1, x10.2.2, b7, x8, v5, x10.1, rfl, rfl, hC21⟩
   refine WL_allocK hC11 zero29 rfl rfl (fun b7 w9 hC12 hB6 hN3 => ?_)
   refine WL_nil ?_
   refine WA_all2 (i := 2) (j := 7) (by kernel_rfl) rfl rfl ?_ ?_
   ·refine WL_load ty3 (hC11.at 0 rfl hE1 hx2) (Keep.of hB6) rfl rfl (fun v5 h4 => ?_)
    obtain rfl := ro_int h4
    refine WL_nil ?_
    obtain ⟨x10, hr4, hr3⟩ := bind_some hr3
    refine WA_one 7 (by kernel_rfl) rfl ?_
    have hC13 := hC12.f2
    obtain ⟨Fs2, hH2, hn2, hF2, hO2, hb2⟩ := Ctx.lend2 (As := [Item.box b7 [(.int .i64 0), (.slice none 0 0)], Item.own v1 (x1.1 : (List Int)), Item.box b1 [(.int .i64 0), (.slice none 0 0)]]) [Item.box b2 [(sv x1.2.1), (.bool x1.2.2)]] hC13
    refine WL_call Tryd.call57 rfl rfl (c_M_varintReader_list b2 (x1.2.1, x1.2.2) x9 hH2 hn2 x10 hr4) ?_
    rintro v6 w10 ⟨_, rfl, hq5⟩
    have hC14 : Ctx [] w0 w10 [Item.own v6 (x10.1 : (List Int)), Item.box b2 [(sv x10.2.1), (.bool x10.2.2)], Item.box b7 [(.int .i64 0), (.slice none 0 0)], Item.own v1 (x1.1 : (List Int)), Item.box b1 [(.int .i64 0), (.slice none 0 0)]] := hb2 _ _ hq5
    refine WL_nil ?_
    refine WA_tk 8 (by kernel_rfl) rfl rfl (fl_build (vs := [(0, (.int .i64 x8)), (1, v6)]) rfl rfl (built29_0_1 rfl (ro_cells (hC14.ro 0 rfl)))) ?_
    refine WL_build (vs := [(0, (.int .i64 x8)), (1, v6)]) rfl rfl rfl (built29_0_1 rfl (ro_cells (hC14.ro 0 rfl))) ?_
    refine WL_nil ?_
    refine WA_one 10 (by kernel_rfl) rfl ?_
    refine WL_store_box_aggK (cs' := [(.int .i64 x8), v6]) (new := [(.int .i64 x8), v6]) hC14 2 rfl rfl (by intro v hv; simp only [List.mem_cons, List.not_mem_nil, or_false] at hv; rcases hv with rfl | rfl; exact rfl; exact (ro_one (hC14.ro 0 rfl))) rfl Tryd.sizeOf29 rfl rfl (fun w11 hC15 hKp2 => ?_)
    try dsimp only [List.set] at hC15
    refine WL_nil ?_
    refine WA_done (by kernel_rfl) ?_
    have hq6 := Option.some.inj hr3
    subst hq6
    have hC16 := hC15.f4
    have hC17 := hC16.f2
    have hC18 := hC17.f4
    have hC19 := hC18.f3
    have hC20 := hC19.f4
    refine nrm_sub (l' := [(0, (sv a1)), (2, (ptr b1 0)), (5, (ptr b2 0)), (6, v1), (7, (ptr b7 0))]) ⟨rfl, rfl, rfl, rfl, rfl, trivial⟩ ?_
    exact ⟨x10.2.1, x10.2.2, b7, x8, v6, x10.1, rfl, rfl, hC20⟩
   obtain ⟨x10, hr4, hr3⟩ := bind_some hr3
   have hC13 := hC12.f2
   obtain ⟨Fs2, hH2, hn2, hF2, hO2, hb2⟩ := Ctx.lend2 (As := [Item.box b7 [(.int .i64 0), (.slice none 0 0)], Item.own v1 (x1.1 : (List Int)), Item.box b1 [(.int .i64 0), (.slice none 0 0)]]) [Item.box b2 [(sv x1.2.1), (.bool x1.2.2)]] hC13
   refine WL_call Tryd.call57 rfl rfl (c_M_varintReader_list b2 (x1.2.1, x1.2.2) x9 hH2 hn2 x10 hr4) ?_
   rintro v5 w10 ⟨_, rfl, hq5⟩
   have hC14 : Ctx [] w0 w10 [Item.own v5 (x10.1 : (List Int)), Item.box b2 [(sv x10.2.1), (.bool x10.2.2)], Item.box b7 [(.int .i64 0), (.slice none 0 0)], Item.own v1 (x1.1 : (List Int)), Item.box b1 [(.int .i64 0), (.slice none 0 0)]] := hb2 _ _ hq5
   refine WL_nil ?_
   refine WA_one 2 (by kernel_rfl) rfl ?_
   refine WL_load ty3 (hC14.at 3 rfl hE1 hx2) (Keep.refl _ _) rfl rfl (fun v6 h4 => ?_)
   obtain rfl := ro_int h4
   refine WL_nil ?_
   refine WA_tk 8 (by kernel_rfl) rfl rfl (fl_build (vs := [(0, (.int .i64 x8)), (1, v5)]) rfl rfl (built29_0_1 rfl (ro_cells (hC14.ro 0 rfl)))) ?_
   refine WL_build (vs := [(0, (.int .i64 x8)), (1, v5)]) rfl rfl rfl (built29_0_1 rfl (ro_cells (hC14.ro 0 rfl))) ?_
   refine WL_nil ?_
   refine WA_one 10 (by kernel_rfl) rfl ?_
   refine WL_store_box_aggK (cs' := [(.int .i64 x8), v5]) (new := [(.int .i64 x8), v5]) hC14 2 rfl rfl (by intro v hv; simp only [List.mem_cons, List.not_mem_nil, or_false] at hv; rcases hv with rfl | rfl; exact rfl; exact (ro_one (hC14.ro 0 rfl))) rfl Tryd.sizeOf29 rfl rfl (fun w11 hC15 hKp2 => ?_)
   try dsimp only [List.set] at hC15
   refine WL_nil ?_
   refine WA_done (by kernel_rfl) ?_
   have hq6 := Option.some.inj hr3
   subst hq6
   have hC16 := hC15.f4
   have hC17 := hC16.f2
   have hC18 := hC17.f4
   have hC19 := hC18.f3
   have hC20 := hC19.f4
   refine nrm_sub (l' := [(0, (sv a1)), (2, (ptr b1 0)), (5, (ptr b2 0)), (6, v1), (7, (ptr b7 0))]) ⟨rfl, rfl, rfl, rfl, rfl, trivial⟩ ?_
   exact ⟨x10.2.1, x10.2.2, b7, x8, v5, x10.1, rfl, rfl, hC20⟩
  refine WL_allocK hC11 zero29 rfl rfl (fun b7 w9 hC12 hB6 hN3 => ?_)
  refine WL_nil ?_
  refine WA_all2 (i := 2) (j := 6) (by kernel_rfl) rfl rfl ?_ ?_
  ·refine WL_load ty3 (hC11.at 0 rfl hE1 hx2) (Keep.of hB6) rfl rfl (fun v4 h3 => ?_)
   obtain rfl := ro_int h3
   refine WL_nil ?_
   refine WA_one 6 (by kernel_rfl) rfl ?_
   refine WL_load ty3 (hC11.at 0 rfl hE2 hx3) (Keep.of hB6) rfl rfl (fun v5 h4 => ?_)
   obtain rfl := ro_int h4
   refine WL_nil ?_
   obtain ⟨x10, hr4, hr3⟩ := bind_some hr3
   refine WA_one 7 (by kernel_rfl) rfl ?_
   have hC13 := hC12.f2
   obtain ⟨Fs2, hH2, hn2, hF2, hO2, hb2⟩ := Ctx.lend2 (As := [Item.box b7 [(.int .i64 0), (.slice none 0 0)], Item.own v1 (x1.1 : (List Int)), Item.box b1 [(.int .i64 0), (.slice none 0 0)]]) [Item.box b2 [(sv x1.2.1), (.bool x1.2.2)]] hC13
   refine WL_call Tryd.call57 rfl rfl (c_M_varintReader_list b2 (x1.2.1, x1.2.2) x9 hH2 hn2 x10 hr4) ?_
   rintro v6 w10 ⟨_, rfl, hq5⟩
   have hC14 : Ctx [] w0 w10 [Item.own v6 (x10.1 : (List Int)), Item.box b2 [(sv x10.2.1), (.bool x10.2.2)], Item.box b7 [(.int .i64 0), (.slice none 0 0)], Item.own v1 (x1.1 : (List Int)), Item.box b1 [(.int .i64 0), (.slice none 0 0)]] := hb2 _ _ hq5
   refine WL_nil ?_
   refine WA_tk 8 (by kernel_rfl) rfl rfl (fl_build (vs := [(0, (.int .i64 x8)), (1, v6)]) rfl rfl (built29_0_1 rfl (ro_cells (hC14.ro 0 rfl)))) ?_
   refine WL_build (vs := [(0, (.int .i64 x8)), (1, v6)]) rfl rfl rfl (built29_0_1 rfl (ro_cells (hC14.ro 0 rfl))) ?_
   refine WL_nil ?_
   refine WA_one 10 (by kernel_rfl) rfl ?_
   refine WL_store_box_aggK (cs' := [(.int .i64 x8), v6]) (new := [(.int .i64 x8), v6]) hC14 2 rfl rfl (by intro v hv; simp only [List.mem_cons, List.not_mem_nil, or_false] at hv; rcases hv with rfl | rfl; exact rfl; exact (ro_one (hC14.ro 0 rfl))) rfl Tryd.sizeOf29 rfl rfl (fun w11 hC15 hKp2 => ?_)
   try dsimp only [List.set] at hC15
   refine WL_nil ?_
   refine WA_done (by kernel_rfl) ?_
   have hq6 := Option.some.inj hr3
   subst hq6
   have hC16 := hC15.f4
   have hC17 := hC16.f2
   have hC18 := hC17.f4
   have hC19 := hC18.f3
   have hC20 := hC19.f4
   refine nrm_sub (l' := [(0, (sv a1)), (2, (ptr b1 0)), (5, (ptr b2 0)), (6, v1), (7, (ptr b7 0))]) ⟨rfl, rfl, rfl, rfl, rfl, trivial⟩ ?_
   exact ⟨x10.2.1, x10.2.2, b7, x8, v6, x10.1, rfl, rfl, hC20⟩
  refine WL_load ty3 (hC11.at 0 rfl hE2 hx3) (Keep.of hB6) rfl rfl (fun v4 h3 => ?_)
  obtain rfl := ro_int h3
  refine WL_nil ?_
  refine WA_all2 (i := 2) (j := 7) (by kernel_rfl) rfl rfl ?_ ?_
  ·refine WL_load ty3 (hC11.at 0 rfl hE1 hx2) (Keep.of hB6) rfl rfl (fun v5 h4 => ?_)
   obtain rfl := ro_int h4
   refine WL_nil ?_
   obtain ⟨x10, hr4, hr3⟩ := bind_some hr3
   refine WA_one 7 (by kernel_rfl) rfl ?_
   have hC13 := hC12.f2
   obtain ⟨Fs2, hH2, hn2, hF2, hO2, hb2⟩ := Ctx.lend2 (As := [Item.box b7 [(.int .i64 0), (.slice none 0 0)], Item.own v1 (x1.1 : (List Int)), Item.box b1 [(.int .i64 0), (.slice none 0 0)]]) [Item.box b2 [(sv x1.2.1), (.bool x1.2.2)]] hC13
   refine WL_call Tryd.call57 rfl rfl (c_M_varintReader_list b2 (x1.2.1, x1.2.2) x9 hH2 hn2 x10 hr4) ?_
   rintro v6 w10 ⟨_, rfl, hq5⟩
   have hC14 : Ctx [] w0 w10 [Item.own v6 (x10.1 : (List Int)), Item.box b2 [(sv x10.2.1), (.bool x10.2.2)], Item.box b7 [(.int .i64 0), (.slice none 0 0)], Item.own v1 (x1.1 : (List Int)), Item.box b1 [(.int .i64 0), (.slice none 0 0)]] := hb2 _ _ hq5
   refine WL_nil ?_
   refine WA_tk 8 (by kernel_rfl) rfl rfl (fl_build (vs := [(0, (.int .i64 x8)), (1, v6)]) rfl rfl (built29_0_1 rfl (ro_cells (hC14.ro 0 rfl)))) ?_
   refine WL_build (vs := [(0, (.int .i64 x8)), (1, v6)]) rfl rfl rfl (built29_0_1 rfl (ro_cells (hC14.ro 0 rfl))) ?_
   refine WL_nil ?_
   refine WA_one 10 (by kernel_rfl) rfl ?_
   refine WL_store_box_aggK (cs' := [(.int .i64 x8), v6]) (new := [(.int .i64 x8), v6]) hC14 2 rfl rfl (by intro v hv; simp only [List.mem_cons, List.not_mem_nil, or_false] at hv; rcases hv with rfl | rfl; exact rfl; exact (ro_one (hC14.ro 0 rfl))) rfl Tryd.sizeOf29 rfl rfl (fun w11 hC15 hKp2 => ?_)
   try dsimp only [List.set] at hC15
   refine WL_nil ?_
   refine WA_done (by kernel_rfl) ?_
   have hq6 := Option.some.inj hr3
   subst hq6
   have hC16 := hC15.f4
   have hC17 := hC16.f2
   have hC18 := hC17.f4
   have hC19 := hC18.f3
   have hC20 := hC19.f4
   refine nrm_sub (l' := [(0, (sv a1)), (2, (ptr b1 0)), (5, (ptr b2 0)), (6, v1), (7, (ptr b7 0))]) ⟨rfl, rfl, rfl, rfl, rfl, trivial⟩ ?_
   exact ⟨x10.2.1, x10.2.2, b7, x8, v6, x10.1, rfl, rfl, hC20⟩
  obtain ⟨x10, hr4, hr3⟩ := bind_some hr3
  have hC13 := hC12.f2
  obtain ⟨Fs2, hH2, hn2, hF2, hO2, hb2⟩ := Ctx.lend2 (As := [Item.box b7 [(.int .i64 0), (.slice none 0 0)], Item.own v1 (x1.1 : (List Int)), Item.box b1 [(.int .i64 0), (.slice none 0 0)]]) [Item.box b2 [(sv x1.2.1), (.bool x1.2.2)]] hC13
  refine WL_call Tryd.call57 rfl rfl (c_M_varintReader_list b2 (x1.2.1, x1.2.2) x9 hH2 hn2 x10 hr4) ?_
  rintro v5 w10 ⟨_, rfl, hq5⟩
  have hC14 : Ctx [] w0 w10 [Item.own v5 (x10.1 : (List Int)), Item.box b2 [(sv x10.2.1), (.bool x10.2.2)], Item.box b7 [(.int .i64 0), (.slice none 0 0)], Item.own v1 (x1.1 : (List Int)), Item.box b1 [(.int .i64 0), (.slice none 0 0)]] := hb2 _ _ hq5
  refine WL_nil ?_
  refine WA_one 2 (by kernel_rfl) rfl ?_
  refine WL_load ty3 (hC14.at 3 rfl hE1 hx2) (Keep.refl _ _) rfl rfl (fun v6 h4 => ?_)
  obtain rfl := ro_int h4
  refine WL_nil ?_
  refine WA_tk 8 (by kernel_rfl) rfl rfl (fl_build (vs := [(0, (.int .i64 x8)), (1, v5)]) rfl rfl (built29_0_1 rfl (ro_cells (hC14.ro 0 rfl)))) ?_
  refine WL_build (vs := [(0, (.int .i64 x8)), (1, v5)]) rfl rfl rfl (built29_0_1 rfl (ro_cells (hC14.ro 0 rfl))) ?_
  refine WL_nil ?_
  refine WA_one 10 (by kernel_rfl) rfl ?_
  refine WL_store_box_aggK (cs' := [(.int .i64 x8), v5]) (new := [(.int .i64 x8), v5]) hC14 2 rfl rfl (by intro v hv; simp only [List.mem_cons, List.not_mem_nil, or_false] at hv; rcases hv with rfl | rfl; exact rfl; exact (ro_one (hC14.ro 0 rfl))) rfl Tryd.sizeOf29 rfl rfl (fun w11 hC15 hKp2 => ?_)
  try dsimp only [List.set] at hC15
  refine WL_nil ?_
  refine WA_done (by kernel_rfl) ?_
  have hq6 := Option.some.inj hr3
  subst hq6
  have hC16 := hC15.f4
  have hC17 := hC16.f2
  have hC18 := hC17.f4
  have hC19 := hC18.f3
  have hC20 := hC19.f4
  refine nrm_sub (l' := [(0, (sv a1)), (2, (ptr b1 0)), (5, (ptr b2 0)), (6, v1), (7, (ptr b7 0))]) ⟨rfl, rfl, rfl, rfl, rfl, trivial⟩ ?_
  exact ⟨x10.2.1, x10.2.2, b7, x8, v5, x10.1, rfl, rfl, hC20⟩
 rintro _ w6 ⟨x4, x5, b4, x6, v3, x7, rfl, rfl, hC10⟩
 try dsimp only at hF
 refine W_seq (W_seq ?_)
 refine W_drawn 6 rfl hmix (fun w14 hB9 => ?_)
 have hC22 := hC10.grow hB9
 refine WA_tk 1 (by kernel_rfl) rfl rfl (fl_move rfl) ?_
 refine WL_move rfl rfl ?_
 refine WL_nil ?_
 obtain ⟨x11, hx4, hF⟩ := bind_some hF
 refine WA_tk 2 (by kernel_rfl) rfl rfl (fl_index_own hC22 2 rfl Tryd.underlying22 ty3 hx4 rfl rfl) ?_
 refine WL_index_own hC22 2 rfl Tryd.underlying22 ty3 hx4 rfl rfl rfl (fun b8 hE3 => ?_)
 refine WL_nil ?_
 refine WA.sub (l' := [(0, (sv a1)), (2, (ptr b1 0)), (5, (ptr b2 0)), (6, v1), (7, (ptr b4 0)), (35, v1), (36, (ptr b8 (Int.toNat 1 * Rep.sz Int)))]) ?_ ⟨rfl, rfl, rfl, rfl, rfl, rfl, rfl, trivial⟩
 refine WA_postsE [⟨0, [], fun vs => PW.val (.agg #[(.int .i64 x6), v3]), []⟩, ⟨3, [], fun vs => PW.val (.int .i64 x11), []⟩] [[], []] 2 rfl (by kernel_rfl) (by kernel_rfl) rfl ?_ ?_
 ·refine StepsE_cons rfl ?_ ?_
  ·intro w15 hB10
   refine DepsE_nil ?_
   refine ⟨_, rfl, ?_⟩
   refine WL_load_box_agg [(.int .i64 x6), v3] (hC22.grow hB10) 0 rfl rfl rfl Tryd.isAgg29 Tryd.sizeOf29 rfl rfl ?_
   refine WL_nil ?_
   exact FinE_val (Below.refl _ _) rfl rfl ⟨rfl, rfl⟩
  refine StepsE_cons rfl ?_ ?_
  ·intro w15 hB10
   refine DepsE_nil ?_
   refine ⟨_, rfl, ?_⟩
   refine WL_load ty3 (hC22.at 2 rfl hE3 hx4) (Keep.of hB10) rfl rfl (fun v7 h5 => ?_)
   obtain rfl := ro_int h5
   refine WL_nil ?_
   exact FinE_val (Below.refl _ _) rfl rfl ⟨rfl, rfl⟩
  exact StepsE_nil
 intro w16 hB11
 refine AllE_cons rfl rfl rfl ?_
 rintro _ _ ⟨rfl, rfl⟩
 refine AllE_cons rfl rfl rfl ?_
 rintro _ _ ⟨rfl, rfl⟩
 refine AllE_nil ?_
 intro hn4 hb4
 have hC23 := hC22.grow hB11
 obtain ⟨x12, hr5, hF⟩ := bind_some hF
 refine WA_one 4 (by kernel_rfl) rfl ?_
 refine WL_call Tryd.call17 rfl rfl (c_M_EncodeRequest (x6, x7) v3 ((hC23.ro 1 rfl).now (Keep.refl _ _)) x11 x12 hr5) ?_
 intro _ w17 hv2
 obtain ⟨rfl, hB12⟩ := res_str hv2
 have hC24 := hC23.grow hB12
 refine WL_nil ?_
 refine WA_tk 5 (by kernel_rfl) rfl rfl (fl_assign rfl) ?_
 refine WL_assign rfl rfl ?_
 refine WL_nil ?_
 refine WA_done (by kernel_rfl) ?_
 refine nrm_normal ?_
 obtain ⟨r3, hr6, hF⟩ := bind_some hF
 refine W_cut (fun l w => ∃ x13 : Bool, x13 = r3 ∧ l = [(2, (ptr b1 0)), (6, v1), (7, (ptr b4 0)), (51, (.bool x13))] ∧ Below w17.heap.size w17 w ∧ Ctx [] w0 w [Item.box b4 [(.int .i64 x6), v3], Item.own v3 (x7 : (List Int)), Item.own v1 (x1.1 : (List Int)), Item.box b1 [(.int .i64 0), (.slice none 0 0)]]) ?_ ?_
 ·refine W_reg ?_
  refine WL_move rfl rfl ?_
  refine WL_nilCheck rfl rfl ?_
  refine WL_field Tryd.underlying79 rfl rfl (fun w => ⟨_, Tryd.sizeOf4 w⟩) rfl rfl ?_
  refine WL_load_box hC24 3 rfl rfl Tryd.isAgg4 rfl rfl ?_
  refine WL_move rfl rfl ?_
  refine WL_fork (fun hc3 => ?_) (fun hc3 => ?_)
  ·replace hr6 := ite_t hr6 hc3
   refine WL_guard_skip rfl rfl (by simp) rfl ?_
   refine WL_guard_skip rfl rfl (by simp) rfl ?_
   refine WL_pick_t rfl rfl rfl ?_
   refine WL_move rfl rfl ?_
   refine WL_guard_skip rfl rfl (by simp) rfl ?_
   refine WL_guard_skip rfl rfl (by simp) rfl ?_
   refine WL_guard_skip rfl rfl (by simp) rfl ?_
   refine WL_pick_t rfl rfl rfl ?_
   refine WL_nil ?_
   have hq7 := Option.some.inj hr6
   subst hq7
   have hC26 := hC24.f4
   have hC27 := hC26.f3
   have hC28 := hC27.f3
   have hC29 := hC28.f3
   have hC30 := hC29.h4
   refine nrm_sub (l' := [(2, (ptr b1 0)), (6, v1), (7, (ptr b4 0)), (51, (.bool true))]) ⟨rfl, rfl, rfl, rfl, trivial⟩ ?_
   exact ⟨true, rfl, rfl, (Below.refl _ _), hC30⟩
  replace hr6 := ite_f hr6 hc3
  refine WL_guard rfl rfl ?_
  refine WL_move rfl rfl ?_
  refine WL_guard rfl rfl ?_
  refine WL_str_eql rfl rfl rfl ?_
  refine WL_pick_f rfl rfl rfl ?_
  refine WL_move rfl rfl ?_
  refine WL_fork (fun hc4 => ?_) (fun hc4 => ?_)
  ·replace hr6 := ite_t hr6 hc4
   refine WL_guard_skip rfl rfl (by simp) rfl ?_
   refine WL_guard_skip rfl rfl (by simp) rfl ?_
   refine WL_guard_skip rfl rfl (by simp) rfl ?_
   refine WL_pick_t rfl rfl rfl ?_
   refine WL_nil ?_
   have hq8 := Option.some.inj hr6
   subst hq8
   have hC31 := hC24.f4
   have hC32 := hC31.f3
   have hC33 := hC32.f3
   have hC34 := hC33.f3
   have hC35 := hC34.h4
   refine nrm_sub (l' := [(2, (ptr b1 0)), (6, v1), (7, (ptr b4 0)), (51, (.bool true))]) ⟨rfl, rfl, rfl, rfl, trivial⟩ ?_
   exact ⟨true, rfl, rfl, (Below.refl _ _), hC35⟩
  replace hr6 := ite_f hr6 hc4
  refine WL_guard rfl rfl ?_
  refine WL_move rfl rfl ?_
  refine WL_guard rfl rfl ?_
  refine WL_move rfl rfl ?_
  refine WL_guard rfl rfl ?_
  refine WL_str_neq rfl rfl rfl ?_
  refine WL_pick_f rfl rfl rfl ?_
  refine WL_nil ?_
  have hq9 := Option.some.inj hr6
  subst hq9
  have hC36 := hC24.f4
  have hC37 := hC36.f3
  have hC38 := hC37.f3
  have hC39 := hC38.f3
  have hC40 := hC39.h4
  refine nrm_sub (l' := [(2, (ptr b1 0)), (6, v1), (7, (ptr b4 0)), (51, (.bool (!decide (x12 = a1))))]) ⟨rfl, rfl, rfl, rfl, trivial⟩ ?_
  exact ⟨(!decide (x12 = a1)), rfl, rfl, (Below.refl _ _), hC40⟩
 rintro _ w18 ⟨x13, rfl, rfl, hB13, hC25⟩
 try dsimp only at hF
 refine W_cond rfl (fun hc5 => ?_) (fun hc5 => ?_)
 ·replace hF := ite_t hF hc5
  refine W_seq_reg ?_
  refine WL_build (vs := []) rfl rfl rfl built29 ?_
  refine WL_store_box_aggK (cs' := [(.int .i64 0), (.slice none 0 0)]) (new := [(.int .i64 0), (.slice none 0 0)]) hC25 3 rfl rfl (by intro v hv; simp only [List.mem_cons, List.not_mem_nil, or_false] at hv; rcases hv with rfl | rfl; exact rfl; exact rfl) rfl Tryd.sizeOf29 rfl rfl (fun w19 hC41 hKp3 => ?_)
  try dsimp only [List.set] at hC41
  refine WL_assign rfl rfl ?_
  refine WL_assign rfl rfl ?_
  refine WL_nil (W_ret (nrm_ret ?_))
  have hq10 := Option.some.inj hF
  subst hq10
  refine fn_retG3 rfl (rv_cell_agg (cs' := [(.int .i64 0), (.slice none 0 0)]) hC41 (i := 3) rfl rfl rfl Tryd.isAgg29 Tryd.sizeOf29 rfl) (rv_tmp rfl) (rv_tmp rfl) ?_
  have hC42 := hC41.triv (bool_val (false))
  have hC43 := hC42.triv (int_val (0))
  have hC45 := hC43.triv (nil_val (α := Int))
  have hC44 := own_st29 0 (.slice none 0 0) ([]) hC45
  exact ⟨_, rfl, res3_of hC44⟩
 replace hF := ite_f hF hc5
 refine W_skip (nrm_normal ?_)
 obtain ⟨r4, hr7, hF⟩ := bind_some hF
 refine W_cut (fun l w => ∃ x14 : Int, ∃ v8 : Value, ∃ x15 : (List Int), ∃ x16 : Int, ∃ x17 : Bool, (x14, x15, x16, x17) = r4 ∧ l = [(2, (ptr b1 0)), (3, (.int .i64 x16)), (4, (.bool x17))] ∧ Ctx [] w0 w [Item.own v8 (x15 : (List Int)), Item.box b1 [(.int .i64 x14), v8]]) ?_ ?_
 ·refine W_drawn 7 rfl hmix (fun w21 hB15 => ?_)
  have hC47 := hC25.grow hB15
  refine WA_tk 1 (by kernel_rfl) rfl rfl (fl_move rfl) ?_
  refine WL_move rfl rfl ?_
  refine WL_nil ?_
  obtain ⟨x18, hx5, hr7⟩ := bind_some hr7
  refine WA_tk 2 (by kernel_rfl) rfl rfl (fl_index_own hC47 2 rfl Tryd.underlying22 ty3 hx5 rfl rfl) ?_
  refine WL_index_own hC47 2 rfl Tryd.underlying22 ty3 hx5 rfl rfl rfl (fun b9 hE4 => ?_)
  refine WL_nil ?_
  refine WA.sub (l' := [(2, (ptr b1 0)), (6, v1), (7, (ptr b4 0)), (51, (.bool x13)), (54, v1), (55, (ptr b9 (Int.toNat 1 * Rep.sz Int)))]) ?_ ⟨rfl, rfl, rfl, rfl, rfl, rfl, trivial⟩
  refine WA_postsO [⟨0, [], fun vs => PW.val (.agg #[(.int .i64 x6), v3]), []⟩, ⟨3, [], fun vs => PW.val (.int .i64 x18), []⟩] [[], []] [3] 3 rfl (by kernel_rfl) (by kernel_rfl) ?_ ⟨?_, ?_, trivial⟩
  ·refine StepsE_cons rfl ?_ ?_
   ·intro w22 hB16
    refine DepsE_nil ?_
    refine ⟨_, rfl, ?_⟩
    refine WL_load_box_agg [(.int .i64 x6), v3] (hC47.grow hB16) 0 rfl rfl rfl Tryd.isAgg29 Tryd.sizeOf29 rfl rfl ?_
    refine WL_nil ?_
    exact FinE_val (Below.refl _ _) rfl rfl ⟨rfl, rfl⟩
   refine StepsE_cons rfl ?_ ?_
   ·intro w22 hB16
    refine DepsE_nil ?_
    refine ⟨_, rfl, ?_⟩
    refine WL_load ty3 (hC47.at 2 rfl hE4 hx5) (Keep.of hB16) rfl rfl (fun v9 h6 => ?_)
    obtain rfl := ro_int h6
    refine WL_nil ?_
    exact FinE_val (Below.refl _ _) rfl rfl ⟨rfl, rfl⟩
   exact StepsE_nil
  ·intro g' hg'
   obtain rfl : g' = 3 := hg'
   intro w23 hB17
   refine AllE_cons rfl rfl rfl ?_
   rintro _ _ ⟨rfl, rfl⟩
   refine AllE_cons rfl rfl rfl ?_
   rintro _ _ ⟨rfl, rfl⟩
   refine AllE_nil ?_
   intro hn5 hb5
   have hC48 := hC47.grow hB17
   refine WA_one 4 (by kernel_rfl) rfl ?_
   refine WL_store_box_aggK (cs' := [(.int .i64 x6), v3]) (new := [(.int .i64 x6), v3]) hC48 3 rfl rfl (by intro v hv; simp only [List.mem_cons, List.not_mem_nil, or_false] at hv; rcases hv with rfl | rfl; exact rfl; exact (ro_one (hC48.ro 1 rfl))) rfl Tryd.sizeOf29 rfl rfl (fun w24 hC49 hKp4 => ?_)
   try dsimp only [List.set] at hC49
   refine WL_nil ?_
   refine WA_tk 5 (by kernel_rfl) rfl rfl (fl_assign rfl) ?_
   refine WL_assign rfl rfl ?_
   refine WL_nil ?_
   refine WA_tk 6 (by kernel_rfl) rfl rfl (fl_assign rfl) ?_
   refine WL_assign rfl rfl ?_
   refine WL_nil ?_
   refine WA_done (by kernel_rfl) ?_
   have hq11 := Option.some.inj hr7
   subst hq11
   have hC50 := hC49.f3
   have hC51 := hC50.f2
   have hC52 := hC51.h2
   refine nrm_sub (l' := [(2, (ptr b1 0)), (3, (.int .i64 x18)), (4, (.bool true))]) ⟨rfl, rfl, rfl, trivial⟩ ?_
   exact ⟨x6, v3, x7, x18, true, rfl, rfl, hC52⟩
  intro g' hg'
  obtain rfl : g' = 4 := hg'
  intro w23 hB17
  refine AllE_cons rfl rfl rfl ?_
  rintro _ _ ⟨rfl, rfl⟩
  refine AllE_nil ?_
  intro hn5 hb5
  have hC48 := hC47.grow hB17
  refine WA_all2 (i := 3) (j := 4) (by kernel_rfl) rfl rfl ?_ ?_
  ·refine WL_load ty3 (hC47.at 2 rfl hE4 hx5) (Keep.of hB17) rfl rfl (fun v10 h7 => ?_)
   obtain rfl := ro_int h7
   refine WL_nil ?_
   refine WA_one 4 (by kernel_rfl) rfl ?_
   refine WL_store_box_aggK (cs' := [(.int .i64 x6), v3]) (new := [(.int .i64 x6), v3]) hC48 3 rfl rfl (by intro v hv; simp only [List.mem_cons, List.not_mem_nil, or_false] at hv; rcases hv with rfl | rfl; exact rfl; exact (ro_one (hC48.ro 1 rfl))) rfl Tryd.sizeOf29 rfl rfl (fun w24 hC49 hKp4 => ?_)
   try dsimp only [List.set] at hC49
   refine WL_nil ?_
   refine WA_tk 5 (by kernel_rfl) rfl rfl (fl_assign rfl) ?_
   refine WL_assign rfl rfl ?_
   refine WL_nil ?_
   refine WA_tk 6 (by kernel_rfl) rfl rfl (fl_assign rfl) ?_
   refine WL_assign rfl rfl ?_
   refine WL_nil ?_
   refine WA_done (by kernel_rfl) ?_
   have hq11 := Option.some.inj hr7
   subst hq11
   have hC50 := hC49.f3
   have hC51 := hC50.f2
   have hC52 := hC51.h2
   refine nrm_sub (l' := [(2, (ptr b1 0)), (3, (.int .i64 x18)), (4, (.bool true))]) ⟨rfl, rfl, rfl, trivial⟩ ?_
   exact ⟨x6, v3, x7, x18, true, rfl, rfl, hC52⟩
  refine WL_store_box_aggK (cs' := [(.int .i64 x6), v3]) (new := [(.int .i64 x6), v3]) hC48 3 rfl rfl (by intro v hv; simp only [List.mem_cons, List.not_mem_nil, or_false] at hv; rcases hv with rfl | rfl; exact rfl; exact (ro_one (hC48.ro 1 rfl))) rfl Tryd.sizeOf29 rfl rfl (fun w24 hC49 hKp4 => ?_)
  try dsimp only [List.set] at hC49
  refine WL_nil ?_
  refine WA_one 3 (by kernel_rfl) rfl ?_
  refine WL_load ty3 (hC49.at 2 rfl hE4 hx5) (Keep.refl _ _) rfl rfl (fun v10 h7 => ?_)
  obtain rfl := ro_int h7
  refine WL_nil ?_
  refine WA_tk 5 (by kernel_rfl) rfl rfl (fl_assign rfl) ?_
  refine WL_assign rfl rfl ?_
  refine WL_nil ?_
  refine WA_tk 6 (by kernel_rfl) rfl rfl (fl_assign rfl) ?_
  refine WL_assign rfl rfl ?_
  refine WL_nil ?_
  refine WA_done (by kernel_rfl) ?_
  have hq11 := Option.some.inj hr7
  subst hq11
  have hC50 := hC49.f3
  have hC51 := hC50.f2
  have hC52 := hC51.h2
  refine nrm_sub (l' := [(2, (ptr b1 0)), (3, (.int .i64 x18)), (4, (.bool true))]) ⟨rfl, rfl, rfl, trivial⟩ ?_
  exact ⟨x6, v3, x7, x18, true, rfl, rfl, hC52⟩
 rintro _ w20 ⟨x14, v8, x15, x16, x17, rfl, rfl, hC46⟩
 try dsimp only at hF
 refine W_ret ?_
 have hq12 := Option.some.inj hF
 subst hq12
 refine fn_retG3 rfl (rv_cell_agg (cs' := [(.int .i64 x14), v8]) hC46 (i := 1) rfl rfl rfl Tryd.isAgg29 Tryd.sizeOf29 rfl) (rv_tmp rfl) (rv_tmp rfl) ?_
 have hC53 := hC46.triv (bool_val (x17))
 have hC54 := hC53.triv (int_val (x16))
 have hC56 := hC54.f2
 have hC55 := own_st29 x14 v8 x15 hC56
 exact ⟨_, rfl, res3_of hC55⟩

theorem c_Q_markIntS {w0 : World} {Fs : List (List Nat)} (a1 : (List Int)) (u1 : Value) (a2 : Int) (hH : Hold [Item.own u1 (a1 : (List Int))] w0 Fs) (hn : Fs.flatten.Nodup) (rr : (Int × (List Int))) (hF : Q.markIntS a1 a2 = some rr) :
 Calls Tryd.prog 58 [u1, (.int .i64 a2)].toArray w0 fun e w' => ∃ v, e = .returned v ∧ v = (.int .i64 rr.1) ∧ Ctx Fs.flatten w0 w' [Item.own u1 (rr.2 : (List Int))] := by
 refine calls_of_W Tryd.func58 rfl rfl ?_
 have hC0 := Ctx.startIn hH hn
 unfold Q.markIntS at hF
 refine W_seq_reg ?_
 refine WL_assign rfl rfl ?_
 refine WL_nil (W_seq (W_seq_reg ?_))
 refine WL_assign rfl rfl ?_
 refine WL_nil ?_
 obtain ⟨r1, hr1, hF⟩ := bind_some hF
 refine W_norm (fun l w => ∃ x4 : (List Int), ∃ x5 : Int, (x4, x5) = r1 ∧ l = [(1, (.int .i64 x5))] ∧ Ctx Fs.flatten w0 w [Item.own u1 (x4 : (List Int))]) ?_ ?_
 ·refine W_block ?_
  refine W.sub (l' := [(0, u1), (1, (.int .i64 a2)), (5, (.int .i64 0))]) ?_ ⟨rfl, rfl, rfl, trivial⟩
  refine W_loop (fun k l w => ∃ x1 : (List Int), ∃ x2 : Int, ∃ x3 : Int, l = [(0, u1), (1, (.int .i64 x2)), (5, (.int .i64 x3))] ∧ Ctx Fs.flatten w0 w [Item.own u1 (x1 : (List Int))] ∧ Q.markIntS_l1 k x1 x2 x3 = some r1) FUEL ⟨a1, a2, 0, rfl, hC0, hr1⟩ ?_
  clear hr1
  rintro k1 _ w1 ⟨x1, x2, x3, rfl, hC1, hL1⟩
  cases k1 with
  | zero => rw [Q.markIntS_l1] at hL1; cases hL1
  | succ k1 =>
   rw [Q.markIntS_l1] at hL1
   refine W_seq (W_seq_reg ?_)
   refine WL_move rfl rfl ?_
   refine WL_move rfl rfl ?_
   refine WL_len Tryd.underlying22 (hC1.ro 0 rfl) rfl rfl ?_
   refine WL_lss rfl rfl rfl ?_
   refine WL_nil ?_
   refine W_cond rfl (fun hc1 => ?_) (fun hc1 => ?_)
   ·replace hL1 := ite_t hL1 hc1
    refine W_skip (nrm_normal (W_seq (W_block (W_seq_reg ?_))))
    refine WL_move rfl rfl ?_
    refine WL_move rfl rfl ?_
    refine WL_move rfl rfl ?_
    obtain ⟨x6, hx1, hL1⟩ := bind_some hL1
    refine WL_index_own hC1 0 rfl Tryd.underlying22 ty3 hx1 rfl rfl rfl (fun b1 hE1 => ?_)
    have hC3 := hC1.triv (int_val (x2))
    refine WL_store_elem hC3 0 rfl ty3 hE1 hx1 rfl rfl rfl (fun w2 hC2 => ?_)
    try dsimp only [List.set] at hC2
    refine WL_nil (W_reg ?_)
    refine WL_move rfl rfl ?_
    refine WL_add rfl rfl rfl ?_
    refine WL_assign rfl rfl ?_
    refine WL_nil (blk_normal (nrm_normal (W_reg ?_)))
    refine WL_move rfl rfl ?_
    refine WL_add rfl rfl rfl ?_
    refine WL_assign rfl rfl ?_
    refine WL_nil ?_
    refine nrm_sub (l' := [(0, u1), (1, (.int .i64 (w64 (x2 + 1)))), (5, (.int .i64 (w64 (x3 + 1))))]) ⟨rfl, rfl, rfl, trivial⟩ ?_
    exact ⟨k1, Nat.lt_succ_self _, (List.set x1 (Int.toNat x3) x2), w64 (x2 + 1), w64 (x3 + 1), rfl, hC2, hL1⟩
   replace hL1 := ite_f hL1 hc1
   refine W_exit (nrm_exit (nrm_exit (blk_exit ?_)))
   have hq1 := Option.some.inj hL1
   subst hq1
   refine nrm_sub (l' := [(1, (.int .i64 x2))]) ⟨rfl, trivial⟩ ?_
   exact ⟨x1, x2, rfl, rfl, hC1⟩
 rintro l2 _ w3 hs2 ⟨x4, x5, rfl, rfl, hC4⟩
 try dsimp only at hF
 refine nrm_sub' hs2 ?_
 clear hs2
 refine W_seq_reg ?_
 refine WL_move rfl rfl ?_
 refine WL_assign rfl rfl ?_
 refine WL_nil (W_ret ?_)
 have hq2 := Option.some.inj hF
 subst hq2
 refine fn_ret1 rfl rfl ?_
 exact ⟨_, rfl, rfl, hC4⟩

theorem c_Q_markAccess {w0 : World} {Fs : List (List Nat)} (a1 : (Int × (List Int))) (u1 : Value) (a2 : Int) (hH : Hold [Item.own u1 (a1.2 : (List Int))] w0 Fs) (hn : Fs.flatten.Nodup) (rr : (Int × (Int × (List Int)))) (hF : Q.markAccess a1 a2 = some rr) :
 Calls Tryd.prog 26 [(.agg #[(.int .i64 a1.1), u1]), (.int .i64 a2)].toArray w0 fun e w' => ∃ v, e = .returned v ∧ v = (.int .i64 rr.1) ∧ Ctx Fs.flatten w0 w' [Item.own u1 (rr.2.2 : (List Int))] := by
 refine calls_of_W Tryd.func26 rfl rfl ?_
 have hC0 := Ctx.startIn hH hn
 unfold Q.markAccess at hF
 refine W_seq_reg ?_
 refine WL_boxK (cs := [(.int .i64 a1.1), u1]) hC0 rfl rfl rfl (fun b1 w1 hC1 hB1 hN1 => ?_)
 refine WL_assign rfl rfl ?_
 refine WL_nil (W_seq_reg ?_)
 refine WL_field Tryd.underlying29 rfl rfl (fun w => ⟨_, Tryd.sizeOf22 w⟩) rfl rfl ?_
 refine WL_load_box hC1 0 rfl rfl Tryd.isAgg22 rfl rfl ?_
 refine WL_move rfl rfl ?_
 obtain ⟨x1, hr1, hF⟩ := bind_some hF
 have hC2 := hC1.f1
 obtain ⟨Fs1, hH1, hn1, hF1, hO1, hb1⟩ := Ctx.lend2 (As := [Item.box b1 [(.int .i64 a1.1), u1]]) [Item.own u1 (a1.2 : (List Int))] hC2
 refine WL_call Tryd.call58 rfl rfl (c_Q_markIntS a1.2 u1 a2 hH1 hn1 x1 hr1) ?_
 rintro _ w2 ⟨rfl, hq1⟩
 have hC3 : Ctx Fs.flatten w0 w2 [Item.own u1 (x1.2 : (List Int)), Item.box b1 [(.int .i64 a1.1), u1]] := hb1 _ _ hq1
 refine WL_assign rfl rfl ?_
 refine WL_nil (W_seq_reg ?_)
 refine WL_move rfl rfl ?_
 refine WL_assign rfl rfl ?_
 refine WL_nil (W_ret ?_)
 have hq2 := Option.some.inj hF
 subst hq2
 refine fn_ret1 rfl rfl ?_
 have hC4 := hC3.h1
 exact ⟨_, rfl, rfl, hC4⟩

theorem c_Q_heldIntS {w0 : World} (a1 : (List Int)) (u1 : Value) (g1 : RO [] w0 u1 a1) (a2 : Int) (rr : Int) (hF : Q.heldIntS a1 a2 = some rr) :
 Calls Tryd.prog 59 [u1, (.int .i64 a2)].toArray w0 fun e w' => ∃ v, e = .returned v ∧ Res w0 rr v w' := by
 refine calls_of_W Tryd.func59 rfl rfl ?_
 have hC0 := Ctx.start w0
 unfold Q.heldIntS at hF
 refine W_seq_reg ?_
 refine WL_assign rfl rfl ?_
 refine WL_nil (W_seq (W_seq_reg ?_))
 refine WL_assign rfl rfl ?_
 refine WL_nil ?_
 obtain ⟨r1, hr1, hF⟩ := bind_some hF
 refine W_norm (fun l w => ∃ x3 : Int, .inl x3 = r1 ∧ l = [(1, (.int .i64 x3))] ∧ Below w0.heap.size w0 w ∧ Ctx [] w0 w []) ?_ ?_
 ·refine W_block ?_
  refine W.sub (l' := [(0, u1), (1, (.int .i64 a2)), (5, (.int .i64 0))]) ?_ ⟨rfl, rfl, rfl, trivial⟩
  refine W_loop (fun k l w => ∃ x1 : Int, ∃ x2 : Int, l = [(0, u1), (1, (.int .i64 x1)), (5, (.int .i64 x2))] ∧ Below w0.heap.size w0 w ∧ Ctx [] w0 w [] ∧ Q.heldIntS_l1 a1 k x1 x2 = some r1) FUEL ⟨a2, 0, rfl, (Below.refl _ _), hC0, hr1⟩ ?_
  clear hr1
  rintro k1 _ w1 ⟨x1, x2, rfl, hB1, hC1, hL1⟩
  cases k1 with
  | zero => rw [Q.heldIntS_l1] at hL1; cases hL1
  | succ k1 =>
   rw [Q.heldIntS_l1] at hL1
   refine W_seq (W_seq_reg ?_)
   refine WL_move rfl rfl ?_
   refine WL_move rfl rfl ?_
   refine WL_len Tryd.underlying22 g1 rfl rfl ?_
   refine WL_lss rfl rfl rfl ?_
   refine WL_nil ?_
   refine W_cond rfl (fun hc1 => ?_) (fun hc1 => ?_)
   ·replace hL1 := ite_t hL1 hc1
    refine W_skip (nrm_normal (W_seq (W_block (W_seq (W_seq_reg ?_)))))
    refine WL_move rfl rfl ?_
    refine WL_move rfl rfl ?_
    obtain ⟨x4, hx1, hL1⟩ := bind_some hL1
    refine WL_index Tryd.underlying22 ty3 g1 hx1 rfl rfl rfl (fun b1 o1 h1 => ?_)
    refine WL_load ty3 h1 hC1.keep rfl rfl (fun v1 h2 => ?_)
    obtain rfl := ro_int h2
    refine WL_move rfl rfl ?_
    refine WL_neq rfl rfl rfl ?_
    refine WL_nil ?_
    refine W_cond rfl (fun hc2 => ?_) (fun hc2 => ?_)
    ·replace hL1 := ite_t hL1 hc2
     refine W_seq_reg ?_
     refine WL_assign rfl rfl ?_
     refine WL_nil (W_ret (nrm_ret (blk_ret (nrm_ret (nrm_ret (blk_ret (nrm_ret (nrm_ret ?_))))))))
     have hq1 := Option.some.inj hL1
     subst hq1
     dsimp only at hF
     have hq2 := Option.some.inj hF
     subst hq2
     refine fn_ret1 rfl rfl ?_
     exact ⟨_, rfl, int_res hC1 _⟩
    replace hL1 := ite_f hL1 hc2
    refine W_skip (nrm_normal (W_reg ?_))
    refine WL_move rfl rfl ?_
    refine WL_add rfl rfl rfl ?_
    refine WL_assign rfl rfl ?_
    refine WL_nil (blk_normal (nrm_normal (W_reg ?_)))
    refine WL_move rfl rfl ?_
    refine WL_add rfl rfl rfl ?_
    refine WL_assign rfl rfl ?_
    refine WL_nil ?_
    refine nrm_sub (l' := [(0, u1), (1, (.int .i64 (w64 (x1 + 1)))), (5, (.int .i64 (w64 (x2 + 1))))]) ⟨rfl, rfl, rfl, trivial⟩ ?_
    exact ⟨k1, Nat.lt_succ_self _, w64 (x1 + 1), w64 (x2 + 1), rfl, (Keep.of hB1).below, hC1, hL1⟩
   replace hL1 := ite_f hL1 hc1
   refine W_exit (nrm_exit (nrm_exit (blk_exit ?_)))
   have hq3 := Option.some.inj hL1
   subst hq3
   refine nrm_sub (l' := [(1, (.int .i64 x1))]) ⟨rfl, trivial⟩ ?_
   exact ⟨x1, rfl, rfl, (Keep.of hB1).below, hC1⟩
 rintro l2 _ w2 hs2 ⟨x3, rfl, rfl, hB2, hC2⟩
 try dsimp only at hF
 refine nrm_sub' hs2 ?_
 clear hs2
 refine W_seq_reg ?_
 refine WL_move rfl rfl ?_
 refine WL_assign rfl rfl ?_
 refine WL_nil (W_ret ?_)
 have hq4 := Option.some.inj hF
 subst hq4
 refine fn_ret1 rfl rfl ?_
 exact ⟨_, rfl, int_res hC2 _⟩

theorem c_Q_heldAccess {w0 : World} (a1 : (Int × (List Int))) (u1 : Value) (g1 : RO [] w0 u1 a1.2) (a2 : Int) (rr : Int) (hF : Q.heldAccess a1 a2 = some rr) :
 Calls Tryd.prog 27 [(.agg #[(.int .i64 a1.1), u1]), (.int .i64 a2)].toArray w0 fun e w' => ∃ v, e = .returned v ∧ Res w0 rr v w' := by
 refine calls_of_W Tryd.func27 rfl rfl ?_
 have hC0 := Ctx.start w0
 unfold Q.heldAccess at hF
 refine W_seq_reg ?_
 refine WL_boxK (cs := [(.int .i64 a1.1), u1]) hC0 rfl rfl rfl (fun b1 w1 hC1 hB1 hN1 => ?_)
 refine WL_assign rfl rfl ?_
 refine WL_nil (W_seq_reg ?_)
 refine WL_field Tryd.underlying29 rfl rfl (fun w => ⟨_, Tryd.sizeOf22 w⟩) rfl rfl ?_
 refine WL_load_box hC1 0 rfl rfl Tryd.isAgg22 rfl rfl ?_
 refine WL_move rfl rfl ?_
 obtain ⟨x1, hr1, hF⟩ := bind_some hF
 refine WL_call Tryd.call59 rfl rfl (c_Q_heldIntS a1.2 u1 (g1.now hC1.keep) a2 x1 hr1) ?_
 intro _ w2 hv1
 obtain ⟨rfl, hB2⟩ := res_int hv1
 have hC2 := hC1.grow hB2
 refine WL_assign rfl rfl ?_
 refine WL_nil (W_seq (W_seq_reg ?_))
 refine WL_move rfl rfl ?_
 refine WL_lss rfl rfl rfl ?_
 refine WL_nil ?_
 refine W_cond rfl (fun hc1 => ?_) (fun hc1 => ?_)
 ·replace hF := ite_t hF hc1
  refine W_seq_reg ?_
  refine WL_assign rfl rfl ?_
  refine WL_nil (W_ret (nrm_ret ?_))
  have hq1 := Option.some.inj hF
  subst hq1
  refine fn_ret1 rfl rfl ?_
  exact ⟨_, rfl, int_res hC2 _⟩
 replace hF := ite_f hF hc1
 refine W_skip (nrm_normal (W_seq_reg ?_))
 refine WL_move rfl rfl ?_
 refine WL_assign rfl rfl ?_
 refine WL_nil (W_ret ?_)
 have hq2 := Option.some.inj hF
 subst hq2
 refine fn_ret1 rfl rfl ?_
 exact ⟨_, rfl, int_res hC2 _⟩

theorem c_Q_FnExactDecodeRequest {w0 : World} (a1 : Str) (rr : Bool) (hF : Q.FnExactDecodeRequest a1 = some rr) :
 Calls Tryd.prog 6 [(sv a1)].toArray w0 fun e w' => ∃ v, e = .returned v ∧ Res w0 rr v w' := by
 refine calls_of_W Tryd.func6 rfl rfl ?_
 have hC0 := Ctx.start w0
 unfold Q.FnExactDecodeRequest at hF
 refine W_seq_reg ?_
 refine WL_assign rfl rfl ?_
 refine WL_nil (W_seq (W_seq_reg ?_))
 refine WL_move rfl rfl ?_
 refine WL_len_str Tryd.underlying9 rfl rfl ?_
 refine WL_gtr rfl rfl rfl ?_
 refine WL_nil ?_
 refine W_cond rfl (fun hc1 => ?_) (fun hc1 => ?_)
 ·replace hF := ite_t hF hc1
  refine W_seq_reg ?_
  refine WL_assign rfl rfl ?_
  refine WL_nil (W_ret (nrm_ret ?_))
  have hq1 := Option.some.inj hF
  subst hq1
  refine fn_ret1 rfl rfl ?_
  exact ⟨_, rfl, bool_res hC0 _⟩
 replace hF := ite_f hF hc1
 refine W_skip (nrm_normal (W_seq_reg ?_))
 refine WL_move rfl rfl ?_
 obtain ⟨x1, hr1, hF⟩ := bind_some hF
 refine WL_call Tryd.call24 rfl rfl (c_S_DecodeRequest a1 x1 hr1) ?_
 rintro _ w1 ⟨hB1, v1, v2, v3, F1, F2, F3, rfl, hv1, hv2, hv3, hn1, hb1⟩
 obtain ⟨rfl, rfl⟩ := val_int hv2
 obtain ⟨rfl, rfl⟩ := val_bool hv3
 have hC1 := hC0.pushL hB1 (Bs := [Item.own v1 x1.1]) (Fs := [F1]) ⟨F1, _, rfl, hv1, rfl⟩ (by simpa using hn1) (fun b h => hb1 b (by simpa using h))
 obtain ⟨v4, rfl, hC2⟩ := st29_own hC1
 refine WL_move rfl rfl ?_
 refine WL_extract rfl rfl rfl ?_
 refine WL_extract rfl rfl rfl ?_
 refine WL_extract rfl rfl rfl ?_
 refine WL_allocK hC2 zero29 rfl rfl (fun b1 w2 hC3 hB2 hN1 => ?_)
 refine WL_store_box_aggK (cs' := [(.int .i64 x1.1.1), v4]) (new := [(.int .i64 x1.1.1), v4]) hC3 0 rfl rfl (by intro v hv; simp only [List.mem_cons, List.not_mem_nil, or_false] at hv; rcases hv with rfl | rfl; exact rfl; exact (ro_one (hC3.ro 1 rfl))) rfl Tryd.sizeOf29 rfl rfl (fun w3 hC4 hKp1 => ?_)
 try dsimp only [List.set] at hC4
 have hk1 := Keep.over ((Keep.of hB1).then hB2) (Nat.le_trans (Keep.of hB1).size hN1) hKp1
 have hk2 := Keep.over (Keep.of hB2) hN1 hKp1
 refine WL_assign rfl rfl ?_
 refine WL_assign rfl rfl ?_
 refine WL_nil (W_seq_reg ?_)
 refine WL_move rfl rfl ?_
 obtain ⟨x2, hr2, hF⟩ := bind_some hF
 refine WL_call Tryd.call25 rfl rfl (c_M_DecodeRequest a1 x2 hr2) ?_
 rintro _ w4 ⟨hB3, v5, v6, v7, F4, F5, F6, rfl, hv4, hv5, hv6, hn2, hb2⟩
 obtain ⟨rfl, rfl⟩ := val_int hv5
 obtain ⟨rfl, rfl⟩ := val_bool hv6
 have hC5 := hC4.pushL hB3 (Bs := [Item.own v5 x2.1]) (Fs := [F4]) ⟨F4, _, rfl, hv4, rfl⟩ (by simpa using hn2) (fun b h => hb2 b (by simpa using h))
 obtain ⟨v8, rfl, hC6⟩ := st29_own hC5
 refine WL_move rfl rfl ?_
 refine WL_extract rfl rfl rfl ?_
 refine WL_extract rfl rfl rfl ?_
 refine WL_extract rfl rfl rfl ?_
 refine WL_allocK hC6 zero29 rfl rfl (fun b2 w5 hC7 hB4 hN2 => ?_)
 refine WL_store_box_aggK (cs' := [(.int .i64 x2.1.1), v8]) (new := [(.int .i64 x2.1.1), v8]) hC7 0 rfl rfl (by intro v hv; simp only [List.mem_cons, List.not_mem_nil, or_false] at hv; rcases hv with rfl | rfl; exact rfl; exact (ro_one (hC7.ro 1 rfl))) rfl Tryd.sizeOf29 rfl rfl (fun w6 hC8 hKp2 => ?_)
 try dsimp only [List.set] at hC8
 have hk3 := Keep.over ((hk1.then hB3).then hB4) (Nat.le_trans (hk1.then hB3).size hN2) hKp2
 have hk4 := Keep.over ((hk2.then hB3).then hB4) (Nat.le_trans (hk2.then hB3).size hN2) hKp2
 have hk5 := Keep.over ((Keep.of hB3).then hB4) (Nat.le_trans (Keep.of hB3).size hN2) hKp2
 have hk6 := Keep.over (Keep.of hB4) hN2 hKp2
 refine WL_assign rfl rfl ?_
 refine WL_assign rfl rfl ?_
 refine WL_nil (W_seq ?_)
 obtain ⟨r1, hr3, hF⟩ := bind_some hF
 refine W_cut (fun l w => ∃ x3 : Bool, x3 = r1 ∧ l = [(0, (sv a1)), (3, (ptr b1 0)), (4, (.int .i64 x1.2.1)), (5, (.bool x1.2.2)), (6, (ptr b2 0)), (42, (.bool x3))] ∧ Below w6.heap.size w6 w ∧ Ctx [] w0 w [Item.box b2 [(.int .i64 x2.1.1), v8], Item.own v8 (x2.1.2 : (List Int)), Item.box b1 [(.int .i64 x1.1.1), v4], Item.own v4 (x1.1.2 : (List Int))]) ?_ ?_
 ·refine W_reg ?_
  refine WL_load_box_agg [(.int .i64 x2.1.1), v8] hC8 0 rfl rfl rfl Tryd.isAgg29 Tryd.sizeOf29 rfl rfl ?_
  refine WL_load_box_agg [(.int .i64 x1.1.1), v4] hC8 2 rfl rfl rfl Tryd.isAgg29 Tryd.sizeOf29 rfl rfl ?_
  obtain ⟨x4, hr4, hr3⟩ := bind_some hr3
  refine WL_call Tryd.call18 rfl rfl (c_Q_eqAccess (x2.1.1, x2.1.2) v8 ((hC8.ro 1 rfl).now (Keep.refl _ _)) (x1.1.1, x1.1.2) v4 ((hC8.ro 3 rfl).now (Keep.refl _ _)) x4 hr4) ?_
  intro _ w9 hv7
  obtain ⟨rfl, hB6⟩ := res_bool hv7
  have hC10 := hC8.grow hB6
  refine WL_not rfl rfl ?_
  refine WL_move rfl rfl ?_
  refine WL_fork (fun hc2 => ?_) (fun hc2 => ?_)
  ·replace hr3 := ite_t hr3 hc2
   refine WL_guard_skip rfl rfl (by simp) rfl ?_
   refine WL_guard_skip rfl rfl (by simp) rfl ?_
   refine WL_guard_skip rfl rfl (by simp) rfl ?_
   refine WL_pick_t rfl rfl rfl ?_
   refine WL_move rfl rfl ?_
   refine WL_guard_skip rfl rfl (by simp) rfl ?_
   refine WL_guard_skip rfl rfl (by simp) rfl ?_
   refine WL_guard_skip rfl rfl (by simp) rfl ?_
   refine WL_pick_t rfl rfl rfl ?_
   refine WL_nil ?_
   have hq2 := Option.some.inj hr3
   subst hq2
   refine nrm_sub (l' := [(0, (sv a1)), (3, (ptr b1 0)), (4, (.int .i64 x1.2.1)), (5, (.bool x1.2.2)), (6, (ptr b2 0)), (42, (.bool true))]) ⟨rfl, rfl, rfl, rfl, rfl, rfl, trivial⟩ ?_
   exact ⟨true, rfl, rfl, (Keep.of hB6).below, hC10⟩
  replace hr3 := ite_f hr3 hc2
  refine WL_guard rfl rfl ?_
  refine WL_move rfl rfl ?_
  refine WL_guard rfl rfl ?_
  refine WL_move rfl rfl ?_
  refine WL_guard rfl rfl ?_
  refine WL_neq rfl rfl rfl ?_
  refine WL_pick_f rfl rfl rfl ?_
  refine WL_move rfl rfl ?_
  refine WL_fork (fun hc3 => ?_) (fun hc3 => ?_)
  ·replace hr3 := ite_t hr3 hc3
   refine WL_guard_skip rfl rfl (by simp) rfl ?_
   refine WL_guard_skip rfl rfl (by simp) rfl ?_
   refine WL_guard_skip rfl rfl (by simp) rfl ?_
   refine WL_pick_t rfl rfl rfl ?_
   refine WL_nil ?_
   have hq3 := Option.some.inj hr3
   subst hq3
   refine nrm_sub (l' := [(0, (sv a1)), (3, (ptr b1 0)), (4, (.int .i64 x1.2.1)), (5, (.bool x1.2.2)), (6, (ptr b2 0)), (42, (.bool true))]) ⟨rfl, rfl, rfl, rfl, rfl, rfl, trivial⟩ ?_
   exact ⟨true, rfl, rfl, (Keep.of hB6).below, hC10⟩
  replace hr3 := ite_f hr3 hc3
  refine WL_guard rfl rfl ?_
  refine WL_move rfl rfl ?_
  refine WL_guard rfl rfl ?_
  refine WL_move rfl rfl ?_
  refine WL_guard rfl rfl ?_
  refine WL_bool_neq Tryd.underlying4 rfl rfl rfl ?_
  refine WL_pick_f rfl rfl rfl ?_
  refine WL_nil ?_
  have hq4 := Option.some.inj hr3
  subst hq4
  refine nrm_sub (l' := [(0, (sv a1)), (3, (ptr b1 0)), (4, (.int .i64 x1.2.1)), (5, (.bool x1.2.2)), (6, (ptr b2 0)), (42, (.bool (!decide (x2.2.2 = x1.2.2))))]) ⟨rfl, rfl, rfl, rfl, rfl, rfl, trivial⟩ ?_
  exact ⟨(!decide (x2.2.2 = x1.2.2)), rfl, rfl, (Keep.of hB6).below, hC10⟩
 rintro _ w7 ⟨x3, rfl, rfl, hB5, hC9⟩
 try dsimp only at hF
 refine W_cond rfl (fun hc4 => ?_) (fun hc4 => ?_)
 ·replace hF := ite_t hF hc4
  refine W_seq_reg ?_
  refine WL_assign rfl rfl ?_
  refine WL_nil (W_ret (nrm_ret ?_))
  have hq5 := Option.some.inj hF
  subst hq5
  refine fn_ret1 rfl rfl ?_
  exact ⟨_, rfl, bool_res hC9 _⟩
 replace hF := ite_f hF hc4
 refine W_skip (nrm_normal (W_seq_reg ?_))
 refine WL_assign rfl rfl ?_
 refine WL_nil (W_seq_reg ?_)
 refine WL_load_box_agg [(.int .i64 x2.1.1), v8] hC9 0 rfl rfl rfl Tryd.isAgg29 Tryd.sizeOf29 rfl rfl ?_
 refine WL_move rfl rfl ?_
 obtain ⟨x5, hr5, hF⟩ := bind_some hF
 have hC11 := hC9.f1
 obtain ⟨Fs1, hH1, hn3, hF1, hO1, hb3⟩ := Ctx.lend2 (As := [Item.box b2 [(.int .i64 x2.1.1), v8], Item.box b1 [(.int .i64 x1.1.1), v4], Item.own v4 (x1.1.2 : (List Int))]) [Item.own v8 (x2.1.2 : (List Int))] hC11
 refine WL_call Tryd.call26 rfl rfl (c_Q_markAccess (x2.1.1, x2.1.2) v8 1 hH1 hn3 x5 hr5) ?_
 rintro _ w10 ⟨rfl, hq6⟩
 have hC12 : Ctx [] w0 w10 [Item.own v8 (x5.2.2 : (List Int)), Item.box b2 [(.int .i64 x2.1.1), v8], Item.box b1 [(.int .i64 x1.1.1), v4], Item.own v4 (x1.1.2 : (List Int))] := hb3 _ _ hq6
 refine WL_assign rfl rfl ?_
 refine WL_nil (W_seq_reg ?_)
 refine WL_assign rfl rfl ?_
 refine WL_nil (W_seq_reg ?_)
 refine WL_load_box_agg [(.int .i64 x2.1.1), v8] hC12 1 rfl rfl rfl Tryd.isAgg29 Tryd.sizeOf29 rfl rfl ?_
 refine WL_move rfl rfl ?_
 obtain ⟨x6, hr6, hF⟩ := bind_some hF
 refine WL_call Tryd.call27 rfl rfl (c_Q_heldAccess (x2.1.1, x5.2.2) v8 ((hC12.ro 0 rfl).now (Keep.refl _ _)) 1 x6 hr6) ?_
 intro _ w11 hv8
 obtain ⟨rfl, hB7⟩ := res_int hv8
 have hC13 := hC12.grow hB7
 refine WL_assign rfl rfl ?_
 refine WL_nil (W_seq (W_seq_reg ?_))
 refine WL_move rfl rfl ?_
 refine WL_lss rfl rfl rfl ?_
 refine WL_nil ?_
 refine W_cond rfl (fun hc5 => ?_) (fun hc5 => ?_)
 ·replace hF := ite_t hF hc5
  refine W_seq_reg ?_
  refine WL_assign rfl rfl ?_
  refine WL_nil (W_ret (nrm_ret ?_))
  have hq7 := Option.some.inj hF
  subst hq7
  refine fn_ret1 rfl rfl ?_
  exact ⟨_, rfl, bool_res hC13 _⟩
 replace hF := ite_f hF hc5
 refine W_skip (nrm_normal (W_seq (W_seq_reg ?_)))
 refine WL_move rfl rfl ?_
 refine WL_move rfl rfl ?_
 refine WL_neq rfl rfl rfl ?_
 refine WL_nil ?_
 refine W_cond rfl (fun hc6 => ?_) (fun hc6 => ?_)
 ·replace hF := ite_t hF hc6
  refine W_seq_reg ?_
  refine WL_assign rfl rfl ?_
  refine WL_nil (W_ret (nrm_ret ?_))
  have hq8 := Option.some.inj hF
  subst hq8
  refine fn_ret1 rfl rfl ?_
  exact ⟨_, rfl, bool_res hC13 _⟩
 replace hF := ite_f hF hc6
 refine W_skip (nrm_normal (W_seq_reg ?_))
 refine WL_move rfl rfl ?_
 obtain ⟨x7, hr7, hF⟩ := bind_some hF
 refine WL_call Tryd.call25 rfl rfl (c_M_DecodeRequest a1 x7 hr7) ?_
 rintro _ w12 ⟨hB8, v9, v10, v11, F7, F8, F9, rfl, hv9, hv10, hv11, hn4, hb4⟩
 obtain ⟨rfl, rfl⟩ := val_int hv10
 obtain ⟨rfl, rfl⟩ := val_bool hv11
 have hC14 := hC13.pushL hB8 (Bs := [Item.own v9 x7.1]) (Fs := [F7]) ⟨F7, _, rfl, hv9, rfl⟩ (by simpa using hn4) (fun b h => hb4 b (by simpa using h))
 obtain ⟨v12, rfl, hC15⟩ := st29_own hC14
 refine WL_move rfl rfl ?_
 refine WL_extract rfl rfl rfl ?_
 refine WL_extract rfl rfl rfl ?_
 refine WL_extract rfl rfl rfl ?_
 refine WL_allocK hC15 zero29 rfl rfl (fun b3 w13 hC16 hB9 hN3 => ?_)
 refine WL_store_box_aggK (cs' := [(.int .i64 x7.1.1), v12]) (new := [(.int .i64 x7.1.1), v12]) hC16 0 rfl rfl (by intro v hv; simp only [List.mem_cons, List.not_mem_nil, or_false] at hv; rcases hv with rfl | rfl; exact rfl; exact (ro_one (hC16.ro 1 rfl))) rfl Tryd.sizeOf29 rfl rfl (fun w14 hC17 hKp3 => ?_)
 try dsimp only [List.set] at hC17
 have hk7 := Keep.over (((Keep.of hB7).then hB8).then hB9) (Nat.le_trans ((Keep.of hB7).then hB8).size hN3) hKp3
 have hk8 := Keep.over ((Keep.of hB8).then hB9) (Nat.le_trans (Keep.of hB8).size hN3) hKp3
 have hk9 := Keep.over (Keep.of hB9) hN3 hKp3
 refine WL_assign rfl rfl ?_
 refine WL_assign rfl rfl ?_
 refine WL_nil (W_seq ?_)
 obtain ⟨r2, hr8, hF⟩ := bind_some hF
 refine W_cut (fun l w => ∃ x8 : Bool, x8 = r2 ∧ l = [(6, (ptr b2 0)), (9, (.int .i64 x5.1)), (73, (.bool x8))] ∧ Below w14.heap.size w14 w ∧ Ctx [] w0 w [Item.own v8 (x5.2.2 : (List Int)), Item.box b2 [(.int .i64 x2.1.1), v8]]) ?_ ?_
 ·refine W_reg ?_
  refine WL_load_box_agg [(.int .i64 x7.1.1), v12] hC17 0 rfl rfl rfl Tryd.isAgg29 Tryd.sizeOf29 rfl rfl ?_
  refine WL_load_box_agg [(.int .i64 x1.1.1), v4] hC17 4 rfl rfl rfl Tryd.isAgg29 Tryd.sizeOf29 rfl rfl ?_
  obtain ⟨x9, hr9, hr8⟩ := bind_some hr8
  refine WL_call Tryd.call18 rfl rfl (c_Q_eqAccess (x7.1.1, x7.1.2) v12 ((hC17.ro 1 rfl).now (Keep.refl _ _)) (x1.1.1, x1.1.2) v4 ((hC17.ro 5 rfl).now (Keep.refl _ _)) x9 hr9) ?_
  intro _ w16 hv12
  obtain ⟨rfl, hB11⟩ := res_bool hv12
  have hC19 := hC17.grow hB11
  refine WL_not rfl rfl ?_
  refine WL_move rfl rfl ?_
  refine WL_fork (fun hc7 => ?_) (fun hc7 => ?_)
  ·replace hr8 := ite_t hr8 hc7
   refine WL_guard_skip rfl rfl (by simp) rfl ?_
   refine WL_guard_skip rfl rfl (by simp) rfl ?_
   refine WL_guard_skip rfl rfl (by simp) rfl ?_
   refine WL_pick_t rfl rfl rfl ?_
   refine WL_move rfl rfl ?_
   refine WL_guard_skip rfl rfl (by simp) rfl ?_
   refine WL_guard_skip rfl rfl (by simp) rfl ?_
   refine WL_guard_skip rfl rfl (by simp) rfl ?_
   refine WL_pick_t rfl rfl rfl ?_
   refine WL_nil ?_
   have hq9 := Option.some.inj hr8
   subst hq9
   have hC20 := hC19.f3
   have hC21 := hC20.f3
   have hC22 := hC21.h2
   refine nrm_sub (l' := [(6, (ptr b2 0)), (9, (.int .i64 x5.1)), (73, (.bool true))]) ⟨rfl, rfl, rfl, trivial⟩ ?_
   exact ⟨true, rfl, rfl, (Keep.of hB11).below, hC22⟩
  replace hr8 := ite_f hr8 hc7
  refine WL_guard rfl rfl ?_
  refine WL_move rfl rfl ?_
  refine WL_guard rfl rfl ?_
  refine WL_move rfl rfl ?_
  refine WL_guard rfl rfl ?_
  refine WL_neq rfl rfl rfl ?_
  refine WL_pick_f rfl rfl rfl ?_
  refine WL_move rfl rfl ?_
  refine WL_fork (fun hc8 => ?_) (fun hc8 => ?_)
  ·replace hr8 := ite_t hr8 hc8
   refine WL_guard_skip rfl rfl (by simp) rfl ?_
   refine WL_guard_skip rfl rfl (by simp) rfl ?_
   refine WL_guard_skip rfl rfl (by simp) rfl ?_
   refine WL_pick_t rfl rfl rfl ?_
   refine WL_nil ?_
   have hq10 := Option.some.inj hr8
   subst hq10
   have hC23 := hC19.f3
   have hC24 := hC23.f3
   have hC25 := hC24.h2
   refine nrm_sub (l' := [(6, (ptr b2 0)), (9, (.int .i64 x5.1)), (73, (.bool true))]) ⟨rfl, rfl, rfl, trivial⟩ ?_
   exact ⟨true, rfl, rfl, (Keep.of hB11).below, hC25⟩
  replace hr8 := ite_f hr8 hc8
  refine WL_guard rfl rfl ?_
  refine WL_move rfl rfl ?_
  refine WL_guard rfl rfl ?_
  refine WL_move rfl rfl ?_
  refine WL_guard rfl rfl ?_
  refine WL_bool_neq Tryd.underlying4 rfl rfl rfl ?_
  refine WL_pick_f rfl rfl rfl ?_
  refine WL_nil ?_
  have hq11 := Option.some.inj hr8
  subst hq11
  have hC26 := hC19.f3
  have hC27 := hC26.f3
  have hC28 := hC27.h2
  refine nrm_sub (l' := [(6, (ptr b2 0)), (9, (.int .i64 x5.1)), (73, (.bool (!decide (x7.2.2 = x1.2.2))))]) ⟨rfl, rfl, rfl, trivial⟩ ?_
  exact ⟨(!decide (x7.2.2 = x1.2.2)), rfl, rfl, (Keep.of hB11).below, hC28⟩
 rintro _ w15 ⟨x8, rfl, rfl, hB10, hC18⟩
 try dsimp only at hF
 refine W_cond rfl (fun hc9 => ?_) (fun hc9 => ?_)
 ·replace hF := ite_t hF hc9
  refine W_seq_reg ?_
  refine WL_assign rfl rfl ?_
  refine WL_nil (W_ret (nrm_ret ?_))
  have hq12 := Option.some.inj hF
  subst hq12
  refine fn_ret1 rfl rfl ?_
  exact ⟨_, rfl, bool_res hC18 _⟩
 replace hF := ite_f hF hc9
 refine W_skip (nrm_normal (W_seq_reg ?_))
 refine WL_assign rfl rfl ?_
 refine WL_nil (W_seq_reg ?_)
 refine WL_load_box_agg [(.int .i64 x2.1.1), v8] hC18 1 rfl rfl rfl Tryd.isAgg29 Tryd.sizeOf29 rfl rfl ?_
 refine WL_move rfl rfl ?_
 obtain ⟨x10, hr10, hF⟩ := bind_some hF
 refine WL_call Tryd.call27 rfl rfl (c_Q_heldAccess (x2.1.1, x5.2.2) v8 ((hC18.ro 0 rfl).now (Keep.refl _ _)) 1 x10 hr10) ?_
 intro _ w17 hv13
 obtain ⟨rfl, hB12⟩ := res_int hv13
 have hC29 := hC18.grow hB12
 refine WL_assign rfl rfl ?_
 refine WL_nil (W_seq (W_seq_reg ?_))
 refine WL_move rfl rfl ?_
 refine WL_lss rfl rfl rfl ?_
 refine WL_nil ?_
 refine W_cond rfl (fun hc10 => ?_) (fun hc10 => ?_)
 ·replace hF := ite_t hF hc10
  refine W_seq_reg ?_
  refine WL_assign rfl rfl ?_
  refine WL_nil (W_ret (nrm_ret ?_))
  have hq13 := Option.some.inj hF
  subst hq13
  refine fn_ret1 rfl rfl ?_
  exact ⟨_, rfl, bool_res hC29 _⟩
 replace hF := ite_f hF hc10
 refine W_skip (nrm_normal (W_seq (W_seq_reg ?_)))
 refine WL_move rfl rfl ?_
 refine WL_move rfl rfl ?_
 refine WL_neq rfl rfl rfl ?_
 refine WL_nil ?_
 refine W_cond rfl (fun hc11 => ?_) (fun hc11 => ?_)
 ·replace hF := ite_t hF hc11
  refine W_seq_reg ?_
  refine WL_assign rfl rfl ?_
  refine WL_nil (W_ret (nrm_ret ?_))
  have hq14 := Option.some.inj hF
  subst hq14
  refine fn_ret1 rfl rfl ?_
  exact ⟨_, rfl, bool_res hC29 _⟩
 replace hF := ite_f hF hc11
 refine W_skip (nrm_normal (W_seq_reg ?_))
 refine WL_assign rfl rfl ?_
 refine WL_nil (W_ret ?_)
 have hq15 := Option.some.inj hF
 subst hq15
 refine fn_ret1 rfl rfl ?_
 exact ⟨_, rfl, bool_res hC29 _⟩

end Go.Gx.Px
