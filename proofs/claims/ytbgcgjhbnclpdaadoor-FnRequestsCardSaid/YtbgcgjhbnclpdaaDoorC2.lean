/- The contracts of the Go functions against the pure functions, printed by program. Conditions: each says them. -/
import Derived.Test.YtbgcgjhbnclpdaaDoorC1
set_option linter.unusedVariables false
set_option linter.unusedSimpArgs false
set_option maxRecDepth 100000
set_option maxHeartbeats 4000000
namespace Go.Gx.Px
open Go.Proofs Go.RowKit

theorem c_M_DecodeRequest {w0 : World} (a1 : Str) (rr : ((Int × (List Int)) × Int × Bool)) (hF : M.DecodeRequest a1 = some rr) :
 Calls Tryd.prog 25 [(sv a1)].toArray w0 fun e w' => ∃ v, e = .returned v ∧ Res3 w0 rr.1 rr.2.1 rr.2.2 v w' := by
 refine calls_of_W Tryd.func25 rfl rfl ?_
 have hC0 := Ctx.start w0
 unfold M.DecodeRequest at hF
 refine W_seq_reg ?_
 refine WL_allocK hC0 zero29 rfl rfl (fun b1 w1 hC1 hB1 hN1 => ?_)
 refine WL_assign rfl rfl ?_
 refine WL_assign rfl rfl ?_
 refine WL_nil (W_seq_reg ?_)
 refine WL_move rfl rfl ?_
 refine WL_build (vs := [(0, (sv a1))]) rfl rfl rfl (built79_0 rfl) ?_
 refine WL_boxK (cs := [(sv a1), (.bool false)]) hC1 rfl rfl rfl (fun b2 w2 hC2 hB2 hN2 => ?_)
 refine WL_assign rfl rfl ?_
 refine WL_nil (W_seq_reg ?_)
 refine WL_move rfl rfl ?_
 obtain ⟨x1, hr1, hF⟩ := bind_some hF
 obtain ⟨Fs1, hH1, hn1, hF1, hO1, hb1⟩ := Ctx.lend2 (As := [Item.box b1 [(.int .i64 0), (.slice none 0 0)]]) [Item.box b2 [(sv a1), (.bool false)]] hC2
 refine WL_call Tryd.call57 rfl rfl (c_M_varintReader_list b2 (a1, false) 3 hH1 hn1 x1 hr1) ?_
 rintro v1 w3 ⟨_, rfl, hq1⟩
 have hC3 : Ctx [] w0 w3 [Item.own v1 (x1.1 : (List Int)), Item.box b2 [(sv x1.2.1), (.bool x1.2.2)], Item.box b1 [(.int .i64 0), (.slice none 0 0)]] := hb1 _ _ hq1
 refine WL_assign rfl rfl ?_
 refine WL_nil (W_seq ?_)
 obtain ⟨r1, hr2, hF⟩ := bind_some hF
 refine W_cut (fun l w => ∃ x2 : Bool, x2 = r1 ∧ l = [(0, (sv a1)), (2, (ptr b1 0)), (5, (ptr b2 0)), (6, v1), (23, (.bool x2))] ∧ Below w3.heap.size w3 w ∧ Ctx [] w0 w [Item.own v1 (x1.1 : (List Int)), Item.box b2 [(sv x1.2.1), (.bool x1.2.2)], Item.box b1 [(.int .i64 0), (.slice none 0 0)]]) ?_ ?_
 ·refine W_reg ?_
  refine WL_move rfl rfl ?_
  refine WL_nilCheck rfl rfl ?_
  refine WL_field Tryd.underlying79 rfl rfl (fun w => ⟨_, Tryd.sizeOf4 w⟩) rfl rfl ?_
  refine WL_load_box hC3 1 rfl rfl Tryd.isAgg4 rfl rfl ?_
  refine WL_move rfl rfl ?_
  refine WL_fork (fun hc1 => ?_) (fun hc1 => ?_)
  ·replace hr2 := ite_t hr2 hc1
   refine WL_guard_skip rfl rfl (by simp) rfl ?_
   refine WL_guard_skip rfl rfl (by simp) rfl ?_
   refine WL_guard_skip rfl rfl (by simp) rfl ?_
   refine WL_guard_skip rfl rfl (by simp) rfl ?_
   refine WL_pick_t rfl rfl rfl ?_
   refine WL_nil ?_
   have hq2 := Option.some.inj hr2
   subst hq2
   refine nrm_sub (l' := [(0, (sv a1)), (2, (ptr b1 0)), (5, (ptr b2 0)), (6, v1), (23, (.bool true))]) ⟨rfl, rfl, rfl, rfl, rfl, trivial⟩ ?_
   exact ⟨true, rfl, rfl, (Below.refl _ _), hC3⟩
  replace hr2 := ite_f hr2 hc1
  refine WL_guard rfl rfl ?_
  refine WL_move rfl rfl ?_
  obtain ⟨x3, hx1, hr2⟩ := bind_some hr2
  refine WL_guard rfl rfl ?_
  refine WL_index Tryd.underlying22 ty3 (hC3.ro 0 rfl) hx1 rfl rfl rfl (fun b3 o1 h1 => ?_)
  refine WL_guard rfl rfl ?_
  refine WL_load ty3 h1 (Keep.refl _ _) rfl rfl (fun v2 h2 => ?_)
  obtain rfl := ro_int h2
  refine WL_guard rfl rfl ?_
  refine WL_gtr rfl rfl rfl ?_
  refine WL_pick_f rfl rfl rfl ?_
  refine WL_nil ?_
  have hq3 := Option.some.inj hr2
  subst hq3
  refine nrm_sub (l' := [(0, (sv a1)), (2, (ptr b1 0)), (5, (ptr b2 0)), (6, v1), (23, (.bool (decide (3 < x3))))]) ⟨rfl, rfl, rfl, rfl, rfl, trivial⟩ ?_
  exact ⟨(decide (3 < x3)), rfl, rfl, (Below.refl _ _), hC3⟩
 rintro _ w4 ⟨x2, rfl, rfl, hB3, hC4⟩
 try dsimp only at hF
 refine W_cond rfl (fun hc2 => ?_) (fun hc2 => ?_)
 ·replace hF := ite_t hF hc2
  refine W_seq_reg ?_
  refine WL_build (vs := []) rfl rfl rfl built29 ?_
  refine WL_store_box_aggK (cs' := [(.int .i64 0), (.slice none 0 0)]) (new := [(.int .i64 0), (.slice none 0 0)]) hC4 2 rfl rfl (by intro v hv; simp only [List.mem_cons, List.not_mem_nil, or_false] at hv; rcases hv with rfl | rfl; exact rfl; exact rfl) rfl Tryd.sizeOf29 rfl rfl (fun w5 hC5 hKp1 => ?_)
  try dsimp only [List.set] at hC5
  refine WL_assign rfl rfl ?_
  refine WL_assign rfl rfl ?_
  refine WL_nil (W_ret (nrm_ret ?_))
  have hq4 := Option.some.inj hF
  subst hq4
  refine fn_retG3 rfl (rv_cell_agg (cs' := [(.int .i64 0), (.slice none 0 0)]) hC5 (i := 2) rfl rfl rfl Tryd.isAgg29 Tryd.sizeOf29 rfl) (rv_tmp rfl) (rv_tmp rfl) ?_
  have hC6 := hC5.triv (bool_val (false))
  have hC7 := hC6.triv (int_val (0))
  have hC9 := hC7.triv (nil_val (α := Int))
  have hC8 := own_st29 0 (.slice none 0 0) ([]) hC9
  exact ⟨_, rfl, res3_of hC8⟩
 replace hF := ite_f hF hc2
 refine W_skip (nrm_normal ?_)
 obtain ⟨r2, hr3, hF⟩ := bind_some hF
 refine W_cut (fun l w => ∃ x4 : Str, ∃ x5 : Bool, ∃ b4 : Nat, ∃ x6 : Int, ∃ v3 : Value, ∃ x7 : (List Int), (x4, x5, x6, x7) = r2 ∧ l = [(0, (sv a1)), (2, (ptr b1 0)), (5, (ptr b2 0)), (6, v1), (7, (ptr b4 0))] ∧ Ctx [] w0 w [Item.box b4 [(.int .i64 x6), v3], Item.own v3 (x7 : (List Int)), Item.own v1 (x1.1 : (List Int)), Item.box b2 [(sv x4), (.bool x5)], Item.box b1 [(.int .i64 0), (.slice none 0 0)]]) ?_ ?_
 ·refine W_drawn 11 rfl hmix (fun w7 hB5 => ?_)
  have hC11 := hC4.grow hB5
  refine WA_tk 0 (by kernel_rfl) rfl rfl (fl_move rfl) ?_
  refine WL_move rfl rfl ?_
  refine WL_nil ?_
  obtain ⟨x8, hx2, hr3⟩ := bind_some hr3
  refine WA_tk 1 (by kernel_rfl) rfl rfl (fl_index_own hC11 0 rfl Tryd.underlying22 ty3 hx2 rfl rfl) ?_
  refine WL_index_own hC11 0 rfl Tryd.underlying22 ty3 hx2 rfl rfl rfl (fun b5 hE1 => ?_)
  refine WL_nil ?_
  refine WA_tk 3 (by kernel_rfl) rfl rfl (fl_move rfl) ?_
  refine WL_move rfl rfl ?_
  refine WL_nil ?_
  refine WA_tk 4 (by kernel_rfl) rfl rfl (fl_move rfl) ?_
  refine WL_move rfl rfl ?_
  refine WL_nil ?_
  obtain ⟨x9, hx3, hr3⟩ := bind_some hr3
  refine WA_tk 5 (by kernel_rfl) rfl rfl (fl_index_own hC11 0 rfl Tryd.underlying22 ty3 hx3 rfl rfl) ?_
  refine WL_index_own hC11 0 rfl Tryd.underlying22 ty3 hx3 rfl rfl rfl (fun b6 hE2 => ?_)
  refine WL_nil ?_
  refine WA_all3 (i := 2) (j := 6) (m := 9) (by kernel_rfl) rfl rfl rfl ?_ ?_ ?_
  ·refine WL_load ty3 (hC11.at 0 rfl hE1 hx2) (Keep.refl _ _) rfl rfl (fun v4 h3 => ?_)
   obtain rfl := ro_int h3
   refine WL_nil ?_
   refine WA_all2 (i := 6) (j := 9) (by kernel_rfl) rfl rfl ?_ ?_
   ·refine WL_load ty3 (hC11.at 0 rfl hE2 hx3) (Keep.refl _ _) rfl rfl (fun v5 h4 => ?_)
    obtain rfl := ro_int h4
    refine WL_nil ?_
    refine WA_all2 (i := 7) (j := 9) (by kernel_rfl) rfl rfl ?_ ?_
    ·obtain ⟨x10, hr4, hr3⟩ := bind_some hr3
     have hC12 := hC11.f1
     obtain ⟨Fs2, hH2, hn2, hF2, hO2, hb2⟩ := Ctx.lend2 (As := [Item.own v1 (x1.1 : (List Int)), Item.box b1 [(.int .i64 0), (.slice none 0 0)]]) [Item.box b2 [(sv x1.2.1), (.bool x1.2.2)]] hC12
     refine WL_call Tryd.call57 rfl rfl (c_M_varintReader_list b2 (x1.2.1, x1.2.2) x9 hH2 hn2 x10 hr4) ?_
     rintro v6 w9 ⟨_, rfl, hq5⟩
     have hC13 : Ctx [] w0 w9 [Item.own v6 (x10.1 : (List Int)), Item.box b2 [(sv x10.2.1), (.bool x10.2.2)], Item.own v1 (x1.1 : (List Int)), Item.box b1 [(.int .i64 0), (.slice none 0 0)]] := hb2 _ _ hq5
     refine WL_nil ?_
     refine WA_tk 8 (by kernel_rfl) rfl rfl (fl_build (vs := [(0, (.int .i64 x8)), (1, v6)]) rfl rfl (built29_0_1 rfl (ro_cells (hC13.ro 0 rfl)))) ?_
     refine WL_build (vs := [(0, (.int .i64 x8)), (1, v6)]) rfl rfl rfl (built29_0_1 rfl (ro_cells (hC13.ro 0 rfl))) ?_
     refine WL_nil ?_
     refine WA_one 9 (by kernel_rfl) rfl ?_
     refine WL_allocK hC13 zero29 rfl rfl (fun b7 w10 hC14 hB6 hN3 => ?_)
     refine WL_nil ?_
     refine WA_one 10 (by kernel_rfl) rfl ?_
     refine WL_store_box_aggK (cs' := [(.int .i64 x8), v6]) (new := [(.int .i64 x8), v6]) hC14 0 rfl rfl (by intro v hv; simp only [List.mem_cons, List.not_mem_nil, or_false] at hv; rcases hv with rfl | rfl; exact rfl; exact (ro_one (hC14.ro 1 rfl))) rfl Tryd.sizeOf29 rfl rfl (fun w11 hC15 hKp2 => ?_)
     try dsimp only [List.set] at hC15
     have hk1 := Keep.over (Keep.of hB6) hN3 hKp2
     refine WL_nil ?_
     refine WA_done (by kernel_rfl) ?_
     have hq6 := Option.some.inj hr3
     subst hq6
     have hC16 := hC15.f4
     have hC17 := hC16.f3
     have hC18 := hC17.f4
     have hC19 := hC18.f4
     have hC20 := hC19.f4
     refine nrm_sub (l' := [(0, (sv a1)), (2, (ptr b1 0)), (5, (ptr b2 0)), (6, v1), (7, (ptr b7 0))]) ⟨rfl, rfl, rfl, rfl, rfl, trivial⟩ ?_
     exact ⟨x10.2.1, x10.2.2, b7, x8, v6, x10.1, rfl, rfl, hC20⟩
    refine WL_allocK hC11 zero29 rfl rfl (fun b7 w9 hC12 hB6 hN3 => ?_)
    refine WL_nil ?_
    obtain ⟨x10, hr4, hr3⟩ := bind_some hr3
    refine WA_one 7 (by kernel_rfl) rfl ?_
    have hC13 := hC12.f2
    obtain ⟨Fs2, hH2, hn2, hF2, hO2, hb2⟩ := Ctx.lend2 (As := [Item.box b7 [(.int .i64 0), (.slice none 0 0)], Item.own v1 (x1.1 : (List Int)), Item.box b1 [(.int .i64 0), (.slice none 0 0)]]) [Item.box b2 [(sv x1.2.1), (.bool x1.2.2)]] hC13
    refine WL_call Tryd.call57 rfl rfl (c_M_varintReader_list b2 (x1.2.1, x1.2.2) x9 hH2 hn2 x10 hr4) ?_
    rintro v6 w10 ⟨_, rfl, hq5⟩
    have hC14 : Ctx [] w0 w10 [Item.own v6 (x10.1 : (List Int)), Item.box b2 [(sv x10.2.1), (.bool x10.2.2)], Item.box b7 [(.int .i64 0), (.slice none 0 0)], Item.own v1 (x1.1 : (List Int)), Item.box b1 [(.int .i64 0), (.slice none 0 0)]] := hb2 _ _ hq5
    refine WL_nil ?_
    refine WA_tk 8 (by kernel_rfl) rfl rfl (fl_build (vs := [(0, (.int .i64 x8)), (1, v6)]) rfl rfl (built29_0_1 rfl (ro_cells (hC14.ro 0 rfl)))) ?_
    refine WL_build (vs := [(0, (.int .i64 x8)), (1, v6)]) rfl rfl rfl (built29_0_1 rfl (ro_cells (hC14.ro 0 rfl))) ?_
    refine WL_nil ?_
    refine WA_one 10 (by kernel_rfl) rfl ?_
    refine WL_store_box_aggK (cs' := [(.int .i64 x8), v6]) (new := [(.int .i64 x8), v6]) hC14 2 rfl rfl (by intro v hv; simp only [List.mem_cons, List.not_mem_nil, or_false] at hv; rcases hv with rfl | rfl; exact rfl; exact (ro_one (hC14.ro 0 rfl))) rfl Tryd.sizeOf29 rfl rfl (fun w11 hC15 hKp2 => ?_)
    try dsimp only [List.set] at hC15
    refine WL_nil ?_
    refine WA_done (by kernel_rfl) ?_
    have hq6 := Option.some.inj hr3
    subst hq6
    have hC16 := hC15.f4
    have hC17 := hC16.f2
    have hC18 := hC17.f4
    have hC19 := hC18.f3
    have hC20 := hC19.f4
    refine nrm_sub (l' := [(0, (sv a1)), (2, (ptr b1 0)), (5, (ptr b2 0)), (6, v1), (7, (ptr b7 0))]) ⟨rfl, rfl, rfl, rfl, rfl, trivial⟩ ?_
    exact ⟨x10.2.1, x10.2.2, b7, x8, v6, x10.1, rfl, rfl, hC20⟩
   refine WL_allocK hC11 zero29 rfl rfl (fun b7 w9 hC12 hB6 hN3 => ?_)
   refine WL_nil ?_
   refine WA_one 6 (by kernel_rfl) rfl ?_
   refine WL_load ty3 (hC11.at 0 rfl hE2 hx3) (Keep.of hB6) rfl rfl (fun v5 h4 => ?_)
   obtain rfl := ro_int h4
   refine WL_nil ?_
   obtain ⟨x10, hr4, hr3⟩ := bind_some hr3
   refine WA_one 7 (by kernel_rfl) rfl ?_
   have hC13 := hC12.f2
   obtain ⟨Fs2, hH2, hn2, hF2, hO2, hb2⟩ := Ctx.lend2 (As := [Item.box b7 [(.int .i64 0), (.slice none 0 0)], Item.own v1 (x1.1 : (List Int)), Item.box b1 [(.int .i64 0), (.slice none 0 0)]]) [Item.box b2 [(sv x1.2.1), (.bool x1.2.2)]] hC13
   refine WL_call Tryd.call57 rfl rfl (c_M_varintReader_list b2 (x1.2.1, x1.2.2) x9 hH2 hn2 x10 hr4) ?_
   rintro v6 w10 ⟨_, rfl, hq5⟩
   have hC14 : Ctx [] w0 w10 [Item.own v6 (x10.1 : (List Int)), Item.box b2 [(sv x10.2.1), (.bool x10.2.2)], Item.box b7 [(.int .i64 0), (.slice none 0 0)], Item.own v1 (x1.1 : (List Int)), Item.box b1 [(.int .i64 0), (.slice none 0 0)]] := hb2 _ _ hq5
   refine WL_nil ?_
   refine WA_tk 8 (by kernel_rfl) rfl rfl (fl_build (vs := [(0, (.int .i64 x8)), (1, v6)]) rfl rfl (built29_0_1 rfl (ro_cells (hC14.ro 0 rfl)))) ?_
   refine WL_build (vs := [(0, (.int .i64 x8)), (1, v6)]) rfl rfl rfl (built29_0_1 rfl (ro_cells (hC14.ro 0 rfl))) ?_
   refine WL_nil ?_
   refine WA_one 10 (by kernel_rfl) rfl ?_
   refine WL_store_box_aggK (cs' := [(.int .i64 x8), v6]) (new := [(.int .i64 x8), v6]) hC14 2 rfl rfl (by intro v hv; simp only [List.mem_cons, List.not_mem_nil, or_false] at hv; rcases hv with rfl | rfl; exact rfl; exact (ro_one (hC14.ro 0 rfl))) rfl Tryd.sizeOf29 rfl rfl (fun w11 hC15 hKp2 => ?_)
   try dsimp only [List.set] at hC15
   refine WL_nil ?_
   refine WA_done (by kernel_rfl) ?_
   have hq6 := Option.some.inj hr3
   subst hq6
   have hC16 := hC15.f4
   have hC17 := hC16.f2
   have hC18 := hC17.f4
   have hC19 := hC18.f3
   have hC20 := hC19.f4
   refine nrm_sub (l' := [(0, (sv a1)), (2, (ptr b1 0)), (5, (ptr b2 0)), (6, v1), (7, (ptr b7 0))]) ⟨rfl, rfl, rfl, rfl, rfl, trivial⟩ ?_
   exact ⟨x10.2.1, x10.2.2, b7, x8, v6, x10.1, rfl, rfl, hC20⟩
  ·refine WL_load ty3 (hC11.at 0 rfl hE2 hx3) (Keep.refl _ _) rfl rfl (fun v4 h3 => ?_)
   obtain rfl := ro_int h3
   refine WL_nil ?_
   refine WA_all3 (i := 2) (j := 7) (m := 9) (by kernel_rfl) rfl rfl rfl ?_ ?_ ?_
   ·refine WL_load ty3 (hC11.at 0 rfl hE1 hx2) (Keep.refl _ _) rfl rfl (fun v5 h4 => ?_)
    obtain rfl := ro_int h4
    refine WL_nil ?_
    refine WA_all2 (i := 7) (j := 9) (by kernel_rfl) rfl rfl ?_ ?_
    ·obtain ⟨x10, hr4, hr3⟩ := bind_some hr3
     have hC12 := hC11.f1
     obtain ⟨Fs2, hH2, hn2, hF2, hO2, hb2⟩ := Ctx.lend2 (As := [Item.own v1 (x1.1 : (List Int)), Item.box b1 [(.int .i64 0), (.slice none 0 0)]]) [Item.box b2 [(sv x1.2.1), (.bool x1.2.2)]] hC12
     refine WL_call Tryd.call57 rfl rfl (c_M_varintReader_list b2 (x1.2.1, x1.2.2) x9 hH2 hn2 x10 hr4) ?_
     rintro v6 w9 ⟨_, rfl, hq5⟩
     have hC13 : Ctx [] w0 w9 [Item.own v6 (x10.1 : (List Int)), Item.box b2 [(sv x10.2.1), (.bool x10.2.2)], Item.own v1 (x1.1 : (List Int)), Item.box b1 [(.int .i64 0), (.slice none 0 0)]] := hb2 _ _ hq5
     refine WL_nil ?_
     refine WA_tk 8 (by kernel_rfl) rfl rfl (fl_build (vs := [(0, (.int .i64 x8)), (1, v6)]) rfl rfl (built29_0_1 rfl (ro_cells (hC13.ro 0 rfl)))) ?_
     refine WL_build (vs := [(0, (.int .i64 x8)), (1, v6)]) rfl rfl rfl (built29_0_1 rfl (ro_cells (hC13.ro 0 rfl))) ?_
     refine WL_nil ?_
     refine WA_one 9 (by kernel_rfl) rfl ?_
     refine WL_allocK hC13 zero29 rfl rfl (fun b7 w10 hC14 hB6 hN3 => ?_)
     refine WL_nil ?_
     refine WA_one 10 (by kernel_rfl) rfl ?_
     refine WL_store_box_aggK (cs' := [(.int .i64 x8), v6]) (new := [(.int .i64 x8), v6]) hC14 0 rfl rfl (by intro v hv; simp only [List.mem_cons, List.not_mem_nil, or_false] at hv; rcases hv with rfl | rfl; exact rfl; exact (ro_one (hC14.ro 1 rfl))) rfl Tryd.sizeOf29 rfl rfl (fun w11 hC15 hKp2 => ?_)
     try dsimp only [List.set] at hC15
     have hk1 := Keep.over (Keep.of hB6) hN3 hKp2
     refine WL_nil ?_
     refine WA_done (by kernel_rfl) ?_
     have hq6 := Option.some.inj hr3
     subst hq6
     have hC16 := hC15.f4
     have hC17 := hC16.f3
     have hC18 := hC17.f4
     have hC19 := hC18.f4
     have hC20 := hC19.f4
     refine nrm_sub (l' := [(0, (sv a1)), (2, (ptr b1 0)), (5, (ptr b2 0)), (6, v1), (7, (ptr b7 0))]) ⟨rfl, rfl, rfl, rfl, rfl, trivial⟩ ?_
     exact ⟨x10.2.1, x10.2.2, b7, x8, v6, x10.1, rfl, rfl, hC20⟩
    refine WL_allocK hC11 zero29 rfl rfl (fun b7 w9 hC12 hB6 hN3 => ?_)
    refine WL_nil ?_
    obtain ⟨x10, hr4, hr3⟩ := bind_some hr3
    refine WA_one 7 (by kernel_rfl) rfl ?_
    have hC13 := hC12.f2
    obtain ⟨Fs2, hH2, hn2, hF2, hO2, hb2⟩ := Ctx.lend2 (As := [Item.box b7 [(.int .i64 0), (.slice none 0 0)], Item.own v1 (x1.1 : (List Int)), Item.box b1 [(.int .i64 0), (.slice none 0 0)]]) [Item.box b2 [(sv x1.2.1), (.bool x1.2.2)]] hC13
    refine WL_call Tryd.call57 rfl rfl (c_M_varintReader_list b2 (x1.2.1, x1.2.2) x9 hH2 hn2 x10 hr4) ?_
    rintro v6 w10 ⟨_, rfl, hq5⟩
    have hC14 : Ctx [] w0 w10 [Item.own v6 (x10.1 : (List Int)), Item.box b2 [(sv x10.2.1), (.bool x10.2.2)], Item.box b7 [(.int .i64 0), (.slice none 0 0)], Item.own v1 (x1.1 : (List Int)), Item.box b1 [(.int .i64 0), (.slice none 0 0)]] := hb2 _ _ hq5
    refine WL_nil ?_
    refine WA_tk 8 (by kernel_rfl) rfl rfl (fl_build (vs := [(0, (.int .i64 x8)), (1, v6)]) rfl rfl (built29_0_1 rfl (ro_cells (hC14.ro 0 rfl)))) ?_
    refine WL_build (vs := [(0, (.int .i64 x8)), (1, v6)]) rfl rfl rfl (built29_0_1 rfl (ro_cells (hC14.ro 0 rfl))) ?_
    refine WL_nil ?_
    refine WA_one 10 (by kernel_rfl) rfl ?_
    refine WL_store_box_aggK (cs' := [(.int .i64 x8), v6]) (new := [(.int .i64 x8), v6]) hC14 2 rfl rfl (by intro v hv; simp only [List.mem_cons, List.not_mem_nil, or_false] at hv; rcases hv with rfl | rfl; exact rfl; exact (ro_one (hC14.ro 0 rfl))) rfl Tryd.sizeOf29 rfl rfl (fun w11 hC15 hKp2 => ?_)
    try dsimp only [List.set] at hC15
    refine WL_nil ?_
    refine WA_done (by kernel_rfl) ?_
    have hq6 := Option.some.inj hr3
    subst hq6
    have hC16 := hC15.f4
    have hC17 := hC16.f2
    have hC18 := hC17.f4
    have hC19 := hC18.f3
    have hC20 := hC19.f4
    refine nrm_sub (l' := [(0, (sv a1)), (2, (ptr b1 0)), (5, (ptr b2 0)), (6, v1), (7, (ptr b7 0))]) ⟨rfl, rfl, rfl, rfl, rfl, trivial⟩ ?_
    exact ⟨x10.2.1, x10.2.2, b7, x8, v6, x10.1, rfl, rfl, hC20⟩
   ·obtain ⟨x10, hr4, hr3⟩ := bind_some hr3
    have hC12 := hC11.f1
    obtain ⟨Fs2, hH2, hn2, hF2, hO2, hb2⟩ := Ctx.lend2 (As := [Item.own v1 (x1.1 : (List Int)), Item.box b1 [(.int .i64 0), (.slice none 0 0)]]) [Item.box b2 [(sv x1.2.1), (.bool x1.2.2)]] hC12
    refine WL_call Tryd.call57 rfl rfl (c_M_varintReader_list b2 (x1.2.1, x1.2.2) x9 hH2 hn2 x10 hr4) ?_
    rintro v5 w9 ⟨_, rfl, hq5⟩
    have hC13 : Ctx [] w0 w9 [Item.own v5 (x10.1 : (List Int)), Item.box b2 [(sv x10.2.1), (.bool x10.2.2)], Item.own v1 (x1.1 : (List Int)), Item.box b1 [(.int .i64 0), (.slice none 0 0)]] := hb2 _ _ hq5
    refine WL_nil ?_
    refine WA.sub (l' := [(0, (sv a1)), (2, (ptr b1 0)), (5, (ptr b2 0)), (6, v1), (23, (.bool x2)), (25, v1), (26, (ptr b5 (Int.toNat 0 * Rep.sz Int))), (28, (ptr b2 0)), (29, v1), (30, (ptr b6 (Int.toNat 2 * Rep.sz Int))), (31, (.int .i64 x9)), (32, v5)]) ?_ ⟨rfl, rfl, rfl, rfl, rfl, rfl, rfl, rfl, rfl, rfl, rfl, rfl, trivial⟩
    refine WA_postsE [⟨2, [], fun vs => PW.val (.int .i64 x8), []⟩, ⟨8, [], fun vs => PW.val (.agg #[(.int .i64 x8), v5]), []⟩, ⟨9, [], fun vs => PW.box [(.int .i64 0), (.slice none 0 0)], []⟩] [[], [2], []] 1 rfl (by kernel_rfl) (by kernel_rfl) rfl ?_ ?_
    ·refine StepsE_cons rfl ?_ ?_
     ·intro w11 hB7
      refine DepsE_nil ?_
      refine ⟨_, rfl, ?_⟩
      refine WL_load ty3 (hC13.at 2 rfl hE1 hx2) (Keep.of hB7) rfl rfl (fun v6 h4 => ?_)
      obtain rfl := ro_int h4
      refine WL_nil ?_
      exact FinE_val (Below.refl _ _) rfl rfl ⟨rfl, rfl⟩
     refine StepsE_cons rfl ?_ ?_
     ·intro w11 hB7
      refine DepsE_cons rfl rfl rfl ?_
      rintro _ _ ⟨rfl, rfl⟩ _
      refine DepsE_nil ?_
      refine ⟨_, rfl, ?_⟩
      refine WL_build (vs := [(0, (.int .i64 x8)), (1, v5)]) rfl rfl rfl (built29_0_1 rfl (ro_cells (hC13.ro 0 rfl))) ?_
      refine WL_nil ?_
      exact FinE_val (Below.refl _ _) rfl rfl ⟨rfl, rfl⟩
     refine StepsE_cons rfl ?_ ?_
     ·intro w11 hB7
      refine DepsE_nil ?_
      refine ⟨_, rfl, ?_⟩
      refine WL_alloc (Ctx.start _) zero29 rfl rfl (fun b7 w10 hC14 hB6 => ?_)
      refine WL_nil ?_
      exact FinE_ctx hC14 rfl rfl (fun F h => ⟨b7, rfl, h⟩)
     exact StepsE_nil
    intro w12 hB8
    refine AllE_cons rfl rfl rfl ?_
    rintro _ _ ⟨rfl, rfl⟩
    refine AllE_cons rfl rfl rfl ?_
    rintro _ _ ⟨rfl, rfl⟩
    refine AllE_cons rfl rfl rfl ?_
    rintro _ F1 ⟨b7, rfl, hv1⟩
    refine AllE_nil ?_
    intro hn3 hb3
    have hC15 := hC13.pushL hB8 (Bs := [Item.box b7 [(.int .i64 0), (.slice none 0 0)]]) (Fs := [F1]) ⟨F1, _, rfl, hv1, rfl⟩ (by simpa using hn3) (fun b h => (hb3 b (by simpa using h)).1)
    refine WA_one 10 (by kernel_rfl) rfl ?_
    refine WL_store_box_aggK (cs' := [(.int .i64 x8), v5]) (new := [(.int .i64 x8), v5]) hC15 0 rfl rfl (by intro v hv; simp only [List.mem_cons, List.not_mem_nil, or_false] at hv; rcases hv with rfl | rfl; exact rfl; exact (ro_one (hC15.ro 1 rfl))) rfl Tryd.sizeOf29 rfl rfl (fun w13 hC16 hKp2 => ?_)
    try dsimp only [List.set] at hC16
    refine WL_nil ?_
    refine WA_done (by kernel_rfl) ?_
    have hq6 := Option.some.inj hr3
    subst hq6
    have hC17 := hC16.f4
    have hC18 := hC17.f3
    have hC19 := hC18.f4
    have hC20 := hC19.f4
    have hC21 := hC20.f4
    refine nrm_sub (l' := [(0, (sv a1)), (2, (ptr b1 0)), (5, (ptr b2 0)), (6, v1), (7, (ptr b7 0))]) ⟨rfl, rfl, rfl, rfl, rfl, trivial⟩ ?_
    exact ⟨x10.2.1, x10.2.2, b7, x8, v5, x10.1, rfl, rfl, hC21⟩
   refine WL_allocK hC11 zero29 rfl rfl (fun b7 w9 hC12 hB6 hN3 => ?_)
   refine WL_nil ?_
   refine WA_all2 (i := 2) (j := 7) (by kernel_rfl) rfl rfl ?_ ?_
   ·refine WL_load ty3 (hC11.at 0 rfl hE1 hx2) (Keep.of hB6) rfl rfl (fun v5 h4 => ?_)
    obtain rfl := ro_int h4
    refine WL_nil ?_
    obtain ⟨x10, hr4, hr3⟩ := bind_some hr3
    refine WA_one 7 (by kernel_rfl) rfl ?_
    have hC13 := hC12.f2
    obtain ⟨Fs2, hH2, hn2, hF2, hO2, hb2⟩ := Ctx.lend2 (As := [Item.box b7 [(.int .i64 0), (.slice none 0 0)], Item.own v1 (x1.1 : (List Int)), Item.box b1 [(.int .i64 0), (.slice none 0 0)]]) [Item.box b2 [(sv x1.2.1), (.bool x1.2.2)]] hC13
    refine WL_call Tryd.call57 rfl rfl (c_M_varintReader_list b2 (x1.2.1, x1.2.2) x9 hH2 hn2 x10 hr4) ?_
    rintro v6 w10 ⟨_, rfl, hq5⟩
    have hC14 : Ctx [] w0 w10 [Item.own v6 (x10.1 : (List Int)), Item.box b2 [(sv x10.2.1), (.bool x10.2.2)], Item.box b7 [(.int .i64 0), (.slice none 0 0)], Item.own v1 (x1.1 : (List Int)), Item.box b1 [(.int .i64 0), (.slice none 0 0)]] := hb2 _ _ hq5
    refine WL_nil ?_
    refine WA_tk 8 (by kernel_rfl) rfl rfl (fl_build (vs := [(0, (.int .i64 x8)), (1, v6)]) rfl rfl (built29_0_1 rfl (ro_cells (hC14.ro 0 rfl)))) ?_
    refine WL_build (vs := [(0, (.int .i64 x8)), (1, v6)]) rfl rfl rfl (built29_0_1 rfl (ro_cells (hC14.ro 0 rfl))) ?_
    refine WL_nil ?_
    refine WA_one 10 (by kernel_rfl) rfl ?_
    refine WL_store_box_aggK (cs' := [(.int .i64 x8), v6]) (new := [(.int .i64 x8), v6]) hC14 2 rfl rfl (by intro v hv; simp only [List.mem_cons, List.not_mem_nil, or_false] at hv; rcases hv with rfl | rfl; exact rfl; exact (ro_one (hC14.ro 0 rfl))) rfl Tryd.sizeOf29 rfl rfl (fun w11 hC15 hKp2 => ?_)
    try dsimp only [List.set] at hC15
    refine WL_nil ?_
    refine WA_done (by kernel_rfl) ?_
    have hq6 := Option.some.inj hr3
    subst hq6
    have hC16 := hC15.f4
    have hC17 := hC16.f2
    have hC18 := hC17.f4
    have hC19 := hC18.f3
    have hC20 := hC19.f4
    refine nrm_sub (l' := [(0, (sv a1)), (2, (ptr b1 0)), (5, (ptr b2 0)), (6, v1), (7, (ptr b7 0))]) ⟨rfl, rfl, rfl, rfl, rfl, trivial⟩ ?_
    exact ⟨x10.2.1, x10.2.2, b7, x8, v6, x10.1, rfl, rfl, hC20⟩
   obtain ⟨x10, hr4, hr3⟩ := bind_some hr3
   have hC13 := hC12.f2
   obtain ⟨Fs2, hH2, hn2, hF2, hO2, hb2⟩ := Ctx.lend2 (As := [Item.box b7 [(.int .i64 0), (.slice none 0 0)], Item.own v1 (x1.1 : (List Int)), Item.box b1 [(.int .i64 0), (.slice none 0 0)]]) [Item.box b2 [(sv x1.2.1), (.bool x1.2.2)]] hC13
   refine WL_call Tryd.call57 rfl rfl (c_M_varintReader_list b2 (x1.2.1, x1.2.2) x9 hH2 hn2 x10 hr4) ?_
   rintro v5 w10 ⟨_, rfl, hq5⟩
   have hC14 : Ctx [] w0 w10 [Item.own v5 (x10.1 : (List Int)), Item.box b2 [(sv x10.2.1), (.bool x10.2.2)], Item.box b7 [(.int .i64 0), (.slice none 0 0)], Item.own v1 (x1.1 : (List Int)), Item.box b1 [(.int .i64 0), (.slice none 0 0)]] := hb2 _ _ hq5
   refine WL_nil ?_
   refine WA_one 2 (by kernel_rfl) rfl ?_
   refine WL_load ty3 (hC14.at 3 rfl hE1 hx2) (Keep.refl _ _) rfl rfl (fun v6 h4 => ?_)
   obtain rfl := ro_int h4
   refine WL_nil ?_
   refine WA_tk 8 (by kernel_rfl) rfl rfl (fl_build (vs := [(0, (.int .i64 x8)), (1, v5)]) rfl rfl (built29_0_1 rfl (ro_cells (hC14.ro 0 rfl)))) ?_
   refine WL_build (vs := [(0, (.int .i64 x8)), (1, v5)]) rfl rfl rfl (built29_0_1 rfl (ro_cells (hC14.ro 0 rfl))) ?_
   refine WL_nil ?_
   refine WA_one 10 (by kernel_rfl) rfl ?_
   refine WL_store_box_aggK (cs' := [(.int .i64 x8), v5]) (new := [(.int .i64 x8), v5]) hC14 2 rfl rfl (by intro v hv; simp only [List.mem_cons, List.not_mem_nil, or_false] at hv; rcases hv with rfl | rfl; exact rfl; exact (ro_one (hC14.ro 0 rfl))) rfl Tryd.sizeOf29 rfl rfl (fun w11 hC15 hKp2 => ?_)
   try dsimp only [List.set] at hC15
   refine WL_nil ?_
   refine WA_done (by kernel_rfl) ?_
   have hq6 := Option.some.inj hr3
   subst hq6
   have hC16 := hC15.f4
   have hC17 := hC16.f2
   have hC18 := hC17.f4
   have hC19 := hC18.f3
   have hC20 := hC19.f4
   refine nrm_sub (l' := [(0, (sv a1)), (2, (ptr b1 0)), (5, (ptr b2 0)), (6, v1), (7, (ptr b7 0))]) ⟨rfl, rfl, rfl, rfl, rfl, trivial⟩ ?_
   exact ⟨x10.2.1, x10.2.2, b7, x8, v5, x10.1, rfl, rfl, hC20⟩
  refine WL_allocK hC11 zero29 rfl rfl (fun b7 w9 hC12 hB6 hN3 => ?_)
  refine WL_nil ?_
  refine WA_all2 (i := 2) (j := 6) (by kernel_rfl) rfl rfl ?_ ?_
  ·refine WL_load ty3 (hC11.at 0 rfl hE1 hx2) (Keep.of hB6) rfl rfl (fun v4 h3 => ?_)
   obtain rfl := ro_int h3
   refine WL_nil ?_
   refine WA_one 6 (by kernel_rfl) rfl ?_
   refine WL_load ty3 (hC11.at 0 rfl hE2 hx3) (Keep.of hB6) rfl rfl (fun v5 h4 => ?_)
   obtain rfl := ro_int h4
   refine WL_nil ?_
   obtain ⟨x10, hr4, hr3⟩ := bind_some hr3
   refine WA_one 7 (by kernel_rfl) rfl ?_
   have hC13 := hC12.f2
   obtain ⟨Fs2, hH2, hn2, hF2, hO2, hb2⟩ := Ctx.lend2 (As := [Item.box b7 [(.int .i64 0), (.slice none 0 0)], Item.own v1 (x1.1 : (List Int)), Item.box b1 [(.int .i64 0), (.slice none 0 0)]]) [Item.box b2 [(sv x1.2.1), (.bool x1.2.2)]] hC13
   refine WL_call Tryd.call57 rfl rfl (c_M_varintReader_list b2 (x1.2.1, x1.2.2) x9 hH2 hn2 x10 hr4) ?_
   rintro v6 w10 ⟨_, rfl, hq5⟩
   have hC14 : Ctx [] w0 w10 [Item.own v6 (x10.1 : (List Int)), Item.box b2 [(sv x10.2.1), (.bool x10.2.2)], Item.box b7 [(.int .i64 0), (.slice none 0 0)], Item.own v1 (x1.1 : (List Int)), Item.box b1 [(.int .i64 0), (.slice none 0 0)]] := hb2 _ _ hq5
   refine WL_nil ?_
   refine WA_tk 8 (by kernel_rfl) rfl rfl (fl_build (vs := [(0, (.int .i64 x8)), (1, v6)]) rfl rfl (built29_0_1 rfl (ro_cells (hC14.ro 0 rfl)))) ?_
   refine WL_build (vs := [(0, (.int .i64 x8)), (1, v6)]) rfl rfl rfl (built29_0_1 rfl (ro_cells (hC14.ro 0 rfl))) ?_
   refine WL_nil ?_
   refine WA_one 10 (by kernel_rfl) rfl ?_
   refine WL_store_box_aggK (cs' := [(.int .i64 x8), v6]) (new := [(.int .i64 x8), v6]) hC14 2 rfl rfl (by intro v hv; simp only [List.mem_cons, List.not_mem_nil, or_false] at hv; rcases hv with rfl | rfl; exact rfl; exact (ro_one (hC14.ro 0 rfl))) rfl Tryd.sizeOf29 rfl rfl (fun w11 hC15 hKp2 => ?_)
   try dsimp only [List.set] at hC15
   refine WL_nil ?_
   refine WA_done (by kernel_rfl) ?_
   have hq6 := Option.some.inj hr3
   subst hq6
   have hC16 := hC15.f4
   have hC17 := hC16.f2
   have hC18 := hC17.f4
   have hC19 := hC18.f3
   have hC20 := hC19.f4
   refine nrm_sub (l' := [(0, (sv a1)), (2, (ptr b1 0)), (5, (ptr b2 0)), (6, v1), (7, (ptr b7 0))]) ⟨rfl, rfl, rfl, rfl, rfl, trivial⟩ ?_
   exact ⟨x10.2.1, x10.2.2, b7, x8, v6, x10.1, rfl, rfl, hC20⟩
  refine WL_load ty3 (hC11.at 0 rfl hE2 hx3) (Keep.of hB6) rfl rfl (fun v4 h3 => ?_)
  obtain rfl := ro_int h3
  refine WL_nil ?_
  refine WA_all2 (i := 2) (j := 7) (by kernel_rfl) rfl rfl ?_ ?_
  ·refine WL_load ty3 (hC11.at 0 rfl hE1 hx2) (Keep.of hB6) rfl rfl (fun v5 h4 => ?_)
   obtain rfl := ro_int h4
   refine WL_nil ?_
   obtain ⟨x10, hr4, hr3⟩ := bind_some hr3
   refine WA_one 7 (by kernel_rfl) rfl ?_
   have hC13 := hC12.f2
   obtain ⟨Fs2, hH2, hn2, hF2, hO2, hb2⟩ := Ctx.lend2 (As := [Item.box b7 [(.int .i64 0), (.slice none 0 0)], Item.own v1 (x1.1 : (List Int)), Item.box b1 [(.int .i64 0), (.slice none 0 0)]]) [Item.box b2 [(sv x1.2.1), (.bool x1.2.2)]] hC13
   refine WL_call Tryd.call57 rfl rfl (c_M_varintReader_list b2 (x1.2.1, x1.2.2) x9 hH2 hn2 x10 hr4) ?_
   rintro v6 w10 ⟨_, rfl, hq5⟩
   have hC14 : Ctx [] w0 w10 [Item.own v6 (x10.1 : (List Int)), Item.box b2 [(sv x10.2.1), (.bool x10.2.2)], Item.box b7 [(.int .i64 0), (.slice none 0 0)], Item.own v1 (x1.1 : (List Int)), Item.box b1 [(.int .i64 0), (.slice none 0 0)]] := hb2 _ _ hq5
   refine WL_nil ?_
   refine WA_tk 8 (by kernel_rfl) rfl rfl (fl_build (vs := [(0, (.int .i64 x8)), (1, v6)]) rfl rfl (built29_0_1 rfl (ro_cells (hC14.ro 0 rfl)))) ?_
   refine WL_build (vs := [(0, (.int .i64 x8)), (1, v6)]) rfl rfl rfl (built29_0_1 rfl (ro_cells (hC14.ro 0 rfl))) ?_
   refine WL_nil ?_
   refine WA_one 10 (by kernel_rfl) rfl ?_
   refine WL_store_box_aggK (cs' := [(.int .i64 x8), v6]) (new := [(.int .i64 x8), v6]) hC14 2 rfl rfl (by intro v hv; simp only [List.mem_cons, List.not_mem_nil, or_false] at hv; rcases hv with rfl | rfl; exact rfl; exact (ro_one (hC14.ro 0 rfl))) rfl Tryd.sizeOf29 rfl rfl (fun w11 hC15 hKp2 => ?_)
   try dsimp only [List.set] at hC15
   refine WL_nil ?_
   refine WA_done (by kernel_rfl) ?_
   have hq6 := Option.some.inj hr3
   subst hq6
   have hC16 := hC15.f4
   have hC17 := hC16.f2
   have hC18 := hC17.f4
   have hC19 := hC18.f3
   have hC20 := hC19.f4
   refine nrm_sub (l' := [(0, (sv a1)), (2, (ptr b1 0)), (5, (ptr b2 0)), (6, v1), (7, (ptr b7 0))]) ⟨rfl, rfl, rfl, rfl, rfl, trivial⟩ ?_
   exact ⟨x10.2.1, x10.2.2, b7, x8, v6, x10.1, rfl, rfl, hC20⟩
  obtain ⟨x10, hr4, hr3⟩ := bind_some hr3
  have hC13 := hC12.f2
  obtain ⟨Fs2, hH2, hn2, hF2, hO2, hb2⟩ := Ctx.lend2 (As := [Item.box b7 [(.int .i64 0), (.slice none 0 0)], Item.own v1 (x1.1 : (List Int)), Item.box b1 [(.int .i64 0), (.slice none 0 0)]]) [Item.box b2 [(sv x1.2.1), (.bool x1.2.2)]] hC13
  refine WL_call Tryd.call57 rfl rfl (c_M_varintReader_list b2 (x1.2.1, x1.2.2) x9 hH2 hn2 x10 hr4) ?_
  rintro v5 w10 ⟨_, rfl, hq5⟩
  have hC14 : Ctx [] w0 w10 [Item.own v5 (x10.1 : (List Int)), Item.box b2 [(sv x10.2.1), (.bool x10.2.2)], Item.box b7 [(.int .i64 0), (.slice none 0 0)], Item.own v1 (x1.1 : (List Int)), Item.box b1 [(.int .i64 0), (.slice none 0 0)]] := hb2 _ _ hq5
  refine WL_nil ?_
  refine WA_one 2 (by kernel_rfl) rfl ?_
  refine WL_load ty3 (hC14.at 3 rfl hE1 hx2) (Keep.refl _ _) rfl rfl (fun v6 h4 => ?_)
  obtain rfl := ro_int h4
  refine WL_nil ?_
  refine WA_tk 8 (by kernel_rfl) rfl rfl (fl_build (vs := [(0, (.int .i64 x8)), (1, v5)]) rfl rfl (built29_0_1 rfl (ro_cells (hC14.ro 0 rfl)))) ?_
  refine WL_build (vs := [(0, (.int .i64 x8)), (1, v5)]) rfl rfl rfl (built29_0_1 rfl (ro_cells (hC14.ro 0 rfl))) ?_
  refine WL_nil ?_
  refine WA_one 10 (by kernel_rfl) rfl ?_
  refine WL_store_box_aggK (cs' := [(.int .i64 x8), v5]) (new := [(.int .i64 x8), v5]) hC14 2 rfl rfl (by intro v hv; simp only [List.mem_cons, List.not_mem_nil, or_false] at hv; rcases hv with rfl | rfl; exact rfl; exact (ro_one (hC14.ro 0 rfl))) rfl Tryd.sizeOf29 rfl rfl (fun w11 hC15 hKp2 => ?_)
  try dsimp only [List.set] at hC15
  refine WL_nil ?_
  refine WA_done (by kernel_rfl) ?_
  have hq6 := Option.some.inj hr3
  subst hq6
  have hC16 := hC15.f4
  have hC17 := hC16.f2
  have hC18 := hC17.f4
  have hC19 := hC18.f3
  have hC20 := hC19.f4
  refine nrm_sub (l' := [(0, (sv a1)), (2, (ptr b1 0)), (5, (ptr b2 0)), (6, v1), (7, (ptr b7 0))]) ⟨rfl, rfl, rfl, rfl, rfl, trivial⟩ ?_
  exact ⟨x10.2.1, x10.2.2, b7, x8, v5, x10.1, rfl, rfl, hC20⟩
 rintro _ w6 ⟨x4, x5, b4, x6, v3, x7, rfl, rfl, hC10⟩
 try dsimp only at hF
 refine W_seq (W_seq ?_)
 refine W_drawn 6 rfl hmix (fun w14 hB9 => ?_)
 have hC22 := hC10.grow hB9
 refine WA_tk 1 (by kernel_rfl) rfl rfl (fl_move rfl) ?_
 refine WL_move rfl rfl ?_
 refine WL_nil ?_
 obtain ⟨x11, hx4, hF⟩ := bind_some hF
 refine WA_tk 2 (by kernel_rfl) rfl rfl (fl_index_own hC22 2 rfl Tryd.underlying22 ty3 hx4 rfl rfl) ?_
 refine WL_index_own hC22 2 rfl Tryd.underlying22 ty3 hx4 rfl rfl rfl (fun b8 hE3 => ?_)
 refine WL_nil ?_
 refine WA.sub (l' := [(0, (sv a1)), (2, (ptr b1 0)), (5, (ptr b2 0)), (6, v1), (7, (ptr b4 0)), (35, v1), (36, (ptr b8 (Int.toNat 1 * Rep.sz Int)))]) ?_ ⟨rfl, rfl, rfl, rfl, rfl, rfl, rfl, trivial⟩
 refine WA_postsE [⟨0, [], fun vs => PW.val (.agg #[(.int .i64 x6), v3]), []⟩, ⟨3, [], fun vs => PW.val (.int .i64 x11), []⟩] [[], []] 2 rfl (by kernel_rfl) (by kernel_rfl) rfl ?_ ?_
 ·refine StepsE_cons rfl ?_ ?_
  ·intro w15 hB10
   refine DepsE_nil ?_
   refine ⟨_, rfl, ?_⟩
   refine WL_load_box_agg [(.int .i64 x6), v3] (hC22.grow hB10) 0 rfl rfl rfl Tryd.isAgg29 Tryd.sizeOf29 rfl rfl ?_
   refine WL_nil ?_
   exact FinE_val (Below.refl _ _) rfl rfl ⟨rfl, rfl⟩
  refine StepsE_cons rfl ?_ ?_
  ·intro w15 hB10
   refine DepsE_nil ?_
   refine ⟨_, rfl, ?_⟩
   refine WL_load ty3 (hC22.at 2 rfl hE3 hx4) (Keep.of hB10) rfl rfl (fun v7 h5 => ?_)
   obtain rfl := ro_int h5
   refine WL_nil ?_
   exact FinE_val (Below.refl _ _) rfl rfl ⟨rfl, rfl⟩
  exact StepsE_nil
 intro w16 hB11
 refine AllE_cons rfl rfl rfl ?_
 rintro _ _ ⟨rfl, rfl⟩
 refine AllE_cons rfl rfl rfl ?_
 rintro _ _ ⟨rfl, rfl⟩
 refine AllE_nil ?_
 intro hn4 hb4
 have hC23 := hC22.grow hB11
 obtain ⟨x12, hr5, hF⟩ := bind_some hF
 refine WA_one 4 (by kernel_rfl) rfl ?_
 refine WL_call Tryd.call17 rfl rfl (c_M_EncodeRequest (x6, x7) v3 ((hC23.ro 1 rfl).now (Keep.refl _ _)) x11 x12 hr5) ?_
 intro _ w17 hv2
 obtain ⟨rfl, hB12⟩ := res_str hv2
 have hC24 := hC23.grow hB12
 refine WL_nil ?_
 refine WA_tk 5 (by kernel_rfl) rfl rfl (fl_assign rfl) ?_
 refine WL_assign rfl rfl ?_
 refine WL_nil ?_
 refine WA_done (by kernel_rfl) ?_
 refine nrm_normal ?_
 obtain ⟨r3, hr6, hF⟩ := bind_some hF
 refine W_cut (fun l w => ∃ x13 : Bool, x13 = r3 ∧ l = [(2, (ptr b1 0)), (6, v1), (7, (ptr b4 0)), (51, (.bool x13))] ∧ Below w17.heap.size w17 w ∧ Ctx [] w0 w [Item.box b4 [(.int .i64 x6), v3], Item.own v3 (x7 : (List Int)), Item.own v1 (x1.1 : (List Int)), Item.box b1 [(.int .i64 0), (.slice none 0 0)]]) ?_ ?_
 ·refine W_reg ?_
  refine WL_move rfl rfl ?_
  refine WL_nilCheck rfl rfl ?_
  refine WL_field Tryd.underlying79 rfl rfl (fun w => ⟨_, Tryd.sizeOf4 w⟩) rfl rfl ?_
  refine WL_load_box hC24 3 rfl rfl Tryd.isAgg4 rfl rfl ?_
  refine WL_move rfl rfl ?_
  refine WL_fork (fun hc3 => ?_) (fun hc3 => ?_)
  ·replace hr6 := ite_t hr6 hc3
   refine WL_guard_skip rfl rfl (by simp) rfl ?_
   refine WL_guard_skip rfl rfl (by simp) rfl ?_
   refine WL_pick_t rfl rfl rfl ?_
   refine WL_move rfl rfl ?_
   refine WL_guard_skip rfl rfl (by simp) rfl ?_
   refine WL_guard_skip rfl rfl (by simp) rfl ?_
   refine WL_guard_skip rfl rfl (by simp) rfl ?_
   refine WL_pick_t rfl rfl rfl ?_
   refine WL_nil ?_
   have hq7 := Option.some.inj hr6
   subst hq7
   have hC26 := hC24.f4
   have hC27 := hC26.f3
   have hC28 := hC27.f3
   have hC29 := hC28.f3
   have hC30 := hC29.h4
   refine nrm_sub (l' := [(2, (ptr b1 0)), (6, v1), (7, (ptr b4 0)), (51, (.bool true))]) ⟨rfl, rfl, rfl, rfl, trivial⟩ ?_
   exact ⟨true, rfl, rfl, (Below.refl _ _), hC30⟩
  replace hr6 := ite_f hr6 hc3
  refine WL_guard rfl rfl ?_
  refine WL_move rfl rfl ?_
  refine WL_guard rfl rfl ?_
  refine WL_str_eql rfl rfl rfl ?_
  refine WL_pick_f rfl rfl rfl ?_
  refine WL_move rfl rfl ?_
  refine WL_fork (fun hc4 => ?_) (fun hc4 => ?_)
  ·replace hr6 := ite_t hr6 hc4
   refine WL_guard_skip rfl rfl (by simp) rfl ?_
   refine WL_guard_skip rfl rfl (by simp) rfl ?_
   refine WL_guard_skip rfl rfl (by simp) rfl ?_
   refine WL_pick_t rfl rfl rfl ?_
   refine WL_nil ?_
   have hq8 := Option.some.inj hr6
   subst hq8
   have hC31 := hC24.f4
   have hC32 := hC31.f3
   have hC33 := hC32.f3
   have hC34 := hC33.f3
   have hC35 := hC34.h4
   refine nrm_sub (l' := [(2, (ptr b1 0)), (6, v1), (7, (ptr b4 0)), (51, (.bool true))]) ⟨rfl, rfl, rfl, rfl, trivial⟩ ?_
   exact ⟨true, rfl, rfl, (Below.refl _ _), hC35⟩
  replace hr6 := ite_f hr6 hc4
  refine WL_guard rfl rfl ?_
  refine WL_move rfl rfl ?_
  refine WL_guard rfl rfl ?_
  refine WL_move rfl rfl ?_
  refine WL_guard rfl rfl ?_
  refine WL_str_neq rfl rfl rfl ?_
  refine WL_pick_f rfl rfl rfl ?_
  refine WL_nil ?_
  have hq9 := Option.some.inj hr6
  subst hq9
  have hC36 := hC24.f4
  have hC37 := hC36.f3
  have hC38 := hC37.f3
  have hC39 := hC38.f3
  have hC40 := hC39.h4
  refine nrm_sub (l' := [(2, (ptr b1 0)), (6, v1), (7, (ptr b4 0)), (51, (.bool (!decide (x12 = a1))))]) ⟨rfl, rfl, rfl, rfl, trivial⟩ ?_
  exact ⟨(!decide (x12 = a1)), rfl, rfl, (Below.refl _ _), hC40⟩
 rintro _ w18 ⟨x13, rfl, rfl, hB13, hC25⟩
 try dsimp only at hF
 refine W_cond rfl (fun hc5 => ?_) (fun hc5 => ?_)
 ·replace hF := ite_t hF hc5
  refine W_seq_reg ?_
  refine WL_build (vs := []) rfl rfl rfl built29 ?_
  refine WL_store_box_aggK (cs' := [(.int .i64 0), (.slice none 0 0)]) (new := [(.int .i64 0), (.slice none 0 0)]) hC25 3 rfl rfl (by intro v hv; simp only [List.mem_cons, List.not_mem_nil, or_false] at hv; rcases hv with rfl | rfl; exact rfl; exact rfl) rfl Tryd.sizeOf29 rfl rfl (fun w19 hC41 hKp3 => ?_)
  try dsimp only [List.set] at hC41
  refine WL_assign rfl rfl ?_
  refine WL_assign rfl rfl ?_
  refine WL_nil (W_ret (nrm_ret ?_))
  have hq10 := Option.some.inj hF
  subst hq10
  refine fn_retG3 rfl (rv_cell_agg (cs' := [(.int .i64 0), (.slice none 0 0)]) hC41 (i := 3) rfl rfl rfl Tryd.isAgg29 Tryd.sizeOf29 rfl) (rv_tmp rfl) (rv_tmp rfl) ?_
  have hC42 := hC41.triv (bool_val (false))
  have hC43 := hC42.triv (int_val (0))
  have hC45 := hC43.triv (nil_val (α := Int))
  have hC44 := own_st29 0 (.slice none 0 0) ([]) hC45
  exact ⟨_, rfl, res3_of hC44⟩
 replace hF := ite_f hF hc5
 refine W_skip (nrm_normal ?_)
 obtain ⟨r4, hr7, hF⟩ := bind_some hF
 refine W_cut (fun l w => ∃ x14 : Int, ∃ v8 : Value, ∃ x15 : (List Int), ∃ x16 : Int, ∃ x17 : Bool, (x14, x15, x16, x17) = r4 ∧ l = [(2, (ptr b1 0)), (3, (.int .i64 x16)), (4, (.bool x17))] ∧ Ctx [] w0 w [Item.own v8 (x15 : (List Int)), Item.box b1 [(.int .i64 x14), v8]]) ?_ ?_
 ·refine W_drawn 7 rfl hmix (fun w21 hB15 => ?_)
  have hC47 := hC25.grow hB15
  refine WA_tk 1 (by kernel_rfl) rfl rfl (fl_move rfl) ?_
  refine WL_move rfl rfl ?_
  refine WL_nil ?_
  obtain ⟨x18, hx5, hr7⟩ := bind_some hr7
  refine WA_tk 2 (by kernel_rfl) rfl rfl (fl_index_own hC47 2 rfl Tryd.underlying22 ty3 hx5 rfl rfl) ?_
  refine WL_index_own hC47 2 rfl Tryd.underlying22 ty3 hx5 rfl rfl rfl (fun b9 hE4 => ?_)
  refine WL_nil ?_
  refine WA.sub (l' := [(2, (ptr b1 0)), (6, v1), (7, (ptr b4 0)), (51, (.bool x13)), (54, v1), (55, (ptr b9 (Int.toNat 1 * Rep.sz Int)))]) ?_ ⟨rfl, rfl, rfl, rfl, rfl, rfl, trivial⟩
  refine WA_postsO [⟨0, [], fun vs => PW.val (.agg #[(.int .i64 x6), v3]), []⟩, ⟨3, [], fun vs => PW.val (.int .i64 x18), []⟩] [[], []] [3] 3 rfl (by kernel_rfl) (by kernel_rfl) ?_ ⟨?_, ?_, trivial⟩
  ·refine StepsE_cons rfl ?_ ?_
   ·intro w22 hB16
    refine DepsE_nil ?_
    refine ⟨_, rfl, ?_⟩
    refine WL_load_box_agg [(.int .i64 x6), v3] (hC47.grow hB16) 0 rfl rfl rfl Tryd.isAgg29 Tryd.sizeOf29 rfl rfl ?_
    refine WL_nil ?_
    exact FinE_val (Below.refl _ _) rfl rfl ⟨rfl, rfl⟩
   refine StepsE_cons rfl ?_ ?_
   ·intro w22 hB16
    refine DepsE_nil ?_
    refine ⟨_, rfl, ?_⟩
    refine WL_load ty3 (hC47.at 2 rfl hE4 hx5) (Keep.of hB16) rfl rfl (fun v9 h6 => ?_)
    obtain rfl := ro_int h6
    refine WL_nil ?_
    exact FinE_val (Below.refl _ _) rfl rfl ⟨rfl, rfl⟩
   exact StepsE_nil
  ·intro g' hg'
   obtain rfl : g' = 3 := hg'
   intro w23 hB17
   refine AllE_cons rfl rfl rfl ?_
   rintro _ _ ⟨rfl, rfl⟩
   refine AllE_cons rfl rfl rfl ?_
   rintro _ _ ⟨rfl, rfl⟩
   refine AllE_nil ?_
   intro hn5 hb5
   have hC48 := hC47.grow hB17
   refine WA_one 4 (by kernel_rfl) rfl ?_
   refine WL_store_box_aggK (cs' := [(.int .i64 x6), v3]) (new := [(.int .i64 x6), v3]) hC48 3 rfl rfl (by intro v hv; simp only [List.mem_cons, List.not_mem_nil, or_false] at hv; rcases hv with rfl | rfl; exact rfl; exact (ro_one (hC48.ro 1 rfl))) rfl Tryd.sizeOf29 rfl rfl (fun w24 hC49 hKp4 => ?_)
   try dsimp only [List.set] at hC49
   refine WL_nil ?_
   refine WA_tk 5 (by kernel_rfl) rfl rfl (fl_assign rfl) ?_
   refine WL_assign rfl rfl ?_
   refine WL_nil ?_
   refine WA_tk 6 (by kernel_rfl) rfl rfl (fl_assign rfl) ?_
   refine WL_assign rfl rfl ?_
   refine WL_nil ?_
   refine WA_done (by kernel_rfl) ?_
   have hq11 := Option.some.inj hr7
   subst hq11
   have hC50 := hC49.f3
   have hC51 := hC50.f2
   have hC52 := hC51.h2
   refine nrm_sub (l' := [(2, (ptr b1 0)), (3, (.int .i64 x18)), (4, (.bool true))]) ⟨rfl, rfl, rfl, trivial⟩ ?_
   exact ⟨x6, v3, x7, x18, true, rfl, rfl, hC52⟩
  intro g' hg'
  obtain rfl : g' = 4 := hg'
  intro w23 hB17
  refine AllE_cons rfl rfl rfl ?_
  rintro _ _ ⟨rfl, rfl⟩
  refine AllE_nil ?_
  intro hn5 hb5
  have hC48 := hC47.grow hB17
  refine WA_all2 (i := 3) (j := 4) (by kernel_rfl) rfl rfl ?_ ?_
  ·refine WL_load ty3 (hC47.at 2 rfl hE4 hx5) (Keep.of hB17) rfl rfl (fun v10 h7 => ?_)
   obtain rfl := ro_int h7
   refine WL_nil ?_
   refine WA_one 4 (by kernel_rfl) rfl ?_
   refine WL_store_box_aggK (cs' := [(.int .i64 x6), v3]) (new := [(.int .i64 x6), v3]) hC48 3 rfl rfl (by intro v hv; simp only [List.mem_cons, List.not_mem_nil, or_false] at hv; rcases hv with rfl | rfl; exact rfl; exact (ro_one (hC48.ro 1 rfl))) rfl Tryd.sizeOf29 rfl rfl (fun w24 hC49 hKp4 => ?_)
   try dsimp only [List.set] at hC49
   refine WL_nil ?_
   refine WA_tk 5 (by kernel_rfl) rfl rfl (fl_assign rfl) ?_
   refine WL_assign rfl rfl ?_
   refine WL_nil ?_
   refine WA_tk 6 (by kernel_rfl) rfl rfl (fl_assign rfl) ?_
   refine WL_assign rfl rfl ?_
   refine WL_nil ?_
   refine WA_done (by kernel_rfl) ?_
   have hq11 := Option.some.inj hr7
   subst hq11
   have hC50 := hC49.f3
   have hC51 := hC50.f2
   have hC52 := hC51.h2
   refine nrm_sub (l' := [(2, (ptr b1 0)), (3, (.int .i64 x18)), (4, (.bool true))]) ⟨rfl, rfl, rfl, trivial⟩ ?_
   exact ⟨x6, v3, x7, x18, true, rfl, rfl, hC52⟩
  refine WL_store_box_aggK (cs' := [(.int .i64 x6), v3]) (new := [(.int .i64 x6), v3]) hC48 3 rfl rfl (by intro v hv; simp only [List.mem_cons, List.not_mem_nil, or_false] at hv; rcases hv with rfl | rfl; exact rfl; exact (ro_one (hC48.ro 1 rfl))) rfl Tryd.sizeOf29 rfl rfl (fun w24 hC49 hKp4 => ?_)
  try dsimp only [List.set] at hC49
  refine WL_nil ?_
  refine WA_one 3 (by kernel_rfl) rfl ?_
  refine WL_load ty3 (hC49.at 2 rfl hE4 hx5) (Keep.refl _ _) rfl rfl (fun v10 h7 => ?_)
  obtain rfl := ro_int h7
  refine WL_nil ?_
  refine WA_tk 5 (by kernel_rfl) rfl rfl (fl_assign rfl) ?_
  refine WL_assign rfl rfl ?_
  refine WL_nil ?_
  refine WA_tk 6 (by kernel_rfl) rfl rfl (fl_assign rfl) ?_
  refine WL_assign rfl rfl ?_
  refine WL_nil ?_
  refine WA_done (by kernel_rfl) ?_
  have hq11 := Option.some.inj hr7
  subst hq11
  have hC50 := hC49.f3
  have hC51 := hC50.f2
  have hC52 := hC51.h2
  refine nrm_sub (l' := [(2, (ptr b1 0)), (3, (.int .i64 x18)), (4, (.bool true))]) ⟨rfl, rfl, rfl, trivial⟩ ?_
  exact ⟨x6, v3, x7, x18, true, rfl, rfl, hC52⟩
 rintro _ w20 ⟨x14, v8, x15, x16, x17, rfl, rfl, hC46⟩
 try dsimp only at hF
 refine W_ret ?_
 have hq12 := Option.some.inj hF
 subst hq12
 refine fn_retG3 rfl (rv_cell_agg (cs' := [(.int .i64 x14), v8]) hC46 (i := 1) rfl rfl rfl Tryd.isAgg29 Tryd.sizeOf29 rfl) (rv_tmp rfl) (rv_tmp rfl) ?_
 have hC53 := hC46.triv (bool_val (x17))
 have hC54 := hC53.triv (int_val (x16))
 have hC56 := hC54.f2
 have hC55 := own_st29 x14 v8 x15 hC56
 exact ⟨_, rfl, res3_of hC55⟩

theorem c_S_l2One {w0 : World} (a1 : Int) (a2 : (List Int)) (u1 : Value) (g1 : RO [] w0 u1 a2) (rr : (Int × (List Int))) (hF : S.l2One a1 a2 = some rr) :
 Calls Tryd.prog 60 [(.int .i64 a1), u1].toArray w0 fun e w' => ∃ v, e = .returned v ∧ Res w0 rr v w' := by
 refine calls_of_W Tryd.func60 rfl rfl ?_
 have hC0 := Ctx.start w0
 unfold S.l2One at hF
 refine W_seq_reg ?_
 refine WL_allocK hC0 zero72 rfl rfl (fun b1 w1 hC1 hB1 hN1 => ?_)
 refine WL_nil (W_seq_reg ?_)
 refine WL_move rfl rfl ?_
 refine WL_buildSlice (vs := []) hC1 Tryd.underlying22 ty3 rfl rfl rfl rfl (by simp) rfl rfl (fun b2 w2 hC2 hB2 => ?_)
 have hC3 := hC2.row0 (α := Int)
 have hC4 := hC3.front 1 rfl
 dsimp only [List.eraseIdx, List.cons_append, List.nil_append, List.append_nil] at hC4
 have hC5 : Ctx [] w0 w2 (Item.own (.slice (some ⟨b2, 0, none⟩) 0 0) (([] : List Int) : List Int) :: [Item.box b1 [(.int .i64 0), (.slice none 0 0)]]) := hC4.rowOwn (by simp [maxLen])
 refine WL_move rfl rfl ?_
 obtain ⟨x1, hx1, hF⟩ := bind_some hF
 refine WL_append_flat (α := Int) hC5 0 rfl g1 hC5.keep Tryd.underlying22 ty3 rfl hx1 rfl rfl rfl (fun v1 w3 hC6 => ?_)
 try dsimp only [List.set] at hC6
 refine WL_build (vs := [(0, (.int .i64 a1)), (1, v1)]) rfl rfl rfl (built72_0_1 rfl (ro_cells (hC6.ro 0 rfl))) ?_
 refine WL_store_box_aggK (cs' := [(.int .i64 a1), v1]) (new := [(.int .i64 a1), v1]) hC6 1 rfl rfl (by intro v hv; simp only [List.mem_cons, List.not_mem_nil, or_false] at hv; rcases hv with rfl | rfl; exact rfl; exact (ro_one (hC6.ro 0 rfl))) rfl Tryd.sizeOf72 rfl rfl (fun w4 hC7 hKp1 => ?_)
 try dsimp only [List.set] at hC7
 refine WL_nil (W_ret ?_)
 have hq1 := Option.some.inj hF
 subst hq1
 refine fn_retG1 rfl (rv_cell_agg (cs' := [(.int .i64 a1), v1]) hC7 (i := 1) rfl rfl rfl Tryd.isAgg72 Tryd.sizeOf72 rfl) ?_
 have hC8 := own_st72 a1 v1 x1 hC7
 exact ⟨_, rfl, own_res hC8 0 rfl⟩

theorem c_S_DecodeReply {w0 : World} (a1 : Str) (rr : ((List (Int × (List Int))) × Bool)) (hF : S.DecodeReply a1 = some rr) :
 Calls Tryd.prog 28 [(sv a1)].toArray w0 fun e w' => ∃ v, e = .returned v ∧ Res2 w0 rr.1 rr.2 v w' := by
 refine calls_of_W Tryd.func28 rfl rfl ?_
 have hC0 := Ctx.start w0
 unfold S.DecodeReply at hF
 refine W_seq_reg ?_
 refine WL_assign rfl rfl ?_
 refine WL_assign rfl rfl ?_
 refine WL_nil (W_seq_reg ?_)
 refine WL_move rfl rfl ?_
 obtain ⟨x1, hr1, hF⟩ := bind_some hF
 refine WL_call Tryd.call56 rfl rfl (c_S_l26Numbers a1 x1 hr1) ?_
 rintro _ w1 ⟨hB1, v1, v2, F1, F2, rfl, hv1, hv2, hn1, hb1⟩
 obtain ⟨rfl, rfl⟩ := val_bool hv2
 have hC1 := hC0.pushL hB1 (Bs := [Item.own v1 x1.1]) (Fs := [F1]) ⟨F1, _, rfl, hv1, rfl⟩ (by simpa using hn1) (fun b h => hb1 b (by simpa using h))
 refine WL_move rfl rfl ?_
 refine WL_extract rfl rfl rfl ?_
 refine WL_extract rfl rfl rfl ?_
 refine WL_assign rfl rfl ?_
 refine WL_assign rfl rfl ?_
 refine WL_nil (W_seq ?_)
 obtain ⟨r1, hr2, hF⟩ := bind_some hF
 refine W_cut (fun l w => ∃ x2 : Bool, x2 = r1 ∧ l = [(0, (sv a1)), (4, v1), (26, (.bool x2))] ∧ Below w1.heap.size w1 w ∧ Ctx [] w0 w [Item.own v1 (x1.1 : (List Int))]) ?_ ?_
 ·refine W_reg ?_
  refine WL_move rfl rfl ?_
  refine WL_not rfl rfl ?_
  refine WL_move rfl rfl ?_
  refine WL_fork (fun hc1 => ?_) (fun hc1 => ?_)
  ·replace hr2 := ite_t hr2 hc1
   refine WL_guard_skip rfl rfl (by simp) rfl ?_
   refine WL_guard_skip rfl rfl (by simp) rfl ?_
   refine WL_guard_skip rfl rfl (by simp) rfl ?_
   refine WL_pick_t rfl rfl rfl ?_
   refine WL_move rfl rfl ?_
   refine WL_guard_skip rfl rfl (by simp) rfl ?_
   refine WL_guard_skip rfl rfl (by simp) rfl ?_
   refine WL_guard_skip rfl rfl (by simp) rfl ?_
   refine WL_guard_skip rfl rfl (by simp) rfl ?_
   refine WL_pick_t rfl rfl rfl ?_
   refine WL_nil ?_
   have hq1 := Option.some.inj hr2
   subst hq1
   refine nrm_sub (l' := [(0, (sv a1)), (4, v1), (26, (.bool true))]) ⟨rfl, rfl, rfl, trivial⟩ ?_
   exact ⟨true, rfl, rfl, (Below.refl _ _), hC1⟩
  replace hr2 := ite_f hr2 hc1
  refine WL_guard rfl rfl ?_
  refine WL_move rfl rfl ?_
  refine WL_guard rfl rfl ?_
  refine WL_len Tryd.underlying22 (hC1.ro 0 rfl) rfl rfl ?_
  refine WL_guard rfl rfl ?_
  refine WL_lss rfl rfl rfl ?_
  refine WL_pick_f rfl rfl rfl ?_
  refine WL_move rfl rfl ?_
  refine WL_fork (fun hc2 => ?_) (fun hc2 => ?_)
  ·replace hr2 := ite_t hr2 hc2
   refine WL_guard_skip rfl rfl (by simp) rfl ?_
   refine WL_guard_skip rfl rfl (by simp) rfl ?_
   refine WL_guard_skip rfl rfl (by simp) rfl ?_
   refine WL_guard_skip rfl rfl (by simp) rfl ?_
   refine WL_pick_t rfl rfl rfl ?_
   refine WL_nil ?_
   have hq2 := Option.some.inj hr2
   subst hq2
   refine nrm_sub (l' := [(0, (sv a1)), (4, v1), (26, (.bool true))]) ⟨rfl, rfl, rfl, trivial⟩ ?_
   exact ⟨true, rfl, rfl, (Below.refl _ _), hC1⟩
  replace hr2 := ite_f hr2 hc2
  refine WL_guard rfl rfl ?_
  refine WL_move rfl rfl ?_
  obtain ⟨x3, hx1, hr2⟩ := bind_some hr2
  refine WL_guard rfl rfl ?_
  refine WL_index Tryd.underlying22 ty3 (hC1.ro 0 rfl) hx1 rfl rfl rfl (fun b1 o1 h1 => ?_)
  refine WL_guard rfl rfl ?_
  refine WL_load ty3 h1 (Keep.refl _ _) rfl rfl (fun v3 h2 => ?_)
  obtain rfl := ro_int h2
  refine WL_guard rfl rfl ?_
  refine WL_gtr rfl rfl rfl ?_
  refine WL_pick_f rfl rfl rfl ?_
  refine WL_nil ?_
  have hq3 := Option.some.inj hr2
  subst hq3
  refine nrm_sub (l' := [(0, (sv a1)), (4, v1), (26, (.bool (decide (24 < x3))))]) ⟨rfl, rfl, rfl, trivial⟩ ?_
  exact ⟨(decide (24 < x3)), rfl, rfl, (Below.refl _ _), hC1⟩
 rintro _ w2 ⟨x2, rfl, rfl, hB2, hC2⟩
 try dsimp only at hF
 refine W_cond rfl (fun hc3 => ?_) (fun hc3 => ?_)
 ·replace hF := ite_t hF hc3
  refine W_seq_reg ?_
  refine WL_buildSlice (vs := []) hC2 Tryd.underlying43 ty72 rfl rfl rfl rfl (by simp) rfl rfl (fun b2 w3 hC3 hB3 => ?_)
  have hC4 := hC3.row0 (α := (Int × (List Int)))
  have hC5 := hC4.front 1 rfl
  dsimp only [List.eraseIdx, List.cons_append, List.nil_append, List.append_nil] at hC5
  have hC6 : Ctx [] w0 w3 (Item.own (.slice (some ⟨b2, 0, none⟩) 0 0) (([] : List (Int × (List Int))) : List (Int × (List Int))) :: [Item.own v1 (x1.1 : (List Int))]) := hC5.rowOwn (by simp [maxLen])
  refine WL_assign rfl rfl ?_
  refine WL_assign rfl rfl ?_
  refine WL_nil (W_ret (nrm_ret ?_))
  have hq4 := Option.some.inj hF
  subst hq4
  refine fn_ret2 rfl rfl rfl ?_
  have hC7 := hC6.triv (bool_val (false))
  have hC8 := hC7.f1
  exact ⟨_, rfl, res2_of hC8⟩
 replace hF := ite_f hF hc3
 refine W_skip (nrm_normal (W_seq_reg ?_))
 refine WL_buildSlice (vs := []) hC2 Tryd.underlying43 ty72 rfl rfl rfl rfl (by simp) rfl rfl (fun b3 w4 hC9 hB4 => ?_)
 have hC10 := hC9.row0 (α := (Int × (List Int)))
 have hC11 := hC10.front 1 rfl
 dsimp only [List.eraseIdx, List.cons_append, List.nil_append, List.append_nil] at hC11
 have hC12 : Ctx [] w0 w4 (Item.own (.slice (some ⟨b3, 0, none⟩) 0 0) (([] : List (Int × (List Int))) : List (Int × (List Int))) :: [Item.own v1 (x1.1 : (List Int))]) := hC11.rowOwn (by simp [maxLen])
 refine WL_assign rfl rfl ?_
 refine WL_nil (W_seq_reg ?_)
 refine WL_assign rfl rfl ?_
 refine WL_nil (W_seq (W_seq_reg ?_))
 refine WL_assign rfl rfl ?_
 refine WL_nil ?_
 obtain ⟨r2, hr3, hF⟩ := bind_some hF
 refine W_norm (fun l w => ∃ v5 : Value, ∃ x7 : (List (Int × (List Int))), .inl x7 = r2 ∧ l = [(0, (sv a1)), (6, v5)] ∧ Ctx [] w0 w [Item.own v5 (x7 : (List (Int × (List Int))))]) ?_ ?_
 ·refine W_block ?_
  refine W.sub (l' := [(0, (sv a1)), (4, v1), (6, (.slice (some ⟨b3, 0, none⟩) 0 0)), (7, (.int .i64 1)), (8, (.int .i64 0))]) ?_ ⟨rfl, rfl, rfl, rfl, rfl, trivial⟩
  refine W_loop (fun k l w => ∃ v4 : Value, ∃ x4 : (List (Int × (List Int))), ∃ x5 : Int, ∃ x6 : Int, l = [(0, (sv a1)), (4, v1), (6, v4), (7, (.int .i64 x5)), (8, (.int .i64 x6))] ∧ Ctx [] w0 w [Item.own v4 (x4 : (List (Int × (List Int)))), Item.own v1 (x1.1 : (List Int))] ∧ S.DecodeReply_l1 x1 k x4 x5 x6 = some r2) FUEL ⟨(.slice (some ⟨b3, 0, none⟩) 0 0), ([] : List (Int × (List Int))), 1, 0, rfl, hC12, hr3⟩ ?_
  clear hr3
  rintro k1 _ w5 ⟨v4, x4, x5, x6, rfl, hC13, hL1⟩
  cases k1 with
  | zero => rw [S.DecodeReply_l1] at hL1; cases hL1
  | succ k1 =>
   rw [S.DecodeReply_l1] at hL1
   refine W_seq (W_seq_reg ?_)
   refine WL_move rfl rfl ?_
   refine WL_move rfl rfl ?_
   obtain ⟨x8, hx2, hL1⟩ := bind_some hL1
   refine WL_index Tryd.underlying22 ty3 (hC13.ro 1 rfl) hx2 rfl rfl rfl (fun b4 o2 h3 => ?_)
   refine WL_load ty3 h3 (Keep.refl _ _) rfl rfl (fun v6 h4 => ?_)
   obtain rfl := ro_int h4
   refine WL_lss rfl rfl rfl ?_
   refine WL_nil ?_
   refine W_cond rfl (fun hc4 => ?_) (fun hc4 => ?_)
   ·replace hL1 := ite_t hL1 hc4
    refine W_skip (nrm_normal (W_seq (W_block (W_seq ?_))))
    obtain ⟨r3, hr4, hL1⟩ := bind_some hL1
    refine W_cut (fun l w => ∃ x9 : Bool, x9 = r3 ∧ l = [(0, (sv a1)), (4, v1), (6, v4), (7, (.int .i64 x5)), (8, (.int .i64 x6)), (61, (.bool x9))] ∧ Below w5.heap.size w5 w ∧ Ctx [] w0 w [Item.own v4 (x4 : (List (Int × (List Int)))), Item.own v1 (x1.1 : (List Int))]) ?_ ?_
    ·refine W_reg ?_
     refine WL_move rfl rfl ?_
     refine WL_add rfl rfl rfl ?_
     refine WL_move rfl rfl ?_
     refine WL_len Tryd.underlying22 (hC13.ro 1 rfl) rfl rfl ?_
     refine WL_gtr rfl rfl rfl ?_
     refine WL_move rfl rfl ?_
     refine WL_fork (fun hc5 => ?_) (fun hc5 => ?_)
     ·replace hr4 := ite_t hr4 hc5
      refine WL_guard_skip rfl rfl (by simp) rfl ?_
      refine WL_guard_skip rfl rfl (by simp) rfl ?_
      refine WL_guard_skip rfl rfl (by simp) rfl ?_
      refine WL_guard_skip rfl rfl (by simp) rfl ?_
      refine WL_guard_skip rfl rfl (by simp) rfl ?_
      refine WL_guard_skip rfl rfl (by simp) rfl ?_
      refine WL_pick_t rfl rfl rfl ?_
      refine WL_move rfl rfl ?_
      refine WL_guard_skip rfl rfl (by simp) rfl ?_
      refine WL_guard_skip rfl rfl (by simp) rfl ?_
      refine WL_guard_skip rfl rfl (by simp) rfl ?_
      refine WL_guard_skip rfl rfl (by simp) rfl ?_
      refine WL_guard_skip rfl rfl (by simp) rfl ?_
      refine WL_guard_skip rfl rfl (by simp) rfl ?_
      refine WL_guard_skip rfl rfl (by simp) rfl ?_
      refine WL_guard_skip rfl rfl (by simp) rfl ?_
      refine WL_guard_skip rfl rfl (by simp) rfl ?_
      refine WL_guard_skip rfl rfl (by simp) rfl ?_
      refine WL_guard_skip rfl rfl (by simp) rfl ?_
      refine WL_pick_t rfl rfl rfl ?_
      refine WL_nil ?_
      have hq5 := Option.some.inj hr4
      subst hq5
      refine nrm_sub (l' := [(0, (sv a1)), (4, v1), (6, v4), (7, (.int .i64 x5)), (8, (.int .i64 x6)), (61, (.bool true))]) ⟨rfl, rfl, rfl, rfl, rfl, rfl, trivial⟩ ?_
      exact ⟨true, rfl, rfl, (Below.refl _ _), hC13⟩
     replace hr4 := ite_f hr4 hc5
     refine WL_guard rfl rfl ?_
     refine WL_move rfl rfl ?_
     refine WL_guard rfl rfl ?_
     refine WL_move rfl rfl ?_
     refine WL_guard rfl rfl ?_
     refine WL_add rfl rfl rfl ?_
     obtain ⟨x10, hx3, hr4⟩ := bind_some hr4
     refine WL_guard rfl rfl ?_
     refine WL_index Tryd.underlying22 ty3 (hC13.ro 1 rfl) hx3 rfl rfl rfl (fun b5 o3 h5 => ?_)
     refine WL_guard rfl rfl ?_
     refine WL_load ty3 h5 (Keep.refl _ _) rfl rfl (fun v7 h6 => ?_)
     obtain rfl := ro_int h6
     refine WL_guard rfl rfl ?_
     refine WL_gtr rfl rfl rfl ?_
     refine WL_pick_f rfl rfl rfl ?_
     refine WL_move rfl rfl ?_
     refine WL_fork (fun hc6 => ?_) (fun hc6 => ?_)
     ·replace hr4 := ite_t hr4 hc6
      refine WL_guard_skip rfl rfl (by simp) rfl ?_
      refine WL_guard_skip rfl rfl (by simp) rfl ?_
      refine WL_guard_skip rfl rfl (by simp) rfl ?_
      refine WL_guard_skip rfl rfl (by simp) rfl ?_
      refine WL_guard_skip rfl rfl (by simp) rfl ?_
      refine WL_guard_skip rfl rfl (by simp) rfl ?_
      refine WL_guard_skip rfl rfl (by simp) rfl ?_
      refine WL_guard_skip rfl rfl (by simp) rfl ?_
      refine WL_guard_skip rfl rfl (by simp) rfl ?_
      refine WL_guard_skip rfl rfl (by simp) rfl ?_
      refine WL_guard_skip rfl rfl (by simp) rfl ?_
      refine WL_pick_t rfl rfl rfl ?_
      refine WL_nil ?_
      have hq6 := Option.some.inj hr4
      subst hq6
      refine nrm_sub (l' := [(0, (sv a1)), (4, v1), (6, v4), (7, (.int .i64 x5)), (8, (.int .i64 x6)), (61, (.bool true))]) ⟨rfl, rfl, rfl, rfl, rfl, rfl, trivial⟩ ?_
      exact ⟨true, rfl, rfl, (Below.refl _ _), hC13⟩
     replace hr4 := ite_f hr4 hc6
     refine WL_guard rfl rfl ?_
     refine WL_move rfl rfl ?_
     refine WL_guard rfl rfl ?_
     refine WL_add rfl rfl rfl ?_
     refine WL_guard rfl rfl ?_
     refine WL_move rfl rfl ?_
     refine WL_guard rfl rfl ?_
     refine WL_move rfl rfl ?_
     refine WL_guard rfl rfl ?_
     refine WL_add rfl rfl rfl ?_
     obtain ⟨x11, hx4, hr4⟩ := bind_some hr4
     refine WL_guard rfl rfl ?_
     refine WL_index Tryd.underlying22 ty3 (hC13.ro 1 rfl) hx4 rfl rfl rfl (fun b6 o4 h7 => ?_)
     refine WL_guard rfl rfl ?_
     refine WL_load ty3 h7 (Keep.refl _ _) rfl rfl (fun v8 h8 => ?_)
     obtain rfl := ro_int h8
     refine WL_guard rfl rfl ?_
     refine WL_add rfl rfl rfl ?_
     refine WL_guard rfl rfl ?_
     refine WL_move rfl rfl ?_
     refine WL_guard rfl rfl ?_
     refine WL_len Tryd.underlying22 (hC13.ro 1 rfl) rfl rfl ?_
     refine WL_guard rfl rfl ?_
     refine WL_gtr rfl rfl rfl ?_
     refine WL_pick_f rfl rfl rfl ?_
     refine WL_nil ?_
     have hq7 := Option.some.inj hr4
     subst hq7
     refine nrm_sub (l' := [(0, (sv a1)), (4, v1), (6, v4), (7, (.int .i64 x5)), (8, (.int .i64 x6)), (61, (.bool (decide ((List.length x1.1 : Int) < (w64 ((w64 (x5 + 2)) + x11))))))]) ⟨rfl, rfl, rfl, rfl, rfl, rfl, trivial⟩ ?_
     exact ⟨(decide ((List.length x1.1 : Int) < (w64 ((w64 (x5 + 2)) + x11)))), rfl, rfl, (Below.refl _ _), hC13⟩
    rintro _ w6 ⟨x9, rfl, rfl, hB6, hC14⟩
    try dsimp only at hL1
    refine W_cond rfl (fun hc7 => ?_) (fun hc7 => ?_)
    ·replace hL1 := ite_t hL1 hc7
     refine W_seq_reg ?_
     refine WL_buildSlice (vs := []) hC14 Tryd.underlying43 ty72 rfl rfl rfl rfl (by simp) rfl rfl (fun b7 w7 hC15 hB7 => ?_)
     have hC16 := hC15.row0 (α := (Int × (List Int)))
     have hC17 := hC16.front 1 rfl
     dsimp only [List.eraseIdx, List.cons_append, List.nil_append, List.append_nil] at hC17
     have hC18 : Ctx [] w0 w7 (Item.own (.slice (some ⟨b7, 0, none⟩) 0 0) (([] : List (Int × (List Int))) : List (Int × (List Int))) :: [Item.own v4 (x4 : (List (Int × (List Int)))), Item.own v1 (x1.1 : (List Int))]) := hC17.rowOwn (by simp [maxLen])
     refine WL_assign rfl rfl ?_
     refine WL_assign rfl rfl ?_
     refine WL_nil (W_ret (nrm_ret (blk_ret (nrm_ret (nrm_ret (blk_ret (nrm_ret (nrm_ret ?_))))))))
     have hq8 := Option.some.inj hL1
     subst hq8
     dsimp only at hF
     have hq9 := Option.some.inj hF
     subst hq9
     refine fn_ret2 rfl rfl rfl ?_
     have hC19 := hC18.triv (bool_val (false))
     have hC20 := hC19.f1
     exact ⟨_, rfl, res2_of hC20⟩
    replace hL1 := ite_f hL1 hc7
    refine W_skip (nrm_normal ?_)
    obtain ⟨r4, hr5, hL1⟩ := bind_some hL1
    refine W_cut (fun l w => ∃ v9 : Value, ∃ x12 : (List (Int × (List Int))), x12 = r4 ∧ l = [(0, (sv a1)), (4, v1), (6, v9), (7, (.int .i64 x5)), (8, (.int .i64 x6))] ∧ Ctx [] w0 w [Item.own v9 (x12 : (List (Int × (List Int)))), Item.own v1 (x1.1 : (List Int))]) ?_ ?_
    ·refine W_drawn 21 rfl hmix (fun w10 hB9 => ?_)
     have hC22 := hC14.grow hB9
     refine WA_tk 0 (by kernel_rfl) rfl rfl (fl_move rfl) ?_
     refine WL_move rfl rfl ?_
     refine WL_nil ?_
     refine WA_tk 1 (by kernel_rfl) rfl rfl (fl_move rfl) ?_
     refine WL_move rfl rfl ?_
     refine WL_nil ?_
     refine WA_tk 2 (by kernel_rfl) rfl rfl (fl_move rfl) ?_
     refine WL_move rfl rfl ?_
     refine WL_nil ?_
     obtain ⟨x13, hx5, hr5⟩ := bind_some hr5
     refine WA_tk 3 (by kernel_rfl) rfl rfl (fl_index Tryd.underlying22 ty3 (hC22.ro 1 rfl) hx5 rfl rfl) ?_
     refine WL_index Tryd.underlying22 ty3 (hC22.ro 1 rfl) hx5 rfl rfl rfl (fun b8 o5 h9 => ?_)
     refine WL_nil ?_
     refine WA_tk 5 (by kernel_rfl) rfl rfl (fl_move rfl) ?_
     refine WL_move rfl rfl ?_
     refine WL_nil ?_
     refine WA_tk 6 (by kernel_rfl) rfl rfl (fl_move rfl) ?_
     refine WL_move rfl rfl ?_
     refine WL_nil ?_
     refine WA_tk 7 (by kernel_rfl) rfl rfl (fl_add rfl rfl) ?_
     refine WL_add rfl rfl rfl ?_
     refine WL_nil ?_
     refine WA_tk 8 (by kernel_rfl) rfl rfl (fl_move rfl) ?_
     refine WL_move rfl rfl ?_
     refine WL_nil ?_
     refine WA_tk 9 (by kernel_rfl) rfl rfl (fl_add rfl rfl) ?_
     refine WL_add rfl rfl rfl ?_
     refine WL_nil ?_
     refine WA_tk 10 (by kernel_rfl) rfl rfl (fl_move rfl) ?_
     refine WL_move rfl rfl ?_
     refine WL_nil ?_
     refine WA_tk 11 (by kernel_rfl) rfl rfl (fl_move rfl) ?_
     refine WL_move rfl rfl ?_
     refine WL_nil ?_
     refine WA_tk 12 (by kernel_rfl) rfl rfl (fl_add rfl rfl) ?_
     refine WL_add rfl rfl rfl ?_
     refine WL_nil ?_
     obtain ⟨x14, hx6, hr5⟩ := bind_some hr5
     refine WA_tk 13 (by kernel_rfl) rfl rfl (fl_index Tryd.underlying22 ty3 (hC22.ro 1 rfl) hx6 rfl rfl) ?_
     refine WL_index Tryd.underlying22 ty3 (hC22.ro 1 rfl) hx6 rfl rfl rfl (fun b9 o6 h10 => ?_)
     refine WL_nil ?_
     refine WA_all2 (i := 4) (j := 14) (by kernel_rfl) rfl rfl ?_ ?_
     ·refine WL_load ty3 h9 (Keep.refl _ _) rfl rfl (fun v10 h11 => ?_)
      obtain rfl := ro_int h11
      refine WL_nil ?_
      refine WA_one 14 (by kernel_rfl) rfl ?_
      refine WL_load ty3 h10 (Keep.refl _ _) rfl rfl (fun v11 h12 => ?_)
      obtain rfl := ro_int h12
      refine WL_nil ?_
      refine WA_tk 15 (by kernel_rfl) rfl rfl (fl_add rfl rfl) ?_
      refine WL_add rfl rfl rfl ?_
      refine WL_nil ?_
      obtain ⟨x15, hx7, hr5⟩ := bind_some hr5
      refine WA_tk 16 (by kernel_rfl) rfl rfl (fl_slice_lh Tryd.underlying22 ty3 (hC22.ro 1 rfl) hx7 rfl rfl rfl) ?_
      refine WL_slice_lhV Tryd.underlying22 ty3 (hC22.ro 1 rfl) hx7 rfl rfl rfl rfl (fun v12 h13 => ?_)
      refine WL_nil ?_
      obtain ⟨x16, hr6, hr5⟩ := bind_some hr5
      refine WA_one 17 (by kernel_rfl) rfl ?_
      refine WL_call Tryd.call60 rfl rfl (c_S_l2One x13 x15 v12 ((h13 (hC22.ro 1 rfl)).now (Keep.refl _ _)) x16 hr6) ?_
      rintro v13 w11 ⟨hB10, F3, hv3, hn2, hb2⟩
      have hC23 := hC22.push hB10 (A := Item.own v13 x16) hv3 hn2 hb2
      obtain ⟨v14, rfl, hC24⟩ := st72_own hC23
      refine WL_nil ?_
      refine WA_one 18 (by kernel_rfl) rfl ?_
      refine WL_buildSlice (vs := [(.agg #[(.int .i64 x16.1), v14])]) hC24 Tryd.underlying43 ty72 rfl rfl rfl rfl (by intro v hv; simp only [List.mem_cons, List.not_mem_nil, or_false] at hv; rcases hv with rfl <;> rfl) rfl rfl (fun b10 w12 hC25 hB11 => ?_)
      have hC26 := hC25.row0 (α := (Int × (List Int)))
      have hC28 := hC26.f2
      have hC27 := own_st72 x16.1 v14 x16.2 hC28
      have hC29 := hC27.row1
      have hC30 := hC29.front 1 rfl
      dsimp only [List.eraseIdx, List.cons_append, List.nil_append, List.append_nil] at hC30
      have hC31 : Ctx [] w0 w12 (Item.own (.slice (some ⟨b10, 0, none⟩) 1 1) ([(x16.1, x16.2)] : List (Int × (List Int))) :: [Item.own v4 (x4 : (List (Int × (List Int)))), Item.own v1 (x1.1 : (List Int))]) := hC30.rowOwn (by simp [maxLen])
      refine WL_nil ?_
      obtain ⟨x17, hx8, hr5⟩ := bind_some hr5
      refine WA_one 19 (by kernel_rfl) rfl ?_
      refine WL_append_head hC31 0 rfl Tryd.underlying43 ty72 rfl hx8 rfl rfl rfl (fun v15 w13 hC32 => ?_)
      try dsimp only [List.set] at hC32
      refine WL_nil ?_
      refine WA_tk 20 (by kernel_rfl) rfl rfl (fl_assign rfl) ?_
      refine WL_assign rfl rfl ?_
      refine WL_nil ?_
      refine WA_done (by kernel_rfl) ?_
      have hq10 := Option.some.inj hr5
      subst hq10
      refine nrm_sub (l' := [(0, (sv a1)), (4, v1), (6, v15), (7, (.int .i64 x5)), (8, (.int .i64 x6))]) ⟨rfl, rfl, rfl, rfl, rfl, trivial⟩ ?_
      exact ⟨v15, x17, rfl, rfl, hC32⟩
     refine WL_load ty3 h10 (Keep.refl _ _) rfl rfl (fun v10 h11 => ?_)
     obtain rfl := ro_int h11
     refine WL_nil ?_
     refine WA_tk 15 (by kernel_rfl) rfl rfl (fl_add rfl rfl) ?_
     refine WL_add rfl rfl rfl ?_
     refine WL_nil ?_
     obtain ⟨x15, hx7, hr5⟩ := bind_some hr5
     refine WA_tk 16 (by kernel_rfl) rfl rfl (fl_slice_lh Tryd.underlying22 ty3 (hC22.ro 1 rfl) hx7 rfl rfl rfl) ?_
     refine WL_slice_lhV Tryd.underlying22 ty3 (hC22.ro 1 rfl) hx7 rfl rfl rfl rfl (fun v11 h12 => ?_)
     refine WL_nil ?_
     refine WA_one 4 (by kernel_rfl) rfl ?_
     refine WL_load ty3 h9 (Keep.refl _ _) rfl rfl (fun v12 h13 => ?_)
     obtain rfl := ro_int h13
     refine WL_nil ?_
     obtain ⟨x16, hr6, hr5⟩ := bind_some hr5
     refine WA_one 17 (by kernel_rfl) rfl ?_
     refine WL_call Tryd.call60 rfl rfl (c_S_l2One x13 x15 v11 ((h12 (hC22.ro 1 rfl)).now (Keep.refl _ _)) x16 hr6) ?_
     rintro v13 w11 ⟨hB10, F3, hv3, hn2, hb2⟩
     have hC23 := hC22.push hB10 (A := Item.own v13 x16) hv3 hn2 hb2
     obtain ⟨v14, rfl, hC24⟩ := st72_own hC23
     refine WL_nil ?_
     refine WA_one 18 (by kernel_rfl) rfl ?_
     refine WL_buildSlice (vs := [(.agg #[(.int .i64 x16.1), v14])]) hC24 Tryd.underlying43 ty72 rfl rfl rfl rfl (by intro v hv; simp only [List.mem_cons, List.not_mem_nil, or_false] at hv; rcases hv with rfl <;> rfl) rfl rfl (fun b10 w12 hC25 hB11 => ?_)
     have hC26 := hC25.row0 (α := (Int × (List Int)))
     have hC28 := hC26.f2
     have hC27 := own_st72 x16.1 v14 x16.2 hC28
     have hC29 := hC27.row1
     have hC30 := hC29.front 1 rfl
     dsimp only [List.eraseIdx, List.cons_append, List.nil_append, List.append_nil] at hC30
     have hC31 : Ctx [] w0 w12 (Item.own (.slice (some ⟨b10, 0, none⟩) 1 1) ([(x16.1, x16.2)] : List (Int × (List Int))) :: [Item.own v4 (x4 : (List (Int × (List Int)))), Item.own v1 (x1.1 : (List Int))]) := hC30.rowOwn (by simp [maxLen])
     refine WL_nil ?_
     obtain ⟨x17, hx8, hr5⟩ := bind_some hr5
     refine WA_one 19 (by kernel_rfl) rfl ?_
     refine WL_append_head hC31 0 rfl Tryd.underlying43 ty72 rfl hx8 rfl rfl rfl (fun v15 w13 hC32 => ?_)
     try dsimp only [List.set] at hC32
     refine WL_nil ?_
     refine WA_tk 20 (by kernel_rfl) rfl rfl (fl_assign rfl) ?_
     refine WL_assign rfl rfl ?_
     refine WL_nil ?_
     refine WA_done (by kernel_rfl) ?_
     have hq10 := Option.some.inj hr5
     subst hq10
     refine nrm_sub (l' := [(0, (sv a1)), (4, v1), (6, v15), (7, (.int .i64 x5)), (8, (.int .i64 x6))]) ⟨rfl, rfl, rfl, rfl, rfl, trivial⟩ ?_
     exact ⟨v15, x17, rfl, rfl, hC32⟩
    rintro _ w9 ⟨v9, x12, rfl, rfl, hC21⟩
    try dsimp only at hL1
    refine W_reg ?_
    refine WL_move rfl rfl ?_
    refine WL_add rfl rfl rfl ?_
    refine WL_move rfl rfl ?_
    refine WL_move rfl rfl ?_
    refine WL_add rfl rfl rfl ?_
    obtain ⟨x18, hx9, hL1⟩ := bind_some hL1
    refine WL_index Tryd.underlying22 ty3 (hC21.ro 1 rfl) hx9 rfl rfl rfl (fun b11 o7 h14 => ?_)
    refine WL_load ty3 h14 (Keep.refl _ _) rfl rfl (fun v16 h15 => ?_)
    obtain rfl := ro_int h15
    refine WL_add rfl rfl rfl ?_
    refine WL_assign rfl rfl ?_
    refine WL_nil (blk_normal (nrm_normal (W_reg ?_)))
    refine WL_move rfl rfl ?_
    refine WL_add rfl rfl rfl ?_
    refine WL_assign rfl rfl ?_
    refine WL_nil ?_
    refine nrm_sub (l' := [(0, (sv a1)), (4, v1), (6, v9), (7, (.int .i64 (w64 ((w64 (x5 + 2)) + x18)))), (8, (.int .i64 (w64 (x6 + 1))))]) ⟨rfl, rfl, rfl, rfl, rfl, trivial⟩ ?_
    exact ⟨k1, Nat.lt_succ_self _, v9, x12, w64 ((w64 (x5 + 2)) + x18), w64 (x6 + 1), rfl, hC21, hL1⟩
   replace hL1 := ite_f hL1 hc4
   refine W_exit (nrm_exit (nrm_exit (blk_exit ?_)))
   have hq11 := Option.some.inj hL1
   subst hq11
   have hC34 := hC13.h1
   refine nrm_sub (l' := [(0, (sv a1)), (6, v4)]) ⟨rfl, rfl, trivial⟩ ?_
   exact ⟨v4, x4, rfl, rfl, hC34⟩
 rintro l5 _ w14 hs5 ⟨v5, x7, rfl, rfl, hC35⟩
 try dsimp only at hF
 refine nrm_sub' hs5 ?_
 clear hs5
 refine W_seq (W_seq_reg ?_)
 refine WL_move rfl rfl ?_
 obtain ⟨x19, hr7, hF⟩ := bind_some hF
 refine WL_call Tryd.call20 rfl rfl (c_S_EncodeReply x7 v5 ((hC35.ro 0 rfl).now (Keep.refl _ _)) x19 hr7) ?_
 intro _ w15 hv4
 obtain ⟨rfl, hB13⟩ := res_str hv4
 have hC36 := hC35.grow hB13
 refine WL_move rfl rfl ?_
 refine WL_str_neq rfl rfl rfl ?_
 refine WL_nil ?_
 refine W_cond rfl (fun hc8 => ?_) (fun hc8 => ?_)
 ·replace hF := ite_t hF hc8
  refine W_seq_reg ?_
  refine WL_buildSlice (vs := []) hC36 Tryd.underlying43 ty72 rfl rfl rfl rfl (by simp) rfl rfl (fun b12 w16 hC37 hB14 => ?_)
  have hC38 := hC37.row0 (α := (Int × (List Int)))
  have hC39 := hC38.front 1 rfl
  dsimp only [List.eraseIdx, List.cons_append, List.nil_append, List.append_nil] at hC39
  have hC40 : Ctx [] w0 w16 (Item.own (.slice (some ⟨b12, 0, none⟩) 0 0) (([] : List (Int × (List Int))) : List (Int × (List Int))) :: [Item.own v5 (x7 : (List (Int × (List Int))))]) := hC39.rowOwn (by simp [maxLen])
  refine WL_assign rfl rfl ?_
  refine WL_assign rfl rfl ?_
  refine WL_nil (W_ret (nrm_ret ?_))
  have hq12 := Option.some.inj hF
  subst hq12
  refine fn_ret2 rfl rfl rfl ?_
  have hC41 := hC40.triv (bool_val (false))
  have hC42 := hC41.f1
  exact ⟨_, rfl, res2_of hC42⟩
 replace hF := ite_f hF hc8
 refine W_skip (nrm_normal (W_seq_reg ?_))
 refine WL_move rfl rfl ?_
 refine WL_assign rfl rfl ?_
 refine WL_assign rfl rfl ?_
 refine WL_nil (W_ret ?_)
 have hq13 := Option.some.inj hF
 subst hq13
 refine fn_ret2 rfl rfl rfl ?_
 have hC43 := hC36.triv (bool_val (true))
 have hC44 := hC43.f1
 exact ⟨_, rfl, res2_of hC44⟩

theorem c_M_DecodeReply {w0 : World} (a1 : Str) (rr : ((List (Int × (List Int))) × Bool)) (hF : M.DecodeReply a1 = some rr) :
 Calls Tryd.prog 29 [(sv a1)].toArray w0 fun e w' => ∃ v, e = .returned v ∧ Res2 w0 rr.1 rr.2 v w' := by
 refine calls_of_W Tryd.func29 rfl rfl ?_
 have hC0 := Ctx.start w0
 unfold M.DecodeReply at hF
 refine W_seq_reg ?_
 refine WL_assign rfl rfl ?_
 refine WL_assign rfl rfl ?_
 refine WL_nil (W_seq_reg ?_)
 refine WL_move rfl rfl ?_
 refine WL_build (vs := [(0, (sv a1))]) rfl rfl rfl (built79_0 rfl) ?_
 refine WL_boxK (cs := [(sv a1), (.bool false)]) hC0 rfl rfl rfl (fun b1 w1 hC1 hB1 hN1 => ?_)
 refine WL_assign rfl rfl ?_
 refine WL_nil (W_seq_reg ?_)
 refine WL_move rfl rfl ?_
 obtain ⟨x1, hr1, hF⟩ := bind_some hF
 obtain ⟨Fs1, hH1, hn1, hF1, hO1, hb1⟩ := Ctx.lend2 (As := []) [Item.box b1 [(sv a1), (.bool false)]] hC1
 refine WL_call Tryd.call61 rfl rfl (c_M_varintReader_next b1 (a1, false) hH1 hn1 x1 hr1) ?_
 rintro _ w2 ⟨rfl, hq1⟩
 have hC2 : Ctx [] w0 w2 [Item.box b1 [(sv x1.2.1), (.bool x1.2.2)]] := hb1 _ _ hq1
 refine WL_assign rfl rfl ?_
 refine WL_nil (W_seq ?_)
 obtain ⟨r1, hr2, hF⟩ := bind_some hF
 refine W_cut (fun l w => ∃ x2 : Bool, x2 = r1 ∧ l = [(0, (sv a1)), (4, (ptr b1 0)), (5, (.int .i64 x1.1)), (21, (.bool x2))] ∧ Below w2.heap.size w2 w ∧ Ctx [] w0 w [Item.box b1 [(sv x1.2.1), (.bool x1.2.2)]]) ?_ ?_
 ·refine W_reg ?_
  refine WL_move rfl rfl ?_
  refine WL_nilCheck rfl rfl ?_
  refine WL_field Tryd.underlying79 rfl rfl (fun w => ⟨_, Tryd.sizeOf4 w⟩) rfl rfl ?_
  refine WL_load_box hC2 0 rfl rfl Tryd.isAgg4 rfl rfl ?_
  refine WL_move rfl rfl ?_
  refine WL_fork (fun hc1 => ?_) (fun hc1 => ?_)
  ·replace hr2 := ite_t hr2 hc1
   refine WL_guard_skip rfl rfl (by simp) rfl ?_
   refine WL_guard_skip rfl rfl (by simp) rfl ?_
   refine WL_pick_t rfl rfl rfl ?_
   refine WL_nil ?_
   have hq2 := Option.some.inj hr2
   subst hq2
   refine nrm_sub (l' := [(0, (sv a1)), (4, (ptr b1 0)), (5, (.int .i64 x1.1)), (21, (.bool true))]) ⟨rfl, rfl, rfl, rfl, trivial⟩ ?_
   exact ⟨true, rfl, rfl, (Below.refl _ _), hC2⟩
  replace hr2 := ite_f hr2 hc1
  refine WL_guard rfl rfl ?_
  refine WL_move rfl rfl ?_
  refine WL_guard rfl rfl ?_
  refine WL_gtr rfl rfl rfl ?_
  refine WL_pick_f rfl rfl rfl ?_
  refine WL_nil ?_
  have hq3 := Option.some.inj hr2
  subst hq3
  refine nrm_sub (l' := [(0, (sv a1)), (4, (ptr b1 0)), (5, (.int .i64 x1.1)), (21, (.bool (decide (24 < x1.1))))]) ⟨rfl, rfl, rfl, rfl, trivial⟩ ?_
  exact ⟨(decide (24 < x1.1)), rfl, rfl, (Below.refl _ _), hC2⟩
 rintro _ w3 ⟨x2, rfl, rfl, hB2, hC3⟩
 try dsimp only at hF
 refine W_cond rfl (fun hc2 => ?_) (fun hc2 => ?_)
 ·replace hF := ite_t hF hc2
  refine W_seq_reg ?_
  refine WL_assign rfl rfl ?_
  refine WL_assign rfl rfl ?_
  refine WL_nil (W_ret (nrm_ret ?_))
  have hq4 := Option.some.inj hF
  subst hq4
  refine fn_ret2 rfl rfl rfl ?_
  have hC4 := hC3.triv (bool_val (false))
  have hC5 := hC4.triv (nil_val (α := (Int × (List Int))))
  exact ⟨_, rfl, res2_of hC5⟩
 replace hF := ite_f hF hc2
 refine W_skip (nrm_normal (W_seq_reg ?_))
 refine WL_buildSlice (vs := []) hC3 Tryd.underlying43 ty72 rfl rfl rfl rfl (by simp) rfl rfl (fun b2 w4 hC6 hB3 => ?_)
 have hC7 := hC6.row0 (α := (Int × (List Int)))
 have hC8 := hC7.front 1 rfl
 dsimp only [List.eraseIdx, List.cons_append, List.nil_append, List.append_nil] at hC8
 have hC9 : Ctx [] w0 w4 (Item.own (.slice (some ⟨b2, 0, none⟩) 0 0) (([] : List (Int × (List Int))) : List (Int × (List Int))) :: [Item.box b1 [(sv x1.2.1), (.bool x1.2.2)]]) := hC8.rowOwn (by simp [maxLen])
 refine WL_assign rfl rfl ?_
 refine WL_nil (W_seq (W_seq_reg ?_))
 refine WL_move rfl rfl ?_
 refine WL_move rfl rfl ?_
 refine WL_nil ?_
 obtain ⟨r2, hr3, hF⟩ := bind_some hF
 refine W_norm (fun l w => ∃ x7 : Str, ∃ x8 : Bool, ∃ v2 : Value, ∃ x9 : (List (Int × (List Int))), .inl (x7, x8, x9) = r2 ∧ l = [(0, (sv a1)), (4, (ptr b1 0)), (6, v2)] ∧ Ctx [] w0 w [Item.own v2 (x9 : (List (Int × (List Int)))), Item.box b1 [(sv x7), (.bool x8)]]) ?_ ?_
 ·refine W_block ?_
  refine W.sub (l' := [(0, (sv a1)), (4, (ptr b1 0)), (6, (.slice (some ⟨b2, 0, none⟩) 0 0)), (23, (.int .i64 x1.1)), (24, (.int .i64 0))]) ?_ ⟨rfl, rfl, rfl, rfl, rfl, trivial⟩
  refine W_loop (fun k l w => ∃ x3 : Str, ∃ x4 : Bool, ∃ v1 : Value, ∃ x5 : (List (Int × (List Int))), ∃ x6 : Int, l = [(0, (sv a1)), (4, (ptr b1 0)), (6, v1), (23, (.int .i64 x1.1)), (24, (.int .i64 x6))] ∧ Ctx [] w0 w [Item.own v1 (x5 : (List (Int × (List Int)))), Item.box b1 [(sv x3), (.bool x4)]] ∧ M.DecodeReply_l1 x1 k x3 x4 x5 x6 = some r2) FUEL ⟨x1.2.1, x1.2.2, (.slice (some ⟨b2, 0, none⟩) 0 0), ([] : List (Int × (List Int))), 0, rfl, hC9, hr3⟩ ?_
  clear hr3
  rintro k1 _ w5 ⟨x3, x4, v1, x5, x6, rfl, hC10, hL1⟩
  cases k1 with
  | zero => rw [M.DecodeReply_l1] at hL1; cases hL1
  | succ k1 =>
   rw [M.DecodeReply_l1] at hL1
   refine W_seq_reg ?_
   refine WL_lss rfl rfl rfl ?_
   refine WL_nil (W_seq ?_)
   refine W_cond rfl (fun hc3 => ?_) (fun hc3 => ?_)
   ·replace hL1 := ite_t hL1 hc3
    refine W_skip (nrm_normal (W_seq (W_block (W_seq_reg ?_))))
    refine WL_move rfl rfl ?_
    obtain ⟨x10, hr4, hL1⟩ := bind_some hL1
    have hC11 := hC10.f1
    obtain ⟨Fs2, hH2, hn2, hF2, hO2, hb2⟩ := Ctx.lend2 (As := [Item.own v1 (x5 : (List (Int × (List Int))))]) [Item.box b1 [(sv x3), (.bool x4)]] hC11
    refine WL_call Tryd.call57 rfl rfl (c_M_varintReader_list b1 (x3, x4) 2 hH2 hn2 x10 hr4) ?_
    rintro v3 w6 ⟨_, rfl, hq5⟩
    have hC12 : Ctx [] w0 w6 [Item.own v3 (x10.1 : (List Int)), Item.box b1 [(sv x10.2.1), (.bool x10.2.2)], Item.own v1 (x5 : (List (Int × (List Int))))] := hb2 _ _ hq5
    refine WL_assign rfl rfl ?_
    refine WL_nil (W_seq ?_)
    obtain ⟨r3, hr5, hL1⟩ := bind_some hL1
    refine W_cut (fun l w => ∃ x11 : Bool, x11 = r3 ∧ l = [(0, (sv a1)), (4, (ptr b1 0)), (6, v1), (7, v3), (23, (.int .i64 x1.1)), (24, (.int .i64 x6)), (37, (.bool x11))] ∧ Below w6.heap.size w6 w ∧ Ctx [] w0 w [Item.own v3 (x10.1 : (List Int)), Item.box b1 [(sv x10.2.1), (.bool x10.2.2)], Item.own v1 (x5 : (List (Int × (List Int))))]) ?_ ?_
    ·refine W_reg ?_
     refine WL_move rfl rfl ?_
     refine WL_nilCheck rfl rfl ?_
     refine WL_field Tryd.underlying79 rfl rfl (fun w => ⟨_, Tryd.sizeOf4 w⟩) rfl rfl ?_
     refine WL_load_box hC12 1 rfl rfl Tryd.isAgg4 rfl rfl ?_
     refine WL_move rfl rfl ?_
     refine WL_fork (fun hc4 => ?_) (fun hc4 => ?_)
     ·replace hr5 := ite_t hr5 hc4
      refine WL_guard_skip rfl rfl (by simp) rfl ?_
      refine WL_guard_skip rfl rfl (by simp) rfl ?_
      refine WL_guard_skip rfl rfl (by simp) rfl ?_
      refine WL_guard_skip rfl rfl (by simp) rfl ?_
      refine WL_pick_t rfl rfl rfl ?_
      refine WL_nil ?_
      have hq6 := Option.some.inj hr5
      subst hq6
      refine nrm_sub (l' := [(0, (sv a1)), (4, (ptr b1 0)), (6, v1), (7, v3), (23, (.int .i64 x1.1)), (24, (.int .i64 x6)), (37, (.bool true))]) ⟨rfl, rfl, rfl, rfl, rfl, rfl, rfl, trivial⟩ ?_
      exact ⟨true, rfl, rfl, (Below.refl _ _), hC12⟩
     replace hr5 := ite_f hr5 hc4
     refine WL_guard rfl rfl ?_
     refine WL_move rfl rfl ?_
     obtain ⟨x12, hx1, hr5⟩ := bind_some hr5
     refine WL_guard rfl rfl ?_
     refine WL_index Tryd.underlying22 ty3 (hC12.ro 0 rfl) hx1 rfl rfl rfl (fun b3 o1 h1 => ?_)
     refine WL_guard rfl rfl ?_
     refine WL_load ty3 h1 (Keep.refl _ _) rfl rfl (fun v4 h2 => ?_)
     obtain rfl := ro_int h2
     refine WL_guard rfl rfl ?_
     refine WL_gtr rfl rfl rfl ?_
     refine WL_pick_f rfl rfl rfl ?_
     refine WL_nil ?_
     have hq7 := Option.some.inj hr5
     subst hq7
     refine nrm_sub (l' := [(0, (sv a1)), (4, (ptr b1 0)), (6, v1), (7, v3), (23, (.int .i64 x1.1)), (24, (.int .i64 x6)), (37, (.bool (decide (3 < x12))))]) ⟨rfl, rfl, rfl, rfl, rfl, rfl, rfl, trivial⟩ ?_
     exact ⟨(decide (3 < x12)), rfl, rfl, (Below.refl _ _), hC12⟩
    rintro _ w7 ⟨x11, rfl, rfl, hB5, hC13⟩
    try dsimp only at hL1
    refine W_cond rfl (fun hc5 => ?_) (fun hc5 => ?_)
    ·replace hL1 := ite_t hL1 hc5
     refine W_seq_reg ?_
     refine WL_assign rfl rfl ?_
     refine WL_assign rfl rfl ?_
     refine WL_nil (W_ret (nrm_ret (blk_ret (nrm_ret (nrm_ret (blk_ret (nrm_ret (nrm_ret ?_))))))))
     have hq8 := Option.some.inj hL1
     subst hq8
     dsimp only at hF
     have hq9 := Option.some.inj hF
     subst hq9
     refine fn_ret2 rfl rfl rfl ?_
     have hC14 := hC13.triv (bool_val (false))
     have hC15 := hC14.triv (nil_val (α := (Int × (List Int))))
     exact ⟨_, rfl, res2_of hC15⟩
    replace hL1 := ite_f hL1 hc5
    refine W_skip (nrm_normal ?_)
    obtain ⟨r4, hr6, hL1⟩ := bind_some hL1
    refine W_norm (fun l w => ∃ x13 : Str, ∃ x14 : Bool, ∃ v5 : Value, ∃ x15 : (List (Int × (List Int))), (x13, x14, x15) = r4 ∧ l = [(0, (sv a1)), (4, (ptr b1 0)), (6, v5), (23, (.int .i64 x1.1)), (24, (.int .i64 x6))] ∧ Ctx [] w0 w [Item.box b1 [(sv x13), (.bool x14)], Item.own v5 (x15 : (List (Int × (List Int))))]) ?_ ?_
    ·refine W_drawn 13 rfl hmix (fun w10 hB7 => ?_)
     have hC17 := hC13.grow hB7
     refine WA_tk 0 (by kernel_rfl) rfl rfl (fl_move rfl) ?_
     refine WL_move rfl rfl ?_
     refine WL_nil ?_
     refine WA_tk 1 (by kernel_rfl) rfl rfl (fl_move rfl) ?_
     refine WL_move rfl rfl ?_
     refine WL_nil ?_
     obtain ⟨x16, hx2, hr6⟩ := bind_some hr6
     refine WA_tk 2 (by kernel_rfl) rfl rfl (fl_index_own hC17 0 rfl Tryd.underlying22 ty3 hx2 rfl rfl) ?_
     refine WL_index_own hC17 0 rfl Tryd.underlying22 ty3 hx2 rfl rfl rfl (fun b4 hE1 => ?_)
     refine WL_nil ?_
     refine WA_tk 4 (by kernel_rfl) rfl rfl (fl_move rfl) ?_
     refine WL_move rfl rfl ?_
     refine WL_nil ?_
     refine WA_tk 5 (by kernel_rfl) rfl rfl (fl_move rfl) ?_
     refine WL_move rfl rfl ?_
     refine WL_nil ?_
     obtain ⟨x17, hx3, hr6⟩ := bind_some hr6
     refine WA_tk 6 (by kernel_rfl) rfl rfl (fl_index_own hC17 0 rfl Tryd.underlying22 ty3 hx3 rfl rfl) ?_
     refine WL_index_own hC17 0 rfl Tryd.underlying22 ty3 hx3 rfl rfl rfl (fun b5 hE2 => ?_)
     refine WL_nil ?_
     refine WA_all2 (i := 3) (j := 7) (by kernel_rfl) rfl rfl ?_ ?_
     ·refine WL_load ty3 (hC17.at 0 rfl hE1 hx2) (Keep.refl _ _) rfl rfl (fun v6 h3 => ?_)
      obtain rfl := ro_int h3
      refine WL_nil ?_
      refine WA_one 7 (by kernel_rfl) rfl ?_
      refine WL_load ty3 (hC17.at 0 rfl hE2 hx3) (Keep.refl _ _) rfl rfl (fun v7 h4 => ?_)
      obtain rfl := ro_int h4
      refine WL_nil ?_
      obtain ⟨x18, hr7, hr6⟩ := bind_some hr6
      refine WA_one 8 (by kernel_rfl) rfl ?_
      have hC18 := hC17.f1
      obtain ⟨Fs3, hH3, hn3, hF3, hO3, hb3⟩ := Ctx.lend2 (As := [Item.own v3 (x10.1 : (List Int)), Item.own v1 (x5 : (List (Int × (List Int))))]) [Item.box b1 [(sv x10.2.1), (.bool x10.2.2)]] hC18
      refine WL_call Tryd.call57 rfl rfl (c_M_varintReader_list b1 (x10.2.1, x10.2.2) x17 hH3 hn3 x18 hr7) ?_
      rintro v8 w11 ⟨_, rfl, hq10⟩
      have hC19 : Ctx [] w0 w11 [Item.own v8 (x18.1 : (List Int)), Item.box b1 [(sv x18.2.1), (.bool x18.2.2)], Item.own v3 (x10.1 : (List Int)), Item.own v1 (x5 : (List (Int × (List Int))))] := hb3 _ _ hq10
      refine WL_nil ?_
      refine WA_tk 9 (by kernel_rfl) rfl rfl (fl_build (vs := [(0, (.int .i64 x16)), (1, v8)]) rfl rfl (built72_0_1 rfl (ro_cells (hC19.ro 0 rfl)))) ?_
      refine WL_build (vs := [(0, (.int .i64 x16)), (1, v8)]) rfl rfl rfl (built72_0_1 rfl (ro_cells (hC19.ro 0 rfl))) ?_
      refine WL_nil ?_
      refine WA_one 10 (by kernel_rfl) rfl ?_
      refine WL_buildSlice (vs := [(.agg #[(.int .i64 x16), v8])]) hC19 Tryd.underlying43 ty72 rfl rfl rfl rfl (by intro v hv; simp only [List.mem_cons, List.not_mem_nil, or_false] at hv; rcases hv with rfl <;> rfl) rfl rfl (fun b6 w12 hC20 hB8 => ?_)
      have hC21 := hC20.row0 (α := (Int × (List Int)))
      have hC23 := hC21.f2
      have hC22 := own_st72 x16 v8 x18.1 hC23
      have hC24 := hC22.row1
      have hC25 := hC24.front 1 rfl
      dsimp only [List.eraseIdx, List.cons_append, List.nil_append, List.append_nil] at hC25
      have hC26 : Ctx [] w0 w12 (Item.own (.slice (some ⟨b6, 0, none⟩) 1 1) ([(x16, x18.1)] : List (Int × (List Int))) :: [Item.box b1 [(sv x18.2.1), (.bool x18.2.2)], Item.own v3 (x10.1 : (List Int)), Item.own v1 (x5 : (List (Int × (List Int))))]) := hC25.rowOwn (by simp [maxLen])
      refine WL_nil ?_
      obtain ⟨x19, hx4, hr6⟩ := bind_some hr6
      refine WA_one 11 (by kernel_rfl) rfl ?_
      refine WL_append_head hC26 2 rfl Tryd.underlying43 ty72 rfl hx4 rfl rfl rfl (fun v9 w13 hC27 => ?_)
      try dsimp only [List.set] at hC27
      refine WL_nil ?_
      refine WA_tk 12 (by kernel_rfl) rfl rfl (fl_assign rfl) ?_
      refine WL_assign rfl rfl ?_
      refine WL_nil ?_
      refine WA_done (by kernel_rfl) ?_
      have hq11 := Option.some.inj hr6
      subst hq11
      have hC29 := hC27.f2
      have hC30 := hC29.f1
      have hC31 := hC30.h2
      refine nrm_sub (l' := [(0, (sv a1)), (4, (ptr b1 0)), (6, v9), (23, (.int .i64 x1.1)), (24, (.int .i64 x6))]) ⟨rfl, rfl, rfl, rfl, rfl, trivial⟩ ?_
      exact ⟨x18.2.1, x18.2.2, v9, x19, rfl, rfl, hC31⟩
     refine WL_load ty3 (hC17.at 0 rfl hE2 hx3) (Keep.refl _ _) rfl rfl (fun v6 h3 => ?_)
     obtain rfl := ro_int h3
     refine WL_nil ?_
     refine WA_all2 (i := 3) (j := 8) (by kernel_rfl) rfl rfl ?_ ?_
     ·refine WL_load ty3 (hC17.at 0 rfl hE1 hx2) (Keep.refl _ _) rfl rfl (fun v7 h4 => ?_)
      obtain rfl := ro_int h4
      refine WL_nil ?_
      obtain ⟨x18, hr7, hr6⟩ := bind_some hr6
      refine WA_one 8 (by kernel_rfl) rfl ?_
      have hC18 := hC17.f1
      obtain ⟨Fs3, hH3, hn3, hF3, hO3, hb3⟩ := Ctx.lend2 (As := [Item.own v3 (x10.1 : (List Int)), Item.own v1 (x5 : (List (Int × (List Int))))]) [Item.box b1 [(sv x10.2.1), (.bool x10.2.2)]] hC18
      refine WL_call Tryd.call57 rfl rfl (c_M_varintReader_list b1 (x10.2.1, x10.2.2) x17 hH3 hn3 x18 hr7) ?_
      rintro v8 w11 ⟨_, rfl, hq10⟩
      have hC19 : Ctx [] w0 w11 [Item.own v8 (x18.1 : (List Int)), Item.box b1 [(sv x18.2.1), (.bool x18.2.2)], Item.own v3 (x10.1 : (List Int)), Item.own v1 (x5 : (List (Int × (List Int))))] := hb3 _ _ hq10
      refine WL_nil ?_
      refine WA_tk 9 (by kernel_rfl) rfl rfl (fl_build (vs := [(0, (.int .i64 x16)), (1, v8)]) rfl rfl (built72_0_1 rfl (ro_cells (hC19.ro 0 rfl)))) ?_
      refine WL_build (vs := [(0, (.int .i64 x16)), (1, v8)]) rfl rfl rfl (built72_0_1 rfl (ro_cells (hC19.ro 0 rfl))) ?_
      refine WL_nil ?_
      refine WA_one 10 (by kernel_rfl) rfl ?_
      refine WL_buildSlice (vs := [(.agg #[(.int .i64 x16), v8])]) hC19 Tryd.underlying43 ty72 rfl rfl rfl rfl (by intro v hv; simp only [List.mem_cons, List.not_mem_nil, or_false] at hv; rcases hv with rfl <;> rfl) rfl rfl (fun b6 w12 hC20 hB8 => ?_)
      have hC21 := hC20.row0 (α := (Int × (List Int)))
      have hC23 := hC21.f2
      have hC22 := own_st72 x16 v8 x18.1 hC23
      have hC24 := hC22.row1
      have hC25 := hC24.front 1 rfl
      dsimp only [List.eraseIdx, List.cons_append, List.nil_append, List.append_nil] at hC25
      have hC26 : Ctx [] w0 w12 (Item.own (.slice (some ⟨b6, 0, none⟩) 1 1) ([(x16, x18.1)] : List (Int × (List Int))) :: [Item.box b1 [(sv x18.2.1), (.bool x18.2.2)], Item.own v3 (x10.1 : (List Int)), Item.own v1 (x5 : (List (Int × (List Int))))]) := hC25.rowOwn (by simp [maxLen])
      refine WL_nil ?_
      obtain ⟨x19, hx4, hr6⟩ := bind_some hr6
      refine WA_one 11 (by kernel_rfl) rfl ?_
      refine WL_append_head hC26 2 rfl Tryd.underlying43 ty72 rfl hx4 rfl rfl rfl (fun v9 w13 hC27 => ?_)
      try dsimp only [List.set] at hC27
      refine WL_nil ?_
      refine WA_tk 12 (by kernel_rfl) rfl rfl (fl_assign rfl) ?_
      refine WL_assign rfl rfl ?_
      refine WL_nil ?_
      refine WA_done (by kernel_rfl) ?_
      have hq11 := Option.some.inj hr6
      subst hq11
      have hC29 := hC27.f2
      have hC30 := hC29.f1
      have hC31 := hC30.h2
      refine nrm_sub (l' := [(0, (sv a1)), (4, (ptr b1 0)), (6, v9), (23, (.int .i64 x1.1)), (24, (.int .i64 x6))]) ⟨rfl, rfl, rfl, rfl, rfl, trivial⟩ ?_
      exact ⟨x18.2.1, x18.2.2, v9, x19, rfl, rfl, hC31⟩
     obtain ⟨x18, hr7, hr6⟩ := bind_some hr6
     have hC18 := hC17.f1
     obtain ⟨Fs3, hH3, hn3, hF3, hO3, hb3⟩ := Ctx.lend2 (As := [Item.own v3 (x10.1 : (List Int)), Item.own v1 (x5 : (List (Int × (List Int))))]) [Item.box b1 [(sv x10.2.1), (.bool x10.2.2)]] hC18
     refine WL_call Tryd.call57 rfl rfl (c_M_varintReader_list b1 (x10.2.1, x10.2.2) x17 hH3 hn3 x18 hr7) ?_
     rintro v7 w11 ⟨_, rfl, hq10⟩
     have hC19 : Ctx [] w0 w11 [Item.own v7 (x18.1 : (List Int)), Item.box b1 [(sv x18.2.1), (.bool x18.2.2)], Item.own v3 (x10.1 : (List Int)), Item.own v1 (x5 : (List (Int × (List Int))))] := hb3 _ _ hq10
     refine WL_nil ?_
     refine WA_one 3 (by kernel_rfl) rfl ?_
     refine WL_load ty3 (hC19.at 2 rfl hE1 hx2) (Keep.refl _ _) rfl rfl (fun v8 h4 => ?_)
     obtain rfl := ro_int h4
     refine WL_nil ?_
     refine WA_tk 9 (by kernel_rfl) rfl rfl (fl_build (vs := [(0, (.int .i64 x16)), (1, v7)]) rfl rfl (built72_0_1 rfl (ro_cells (hC19.ro 0 rfl)))) ?_
     refine WL_build (vs := [(0, (.int .i64 x16)), (1, v7)]) rfl rfl rfl (built72_0_1 rfl (ro_cells (hC19.ro 0 rfl))) ?_
     refine WL_nil ?_
     refine WA_one 10 (by kernel_rfl) rfl ?_
     refine WL_buildSlice (vs := [(.agg #[(.int .i64 x16), v7])]) hC19 Tryd.underlying43 ty72 rfl rfl rfl rfl (by intro v hv; simp only [List.mem_cons, List.not_mem_nil, or_false] at hv; rcases hv with rfl <;> rfl) rfl rfl (fun b6 w12 hC20 hB8 => ?_)
     have hC21 := hC20.row0 (α := (Int × (List Int)))
     have hC23 := hC21.f2
     have hC22 := own_st72 x16 v7 x18.1 hC23
     have hC24 := hC22.row1
     have hC25 := hC24.front 1 rfl
     dsimp only [List.eraseIdx, List.cons_append, List.nil_append, List.append_nil] at hC25
     have hC26 : Ctx [] w0 w12 (Item.own (.slice (some ⟨b6, 0, none⟩) 1 1) ([(x16, x18.1)] : List (Int × (List Int))) :: [Item.box b1 [(sv x18.2.1), (.bool x18.2.2)], Item.own v3 (x10.1 : (List Int)), Item.own v1 (x5 : (List (Int × (List Int))))]) := hC25.rowOwn (by simp [maxLen])
     refine WL_nil ?_
     obtain ⟨x19, hx4, hr6⟩ := bind_some hr6
     refine WA_one 11 (by kernel_rfl) rfl ?_
     refine WL_append_head hC26 2 rfl Tryd.underlying43 ty72 rfl hx4 rfl rfl rfl (fun v9 w13 hC27 => ?_)
     try dsimp only [List.set] at hC27
     refine WL_nil ?_
     refine WA_tk 12 (by kernel_rfl) rfl rfl (fl_assign rfl) ?_
     refine WL_assign rfl rfl ?_
     refine WL_nil ?_
     refine WA_done (by kernel_rfl) ?_
     have hq11 := Option.some.inj hr6
     subst hq11
     have hC29 := hC27.f2
     have hC30 := hC29.f1
     have hC31 := hC30.h2
     refine nrm_sub (l' := [(0, (sv a1)), (4, (ptr b1 0)), (6, v9), (23, (.int .i64 x1.1)), (24, (.int .i64 x6))]) ⟨rfl, rfl, rfl, rfl, rfl, trivial⟩ ?_
     exact ⟨x18.2.1, x18.2.2, v9, x19, rfl, rfl, hC31⟩
    rintro l4 _ w9 hs4 ⟨x13, x14, v5, x15, rfl, rfl, hC16⟩
    try dsimp only at hL1
    refine blk_normal ?_
    refine nrm_sub' hs4 ?_
    clear hs4
    refine W_reg ?_
    refine WL_add rfl rfl rfl ?_
    refine WL_move rfl rfl ?_
    refine WL_nil ?_
    have hC32 := hC16.f1
    refine nrm_sub (l' := [(0, (sv a1)), (4, (ptr b1 0)), (6, v5), (23, (.int .i64 x1.1)), (24, (.int .i64 (w64 (x6 + 1))))]) ⟨rfl, rfl, rfl, rfl, rfl, trivial⟩ ?_
    exact ⟨k1, Nat.lt_succ_self _, x13, x14, v5, x15, w64 (x6 + 1), rfl, hC32, hL1⟩
   replace hL1 := ite_f hL1 hc3
   refine W_exit (nrm_exit (nrm_exit (blk_exit ?_)))
   have hq12 := Option.some.inj hL1
   subst hq12
   refine nrm_sub (l' := [(0, (sv a1)), (4, (ptr b1 0)), (6, v1)]) ⟨rfl, rfl, rfl, trivial⟩ ?_
   exact ⟨x3, x4, v1, x5, rfl, rfl, hC10⟩
 rintro l5 _ w14 hs5 ⟨x7, x8, v2, x9, rfl, rfl, hC33⟩
 try dsimp only at hF
 refine nrm_sub' hs5 ?_
 clear hs5
 refine W_seq (W_seq_reg ?_)
 refine WL_move rfl rfl ?_
 obtain ⟨x20, hr8, hF⟩ := bind_some hF
 refine WL_call Tryd.call22 rfl rfl (c_M_EncodeReply x9 v2 ((hC33.ro 0 rfl).now (Keep.refl _ _)) x20 hr8) ?_
 intro _ w15 hv1
 obtain ⟨rfl, hB10⟩ := res_str hv1
 have hC34 := hC33.grow hB10
 refine WL_assign rfl rfl ?_
 refine WL_nil ?_
 obtain ⟨r5, hr9, hF⟩ := bind_some hF
 refine W_cut (fun l w => ∃ x21 : Bool, x21 = r5 ∧ l = [(6, v2), (65, (.bool x21))] ∧ Below w15.heap.size w15 w ∧ Ctx [] w0 w [Item.own v2 (x9 : (List (Int × (List Int))))]) ?_ ?_
 ·refine W_reg ?_
  refine WL_move rfl rfl ?_
  refine WL_nilCheck rfl rfl ?_
  refine WL_field Tryd.underlying79 rfl rfl (fun w => ⟨_, Tryd.sizeOf4 w⟩) rfl rfl ?_
  refine WL_load_box hC34 1 rfl rfl Tryd.isAgg4 rfl rfl ?_
  refine WL_move rfl rfl ?_
  refine WL_fork (fun hc6 => ?_) (fun hc6 => ?_)
  ·replace hr9 := ite_t hr9 hc6
   refine WL_guard_skip rfl rfl (by simp) rfl ?_
   refine WL_guard_skip rfl rfl (by simp) rfl ?_
   refine WL_pick_t rfl rfl rfl ?_
   refine WL_move rfl rfl ?_
   refine WL_guard_skip rfl rfl (by simp) rfl ?_
   refine WL_guard_skip rfl rfl (by simp) rfl ?_
   refine WL_guard_skip rfl rfl (by simp) rfl ?_
   refine WL_pick_t rfl rfl rfl ?_
   refine WL_nil ?_
   have hq13 := Option.some.inj hr9
   subst hq13
   have hC36 := hC34.h1
   refine nrm_sub (l' := [(6, v2), (65, (.bool true))]) ⟨rfl, rfl, trivial⟩ ?_
   exact ⟨true, rfl, rfl, (Below.refl _ _), hC36⟩
  replace hr9 := ite_f hr9 hc6
  refine WL_guard rfl rfl ?_
  refine WL_move rfl rfl ?_
  refine WL_guard rfl rfl ?_
  refine WL_str_eql rfl rfl rfl ?_
  refine WL_pick_f rfl rfl rfl ?_
  refine WL_move rfl rfl ?_
  refine WL_fork (fun hc7 => ?_) (fun hc7 => ?_)
  ·replace hr9 := ite_t hr9 hc7
   refine WL_guard_skip rfl rfl (by simp) rfl ?_
   refine WL_guard_skip rfl rfl (by simp) rfl ?_
   refine WL_guard_skip rfl rfl (by simp) rfl ?_
   refine WL_pick_t rfl rfl rfl ?_
   refine WL_nil ?_
   have hq14 := Option.some.inj hr9
   subst hq14
   have hC37 := hC34.h1
   refine nrm_sub (l' := [(6, v2), (65, (.bool true))]) ⟨rfl, rfl, trivial⟩ ?_
   exact ⟨true, rfl, rfl, (Below.refl _ _), hC37⟩
  replace hr9 := ite_f hr9 hc7
  refine WL_guard rfl rfl ?_
  refine WL_move rfl rfl ?_
  refine WL_guard rfl rfl ?_
  refine WL_move rfl rfl ?_
  refine WL_guard rfl rfl ?_
  refine WL_str_neq rfl rfl rfl ?_
  refine WL_pick_f rfl rfl rfl ?_
  refine WL_nil ?_
  have hq15 := Option.some.inj hr9
  subst hq15
  have hC38 := hC34.h1
  refine nrm_sub (l' := [(6, v2), (65, (.bool (!decide (x20 = a1))))]) ⟨rfl, rfl, trivial⟩ ?_
  exact ⟨(!decide (x20 = a1)), rfl, rfl, (Below.refl _ _), hC38⟩
 rintro _ w16 ⟨x21, rfl, rfl, hB11, hC35⟩
 try dsimp only at hF
 refine W_cond rfl (fun hc8 => ?_) (fun hc8 => ?_)
 ·replace hF := ite_t hF hc8
  refine W_seq_reg ?_
  refine WL_assign rfl rfl ?_
  refine WL_assign rfl rfl ?_
  refine WL_nil (W_ret (nrm_ret ?_))
  have hq16 := Option.some.inj hF
  subst hq16
  refine fn_ret2 rfl rfl rfl ?_
  have hC39 := hC35.triv (bool_val (false))
  have hC40 := hC39.triv (nil_val (α := (Int × (List Int))))
  exact ⟨_, rfl, res2_of hC40⟩
 replace hF := ite_f hF hc8
 refine W_skip (nrm_normal (W_seq_reg ?_))
 refine WL_move rfl rfl ?_
 refine WL_assign rfl rfl ?_
 refine WL_assign rfl rfl ?_
 refine WL_nil (W_ret ?_)
 have hq17 := Option.some.inj hF
 subst hq17
 refine fn_ret2 rfl rfl rfl ?_
 have hC41 := hC35.triv (bool_val (true))
 have hC42 := hC41.f1
 exact ⟨_, rfl, res2_of hC42⟩

theorem c_Q_big {w0 : World} (a1 : (List UInt8)) (u1 : Value) (g1 : RO [] w0 u1 a1) (rr : Bool) (hF : Q.big a1 = some rr) :
 Calls Tryd.prog 32 [u1].toArray w0 fun e w' => ∃ v, e = .returned v ∧ Res w0 rr v w' := by
 refine calls_of_W Tryd.func32 rfl rfl ?_
 have hC0 := Ctx.start w0
 unfold Q.big at hF
 refine W_seq_reg ?_
 refine WL_assign rfl rfl ?_
 refine WL_nil (W_seq_reg ?_)
 refine WL_move rfl rfl ?_
 refine WL_len Tryd.underlying54 g1 rfl rfl ?_
 refine WL_gtr rfl rfl rfl ?_
 refine WL_assign rfl rfl ?_
 refine WL_nil (W_ret ?_)
 have hq1 := Option.some.inj hF
 subst hq1
 refine fn_ret1 rfl rfl ?_
 exact ⟨_, rfl, bool_res hC0 _⟩

theorem c_S_l1New {w0 : World} (a1 : (List UInt8)) (u1 : Value) (g1 : RO [] w0 u1 a1) (rr : ((List UInt8) × Int × Int)) (hF : S.l1New a1 = some rr) :
 Calls Tryd.prog 62 [u1].toArray w0 fun e w' => ∃ v, e = .returned v ∧ ∃ q0 : Nat, v = (ptr q0 0) ∧ Ctx [] w0 w' [Item.box q0 [u1, (.int .i64 rr.2.1), (.int .i64 rr.2.2)]] := by
 refine calls_of_W Tryd.func62 rfl rfl ?_
 have hC0 := Ctx.start w0
 unfold S.l1New at hF
 refine W_seq_reg ?_
 refine WL_assign rfl rfl ?_
 refine WL_nil (W_seq_reg ?_)
 refine WL_move rfl rfl ?_
 refine WL_len Tryd.underlying54 g1 rfl rfl ?_
 refine WL_add rfl rfl rfl ?_
 refine WL_assign rfl rfl ?_
 refine WL_nil (W_seq (W_seq_reg ?_))
 refine WL_assign rfl rfl ?_
 refine WL_nil ?_
 obtain ⟨r1, hr1, hF⟩ := bind_some hF
 refine W_norm (fun l w => ∃ x3 : Int, x3 = r1 ∧ l = [(0, u1), (3, (.int .i64 x3))] ∧ Below w0.heap.size w0 w ∧ Ctx [] w0 w []) ?_ ?_
 ·refine W_block ?_
  refine W.sub (l' := [(0, u1), (3, (.int .i64 (w64 (10101 + (List.length a1 : Int))))), (4, (.int .i64 0))]) ?_ ⟨rfl, rfl, rfl, trivial⟩
  refine W_loop (fun k l w => ∃ x1 : Int, ∃ x2 : Int, l = [(0, u1), (3, (.int .i64 x1)), (4, (.int .i64 x2))] ∧ Below w0.heap.size w0 w ∧ Ctx [] w0 w [] ∧ S.l1New_l1 a1 k x1 x2 = some r1) FUEL ⟨w64 (10101 + (List.length a1 : Int)), 0, rfl, (Below.refl _ _), hC0, hr1⟩ ?_
  clear hr1
  rintro k1 _ w1 ⟨x1, x2, rfl, hB1, hC1, hL1⟩
  cases k1 with
  | zero => rw [S.l1New_l1] at hL1; cases hL1
  | succ k1 =>
   rw [S.l1New_l1] at hL1
   refine W_seq ?_
   obtain ⟨r2, hr2, hL1⟩ := bind_some hL1
   refine W_cut (fun l w => ∃ x4 : Bool, x4 = r2 ∧ l = [(0, u1), (3, (.int .i64 x1)), (4, (.int .i64 x2)), (15, (.bool x4))] ∧ Below w1.heap.size w1 w ∧ Ctx [] w0 w []) ?_ ?_
   ·refine W_reg ?_
    refine WL_move rfl rfl ?_
    refine WL_move rfl rfl ?_
    refine WL_len Tryd.underlying54 g1 rfl rfl ?_
    refine WL_lss rfl rfl rfl ?_
    refine WL_move rfl rfl ?_
    refine WL_fork (fun hc1 => ?_) (fun hc1 => ?_)
    ·replace hr2 := ite_t hr2 hc1
     refine WL_guard rfl rfl ?_
     refine WL_move rfl rfl ?_
     refine WL_guard rfl rfl ?_
     refine WL_lss rfl rfl rfl ?_
     refine WL_pick_t rfl rfl rfl ?_
     refine WL_nil ?_
     have hq1 := Option.some.inj hr2
     subst hq1
     refine nrm_sub (l' := [(0, u1), (3, (.int .i64 x1)), (4, (.int .i64 x2)), (15, (.bool (decide (x2 < 4000))))]) ⟨rfl, rfl, rfl, rfl, trivial⟩ ?_
     exact ⟨(decide (x2 < 4000)), rfl, rfl, (Below.refl _ _), hC1⟩
    replace hr2 := ite_f hr2 hc1
    refine WL_guard_skip rfl rfl (by simp) rfl ?_
    refine WL_guard_skip rfl rfl (by simp) rfl ?_
    refine WL_pick_f rfl rfl rfl ?_
    refine WL_nil ?_
    have hq2 := Option.some.inj hr2
    subst hq2
    refine nrm_sub (l' := [(0, u1), (3, (.int .i64 x1)), (4, (.int .i64 x2)), (15, (.bool false))]) ⟨rfl, rfl, rfl, rfl, trivial⟩ ?_
    exact ⟨false, rfl, rfl, (Below.refl _ _), hC1⟩
   rintro _ w2 ⟨x4, rfl, rfl, hB2, hC2⟩
   try dsimp only at hL1
   refine W_cond rfl (fun hc2 => ?_) (fun hc2 => ?_)
   ·replace hL1 := ite_t hL1 hc2
    refine W_skip (nrm_normal (W_seq (W_block (W_reg ?_))))
    refine WL_move rfl rfl ?_
    refine WL_mul rfl rfl rfl ?_
    refine WL_move rfl rfl ?_
    refine WL_move rfl rfl ?_
    obtain ⟨x5, hx1, hL1⟩ := bind_some hL1
    refine WL_index Tryd.underlying54 ty5 g1 hx1 rfl rfl rfl (fun b1 o1 h1 => ?_)
    refine WL_load ty5 h1 hC2.keep rfl rfl (fun v1 h2 => ?_)
    obtain rfl := ro_u8 h2
    refine WL_conv_i64 Tryd.underlying5 Tryd.underlying3 rfl rfl ?_
    refine WL_add rfl rfl rfl ?_
    refine WL_add rfl rfl rfl ?_
    refine WL_band rfl rfl rfl ?_
    refine WL_assign rfl rfl ?_
    refine WL_nil (blk_normal (nrm_normal (W_reg ?_)))
    refine WL_move rfl rfl ?_
    refine WL_add rfl rfl rfl ?_
    refine WL_assign rfl rfl ?_
    refine WL_nil ?_
    refine nrm_sub (l' := [(0, u1), (3, (.int .i64 (band (w64 ((w64 ((w64 (x1 * 131)) + (w64 (UInt8.toNat x5 : Int)))) + 7)) 1073741823))), (4, (.int .i64 (w64 (x2 + 1))))]) ⟨rfl, rfl, rfl, trivial⟩ ?_
    exact ⟨k1, Nat.lt_succ_self _, band (w64 ((w64 ((w64 (x1 * 131)) + (w64 (UInt8.toNat x5 : Int)))) + 7)) 1073741823, w64 (x2 + 1), rfl, ((Keep.of hB1).then hB2).below, hC2, hL1⟩
   replace hL1 := ite_f hL1 hc2
   refine W_exit (nrm_exit (nrm_exit (blk_exit ?_)))
   have hq3 := Option.some.inj hL1
   subst hq3
   refine nrm_sub (l' := [(0, u1), (3, (.int .i64 x1))]) ⟨rfl, rfl, trivial⟩ ?_
   exact ⟨x1, rfl, rfl, ((Keep.of hB1).then hB2).below, hC2⟩
 rintro l3 _ w3 hs3 ⟨x3, rfl, rfl, hB3, hC3⟩
 try dsimp only at hF
 refine nrm_sub' hs3 ?_
 clear hs3
 refine W_seq_reg ?_
 refine WL_move rfl rfl ?_
 refine WL_move rfl rfl ?_
 refine WL_build (vs := [(0, u1), (2, (.int .i64 x3))]) rfl rfl rfl (built108_0_2 (ro_cells g1) rfl) ?_
 refine WL_boxK (cs := [u1, (.int .i64 0), (.int .i64 x3)]) hC3 rfl rfl rfl (fun b2 w4 hC4 hB4 hN1 => ?_)
 refine WL_assign rfl rfl ?_
 refine WL_nil (W_ret ?_)
 have hq4 := Option.some.inj hF
 subst hq4
 refine fn_ret1 rfl rfl ?_
 exact ⟨_, rfl, _, rfl, hC4⟩

theorem c_S_l1Byte {w0 : World} {Fs : List (List Nat)} (pb1 : Nat) (a1 : ((List UInt8) × Int × Int)) (u1 : Value) (g1 : RO Fs.flatten w0 u1 a1.1) (hH : Hold [Item.box pb1 [u1, (.int .i64 a1.2.1), (.int .i64 a1.2.2)]] w0 Fs) (hn : Fs.flatten.Nodup) (rr : (Int × ((List UInt8) × Int × Int))) (hF : S.l1Byte a1 = some rr) :
 Calls Tryd.prog 83 [(ptr pb1 0)].toArray w0 fun e w' => ∃ v, e = .returned v ∧ v = (.int .i64 rr.1) ∧ Ctx Fs.flatten w0 w' [Item.box pb1 [u1, (.int .i64 rr.2.2.1), (.int .i64 rr.2.2.2)]] := by
 refine calls_of_W Tryd.func83 rfl rfl ?_
 have hC0 := Ctx.startIn hH hn
 unfold S.l1Byte at hF
 refine W_seq_reg ?_
 refine WL_assign rfl rfl ?_
 refine WL_nil (W_seq_reg ?_)
 refine WL_move rfl rfl ?_
 refine WL_move rfl rfl ?_
 refine WL_nilCheck rfl rfl ?_
 refine WL_field Tryd.underlying108 rfl rfl (fun w => ⟨_, Tryd.sizeOf3 w⟩) rfl rfl ?_
 refine WL_load_box hC0 0 rfl rfl Tryd.isAgg3 rfl rfl ?_
 refine WL_mul rfl rfl rfl ?_
 refine WL_add rfl rfl rfl ?_
 refine WL_nilCheck rfl rfl ?_
 refine WL_field Tryd.underlying108 rfl rfl (fun w => ⟨_, Tryd.sizeOf3 w⟩) rfl rfl ?_
 refine WL_store_boxK (cs' := [u1, (.int .i64 a1.2.1), (.int .i64 (w64 ((w64 (a1.2.2 * 6364136223846793005)) + 1442695040888963407)))]) hC0 0 rfl rfl rfl rfl Tryd.sizeOf3 rfl rfl (fun w1 hC1 hKp1 => ?_)
 try dsimp only [List.set] at hC1
 refine WL_nil (W_seq ?_)
 refine W_drawn 13 rfl hmix (fun w2 hB1 => ?_)
 have hC2 := hC1.grow hB1
 refine WA_tk 0 (by kernel_rfl) rfl rfl (fl_move rfl) ?_
 refine WL_move rfl rfl ?_
 refine WL_nil ?_
 refine WA_tk 1 (by kernel_rfl) rfl rfl (fl_nilCheck rfl) ?_
 refine WL_nilCheck rfl rfl ?_
 refine WL_nil ?_
 refine WA_tk 2 (by kernel_rfl) rfl rfl (fl_field Tryd.underlying108 rfl rfl (fun w => ⟨_, Tryd.sizeOf3 w⟩) rfl) ?_
 refine WL_field Tryd.underlying108 rfl rfl (fun w => ⟨_, Tryd.sizeOf3 w⟩) rfl rfl ?_
 refine WL_nil ?_
 refine WA_tk 5 (by kernel_rfl) rfl rfl (fl_move rfl) ?_
 refine WL_move rfl rfl ?_
 refine WL_nil ?_
 refine WA_tk 6 (by kernel_rfl) rfl rfl (fl_nilCheck rfl) ?_
 refine WL_nilCheck rfl rfl ?_
 refine WL_nil ?_
 refine WA_tk 7 (by kernel_rfl) rfl rfl (fl_field Tryd.underlying108 rfl rfl (fun w => ⟨_, Tryd.sizeOf3 w⟩) rfl) ?_
 refine WL_field Tryd.underlying108 rfl rfl (fun w => ⟨_, Tryd.sizeOf3 w⟩) rfl rfl ?_
 refine WL_nil ?_
 refine WA.sub (l' := [(0, (ptr pb1 0)), (2, (.int .i64 0)), (4, (ptr pb1 0)), (5, (ptr pb1 0)), (6, (ptr pb1 0)), (7, (ptr pb1 2)), (8, (.int .i64 a1.2.2)), (9, (.int .i64 (w64 (a1.2.2 * 6364136223846793005)))), (10, (.int .i64 (w64 ((w64 (a1.2.2 * 6364136223846793005)) + 1442695040888963407)))), (11, (ptr pb1 0)), (12, (ptr pb1 2)), (13, (ptr pb1 0)), (14, (ptr pb1 0)), (15, (ptr pb1 2)), (18, (ptr pb1 0)), (19, (ptr pb1 0)), (20, (ptr pb1 2))]) ?_ ⟨rfl, rfl, rfl, rfl, rfl, rfl, rfl, rfl, rfl, rfl, rfl, rfl, rfl, rfl, rfl, rfl, rfl, trivial⟩
 refine WA_postsE [⟨3, [], fun vs => PW.val (.int .i64 (w64 ((w64 (a1.2.2 * 6364136223846793005)) + 1442695040888963407))), []⟩, ⟨4, [], fun vs => PW.val (.int .i64 (shr (w64 ((w64 (a1.2.2 * 6364136223846793005)) + 1442695040888963407)) 33)), []⟩, ⟨8, [], fun vs => PW.val (.int .i64 (w64 ((w64 (a1.2.2 * 6364136223846793005)) + 1442695040888963407))), []⟩, ⟨9, [], fun vs => PW.val (.int .i64 (shr (w64 ((w64 (a1.2.2 * 6364136223846793005)) + 1442695040888963407)) 45)), []⟩] [[], [3], [], [8]] 3 rfl (by kernel_rfl) (by kernel_rfl) rfl ?_ ?_
 ·refine StepsE_cons rfl ?_ ?_
  ·intro w3 hB2
   refine DepsE_nil ?_
   refine ⟨_, rfl, ?_⟩
   refine WL_load_box (hC2.grow hB2) 0 rfl rfl Tryd.isAgg3 rfl rfl ?_
   refine WL_nil ?_
   exact FinE_val (Below.refl _ _) rfl rfl ⟨rfl, rfl⟩
  refine StepsE_cons rfl ?_ ?_
  ·intro w3 hB2
   refine DepsE_cons rfl rfl rfl ?_
   rintro _ _ ⟨rfl, rfl⟩ _
   refine DepsE_nil ?_
   refine ⟨_, rfl, ?_⟩
   refine WL_shr (by decide) rfl rfl rfl ?_
   refine WL_nil ?_
   exact FinE_val (Below.refl _ _) rfl rfl ⟨rfl, rfl⟩
  refine StepsE_cons rfl ?_ ?_
  ·intro w3 hB2
   refine DepsE_nil ?_
   refine ⟨_, rfl, ?_⟩
   refine WL_load_box (hC2.grow hB2) 0 rfl rfl Tryd.isAgg3 rfl rfl ?_
   refine WL_nil ?_
   exact FinE_val (Below.refl _ _) rfl rfl ⟨rfl, rfl⟩
  refine StepsE_cons rfl ?_ ?_
  ·intro w3 hB2
   refine DepsE_cons rfl rfl rfl ?_
   rintro _ _ ⟨rfl, rfl⟩ _
   refine DepsE_nil ?_
   refine ⟨_, rfl, ?_⟩
   refine WL_shr (by decide) rfl rfl rfl ?_
   refine WL_nil ?_
   exact FinE_val (Below.refl _ _) rfl rfl ⟨rfl, rfl⟩
  exact StepsE_nil
 intro w4 hB3
 refine AllE_cons rfl rfl rfl ?_
 rintro _ _ ⟨rfl, rfl⟩
 refine AllE_cons rfl rfl rfl ?_
 rintro _ _ ⟨rfl, rfl⟩
 refine AllE_cons rfl rfl rfl ?_
 rintro _ _ ⟨rfl, rfl⟩
 refine AllE_cons rfl rfl rfl ?_
 rintro _ _ ⟨rfl, rfl⟩
 refine AllE_nil ?_
 intro hn1 hb1
 have hC3 := hC2.grow hB3
 refine WA_tk 10 (by kernel_rfl) rfl rfl (fl_bxor rfl rfl) ?_
 refine WL_bxor rfl rfl rfl ?_
 refine WL_nil ?_
 refine WA_tk 11 (by kernel_rfl) rfl rfl (fl_band rfl rfl) ?_
 refine WL_band rfl rfl rfl ?_
 refine WL_nil ?_
 refine WA_tk 12 (by kernel_rfl) rfl rfl (fl_assign rfl) ?_
 refine WL_assign rfl rfl ?_
 refine WL_nil ?_
 refine WA_done (by kernel_rfl) ?_
 refine nrm_normal (W_seq (W_seq ?_))
 refine W_drawn 10 rfl hmix (fun w5 hB4 => ?_)
 have hC4 := hC3.grow hB4
 refine WA_tk 0 (by kernel_rfl) rfl rfl (fl_move rfl) ?_
 refine WL_move rfl rfl ?_
 refine WL_nil ?_
 refine WA_tk 1 (by kernel_rfl) rfl rfl (fl_nilCheck rfl) ?_
 refine WL_nilCheck rfl rfl ?_
 refine WL_nil ?_
 refine WA_tk 2 (by kernel_rfl) rfl rfl (fl_field Tryd.underlying108 rfl rfl (fun w => ⟨_, Tryd.sizeOf3 w⟩) rfl) ?_
 refine WL_field Tryd.underlying108 rfl rfl (fun w => ⟨_, Tryd.sizeOf3 w⟩) rfl rfl ?_
 refine WL_nil ?_
 refine WA_tk 4 (by kernel_rfl) rfl rfl (fl_move rfl) ?_
 refine WL_move rfl rfl ?_
 refine WL_nil ?_
 refine WA_tk 5 (by kernel_rfl) rfl rfl (fl_nilCheck rfl) ?_
 refine WL_nilCheck rfl rfl ?_
 refine WL_nil ?_
 refine WA_tk 6 (by kernel_rfl) rfl rfl (fl_field Tryd.underlying108 rfl rfl (fun w => ⟨_, Tryd.sizeOf54 w⟩) rfl) ?_
 refine WL_field Tryd.underlying108 rfl rfl (fun w => ⟨_, Tryd.sizeOf54 w⟩) rfl rfl ?_
 refine WL_nil ?_
 refine WA.sub (l' := [(0, (ptr pb1 0)), (2, (.int .i64 0)), (3, (.int .i64 (band (bxor (shr (w64 ((w64 (a1.2.2 * 6364136223846793005)) + 1442695040888963407)) 33) (shr (w64 ((w64 (a1.2.2 * 6364136223846793005)) + 1442695040888963407)) 45)) 255))), (4, (ptr pb1 0)), (5, (ptr pb1 0)), (6, (ptr pb1 0)), (7, (ptr pb1 2)), (8, (.int .i64 a1.2.2)), (9, (.int .i64 (w64 (a1.2.2 * 6364136223846793005)))), (10, (.int .i64 (w64 ((w64 (a1.2.2 * 6364136223846793005)) + 1442695040888963407)))), (11, (ptr pb1 0)), (12, (ptr pb1 2)), (13, (ptr pb1 0)), (14, (ptr pb1 0)), (15, (ptr pb1 2)), (16, (.int .i64 (w64 ((w64 (a1.2.2 * 6364136223846793005)) + 1442695040888963407)))), (17, (.int .i64 (shr (w64 ((w64 (a1.2.2 * 6364136223846793005)) + 1442695040888963407)) 33))), (18, (ptr pb1 0)), (19, (ptr pb1 0)), (20, (ptr pb1 2)), (21, (.int .i64 (w64 ((w64 (a1.2.2 * 6364136223846793005)) + 1442695040888963407)))), (22, (.int .i64 (shr (w64 ((w64 (a1.2.2 * 6364136223846793005)) + 1442695040888963407)) 45))), (23, (.int .i64 (bxor (shr (w64 ((w64 (a1.2.2 * 6364136223846793005)) + 1442695040888963407)) 33) (shr (w64 ((w64 (a1.2.2 * 6364136223846793005)) + 1442695040888963407)) 45)))), (24, (.int .i64 (band (bxor (shr (w64 ((w64 (a1.2.2 * 6364136223846793005)) + 1442695040888963407)) 33) (shr (w64 ((w64 (a1.2.2 * 6364136223846793005)) + 1442695040888963407)) 45)) 255))), (25, (ptr pb1 0)), (26, (ptr pb1 0)), (27, (ptr pb1 1)), (29, (ptr pb1 0)), (30, (ptr pb1 0)), (31, (ptr pb1 0))]) ?_ ⟨rfl, rfl, rfl, rfl, rfl, rfl, rfl, rfl, rfl, rfl, rfl, rfl, rfl, rfl, rfl, rfl, rfl, rfl, rfl, rfl, rfl, rfl, rfl, rfl, rfl, rfl, rfl, rfl, rfl, rfl, trivial⟩
 refine WA_postsE [⟨3, [], fun vs => PW.val (.int .i64 a1.2.1), []⟩, ⟨7, [], fun vs => PW.val u1, []⟩, ⟨8, [], fun vs => PW.val (.int .i64 (List.length a1.1 : Int)), []⟩] [[], [], [7]] 1 rfl (by kernel_rfl) (by kernel_rfl) rfl ?_ ?_
 ·refine StepsE_cons rfl ?_ ?_
  ·intro w6 hB5
   refine DepsE_nil ?_
   refine ⟨_, rfl, ?_⟩
   refine WL_load_box (hC4.grow hB5) 0 rfl rfl Tryd.isAgg3 rfl rfl ?_
   refine WL_nil ?_
   exact FinE_val (Below.refl _ _) rfl rfl ⟨rfl, rfl⟩
  refine StepsE_cons rfl ?_ ?_
  ·intro w6 hB5
   refine DepsE_nil ?_
   refine ⟨_, rfl, ?_⟩
   refine WL_load_box (hC4.grow hB5) 0 rfl rfl Tryd.isAgg54 rfl rfl ?_
   refine WL_nil ?_
   exact FinE_val (Below.refl _ _) rfl rfl ⟨rfl, rfl⟩
  refine StepsE_cons rfl ?_ ?_
  ·intro w6 hB5
   refine DepsE_cons rfl rfl rfl ?_
   rintro _ _ ⟨rfl, rfl⟩ _
   refine DepsE_nil ?_
   refine ⟨_, rfl, ?_⟩
   refine WL_len Tryd.underlying54 g1 rfl rfl ?_
   refine WL_nil ?_
   exact FinE_val (Below.refl _ _) rfl rfl ⟨rfl, rfl⟩
  exact StepsE_nil
 intro w7 hB6
 refine AllE_cons rfl rfl rfl ?_
 rintro _ _ ⟨rfl, rfl⟩
 refine AllE_cons rfl rfl rfl ?_
 rintro _ _ ⟨rfl, rfl⟩
 refine AllE_cons rfl rfl rfl ?_
 rintro _ _ ⟨rfl, rfl⟩
 refine AllE_nil ?_
 intro hn2 hb2
 have hC5 := hC4.grow hB6
 refine WA_tk 9 (by kernel_rfl) rfl rfl (fl_lss rfl rfl) ?_
 refine WL_lss rfl rfl rfl ?_
 refine WL_nil ?_
 refine WA_done (by kernel_rfl) ?_
 refine nrm_normal ?_
 obtain ⟨r1, hr1, hF⟩ := bind_some hF
 refine W_norm (fun l w => ∃ x1 : Int, ∃ x2 : Int, ∃ x3 : Int, (x1, x2, x3) = r1 ∧ l = [(3, (.int .i64 x3))] ∧ Ctx Fs.flatten w0 w [Item.box pb1 [u1, (.int .i64 x1), (.int .i64 x2)]]) ?_ ?_
 ·refine W_cond rfl (fun hc1 => ?_) (fun hc1 => ?_)
  ·replace hr1 := ite_t hr1 hc1
   refine W_seq ?_
   refine W_drawn 15 rfl hmix (fun w10 hB8 => ?_)
   have hC7 := hC5.grow hB8
   refine WA_tk 0 (by kernel_rfl) rfl rfl (fl_move rfl) ?_
   refine WL_move rfl rfl ?_
   refine WL_nil ?_
   refine WA_tk 1 (by kernel_rfl) rfl rfl (fl_move rfl) ?_
   refine WL_move rfl rfl ?_
   refine WL_nil ?_
   refine WA_tk 2 (by kernel_rfl) rfl rfl (fl_nilCheck rfl) ?_
   refine WL_nilCheck rfl rfl ?_
   refine WL_nil ?_
   refine WA_tk 3 (by kernel_rfl) rfl rfl (fl_field Tryd.underlying108 rfl rfl (fun w => ⟨_, Tryd.sizeOf54 w⟩) rfl) ?_
   refine WL_field Tryd.underlying108 rfl rfl (fun w => ⟨_, Tryd.sizeOf54 w⟩) rfl rfl ?_
   refine WL_nil ?_
   refine WA_tk 5 (by kernel_rfl) rfl rfl (fl_move rfl) ?_
   refine WL_move rfl rfl ?_
   refine WL_nil ?_
   refine WA_tk 6 (by kernel_rfl) rfl rfl (fl_nilCheck rfl) ?_
   refine WL_nilCheck rfl rfl ?_
   refine WL_nil ?_
   refine WA_tk 7 (by kernel_rfl) rfl rfl (fl_field Tryd.underlying108 rfl rfl (fun w => ⟨_, Tryd.sizeOf3 w⟩) rfl) ?_
   refine WL_field Tryd.underlying108 rfl rfl (fun w => ⟨_, Tryd.sizeOf3 w⟩) rfl rfl ?_
   refine WL_nil ?_
   refine WA.sub (l' := [(0, (ptr pb1 0)), (2, (.int .i64 0)), (3, (.int .i64 (band (bxor (shr (w64 ((w64 (a1.2.2 * 6364136223846793005)) + 1442695040888963407)) 33) (shr (w64 ((w64 (a1.2.2 * 6364136223846793005)) + 1442695040888963407)) 45)) 255))), (4, (ptr pb1 0)), (5, (ptr pb1 0)), (6, (ptr pb1 0)), (7, (ptr pb1 2)), (8, (.int .i64 a1.2.2)), (9, (.int .i64 (w64 (a1.2.2 * 6364136223846793005)))), (10, (.int .i64 (w64 ((w64 (a1.2.2 * 6364136223846793005)) + 1442695040888963407)))), (11, (ptr pb1 0)), (12, (ptr pb1 2)), (13, (ptr pb1 0)), (14, (ptr pb1 0)), (15, (ptr pb1 2)), (16, (.int .i64 (w64 ((w64 (a1.2.2 * 6364136223846793005)) + 1442695040888963407)))), (17, (.int .i64 (shr (w64 ((w64 (a1.2.2 * 6364136223846793005)) + 1442695040888963407)) 33))), (18, (ptr pb1 0)), (19, (ptr pb1 0)), (20, (ptr pb1 2)), (21, (.int .i64 (w64 ((w64 (a1.2.2 * 6364136223846793005)) + 1442695040888963407)))), (22, (.int .i64 (shr (w64 ((w64 (a1.2.2 * 6364136223846793005)) + 1442695040888963407)) 45))), (23, (.int .i64 (bxor (shr (w64 ((w64 (a1.2.2 * 6364136223846793005)) + 1442695040888963407)) 33) (shr (w64 ((w64 (a1.2.2 * 6364136223846793005)) + 1442695040888963407)) 45)))), (24, (.int .i64 (band (bxor (shr (w64 ((w64 (a1.2.2 * 6364136223846793005)) + 1442695040888963407)) 33) (shr (w64 ((w64 (a1.2.2 * 6364136223846793005)) + 1442695040888963407)) 45)) 255))), (25, (ptr pb1 0)), (26, (ptr pb1 0)), (27, (ptr pb1 1)), (28, (.int .i64 a1.2.1)), (29, (ptr pb1 0)), (30, (ptr pb1 0)), (31, (ptr pb1 0)), (32, u1), (33, (.int .i64 (List.length a1.1 : Int))), (34, (.bool (decide (a1.2.1 < (List.length a1.1 : Int))))), (35, (.int .i64 (band (bxor (shr (w64 ((w64 (a1.2.2 * 6364136223846793005)) + 1442695040888963407)) 33) (shr (w64 ((w64 (a1.2.2 * 6364136223846793005)) + 1442695040888963407)) 45)) 255))), (36, (ptr pb1 0)), (37, (ptr pb1 0)), (38, (ptr pb1 0)), (40, (ptr pb1 0)), (41, (ptr pb1 0)), (42, (ptr pb1 1))]) ?_ ⟨rfl, rfl, rfl, rfl, rfl, rfl, rfl, rfl, rfl, rfl, rfl, rfl, rfl, rfl, rfl, rfl, rfl, rfl, rfl, rfl, rfl, rfl, rfl, rfl, rfl, rfl, rfl, rfl, rfl, rfl, rfl, rfl, rfl, rfl, rfl, rfl, rfl, rfl, rfl, rfl, rfl, trivial⟩
   refine WA_postsE [⟨4, [], fun vs => PW.val u1, []⟩, ⟨8, [], fun vs => PW.val (.int .i64 a1.2.1), []⟩] [[], []] 6 rfl (by kernel_rfl) (by kernel_rfl) rfl ?_ ?_
   ·refine StepsE_cons rfl ?_ ?_
    ·intro w11 hB9
     refine DepsE_nil ?_
     refine ⟨_, rfl, ?_⟩
     refine WL_load_box (hC7.grow hB9) 0 rfl rfl Tryd.isAgg54 rfl rfl ?_
     refine WL_nil ?_
     exact FinE_val (Below.refl _ _) rfl rfl ⟨rfl, rfl⟩
    refine StepsE_cons rfl ?_ ?_
    ·intro w11 hB9
     refine DepsE_nil ?_
     refine ⟨_, rfl, ?_⟩
     refine WL_load_box (hC7.grow hB9) 0 rfl rfl Tryd.isAgg3 rfl rfl ?_
     refine WL_nil ?_
     exact FinE_val (Below.refl _ _) rfl rfl ⟨rfl, rfl⟩
    exact StepsE_nil
   intro w12 hB10
   refine AllE_cons rfl rfl rfl ?_
   rintro _ _ ⟨rfl, rfl⟩
   refine AllE_cons rfl rfl rfl ?_
   rintro _ _ ⟨rfl, rfl⟩
   refine AllE_nil ?_
   intro hn3 hb3
   have hC8 := hC7.grow hB10
   obtain ⟨x4, hx1, hr1⟩ := bind_some hr1
   refine WA_tk 9 (by kernel_rfl) rfl rfl (fl_index Tryd.underlying54 ty5 g1 hx1 rfl rfl) ?_
   refine WL_index Tryd.underlying54 ty5 g1 hx1 rfl rfl rfl (fun b1 o1 h1 => ?_)
   refine WL_nil ?_
   refine WA_one 10 (by kernel_rfl) rfl ?_
   refine WL_load ty5 h1 hC8.keep rfl rfl (fun v1 h2 => ?_)
   obtain rfl := ro_u8 h2
   refine WL_nil ?_
   refine WA_tk 11 (by kernel_rfl) rfl rfl (fl_conv_int Tryd.underlying5 Tryd.underlying3 rfl) ?_
   refine WL_conv_i64 Tryd.underlying5 Tryd.underlying3 rfl rfl ?_
   refine WL_nil ?_
   refine WA_tk 12 (by kernel_rfl) rfl rfl (fl_add rfl rfl) ?_
   refine WL_add rfl rfl rfl ?_
   refine WL_nil ?_
   refine WA_tk 13 (by kernel_rfl) rfl rfl (fl_band rfl rfl) ?_
   refine WL_band rfl rfl rfl ?_
   refine WL_nil ?_
   refine WA_tk 14 (by kernel_rfl) rfl rfl (fl_assign rfl) ?_
   refine WL_assign rfl rfl ?_
   refine WL_nil ?_
   refine WA_done (by kernel_rfl) ?_
   refine nrm_normal (W_reg ?_)
   refine WL_move rfl rfl ?_
   refine WL_move rfl rfl ?_
   refine WL_nilCheck rfl rfl ?_
   refine WL_field Tryd.underlying108 rfl rfl (fun w => ⟨_, Tryd.sizeOf3 w⟩) rfl rfl ?_
   refine WL_load_box hC8 0 rfl rfl Tryd.isAgg3 rfl rfl ?_
   refine WL_add rfl rfl rfl ?_
   refine WL_nilCheck rfl rfl ?_
   refine WL_field Tryd.underlying108 rfl rfl (fun w => ⟨_, Tryd.sizeOf3 w⟩) rfl rfl ?_
   refine WL_store_boxK (cs' := [u1, (.int .i64 (w64 (a1.2.1 + 1))), (.int .i64 (w64 ((w64 (a1.2.2 * 6364136223846793005)) + 1442695040888963407)))]) hC8 0 rfl rfl rfl rfl Tryd.sizeOf3 rfl rfl (fun w13 hC9 hKp2 => ?_)
   try dsimp only [List.set] at hC9
   refine WL_nil ?_
   have hq1 := Option.some.inj hr1
   subst hq1
   refine nrm_sub (l' := [(3, (.int .i64 (band (w64 ((band (bxor (shr (w64 ((w64 (a1.2.2 * 6364136223846793005)) + 1442695040888963407)) 33) (shr (w64 ((w64 (a1.2.2 * 6364136223846793005)) + 1442695040888963407)) 45)) 255) + (w64 (UInt8.toNat x4 : Int)))) 255)))]) ⟨rfl, trivial⟩ ?_
   exact ⟨w64 (a1.2.1 + 1), w64 ((w64 (a1.2.2 * 6364136223846793005)) + 1442695040888963407), band (w64 ((band (bxor (shr (w64 ((w64 (a1.2.2 * 6364136223846793005)) + 1442695040888963407)) 33) (shr (w64 ((w64 (a1.2.2 * 6364136223846793005)) + 1442695040888963407)) 45)) 255) + (w64 (UInt8.toNat x4 : Int)))) 255, rfl, rfl, hC9⟩
  replace hr1 := ite_f hr1 hc1
  refine W_skip ?_
  have hq2 := Option.some.inj hr1
  subst hq2
  refine nrm_sub (l' := [(3, (.int .i64 (band (bxor (shr (w64 ((w64 (a1.2.2 * 6364136223846793005)) + 1442695040888963407)) 33) (shr (w64 ((w64 (a1.2.2 * 6364136223846793005)) + 1442695040888963407)) 45)) 255)))]) ⟨rfl, trivial⟩ ?_
  exact ⟨a1.2.1, w64 ((w64 (a1.2.2 * 6364136223846793005)) + 1442695040888963407), band (bxor (shr (w64 ((w64 (a1.2.2 * 6364136223846793005)) + 1442695040888963407)) 33) (shr (w64 ((w64 (a1.2.2 * 6364136223846793005)) + 1442695040888963407)) 45)) 255, rfl, rfl, hC5⟩
 rintro l1 _ w9 hs1 ⟨x1, x2, x3, rfl, rfl, hC6⟩
 try dsimp only at hF
 refine nrm_sub' hs1 ?_
 clear hs1
 refine W_seq_reg ?_
 refine WL_move rfl rfl ?_
 refine WL_assign rfl rfl ?_
 refine WL_nil (W_ret ?_)
 have hq3 := Option.some.inj hF
 subst hq3
 refine fn_ret1 rfl rfl ?_
 exact ⟨_, rfl, rfl, hC6⟩

theorem c_S_l1Below {w0 : World} {Fs : List (List Nat)} (pb1 : Nat) (a1 : ((List UInt8) × Int × Int)) (u1 : Value) (g1 : RO Fs.flatten w0 u1 a1.1) (a2 : Int) (hH : Hold [Item.box pb1 [u1, (.int .i64 a1.2.1), (.int .i64 a1.2.2)]] w0 Fs) (hn : Fs.flatten.Nodup) (rr : (Int × ((List UInt8) × Int × Int))) (hF : S.l1Below a1 a2 = some rr) :
 Calls Tryd.prog 64 [(ptr pb1 0), (.int .i64 a2)].toArray w0 fun e w' => ∃ v, e = .returned v ∧ v = (.int .i64 rr.1) ∧ Ctx Fs.flatten w0 w' [Item.box pb1 [u1, (.int .i64 rr.2.2.1), (.int .i64 rr.2.2.2)]] := by
 refine calls_of_W Tryd.func64 rfl rfl ?_
 have hC0 := Ctx.startIn hH hn
 unfold S.l1Below at hF
 refine W_seq_reg ?_
 refine WL_assign rfl rfl ?_
 refine WL_nil (W_seq (W_seq_reg ?_))
 refine WL_move rfl rfl ?_
 refine WL_leq rfl rfl rfl ?_
 refine WL_nil ?_
 refine W_cond rfl (fun hc1 => ?_) (fun hc1 => ?_)
 ·replace hF := ite_t hF hc1
  refine W_seq_reg ?_
  refine WL_assign rfl rfl ?_
  refine WL_nil (W_ret (nrm_ret ?_))
  have hq1 := Option.some.inj hF
  subst hq1
  refine fn_ret1 rfl rfl ?_
  exact ⟨_, rfl, rfl, hC0⟩
 replace hF := ite_f hF hc1
 refine W_skip (nrm_normal (W_seq (W_seq_reg ?_)))
 refine WL_move rfl rfl ?_
 refine WL_leq rfl rfl rfl ?_
 refine WL_nil ?_
 refine W_cond rfl (fun hc2 => ?_) (fun hc2 => ?_)
 ·replace hF := ite_t hF hc2
  refine W_seq_reg ?_
  refine WL_move rfl rfl ?_
  obtain ⟨x1, hr1, hF⟩ := bind_some hF
  obtain ⟨Fs1, hH1, hn1, hF1, hO1, hb1⟩ := Ctx.lend2 (As := []) [Item.box pb1 [u1, (.int .i64 a1.2.1), (.int .i64 a1.2.2)]] hC0
  refine WL_call Tryd.call83 rfl rfl (c_S_l1Byte pb1 (a1.1, a1.2.1, a1.2.2) u1 (RO.lent g1 hC0.keep hF1) hH1 hn1 x1 hr1) ?_
  rintro _ w1 ⟨rfl, hq2⟩
  have hC1 : Ctx Fs.flatten w0 w1 [Item.box pb1 [u1, (.int .i64 x1.2.2.1), (.int .i64 x1.2.2.2)]] := hb1 _ _ hq2
  refine WL_move rfl rfl ?_
  obtain ⟨_, hx1, hF⟩ := bind_some hF
  refine WL_rem (nz_some hx1) rfl rfl rfl ?_
  refine WL_assign rfl rfl ?_
  refine WL_nil (W_ret (nrm_ret ?_))
  have hq3 := Option.some.inj hF
  subst hq3
  refine fn_ret1 rfl rfl ?_
  exact ⟨_, rfl, rfl, hC1⟩
 replace hF := ite_f hF hc2
 refine W_skip (nrm_normal (W_seq_reg ?_))
 refine WL_move rfl rfl ?_
 obtain ⟨x2, hr2, hF⟩ := bind_some hF
 obtain ⟨Fs2, hH2, hn2, hF2, hO2, hb2⟩ := Ctx.lend2 (As := []) [Item.box pb1 [u1, (.int .i64 a1.2.1), (.int .i64 a1.2.2)]] hC0
 refine WL_call Tryd.call83 rfl rfl (c_S_l1Byte pb1 (a1.1, a1.2.1, a1.2.2) u1 (RO.lent g1 hC0.keep hF2) hH2 hn2 x2 hr2) ?_
 rintro _ w2 ⟨rfl, hq4⟩
 have hC2 : Ctx Fs.flatten w0 w2 [Item.box pb1 [u1, (.int .i64 x2.2.2.1), (.int .i64 x2.2.2.2)]] := hb2 _ _ hq4
 refine WL_assign rfl rfl ?_
 refine WL_nil (W_seq_reg ?_)
 refine WL_move rfl rfl ?_
 obtain ⟨x3, hr3, hF⟩ := bind_some hF
 obtain ⟨Fs3, hH3, hn3, hF3, hO3, hb3⟩ := Ctx.lend2 (As := []) [Item.box pb1 [u1, (.int .i64 x2.2.2.1), (.int .i64 x2.2.2.2)]] hC2
 refine WL_call Tryd.call83 rfl rfl (c_S_l1Byte pb1 (a1.1, x2.2.2.1, x2.2.2.2) u1 (RO.lent g1 hC2.keep hF3) hH3 hn3 x3 hr3) ?_
 rintro _ w3 ⟨rfl, hq5⟩
 have hC3 : Ctx Fs.flatten w0 w3 [Item.box pb1 [u1, (.int .i64 x3.2.2.1), (.int .i64 x3.2.2.2)]] := hb3 _ _ hq5
 refine WL_assign rfl rfl ?_
 refine WL_nil (W_seq_reg ?_)
 refine WL_move rfl rfl ?_
 obtain ⟨x4, hr4, hF⟩ := bind_some hF
 obtain ⟨Fs4, hH4, hn4, hF4, hO4, hb4⟩ := Ctx.lend2 (As := []) [Item.box pb1 [u1, (.int .i64 x3.2.2.1), (.int .i64 x3.2.2.2)]] hC3
 refine WL_call Tryd.call83 rfl rfl (c_S_l1Byte pb1 (a1.1, x3.2.2.1, x3.2.2.2) u1 (RO.lent g1 hC3.keep hF4) hH4 hn4 x4 hr4) ?_
 rintro _ w4 ⟨rfl, hq6⟩
 have hC4 : Ctx Fs.flatten w0 w4 [Item.box pb1 [u1, (.int .i64 x4.2.2.1), (.int .i64 x4.2.2.2)]] := hb4 _ _ hq6
 refine WL_assign rfl rfl ?_
 refine WL_nil (W_seq_reg ?_)
 refine WL_move rfl rfl ?_
 obtain ⟨x5, hr5, hF⟩ := bind_some hF
 obtain ⟨Fs5, hH5, hn5, hF5, hO5, hb5⟩ := Ctx.lend2 (As := []) [Item.box pb1 [u1, (.int .i64 x4.2.2.1), (.int .i64 x4.2.2.2)]] hC4
 refine WL_call Tryd.call83 rfl rfl (c_S_l1Byte pb1 (a1.1, x4.2.2.1, x4.2.2.2) u1 (RO.lent g1 hC4.keep hF5) hH5 hn5 x5 hr5) ?_
 rintro _ w5 ⟨rfl, hq7⟩
 have hC5 : Ctx Fs.flatten w0 w5 [Item.box pb1 [u1, (.int .i64 x5.2.2.1), (.int .i64 x5.2.2.2)]] := hb5 _ _ hq7
 refine WL_assign rfl rfl ?_
 refine WL_nil (W_seq_reg ?_)
 refine WL_move rfl rfl ?_
 refine WL_mul rfl rfl rfl ?_
 refine WL_move rfl rfl ?_
 refine WL_mul rfl rfl rfl ?_
 refine WL_add rfl rfl rfl ?_
 refine WL_move rfl rfl ?_
 refine WL_mul rfl rfl rfl ?_
 refine WL_add rfl rfl rfl ?_
 refine WL_move rfl rfl ?_
 refine WL_add rfl rfl rfl ?_
 refine WL_move rfl rfl ?_
 obtain ⟨_, hx2, hF⟩ := bind_some hF
 refine WL_rem (nz_some hx2) rfl rfl rfl ?_
 refine WL_assign rfl rfl ?_
 refine WL_nil (W_ret ?_)
 have hq8 := Option.some.inj hF
 subst hq8
 refine fn_ret1 rfl rfl ?_
 exact ⟨_, rfl, rfl, hC5⟩

theorem c_S_l1Once {w0 : World} {Fs : List (List Nat)} (pb1 : Nat) (a1 : ((List UInt8) × Int × Int)) (u1 : Value) (g1 : RO Fs.flatten w0 u1 a1.1) (a2 : Int) (hH : Hold [Item.box pb1 [u1, (.int .i64 a1.2.1), (.int .i64 a1.2.2)]] w0 Fs) (hn : Fs.flatten.Nodup) (rr : (Bool × ((List UInt8) × Int × Int))) (hF : S.l1Once a1 a2 = some rr) :
 Calls Tryd.prog 70 [(ptr pb1 0), (.int .i64 a2)].toArray w0 fun e w' => ∃ v, e = .returned v ∧ v = (.bool rr.1) ∧ Ctx Fs.flatten w0 w' [Item.box pb1 [u1, (.int .i64 rr.2.2.1), (.int .i64 rr.2.2.2)]] := by
 refine calls_of_W Tryd.func70 rfl rfl ?_
 have hC0 := Ctx.startIn hH hn
 unfold S.l1Once at hF
 refine W_seq_reg ?_
 refine WL_assign rfl rfl ?_
 refine WL_nil (W_seq_reg ?_)
 refine WL_move rfl rfl ?_
 refine WL_move rfl rfl ?_
 obtain ⟨x1, hr1, hF⟩ := bind_some hF
 obtain ⟨Fs1, hH1, hn1, hF1, hO1, hb1⟩ := Ctx.lend2 (As := []) [Item.box pb1 [u1, (.int .i64 a1.2.1), (.int .i64 a1.2.2)]] hC0
 refine WL_call Tryd.call64 rfl rfl (c_S_l1Below pb1 (a1.1, a1.2.1, a1.2.2) u1 (RO.lent g1 hC0.keep hF1) a2 hH1 hn1 x1 hr1) ?_
 rintro _ w1 ⟨rfl, hq1⟩
 have hC1 : Ctx Fs.flatten w0 w1 [Item.box pb1 [u1, (.int .i64 x1.2.2.1), (.int .i64 x1.2.2.2)]] := hb1 _ _ hq1
 refine WL_eql rfl rfl rfl ?_
 refine WL_assign rfl rfl ?_
 refine WL_nil (W_ret ?_)
 have hq2 := Option.some.inj hF
 subst hq2
 refine fn_ret1 rfl rfl ?_
 exact ⟨_, rfl, rfl, hC1⟩

theorem c_S_l2Schema {w0 : World} {Fs : List (List Nat)} (pb1 : Nat) (a1 : ((List UInt8) × Int × Int)) (u1 : Value) (g1 : RO Fs.flatten w0 u1 a1.1) (hH : Hold [Item.box pb1 [u1, (.int .i64 a1.2.1), (.int .i64 a1.2.2)]] w0 Fs) (hn : Fs.flatten.Nodup) (rr : ((List Int) × ((List UInt8) × Int × Int))) (hF : S.l2Schema a1 = some rr) :
 Calls Tryd.prog 67 [(ptr pb1 0)].toArray w0 fun e w' => ∃ v, e = .returned v ∧ ∃ q0 : Value, v = q0 ∧ Ctx Fs.flatten w0 w' [Item.own q0 (rr.1 : (List Int)), Item.box pb1 [u1, (.int .i64 rr.2.2.1), (.int .i64 rr.2.2.2)]] := by
 refine calls_of_W Tryd.func67 rfl rfl ?_
 have hC0 := Ctx.startIn hH hn
 unfold S.l2Schema at hF
 refine W_seq_reg ?_
 refine WL_assign rfl rfl ?_
 refine WL_nil (W_seq_reg ?_)
 refine WL_buildSlice (vs := []) hC0 Tryd.underlying22 ty3 rfl rfl rfl rfl (by simp) rfl rfl (fun b1 w1 hC1 hB1 => ?_)
 have hC2 := hC1.row0 (α := Int)
 have hC3 := hC2.front 1 rfl
 dsimp only [List.eraseIdx, List.cons_append, List.nil_append, List.append_nil] at hC3
 have hC4 : Ctx Fs.flatten w0 w1 (Item.own (.slice (some ⟨b1, 0, none⟩) 0 0) (([] : List Int) : List Int) :: [Item.box pb1 [u1, (.int .i64 a1.2.1), (.int .i64 a1.2.2)]]) := hC3.rowOwn (by simp [maxLen])
 refine WL_assign rfl rfl ?_
 refine WL_nil (W_seq (W_seq_reg ?_))
 refine WL_move rfl rfl ?_
 obtain ⟨x1, hr1, hF⟩ := bind_some hF
 have hC5 := hC4.f1
 obtain ⟨Fs1, hH1, hn1, hF1, hO1, hb1⟩ := Ctx.lend2 (As := [Item.own (.slice (some ⟨b1, 0, none⟩) 0 0) (([] : List Int) : (List Int))]) [Item.box pb1 [u1, (.int .i64 a1.2.1), (.int .i64 a1.2.2)]] hC5
 refine WL_call Tryd.call64 rfl rfl (c_S_l1Below pb1 (a1.1, a1.2.1, a1.2.2) u1 (RO.lent g1 hC5.keep hF1) 3 hH1 hn1 x1 hr1) ?_
 rintro _ w2 ⟨rfl, hq1⟩
 have hC6 : Ctx Fs.flatten w0 w2 [Item.box pb1 [u1, (.int .i64 x1.2.2.1), (.int .i64 x1.2.2.2)], Item.own (.slice (some ⟨b1, 0, none⟩) 0 0) (([] : List Int) : (List Int))] := hb1 _ _ hq1
 refine WL_add rfl rfl rfl ?_
 refine WL_assign rfl rfl ?_
 refine WL_nil ?_
 obtain ⟨r1, hr2, hF⟩ := bind_some hF
 refine W_norm (fun l w => ∃ x6 : Int, ∃ x7 : Int, ∃ v2 : Value, ∃ x8 : (List Int), (x6, x7, x8) = r1 ∧ l = [(3, v2)] ∧ Ctx Fs.flatten w0 w [Item.box pb1 [u1, (.int .i64 x6), (.int .i64 x7)], Item.own v2 (x8 : (List Int))]) ?_ ?_
 ·refine W_block ?_
  refine W.sub (l' := [(0, (ptr pb1 0)), (3, (.slice (some ⟨b1, 0, none⟩) 0 0)), (4, (.int .i64 (w64 (1 + x1.1))))]) ?_ ⟨rfl, rfl, rfl, trivial⟩
  refine W_loop (fun k l w => ∃ x2 : Int, ∃ x3 : Int, ∃ v1 : Value, ∃ x4 : (List Int), ∃ x5 : Int, l = [(0, (ptr pb1 0)), (3, v1), (4, (.int .i64 x5))] ∧ Ctx Fs.flatten w0 w [Item.box pb1 [u1, (.int .i64 x2), (.int .i64 x3)], Item.own v1 (x4 : (List Int))] ∧ S.l2Schema_l1 a1 k x2 x3 x4 x5 = some r1) FUEL ⟨x1.2.2.1, x1.2.2.2, (.slice (some ⟨b1, 0, none⟩) 0 0), ([] : List Int), w64 (1 + x1.1), rfl, hC6, hr2⟩ ?_
  clear hr2
  rintro k1 _ w3 ⟨x2, x3, v1, x4, x5, rfl, hC7, hL1⟩
  cases k1 with
  | zero => rw [S.l2Schema_l1] at hL1; cases hL1
  | succ k1 =>
   rw [S.l2Schema_l1] at hL1
   refine W_seq (W_seq_reg ?_)
   refine WL_move rfl rfl ?_
   refine WL_gtr rfl rfl rfl ?_
   refine WL_nil ?_
   refine W_cond rfl (fun hc1 => ?_) (fun hc1 => ?_)
   ·replace hL1 := ite_t hL1 hc1
    refine W_skip (nrm_normal (W_seq (W_block (W_seq_reg ?_))))
    refine WL_move rfl rfl ?_
    obtain ⟨x9, hr3, hL1⟩ := bind_some hL1
    obtain ⟨Fs2, hH2, hn2, hF2, hO2, hb2⟩ := Ctx.lend2 (As := [Item.own v1 (x4 : (List Int))]) [Item.box pb1 [u1, (.int .i64 x2), (.int .i64 x3)]] hC7
    refine WL_call Tryd.call64 rfl rfl (c_S_l1Below pb1 (a1.1, x2, x3) u1 (RO.lent g1 hC7.keep hF2) 2 hH2 hn2 x9 hr3) ?_
    rintro _ w4 ⟨rfl, hq2⟩
    have hC8 : Ctx Fs.flatten w0 w4 [Item.box pb1 [u1, (.int .i64 x9.2.2.1), (.int .i64 x9.2.2.2)], Item.own v1 (x4 : (List Int))] := hb2 _ _ hq2
    refine WL_add rfl rfl rfl ?_
    refine WL_assign rfl rfl ?_
    refine WL_nil (W_seq (W_seq_reg ?_))
    refine WL_move rfl rfl ?_
    obtain ⟨x10, hr4, hL1⟩ := bind_some hL1
    obtain ⟨Fs3, hH3, hn3, hF3, hO3, hb3⟩ := Ctx.lend2 (As := [Item.own v1 (x4 : (List Int))]) [Item.box pb1 [u1, (.int .i64 x9.2.2.1), (.int .i64 x9.2.2.2)]] hC8
    refine WL_call Tryd.call70 rfl rfl (c_S_l1Once pb1 (a1.1, x9.2.2.1, x9.2.2.2) u1 (RO.lent g1 hC8.keep hF3) 4 hH3 hn3 x10 hr4) ?_
    rintro _ w5 ⟨rfl, hq3⟩
    have hC9 : Ctx Fs.flatten w0 w5 [Item.box pb1 [u1, (.int .i64 x10.2.2.1), (.int .i64 x10.2.2.2)], Item.own v1 (x4 : (List Int))] := hb3 _ _ hq3
    refine WL_nil ?_
    obtain ⟨r2, hr5, hL1⟩ := bind_some hL1
    refine W_norm (fun l w => ∃ x11 : Int, x11 = r2 ∧ l = [(0, (ptr pb1 0)), (3, v1), (4, (.int .i64 x5)), (5, (.int .i64 x11))] ∧ Below w5.heap.size w5 w ∧ Ctx Fs.flatten w0 w [Item.box pb1 [u1, (.int .i64 x10.2.2.1), (.int .i64 x10.2.2.2)], Item.own v1 (x4 : (List Int))]) ?_ ?_
    ·refine W_cond rfl (fun hc2 => ?_) (fun hc2 => ?_)
     ·replace hr5 := ite_t hr5 hc2
      refine W_reg ?_
      refine WL_assign rfl rfl ?_
      refine WL_nil ?_
      have hq4 := Option.some.inj hr5
      subst hq4
      refine nrm_sub (l' := [(0, (ptr pb1 0)), (3, v1), (4, (.int .i64 x5)), (5, (.int .i64 3))]) ⟨rfl, rfl, rfl, rfl, trivial⟩ ?_
      exact ⟨3, rfl, rfl, (Below.refl _ _), hC9⟩
     replace hr5 := ite_f hr5 hc2
     refine W_skip ?_
     have hq5 := Option.some.inj hr5
     subst hq5
     refine nrm_sub (l' := [(0, (ptr pb1 0)), (3, v1), (4, (.int .i64 x5)), (5, (.int .i64 (w64 (1 + x9.1))))]) ⟨rfl, rfl, rfl, rfl, trivial⟩ ?_
     exact ⟨w64 (1 + x9.1), rfl, rfl, (Below.refl _ _), hC9⟩
    rintro l2 _ w6 hs2 ⟨x11, rfl, rfl, hB3, hC10⟩
    try dsimp only at hL1
    refine nrm_sub' hs2 ?_
    clear hs2
    refine W_reg ?_
    refine WL_move rfl rfl ?_
    refine WL_move rfl rfl ?_
    refine WL_buildSlice (vs := [(.int .i64 x11)]) hC10 Tryd.underlying22 ty3 rfl rfl rfl rfl (by intro v hv; simp only [List.mem_cons, List.not_mem_nil, or_false] at hv; rcases hv with rfl <;> rfl) rfl rfl (fun b2 w7 hC11 hB4 => ?_)
    have hC12 := hC11.row0 (α := Int)
    have hC13 := hC12.triv (int_val (x11))
    have hC14 := hC13.row1
    have hC15 := hC14.front 1 rfl
    dsimp only [List.eraseIdx, List.cons_append, List.nil_append, List.append_nil] at hC15
    have hC16 : Ctx Fs.flatten w0 w7 (Item.own (.slice (some ⟨b2, 0, none⟩) 1 1) ([x11] : List Int) :: [Item.box pb1 [u1, (.int .i64 x10.2.2.1), (.int .i64 x10.2.2.2)], Item.own v1 (x4 : (List Int))]) := hC15.rowOwn (by simp [maxLen])
    obtain ⟨x12, hx1, hL1⟩ := bind_some hL1
    refine WL_append_flat (α := Int) hC16 2 rfl (hC16.ro 0 rfl) (Keep.refl _ _) Tryd.underlying22 ty3 rfl hx1 rfl rfl rfl (fun v3 w9 hC17 => ?_)
    try dsimp only [List.set] at hC17
    refine WL_assign rfl rfl ?_
    refine WL_nil (blk_normal (nrm_normal (W_reg ?_)))
    refine WL_move rfl rfl ?_
    refine WL_sub rfl rfl rfl ?_
    refine WL_assign rfl rfl ?_
    refine WL_nil ?_
    have hC18 := hC17.f2
    have hC19 := hC18.f2
    have hC20 := hC19.h2
    refine nrm_sub (l' := [(0, (ptr pb1 0)), (3, v3), (4, (.int .i64 (w64 (x5 - 1))))]) ⟨rfl, rfl, rfl, trivial⟩ ?_
    exact ⟨k1, Nat.lt_succ_self _, x10.2.2.1, x10.2.2.2, v3, x12, w64 (x5 - 1), rfl, hC20, hL1⟩
   replace hL1 := ite_f hL1 hc1
   refine W_exit (nrm_exit (nrm_exit (blk_exit ?_)))
   have hq6 := Option.some.inj hL1
   subst hq6
   refine nrm_sub (l' := [(3, v1)]) ⟨rfl, trivial⟩ ?_
   exact ⟨x2, x3, v1, x4, rfl, rfl, hC7⟩
 rintro l3 _ w10 hs3 ⟨x6, x7, v2, x8, rfl, rfl, hC21⟩
 try dsimp only at hF
 refine nrm_sub' hs3 ?_
 clear hs3
 refine W_seq_reg ?_
 refine WL_move rfl rfl ?_
 refine WL_assign rfl rfl ?_
 refine WL_nil (W_ret ?_)
 have hq7 := Option.some.inj hF
 subst hq7
 refine fn_ret1 rfl rfl ?_
 have hC22 := hC21.f1
 exact ⟨_, rfl, _, rfl, hC22⟩

theorem c_S_IsSchema {w0 : World} (a1 : (List Int)) (u1 : Value) (g1 : RO [] w0 u1 a1) (rr : Bool) (hF : S.IsSchema a1 = some rr) :
 Calls Tryd.prog 85 [u1].toArray w0 fun e w' => ∃ v, e = .returned v ∧ Res w0 rr v w' := by
 refine calls_of_W Tryd.func85 rfl rfl ?_
 have hC0 := Ctx.start w0
 unfold S.IsSchema at hF
 refine W_seq_reg ?_
 refine WL_assign rfl rfl ?_
 refine WL_nil (W_seq (W_seq_reg ?_))
 refine WL_assign rfl rfl ?_
 refine WL_nil ?_
 obtain ⟨r1, hr1, hF⟩ := bind_some hF
 refine W_norm (fun l w => .inl () = r1 ∧ l = [(0, u1)] ∧ Below w0.heap.size w0 w ∧ Ctx [] w0 w []) ?_ ?_
 ·refine W_block ?_
  refine W.sub (l' := [(0, u1), (3, (.int .i64 0))]) ?_ ⟨rfl, rfl, trivial⟩
  refine W_loop (fun k l w => ∃ x1 : Int, l = [(0, u1), (3, (.int .i64 x1))] ∧ Below w0.heap.size w0 w ∧ Ctx [] w0 w [] ∧ S.IsSchema_l1 a1 k x1 = some r1) FUEL ⟨0, rfl, (Below.refl _ _), hC0, hr1⟩ ?_
  clear hr1
  rintro k1 _ w1 ⟨x1, rfl, hB1, hC1, hL1⟩
  cases k1 with
  | zero => rw [S.IsSchema_l1] at hL1; cases hL1
  | succ k1 =>
   rw [S.IsSchema_l1] at hL1
   refine W_seq (W_seq_reg ?_)
   refine WL_move rfl rfl ?_
   refine WL_move rfl rfl ?_
   refine WL_len Tryd.underlying22 g1 rfl rfl ?_
   refine WL_lss rfl rfl rfl ?_
   refine WL_nil ?_
   refine W_cond rfl (fun hc1 => ?_) (fun hc1 => ?_)
   ·replace hL1 := ite_t hL1 hc1
    refine W_skip (nrm_normal (W_seq (W_block (W_seq_reg ?_))))
    refine WL_move rfl rfl ?_
    refine WL_move rfl rfl ?_
    obtain ⟨x2, hx1, hL1⟩ := bind_some hL1
    refine WL_index Tryd.underlying22 ty3 g1 hx1 rfl rfl rfl (fun b1 o1 h1 => ?_)
    refine WL_load ty3 h1 hC1.keep rfl rfl (fun v1 h2 => ?_)
    obtain rfl := ro_int h2
    obtain ⟨x3, hr2, hL1⟩ := bind_some hL1
    refine WL_call Tryd.call40 rfl rfl (c_S_l1In x2 1 3 x3 hr2) ?_
    intro _ w2 hv1
    obtain ⟨rfl, hB2⟩ := res_bool hv1
    have hC2 := hC1.grow hB2
    refine WL_not rfl rfl ?_
    refine WL_nil ?_
    refine W_cond rfl (fun hc2 => ?_) (fun hc2 => ?_)
    ·replace hL1 := ite_t hL1 hc2
     refine W_seq_reg ?_
     refine WL_assign rfl rfl ?_
     refine WL_nil (W_ret (blk_ret (nrm_ret (nrm_ret (blk_ret (nrm_ret (nrm_ret ?_)))))))
     have hq1 := Option.some.inj hL1
     subst hq1
     dsimp only at hF
     have hq2 := Option.some.inj hF
     subst hq2
     refine fn_ret1 rfl rfl ?_
     exact ⟨_, rfl, bool_res hC2 _⟩
    replace hL1 := ite_f hL1 hc2
    refine W_skip (blk_normal (nrm_normal (W_reg ?_)))
    refine WL_move rfl rfl ?_
    refine WL_add rfl rfl rfl ?_
    refine WL_assign rfl rfl ?_
    refine WL_nil ?_
    refine nrm_sub (l' := [(0, u1), (3, (.int .i64 (w64 (x1 + 1))))]) ⟨rfl, rfl, trivial⟩ ?_
    exact ⟨k1, Nat.lt_succ_self _, w64 (x1 + 1), rfl, ((Keep.of hB1).then hB2).below, hC2, hL1⟩
   replace hL1 := ite_f hL1 hc1
   refine W_exit (nrm_exit (nrm_exit (blk_exit ?_)))
   have hq3 := Option.some.inj hL1
   subst hq3
   refine nrm_sub (l' := [(0, u1)]) ⟨rfl, trivial⟩ ?_
   exact ⟨rfl, rfl, (Keep.of hB1).below, hC1⟩
 rintro l2 _ w3 hs2 ⟨rfl, rfl, hB3, hC3⟩
 try dsimp only at hF
 refine nrm_sub' hs2 ?_
 clear hs2
 refine W_seq_reg ?_
 refine WL_move rfl rfl ?_
 refine WL_len Tryd.underlying22 g1 rfl rfl ?_
 obtain ⟨x4, hr3, hF⟩ := bind_some hF
 refine WL_call Tryd.call40 rfl rfl (c_S_l1In (List.length a1 : Int) 1 3 x4 hr3) ?_
 intro _ w4 hv2
 obtain ⟨rfl, hB4⟩ := res_bool hv2
 have hC4 := hC3.grow hB4
 refine WL_assign rfl rfl ?_
 refine WL_nil (W_ret ?_)
 have hq4 := Option.some.inj hF
 subst hq4
 refine fn_ret1 rfl rfl ?_
 exact ⟨_, rfl, bool_res hC4 _⟩

theorem c_S_CompareFacts {w0 : World} (a1 : (Int × (List Int))) (u1 : Value) (g1 : RO [] w0 u1 a1.2) (a2 : (Int × (List Int))) (u2 : Value) (g2 : RO [] w0 u2 a2.2) (rr : Int) (hF : S.CompareFacts a1 a2 = some rr) :
 Calls Tryd.prog 69 [(.agg #[(.int .i64 a1.1), u1]), (.agg #[(.int .i64 a2.1), u2])].toArray w0 fun e w' => ∃ v, e = .returned v ∧ Res w0 rr v w' := by
 refine calls_of_W Tryd.func69 rfl rfl ?_
 have hC0 := Ctx.start w0
 unfold S.CompareFacts at hF
 refine W_seq_reg ?_
 refine WL_boxK (cs := [(.int .i64 a1.1), u1]) hC0 rfl rfl rfl (fun b1 w1 hC1 hB1 hN1 => ?_)
 refine WL_boxK (cs := [(.int .i64 a2.1), u2]) hC1 rfl rfl rfl (fun b2 w2 hC2 hB2 hN2 => ?_)
 refine WL_assign rfl rfl ?_
 refine WL_nil (W_seq (W_seq_reg ?_))
 refine WL_field Tryd.underlying72 rfl rfl (fun w => ⟨_, Tryd.sizeOf3 w⟩) rfl rfl ?_
 refine WL_load_box hC2 1 rfl rfl Tryd.isAgg3 rfl rfl ?_
 refine WL_field Tryd.underlying72 rfl rfl (fun w => ⟨_, Tryd.sizeOf3 w⟩) rfl rfl ?_
 refine WL_load_box hC2 0 rfl rfl Tryd.isAgg3 rfl rfl ?_
 refine WL_neq rfl rfl rfl ?_
 refine WL_nil ?_
 refine W_cond rfl (fun hc1 => ?_) (fun hc1 => ?_)
 ·replace hF := ite_t hF hc1
  refine W_seq (W_seq_reg ?_)
  refine WL_field Tryd.underlying72 rfl rfl (fun w => ⟨_, Tryd.sizeOf3 w⟩) rfl rfl ?_
  refine WL_load_box hC2 1 rfl rfl Tryd.isAgg3 rfl rfl ?_
  refine WL_field Tryd.underlying72 rfl rfl (fun w => ⟨_, Tryd.sizeOf3 w⟩) rfl rfl ?_
  refine WL_load_box hC2 0 rfl rfl Tryd.isAgg3 rfl rfl ?_
  refine WL_lss rfl rfl rfl ?_
  refine WL_nil ?_
  refine W_cond rfl (fun hc2 => ?_) (fun hc2 => ?_)
  ·replace hF := ite_t hF hc2
   refine W_seq_reg ?_
   refine WL_assign rfl rfl ?_
   refine WL_nil (W_ret (nrm_ret (nrm_ret ?_)))
   have hq1 := Option.some.inj hF
   subst hq1
   refine fn_ret1 rfl rfl ?_
   exact ⟨_, rfl, int_res hC2 _⟩
  replace hF := ite_f hF hc2
  refine W_skip (nrm_normal (W_seq_reg ?_))
  refine WL_assign rfl rfl ?_
  refine WL_nil (W_ret (nrm_ret ?_))
  have hq2 := Option.some.inj hF
  subst hq2
  refine fn_ret1 rfl rfl ?_
  exact ⟨_, rfl, int_res hC2 _⟩
 replace hF := ite_f hF hc1
 refine W_skip (nrm_normal (W_seq (W_seq_reg ?_)))
 refine WL_assign rfl rfl ?_
 refine WL_nil ?_
 obtain ⟨r1, hr1, hF⟩ := bind_some hF
 refine W_norm (fun l w => .inl () = r1 ∧ l = [(2, (ptr b1 0)), (3, (ptr b2 0))] ∧ Below w2.heap.size w2 w ∧ Ctx [] w0 w [Item.box b2 [(.int .i64 a2.1), u2], Item.box b1 [(.int .i64 a1.1), u1]]) ?_ ?_
 ·refine W_block ?_
  refine W.sub (l' := [(2, (ptr b1 0)), (3, (ptr b2 0)), (5, (.int .i64 0))]) ?_ ⟨rfl, rfl, rfl, trivial⟩
  refine W_loop (fun k l w => ∃ x1 : Int, l = [(2, (ptr b1 0)), (3, (ptr b2 0)), (5, (.int .i64 x1))] ∧ Below w2.heap.size w2 w ∧ Ctx [] w0 w [Item.box b2 [(.int .i64 a2.1), u2], Item.box b1 [(.int .i64 a1.1), u1]] ∧ S.CompareFacts_l1 a1 a2 k x1 = some r1) FUEL ⟨0, rfl, (Below.refl _ _), hC2, hr1⟩ ?_
  clear hr1
  rintro k1 _ w3 ⟨x1, rfl, hB3, hC3, hL1⟩
  cases k1 with
  | zero => rw [S.CompareFacts_l1] at hL1; cases hL1
  | succ k1 =>
   rw [S.CompareFacts_l1] at hL1
   refine W_seq ?_
   obtain ⟨r2, hr2, hL1⟩ := bind_some hL1
   refine W_cut (fun l w => ∃ x2 : Bool, x2 = r2 ∧ l = [(2, (ptr b1 0)), (3, (ptr b2 0)), (5, (.int .i64 x1)), (27, (.bool x2))] ∧ Below w3.heap.size w3 w ∧ Ctx [] w0 w [Item.box b2 [(.int .i64 a2.1), u2], Item.box b1 [(.int .i64 a1.1), u1]]) ?_ ?_
   ·refine W_reg ?_
    refine WL_move rfl rfl ?_
    refine WL_field Tryd.underlying72 rfl rfl (fun w => ⟨_, Tryd.sizeOf22 w⟩) rfl rfl ?_
    refine WL_load_box hC3 1 rfl rfl Tryd.isAgg22 rfl rfl ?_
    refine WL_len Tryd.underlying22 g1 rfl rfl ?_
    refine WL_lss rfl rfl rfl ?_
    refine WL_move rfl rfl ?_
    refine WL_fork (fun hc3 => ?_) (fun hc3 => ?_)
    ·replace hr2 := ite_t hr2 hc3
     refine WL_guard rfl rfl ?_
     refine WL_move rfl rfl ?_
     refine WL_guard rfl rfl ?_
     refine WL_field Tryd.underlying72 rfl rfl (fun w => ⟨_, Tryd.sizeOf22 w⟩) rfl rfl ?_
     refine WL_guard rfl rfl ?_
     refine WL_load_box hC3 0 rfl rfl Tryd.isAgg22 rfl rfl ?_
     refine WL_guard rfl rfl ?_
     refine WL_len Tryd.underlying22 g2 rfl rfl ?_
     refine WL_guard rfl rfl ?_
     refine WL_lss rfl rfl rfl ?_
     refine WL_pick_t rfl rfl rfl ?_
     refine WL_nil ?_
     have hq3 := Option.some.inj hr2
     subst hq3
     refine nrm_sub (l' := [(2, (ptr b1 0)), (3, (ptr b2 0)), (5, (.int .i64 x1)), (27, (.bool (decide (x1 < (List.length a2.2 : Int)))))]) ⟨rfl, rfl, rfl, rfl, trivial⟩ ?_
     exact ⟨(decide (x1 < (List.length a2.2 : Int))), rfl, rfl, (Below.refl _ _), hC3⟩
    replace hr2 := ite_f hr2 hc3
    refine WL_guard_skip rfl rfl (by simp) rfl ?_
    refine WL_guard_skip rfl rfl (by simp) rfl ?_
    refine WL_guard_skip rfl rfl (by simp) rfl ?_
    refine WL_guard_skip rfl rfl (by simp) rfl ?_
    refine WL_guard_skip rfl rfl (by simp) rfl ?_
    refine WL_pick_f rfl rfl rfl ?_
    refine WL_nil ?_
    have hq4 := Option.some.inj hr2
    subst hq4
    refine nrm_sub (l' := [(2, (ptr b1 0)), (3, (ptr b2 0)), (5, (.int .i64 x1)), (27, (.bool false))]) ⟨rfl, rfl, rfl, rfl, trivial⟩ ?_
    exact ⟨false, rfl, rfl, (Below.refl _ _), hC3⟩
   rintro _ w4 ⟨x2, rfl, rfl, hB4, hC4⟩
   try dsimp only at hL1
   refine W_cond rfl (fun hc4 => ?_) (fun hc4 => ?_)
   ·replace hL1 := ite_t hL1 hc4
    refine W_skip (nrm_normal (W_seq (W_block (W_seq (W_seq ?_)))))
    refine W_drawn 11 rfl hmix (fun w5 hB5 => ?_)
    have hC5 := hC4.grow hB5
    refine WA_tk 0 (by kernel_rfl) rfl rfl (fl_field Tryd.underlying72 rfl rfl (fun w => ⟨_, Tryd.sizeOf22 w⟩) rfl) ?_
    refine WL_field Tryd.underlying72 rfl rfl (fun w => ⟨_, Tryd.sizeOf22 w⟩) rfl rfl ?_
    refine WL_nil ?_
    refine WA_tk 2 (by kernel_rfl) rfl rfl (fl_move rfl) ?_
    refine WL_move rfl rfl ?_
    refine WL_nil ?_
    refine WA_tk 5 (by kernel_rfl) rfl rfl (fl_field Tryd.underlying72 rfl rfl (fun w => ⟨_, Tryd.sizeOf22 w⟩) rfl) ?_
    refine WL_field Tryd.underlying72 rfl rfl (fun w => ⟨_, Tryd.sizeOf22 w⟩) rfl rfl ?_
    refine WL_nil ?_
    refine WA_tk 7 (by kernel_rfl) rfl rfl (fl_move rfl) ?_
    refine WL_move rfl rfl ?_
    refine WL_nil ?_
    obtain ⟨x3, hx1, hL1⟩ := bind_some hL1
    obtain ⟨x4, hx2, hL1⟩ := bind_some hL1
    refine WA.sub (l' := [(2, (ptr b1 0)), (3, (ptr b2 0)), (5, (.int .i64 x1)), (27, (.bool x2)), (30, (ptr b1 1)), (32, (.int .i64 x1)), (35, (ptr b2 1)), (37, (.int .i64 x1))]) ?_ ⟨rfl, rfl, rfl, rfl, rfl, rfl, rfl, rfl, trivial⟩
    refine WA_postsE [⟨1, [], fun vs => PW.val u1, []⟩, ⟨3, [], fun vs => PW.at [] w0 x3, []⟩, ⟨4, [], fun vs => PW.val (.int .i64 x3), []⟩, ⟨6, [], fun vs => PW.val u2, []⟩, ⟨8, [], fun vs => PW.at [] w0 x4, []⟩, ⟨9, [], fun vs => PW.val (.int .i64 x4), []⟩] [[], [1], [3], [], [6], [8]] 1 rfl (by kernel_rfl) (by kernel_rfl) rfl ?_ ?_
    ·refine StepsE_cons rfl ?_ ?_
     ·intro w6 hB6
      refine DepsE_nil ?_
      refine ⟨_, rfl, ?_⟩
      refine WL_load_box (hC5.grow hB6) 1 rfl rfl Tryd.isAgg22 rfl rfl ?_
      refine WL_nil ?_
      exact FinE_val (Below.refl _ _) rfl rfl ⟨rfl, rfl⟩
     refine StepsE_cons rfl ?_ ?_
     ·intro w6 hB6
      refine DepsE_cons rfl rfl rfl ?_
      rintro _ _ ⟨rfl, rfl⟩ _
      refine DepsE_nil ?_
      refine ⟨_, rfl, ?_⟩
      refine WL_index Tryd.underlying22 ty3 g1 hx1 rfl rfl rfl (fun b3 o1 h1 => ?_)
      refine WL_nil ?_
      exact FinE_val (Below.refl _ _) rfl rfl ⟨rfl, _, _, rfl, h1⟩
     refine StepsE_cons rfl ?_ ?_
     ·intro w6 hB6
      refine DepsE_cons rfl rfl rfl ?_
      rintro _ _ ⟨rfl, b3, o1, rfl, h1⟩ _
      refine DepsE_nil ?_
      refine ⟨_, rfl, ?_⟩
      refine WL_load ty3 h1 (hC5.keep.then hB6) rfl rfl (fun v1 h2 => ?_)
      obtain rfl := ro_int h2
      refine WL_nil ?_
      exact FinE_val (Below.refl _ _) rfl rfl ⟨rfl, rfl⟩
     refine StepsE_cons rfl ?_ ?_
     ·intro w6 hB6
      refine DepsE_nil ?_
      refine ⟨_, rfl, ?_⟩
      refine WL_load_box (hC5.grow hB6) 0 rfl rfl Tryd.isAgg22 rfl rfl ?_
      refine WL_nil ?_
      exact FinE_val (Below.refl _ _) rfl rfl ⟨rfl, rfl⟩
     refine StepsE_cons rfl ?_ ?_
     ·intro w6 hB6
      refine DepsE_cons rfl rfl rfl ?_
      rintro _ _ ⟨rfl, rfl⟩ _
      refine DepsE_nil ?_
      refine ⟨_, rfl, ?_⟩
      refine WL_index Tryd.underlying22 ty3 g2 hx2 rfl rfl rfl (fun b4 o2 h3 => ?_)
      refine WL_nil ?_
      exact FinE_val (Below.refl _ _) rfl rfl ⟨rfl, _, _, rfl, h3⟩
     refine StepsE_cons rfl ?_ ?_
     ·intro w6 hB6
      refine DepsE_cons rfl rfl rfl ?_
      rintro _ _ ⟨rfl, b4, o2, rfl, h3⟩ _
      refine DepsE_nil ?_
      refine ⟨_, rfl, ?_⟩
      refine WL_load ty3 h3 (hC5.keep.then hB6) rfl rfl (fun v2 h4 => ?_)
      obtain rfl := ro_int h4
      refine WL_nil ?_
      exact FinE_val (Below.refl _ _) rfl rfl ⟨rfl, rfl⟩
     exact StepsE_nil
    intro w7 hB7
    refine AllE_cons rfl rfl rfl ?_
    rintro _ _ ⟨rfl, rfl⟩
    refine AllE_cons rfl rfl rfl ?_
    rintro _ _ ⟨rfl, b3, o1, rfl, h1⟩
    refine AllE_cons rfl rfl rfl ?_
    rintro _ _ ⟨rfl, rfl⟩
    refine AllE_cons rfl rfl rfl ?_
    rintro _ _ ⟨rfl, rfl⟩
    refine AllE_cons rfl rfl rfl ?_
    rintro _ _ ⟨rfl, b4, o2, rfl, h3⟩
    refine AllE_cons rfl rfl rfl ?_
    rintro _ _ ⟨rfl, rfl⟩
    refine AllE_nil ?_
    intro hn1 hb1
    have hC6 := hC5.grow hB7
    refine WA_tk 10 (by kernel_rfl) rfl rfl (fl_lss rfl rfl) ?_
    refine WL_lss rfl rfl rfl ?_
    refine WL_nil ?_
    refine WA_done (by kernel_rfl) ?_
    refine nrm_normal ?_
    refine W_cond rfl (fun hc5 => ?_) (fun hc5 => ?_)
    ·replace hL1 := ite_t hL1 hc5
     refine W_seq_reg ?_
     refine WL_assign rfl rfl ?_
     refine WL_nil (W_ret (nrm_ret (blk_ret (nrm_ret (nrm_ret (blk_ret (nrm_ret (nrm_ret ?_))))))))
     have hq5 := Option.some.inj hL1
     subst hq5
     dsimp only at hF
     have hq6 := Option.some.inj hF
     subst hq6
     refine fn_ret1 rfl rfl ?_
     exact ⟨_, rfl, int_res hC6 _⟩
    replace hL1 := ite_f hL1 hc5
    refine W_skip (nrm_normal (W_seq ?_))
    refine W_drawn 11 rfl hmix (fun w9 hB8 => ?_)
    have hC7 := hC6.grow hB8
    refine WA_tk 0 (by kernel_rfl) rfl rfl (fl_field Tryd.underlying72 rfl rfl (fun w => ⟨_, Tryd.sizeOf22 w⟩) rfl) ?_
    refine WL_field Tryd.underlying72 rfl rfl (fun w => ⟨_, Tryd.sizeOf22 w⟩) rfl rfl ?_
    refine WL_nil ?_
    refine WA_tk 2 (by kernel_rfl) rfl rfl (fl_move rfl) ?_
    refine WL_move rfl rfl ?_
    refine WL_nil ?_
    refine WA_tk 5 (by kernel_rfl) rfl rfl (fl_field Tryd.underlying72 rfl rfl (fun w => ⟨_, Tryd.sizeOf22 w⟩) rfl) ?_
    refine WL_field Tryd.underlying72 rfl rfl (fun w => ⟨_, Tryd.sizeOf22 w⟩) rfl rfl ?_
    refine WL_nil ?_
    refine WA_tk 7 (by kernel_rfl) rfl rfl (fl_move rfl) ?_
    refine WL_move rfl rfl ?_
    refine WL_nil ?_
    obtain ⟨x5, hx3, hL1⟩ := bind_some hL1
    obtain ⟨x6, hx4, hL1⟩ := bind_some hL1
    refine WA.sub (l' := [(2, (ptr b1 0)), (3, (ptr b2 0)), (5, (.int .i64 x1)), (27, (.bool x2)), (30, (ptr b1 1)), (31, u1), (32, (.int .i64 x1)), (33, (ptr b3 o1)), (34, (.int .i64 x3)), (35, (ptr b2 1)), (36, u2), (37, (.int .i64 x1)), (38, (ptr b4 o2)), (39, (.int .i64 x4)), (40, (.bool (decide (x3 < x4)))), (41, (ptr b1 1)), (43, (.int .i64 x1)), (46, (ptr b2 1)), (48, (.int .i64 x1))]) ?_ ⟨rfl, rfl, rfl, rfl, rfl, rfl, rfl, rfl, rfl, rfl, rfl, rfl, rfl, rfl, rfl, rfl, rfl, rfl, rfl, trivial⟩
    refine WA_postsE [⟨1, [], fun vs => PW.val u1, []⟩, ⟨3, [], fun vs => PW.at [] w0 x5, []⟩, ⟨4, [], fun vs => PW.val (.int .i64 x5), []⟩, ⟨6, [], fun vs => PW.val u2, []⟩, ⟨8, [], fun vs => PW.at [] w0 x6, []⟩, ⟨9, [], fun vs => PW.val (.int .i64 x6), []⟩] [[], [1], [3], [], [6], [8]] 1 rfl (by kernel_rfl) (by kernel_rfl) rfl ?_ ?_
    ·refine StepsE_cons rfl ?_ ?_
     ·intro w10 hB9
      refine DepsE_nil ?_
      refine ⟨_, rfl, ?_⟩
      refine WL_load_box (hC7.grow hB9) 1 rfl rfl Tryd.isAgg22 rfl rfl ?_
      refine WL_nil ?_
      exact FinE_val (Below.refl _ _) rfl rfl ⟨rfl, rfl⟩
     refine StepsE_cons rfl ?_ ?_
     ·intro w10 hB9
      refine DepsE_cons rfl rfl rfl ?_
      rintro _ _ ⟨rfl, rfl⟩ _
      refine DepsE_nil ?_
      refine ⟨_, rfl, ?_⟩
      refine WL_index Tryd.underlying22 ty3 g1 hx3 rfl rfl rfl (fun b5 o3 h5 => ?_)
      refine WL_nil ?_
      exact FinE_val (Below.refl _ _) rfl rfl ⟨rfl, _, _, rfl, h5⟩
     refine StepsE_cons rfl ?_ ?_
     ·intro w10 hB9
      refine DepsE_cons rfl rfl rfl ?_
      rintro _ _ ⟨rfl, b5, o3, rfl, h5⟩ _
      refine DepsE_nil ?_
      refine ⟨_, rfl, ?_⟩
      refine WL_load ty3 h5 (hC7.keep.then hB9) rfl rfl (fun v3 h6 => ?_)
      obtain rfl := ro_int h6
      refine WL_nil ?_
      exact FinE_val (Below.refl _ _) rfl rfl ⟨rfl, rfl⟩
     refine StepsE_cons rfl ?_ ?_
     ·intro w10 hB9
      refine DepsE_nil ?_
      refine ⟨_, rfl, ?_⟩
      refine WL_load_box (hC7.grow hB9) 0 rfl rfl Tryd.isAgg22 rfl rfl ?_
      refine WL_nil ?_
      exact FinE_val (Below.refl _ _) rfl rfl ⟨rfl, rfl⟩
     refine StepsE_cons rfl ?_ ?_
     ·intro w10 hB9
      refine DepsE_cons rfl rfl rfl ?_
      rintro _ _ ⟨rfl, rfl⟩ _
      refine DepsE_nil ?_
      refine ⟨_, rfl, ?_⟩
      refine WL_index Tryd.underlying22 ty3 g2 hx4 rfl rfl rfl (fun b6 o4 h7 => ?_)
      refine WL_nil ?_
      exact FinE_val (Below.refl _ _) rfl rfl ⟨rfl, _, _, rfl, h7⟩
     refine StepsE_cons rfl ?_ ?_
     ·intro w10 hB9
      refine DepsE_cons rfl rfl rfl ?_
      rintro _ _ ⟨rfl, b6, o4, rfl, h7⟩ _
      refine DepsE_nil ?_
      refine ⟨_, rfl, ?_⟩
      refine WL_load ty3 h7 (hC7.keep.then hB9) rfl rfl (fun v4 h8 => ?_)
      obtain rfl := ro_int h8
      refine WL_nil ?_
      exact FinE_val (Below.refl _ _) rfl rfl ⟨rfl, rfl⟩
     exact StepsE_nil
    intro w11 hB10
    refine AllE_cons rfl rfl rfl ?_
    rintro _ _ ⟨rfl, rfl⟩
    refine AllE_cons rfl rfl rfl ?_
    rintro _ _ ⟨rfl, b5, o3, rfl, h5⟩
    refine AllE_cons rfl rfl rfl ?_
    rintro _ _ ⟨rfl, rfl⟩
    refine AllE_cons rfl rfl rfl ?_
    rintro _ _ ⟨rfl, rfl⟩
    refine AllE_cons rfl rfl rfl ?_
    rintro _ _ ⟨rfl, b6, o4, rfl, h7⟩
    refine AllE_cons rfl rfl rfl ?_
    rintro _ _ ⟨rfl, rfl⟩
    refine AllE_nil ?_
    intro hn2 hb2
    have hC8 := hC7.grow hB10
    refine WA_tk 10 (by kernel_rfl) rfl rfl (fl_gtr rfl rfl) ?_
    refine WL_gtr rfl rfl rfl ?_
    refine WL_nil ?_
    refine WA_done (by kernel_rfl) ?_
    refine nrm_normal ?_
    refine W_cond rfl (fun hc6 => ?_) (fun hc6 => ?_)
    ·replace hL1 := ite_t hL1 hc6
     refine W_seq_reg ?_
     refine WL_assign rfl rfl ?_
     refine WL_nil (W_ret (blk_ret (nrm_ret (nrm_ret (blk_ret (nrm_ret (nrm_ret ?_)))))))
     have hq7 := Option.some.inj hL1
     subst hq7
     dsimp only at hF
     have hq8 := Option.some.inj hF
     subst hq8
     refine fn_ret1 rfl rfl ?_
     exact ⟨_, rfl, int_res hC8 _⟩
    replace hL1 := ite_f hL1 hc6
    refine W_skip (blk_normal (nrm_normal (W_reg ?_)))
    refine WL_move rfl rfl ?_
    refine WL_add rfl rfl rfl ?_
    refine WL_assign rfl rfl ?_
    refine WL_nil ?_
    refine nrm_sub (l' := [(2, (ptr b1 0)), (3, (ptr b2 0)), (5, (.int .i64 (w64 (x1 + 1))))]) ⟨rfl, rfl, rfl, trivial⟩ ?_
    exact ⟨k1, Nat.lt_succ_self _, w64 (x1 + 1), rfl, ((((((Keep.of hB3).then hB4).then hB5).then hB7).then hB8).then hB10).below, hC8, hL1⟩
   replace hL1 := ite_f hL1 hc4
   refine W_exit (nrm_exit (nrm_exit (blk_exit ?_)))
   have hq9 := Option.some.inj hL1
   subst hq9
   refine nrm_sub (l' := [(2, (ptr b1 0)), (3, (ptr b2 0))]) ⟨rfl, rfl, trivial⟩ ?_
   exact ⟨rfl, rfl, ((Keep.of hB3).then hB4).below, hC4⟩
 rintro l3 _ w12 hs3 ⟨rfl, rfl, hB11, hC9⟩
 try dsimp only at hF
 refine nrm_sub' hs3 ?_
 clear hs3
 refine W_seq (W_seq_reg ?_)
 refine WL_field Tryd.underlying72 rfl rfl (fun w => ⟨_, Tryd.sizeOf22 w⟩) rfl rfl ?_
 refine WL_load_box hC9 1 rfl rfl Tryd.isAgg22 rfl rfl ?_
 refine WL_len Tryd.underlying22 g1 rfl rfl ?_
 refine WL_field Tryd.underlying72 rfl rfl (fun w => ⟨_, Tryd.sizeOf22 w⟩) rfl rfl ?_
 refine WL_load_box hC9 0 rfl rfl Tryd.isAgg22 rfl rfl ?_
 refine WL_len Tryd.underlying22 g2 rfl rfl ?_
 refine WL_lss rfl rfl rfl ?_
 refine WL_nil ?_
 refine W_cond rfl (fun hc7 => ?_) (fun hc7 => ?_)
 ·replace hF := ite_t hF hc7
  refine W_seq_reg ?_
  refine WL_assign rfl rfl ?_
  refine WL_nil (W_ret (nrm_ret ?_))
  have hq10 := Option.some.inj hF
  subst hq10
  refine fn_ret1 rfl rfl ?_
  exact ⟨_, rfl, int_res hC9 _⟩
 replace hF := ite_f hF hc7
 refine W_skip (nrm_normal (W_seq (W_seq_reg ?_)))
 refine WL_field Tryd.underlying72 rfl rfl (fun w => ⟨_, Tryd.sizeOf22 w⟩) rfl rfl ?_
 refine WL_load_box hC9 1 rfl rfl Tryd.isAgg22 rfl rfl ?_
 refine WL_len Tryd.underlying22 g1 rfl rfl ?_
 refine WL_field Tryd.underlying72 rfl rfl (fun w => ⟨_, Tryd.sizeOf22 w⟩) rfl rfl ?_
 refine WL_load_box hC9 0 rfl rfl Tryd.isAgg22 rfl rfl ?_
 refine WL_len Tryd.underlying22 g2 rfl rfl ?_
 refine WL_gtr rfl rfl rfl ?_
 refine WL_nil ?_
 refine W_cond rfl (fun hc8 => ?_) (fun hc8 => ?_)
 ·replace hF := ite_t hF hc8
  refine W_seq_reg ?_
  refine WL_assign rfl rfl ?_
  refine WL_nil (W_ret (nrm_ret ?_))
  have hq11 := Option.some.inj hF
  subst hq11
  refine fn_ret1 rfl rfl ?_
  exact ⟨_, rfl, int_res hC9 _⟩
 replace hF := ite_f hF hc8
 refine W_skip (nrm_normal (W_seq_reg ?_))
 refine WL_assign rfl rfl ?_
 refine WL_nil (W_ret ?_)
 have hq12 := Option.some.inj hF
 subst hq12
 refine fn_ret1 rfl rfl ?_
 exact ⟨_, rfl, int_res hC9 _⟩

theorem c_S_HasFact {w0 : World} (a1 : (List (Int × (List Int)))) (u1 : Value) (g1 : RO [] w0 u1 a1) (a2 : (Int × (List Int))) (u2 : Value) (g2 : RO [] w0 u2 a2.2) (rr : Bool) (hF : S.HasFact a1 a2 = some rr) :
 Calls Tryd.prog 106 [u1, (.agg #[(.int .i64 a2.1), u2])].toArray w0 fun e w' => ∃ v, e = .returned v ∧ Res w0 rr v w' := by
 refine calls_of_W Tryd.func106 rfl rfl ?_
 have hC0 := Ctx.start w0
 unfold S.HasFact at hF
 refine W_seq_reg ?_
 refine WL_boxK (cs := [(.int .i64 a2.1), u2]) hC0 rfl rfl rfl (fun b1 w1 hC1 hB1 hN1 => ?_)
 refine WL_assign rfl rfl ?_
 refine WL_nil (W_seq (W_seq_reg ?_))
 refine WL_assign rfl rfl ?_
 refine WL_nil ?_
 obtain ⟨r1, hr1, hF⟩ := bind_some hF
 refine W_norm (fun l w => .inl () = r1 ∧ l = [] ∧ Below w1.heap.size w1 w ∧ Ctx [] w0 w []) ?_ ?_
 ·refine W_block ?_
  refine W.sub (l' := [(0, u1), (3, (ptr b1 0)), (5, (.int .i64 0))]) ?_ ⟨rfl, rfl, rfl, trivial⟩
  refine W_loop (fun k l w => ∃ x1 : Int, l = [(0, u1), (3, (ptr b1 0)), (5, (.int .i64 x1))] ∧ Below w1.heap.size w1 w ∧ Ctx [] w0 w [Item.box b1 [(.int .i64 a2.1), u2]] ∧ S.HasFact_l1 a1 a2 k x1 = some r1) FUEL ⟨0, rfl, (Below.refl _ _), hC1, hr1⟩ ?_
  clear hr1
  rintro k1 _ w2 ⟨x1, rfl, hB2, hC2, hL1⟩
  cases k1 with
  | zero => rw [S.HasFact_l1] at hL1; cases hL1
  | succ k1 =>
   rw [S.HasFact_l1] at hL1
   refine W_seq (W_seq_reg ?_)
   refine WL_move rfl rfl ?_
   refine WL_move rfl rfl ?_
   refine WL_len Tryd.underlying43 g1 rfl rfl ?_
   refine WL_lss rfl rfl rfl ?_
   refine WL_nil ?_
   refine W_cond rfl (fun hc1 => ?_) (fun hc1 => ?_)
   ·replace hL1 := ite_t hL1 hc1
    refine W_skip (nrm_normal (W_seq (W_block (W_seq ?_))))
    refine W_drawn 7 rfl hmix (fun w3 hB3 => ?_)
    have hC3 := hC2.grow hB3
    refine WA_tk 0 (by kernel_rfl) rfl rfl (fl_move rfl) ?_
    refine WL_move rfl rfl ?_
    refine WL_nil ?_
    refine WA_tk 1 (by kernel_rfl) rfl rfl (fl_move rfl) ?_
    refine WL_move rfl rfl ?_
    refine WL_nil ?_
    obtain ⟨x2, hx1, hL1⟩ := bind_some hL1
    refine WA_tk 2 (by kernel_rfl) rfl rfl (fl_index Tryd.underlying43 ty72 g1 hx1 rfl rfl) ?_
    refine WL_index Tryd.underlying43 ty72 g1 hx1 rfl rfl rfl (fun b2 o1 h1 => ?_)
    refine WL_nil ?_
    refine WA.sub (l' := [(0, u1), (3, (ptr b1 0)), (5, (.int .i64 x1)), (6, (.int .i64 x1)), (7, u1), (8, (.int .i64 (List.length a1 : Int))), (9, (.bool (decide (x1 < (List.length a1 : Int))))), (12, u1), (13, (.int .i64 x1)), (14, (ptr b2 o1))]) ?_ ⟨rfl, rfl, rfl, rfl, rfl, rfl, rfl, rfl, rfl, rfl, trivial⟩
    refine WA_postsE [⟨3, [], fun vs => PW.ro [] w0 x2, []⟩, ⟨4, [], fun vs => PW.val (.agg #[(.int .i64 a2.1), u2]), []⟩] [[], []] 2 rfl (by kernel_rfl) (by kernel_rfl) rfl ?_ ?_
    ·refine StepsE_cons rfl ?_ ?_
     ·intro w4 hB4
      refine DepsE_nil ?_
      refine ⟨_, rfl, ?_⟩
      refine WL_load ty72 h1 (hC3.keep.then hB4) rfl rfl (fun v3 h4 => ?_)
      refine WL_nil ?_
      exact FinE_val (Below.refl _ _) rfl rfl ⟨rfl, h4⟩
     refine StepsE_cons rfl ?_ ?_
     ·intro w4 hB4
      refine DepsE_nil ?_
      refine ⟨_, rfl, ?_⟩
      refine WL_load_box_agg [(.int .i64 a2.1), u2] (hC3.grow hB4) 0 rfl rfl rfl Tryd.isAgg72 Tryd.sizeOf72 rfl rfl ?_
      refine WL_nil ?_
      exact FinE_val (Below.refl _ _) rfl rfl ⟨rfl, rfl⟩
     exact StepsE_nil
    intro w5 hB5
    refine AllE_cons rfl rfl rfl ?_
    rintro v3 _ ⟨rfl, h4⟩
    obtain ⟨v2, rfl, h3⟩ := ro_st72 h4
    refine AllE_cons rfl rfl rfl ?_
    rintro _ _ ⟨rfl, rfl⟩
    refine AllE_nil ?_
    intro hn1 hb1
    have hC4 := hC3.grow hB5
    obtain ⟨x3, hr2, hL1⟩ := bind_some hL1
    refine WA_one 5 (by kernel_rfl) rfl ?_
    refine WL_call Tryd.call69 rfl rfl (c_S_CompareFacts x2 v2 (h3.now hC4.keep) (a2.1, a2.2) u2 (g2.now hC4.keep) x3 hr2) ?_
    intro _ w6 hv1
    obtain ⟨rfl, hB6⟩ := res_int hv1
    have hC5 := hC4.grow hB6
    refine WL_nil ?_
    refine WA_tk 6 (by kernel_rfl) rfl rfl (fl_eql rfl rfl) ?_
    refine WL_eql rfl rfl rfl ?_
    refine WL_nil ?_
    refine WA_done (by kernel_rfl) ?_
    refine nrm_normal ?_
    refine W_cond rfl (fun hc2 => ?_) (fun hc2 => ?_)
    ·replace hL1 := ite_t hL1 hc2
     refine W_seq_reg ?_
     refine WL_assign rfl rfl ?_
     refine WL_nil (W_ret (blk_ret (nrm_ret (nrm_ret (blk_ret (nrm_ret (nrm_ret ?_)))))))
     have hq1 := Option.some.inj hL1
     subst hq1
     dsimp only at hF
     have hq2 := Option.some.inj hF
     subst hq2
     refine fn_ret1 rfl rfl ?_
     exact ⟨_, rfl, bool_res hC5 _⟩
    replace hL1 := ite_f hL1 hc2
    refine W_skip (blk_normal (nrm_normal (W_reg ?_)))
    refine WL_move rfl rfl ?_
    refine WL_add rfl rfl rfl ?_
    refine WL_assign rfl rfl ?_
    refine WL_nil ?_
    refine nrm_sub (l' := [(0, u1), (3, (ptr b1 0)), (5, (.int .i64 (w64 (x1 + 1))))]) ⟨rfl, rfl, rfl, trivial⟩ ?_
    exact ⟨k1, Nat.lt_succ_self _, w64 (x1 + 1), rfl, ((((Keep.of hB2).then hB3).then hB5).then hB6).below, hC5, hL1⟩
   replace hL1 := ite_f hL1 hc1
   refine W_exit (nrm_exit (nrm_exit (blk_exit ?_)))
   have hq3 := Option.some.inj hL1
   subst hq3
   have hC6 := hC2.h0
   refine nrm_sub (l' := []) trivial ?_
   exact ⟨rfl, rfl, (Keep.of hB2).below, hC6⟩
 rintro l2 _ w7 hs2 ⟨rfl, rfl, hB7, hC7⟩
 try dsimp only at hF
 refine nrm_sub' hs2 ?_
 clear hs2
 refine W_seq_reg ?_
 refine WL_assign rfl rfl ?_
 refine WL_nil (W_ret ?_)
 have hq4 := Option.some.inj hF
 subst hq4
 refine fn_ret1 rfl rfl ?_
 exact ⟨_, rfl, bool_res hC7 _⟩

theorem c_S_AddFact {w0 : World} (a1 : (List (Int × (List Int)))) (u1 : Value) (g1 : RO [] w0 u1 a1) (a2 : (Int × (List Int))) (u2 : Value) (g2 : RO [] w0 u2 a2.2) (rr : (List (Int × (List Int)))) (hF : S.AddFact a1 a2 = some rr) :
 Calls Tryd.prog 99 [u1, (.agg #[(.int .i64 a2.1), u2])].toArray w0 fun e w' => ∃ v, e = .returned v ∧ Res w0 rr v w' := by
 refine calls_of_W Tryd.func99 rfl rfl ?_
 have hC0 := Ctx.start w0
 unfold S.AddFact at hF
 refine W_seq_reg ?_
 refine WL_boxK (cs := [(.int .i64 a2.1), u2]) hC0 rfl rfl rfl (fun b1 w1 hC1 hB1 hN1 => ?_)
 refine WL_assign rfl rfl ?_
 refine WL_nil (W_seq_reg ?_)
 refine WL_buildSlice (vs := []) hC1 Tryd.underlying43 ty72 rfl rfl rfl rfl (by simp) rfl rfl (fun b2 w2 hC2 hB2 => ?_)
 have hC3 := hC2.row0 (α := (Int × (List Int)))
 have hC4 := hC3.front 1 rfl
 dsimp only [List.eraseIdx, List.cons_append, List.nil_append, List.append_nil] at hC4
 have hC5 : Ctx [] w0 w2 (Item.own (.slice (some ⟨b2, 0, none⟩) 0 0) (([] : List (Int × (List Int))) : List (Int × (List Int))) :: [Item.box b1 [(.int .i64 a2.1), u2]]) := hC4.rowOwn (by simp [maxLen])
 refine WL_assign rfl rfl ?_
 refine WL_nil (W_seq_reg ?_)
 refine WL_move rfl rfl ?_
 refine WL_load_box_agg [(.int .i64 a2.1), u2] hC5 1 rfl rfl rfl Tryd.isAgg72 Tryd.sizeOf72 rfl rfl ?_
 obtain ⟨x1, hr1, hF⟩ := bind_some hF
 refine WL_call Tryd.call106 rfl rfl (c_S_HasFact a1 u1 (g1.now hC5.keep) (a2.1, a2.2) u2 (g2.now hC5.keep) x1 hr1) ?_
 intro _ w3 hv1
 obtain ⟨rfl, hB3⟩ := res_bool hv1
 have hC6 := hC5.grow hB3
 refine WL_assign rfl rfl ?_
 refine WL_nil (W_seq (W_seq_reg ?_))
 refine WL_assign rfl rfl ?_
 refine WL_nil ?_
 obtain ⟨r1, hr2, hF⟩ := bind_some hF
 refine W_norm (fun l w => ∃ v2 : Value, ∃ x5 : (List (Int × (List Int))), ∃ x6 : Bool, (x5, x6) = r1 ∧ l = [(3, (ptr b1 0)), (5, v2), (6, (.bool x6))] ∧ Ctx [] w0 w [Item.own v2 (x5 : (List (Int × (List Int)))), Item.box b1 [(.int .i64 a2.1), u2]]) ?_ ?_
 ·refine W_block ?_
  refine W.sub (l' := [(0, u1), (3, (ptr b1 0)), (5, (.slice (some ⟨b2, 0, none⟩) 0 0)), (6, (.bool x1)), (7, (.int .i64 0))]) ?_ ⟨rfl, rfl, rfl, rfl, rfl, trivial⟩
  refine W_loop (fun k l w => ∃ v1 : Value, ∃ x2 : (List (Int × (List Int))), ∃ x3 : Bool, ∃ x4 : Int, l = [(0, u1), (3, (ptr b1 0)), (5, v1), (6, (.bool x3)), (7, (.int .i64 x4))] ∧ Ctx [] w0 w [Item.own v1 (x2 : (List (Int × (List Int)))), Item.box b1 [(.int .i64 a2.1), u2]] ∧ S.AddFact_l1 a1 a2 k x2 x3 x4 = some r1) FUEL ⟨(.slice (some ⟨b2, 0, none⟩) 0 0), ([] : List (Int × (List Int))), x1, 0, rfl, hC6, hr2⟩ ?_
  clear hr2
  rintro k1 _ w4 ⟨v1, x2, x3, x4, rfl, hC7, hL1⟩
  cases k1 with
  | zero => rw [S.AddFact_l1] at hL1; cases hL1
  | succ k1 =>
   rw [S.AddFact_l1] at hL1
   refine W_seq (W_seq_reg ?_)
   refine WL_move rfl rfl ?_
   refine WL_move rfl rfl ?_
   refine WL_len Tryd.underlying43 g1 rfl rfl ?_
   refine WL_lss rfl rfl rfl ?_
   refine WL_nil ?_
   refine W_cond rfl (fun hc1 => ?_) (fun hc1 => ?_)
   ·replace hL1 := ite_t hL1 hc1
    refine W_skip (nrm_normal (W_seq (W_block (W_seq ?_))))
    obtain ⟨r2, hr3, hL1⟩ := bind_some hL1
    refine W_cut (fun l w => ∃ x7 : Bool, x7 = r2 ∧ l = [(0, u1), (3, (ptr b1 0)), (5, v1), (6, (.bool x3)), (7, (.int .i64 x4)), (28, (.bool x7))] ∧ Below w4.heap.size w4 w ∧ Ctx [] w0 w [Item.own v1 (x2 : (List (Int × (List Int)))), Item.box b1 [(.int .i64 a2.1), u2]]) ?_ ?_
    ·refine W_drawn 11 rfl hmix (fun w6 hB6 => ?_)
     have hC9 := hC7.grow hB6
     refine WA_tk 0 (by kernel_rfl) rfl rfl (fl_move rfl) ?_
     refine WL_move rfl rfl ?_
     refine WL_nil ?_
     refine WA_tk 1 (by kernel_rfl) rfl rfl (fl_not rfl) ?_
     refine WL_not rfl rfl ?_
     refine WL_nil ?_
     refine WA_tk 2 (by kernel_rfl) rfl rfl (fl_move rfl) ?_
     refine WL_move rfl rfl ?_
     refine WL_nil ?_
     refine WA_fork (fun hc2 => ?_) (fun hc2 => ?_)
     ·replace hr3 := ite_t hr3 hc2
      refine WA_takeG 4 rfl (by kernel_rfl) (by kernel_rfl) (by kernel_rfl) rfl rfl rfl (fl_move rfl) ?_
      refine WL_guard rfl rfl ?_
      refine WL_move rfl rfl ?_
      refine WL_nil ?_
      refine WA_takeG 5 rfl (by kernel_rfl) (by kernel_rfl) (by kernel_rfl) rfl rfl rfl (fl_move rfl) ?_
      refine WL_guard rfl rfl ?_
      refine WL_move rfl rfl ?_
      refine WL_nil ?_
      obtain ⟨x8, hx1, hr3⟩ := bind_some hr3
      refine WA_takeG 6 rfl (by kernel_rfl) (by kernel_rfl) (by kernel_rfl) rfl rfl rfl (fl_index Tryd.underlying43 ty72 g1 hx1 rfl rfl) ?_
      refine WL_guard rfl rfl ?_
      refine WL_index Tryd.underlying43 ty72 g1 hx1 rfl rfl rfl (fun b3 o1 h1 => ?_)
      refine WL_nil ?_
      refine WA.sub (l' := [(0, u1), (3, (ptr b1 0)), (5, v1), (6, (.bool x3)), (7, (.int .i64 x4)), (12, (.int .i64 x4)), (13, u1), (14, (.int .i64 (List.length a1 : Int))), (15, (.bool (decide (x4 < (List.length a1 : Int))))), (18, (.bool x3)), (19, (.bool (!x3))), (20, (.bool true)), (22, u1), (23, (.int .i64 x4)), (24, (ptr b3 o1))]) ?_ ⟨rfl, rfl, rfl, rfl, rfl, rfl, rfl, rfl, rfl, rfl, rfl, rfl, rfl, rfl, rfl, trivial⟩
      refine WA_postsE [⟨3, [], fun vs => PW.val (.agg #[(.int .i64 a2.1), u2]), []⟩, ⟨7, [], fun vs => PW.ro [] w0 x8, []⟩] [[], []] 3 rfl (by kernel_rfl) (by kernel_rfl) rfl ?_ ?_
      ·refine StepsE_cons rfl ?_ ?_
       ·intro w7 hB7
        refine DepsE_nil ?_
        refine ⟨_, rfl, ?_⟩
        refine WL_guard rfl rfl ?_
        refine WL_load_box_agg [(.int .i64 a2.1), u2] (hC9.grow hB7) 1 rfl rfl rfl Tryd.isAgg72 Tryd.sizeOf72 rfl rfl ?_
        refine WL_nil ?_
        exact FinE_val (Below.refl _ _) rfl rfl ⟨rfl, rfl⟩
       refine StepsE_cons rfl ?_ ?_
       ·intro w7 hB7
        refine DepsE_nil ?_
        refine ⟨_, rfl, ?_⟩
        refine WL_guard rfl rfl ?_
        refine WL_load ty72 h1 (hC9.keep.then hB7) rfl rfl (fun v5 h4 => ?_)
        refine WL_nil ?_
        exact FinE_val (Below.refl _ _) rfl rfl ⟨rfl, h4⟩
       exact StepsE_nil
      intro w9 hB8
      refine AllE_cons rfl rfl rfl ?_
      rintro _ _ ⟨rfl, rfl⟩
      refine AllE_cons rfl rfl rfl ?_
      rintro v5 _ ⟨rfl, h4⟩
      obtain ⟨v4, rfl, h3⟩ := ro_st72 h4
      refine AllE_nil ?_
      intro hn1 hb1
      have hC10 := hC9.grow hB8
      obtain ⟨x9, hr4, hr3⟩ := bind_some hr3
      refine WA_one 8 (by kernel_rfl) rfl ?_
      refine WL_guard rfl rfl ?_
      refine WL_call Tryd.call69 rfl rfl (c_S_CompareFacts (a2.1, a2.2) u2 (g2.now hC10.keep) x8 v4 (h3.now hC10.keep) x9 hr4) ?_
      intro _ w10 hv2
      obtain ⟨rfl, hB9⟩ := res_int hv2
      have hC11 := hC10.grow hB9
      refine WL_nil ?_
      refine WA_takeG 9 rfl (by kernel_rfl) (by kernel_rfl) (by kernel_rfl) rfl rfl rfl (fl_lss rfl rfl) ?_
      refine WL_guard rfl rfl ?_
      refine WL_lss rfl rfl rfl ?_
      refine WL_nil ?_
      refine WA_tk 10 (by kernel_rfl) rfl rfl (fl_pick_t rfl rfl) ?_
      refine WL_pick_t rfl rfl rfl ?_
      refine WL_nil ?_
      refine WA_done (by kernel_rfl) ?_
      have hq1 := Option.some.inj hr3
      subst hq1
      refine nrm_sub (l' := [(0, u1), (3, (ptr b1 0)), (5, v1), (6, (.bool x3)), (7, (.int .i64 x4)), (28, (.bool (decide (x9 < 0))))]) ⟨rfl, rfl, rfl, rfl, rfl, rfl, trivial⟩ ?_
      exact ⟨(decide (x9 < 0)), rfl, rfl, (((Keep.of hB6).then hB8).then hB9).below, hC11⟩
     replace hr3 := ite_f hr3 hc2
     refine WA_sk 3 (by kernel_rfl) rfl rfl rfl rfl (by simp) rfl rfl ?_
     refine WA_sk 4 (by kernel_rfl) rfl rfl rfl rfl (by simp) rfl rfl ?_
     refine WA_sk 5 (by kernel_rfl) rfl rfl rfl rfl (by simp) rfl rfl ?_
     refine WA_sk 6 (by kernel_rfl) rfl rfl rfl rfl (by simp) rfl rfl ?_
     refine WA_sk 7 (by kernel_rfl) rfl rfl rfl rfl (by simp) rfl rfl ?_
     refine WA_sk 8 (by kernel_rfl) rfl rfl rfl rfl (by simp) rfl rfl ?_
     refine WA_sk 9 (by kernel_rfl) rfl rfl rfl rfl (by simp) rfl rfl ?_
     refine WA_tk 10 (by kernel_rfl) rfl rfl (fl_pick_f rfl rfl) ?_
     refine WL_pick_f rfl rfl rfl ?_
     refine WL_nil ?_
     refine WA_done (by kernel_rfl) ?_
     have hq2 := Option.some.inj hr3
     subst hq2
     refine nrm_sub (l' := [(0, u1), (3, (ptr b1 0)), (5, v1), (6, (.bool x3)), (7, (.int .i64 x4)), (28, (.bool false))]) ⟨rfl, rfl, rfl, rfl, rfl, rfl, trivial⟩ ?_
     exact ⟨false, rfl, rfl, (Keep.of hB6).below, hC9⟩
    rintro _ w5 ⟨x7, rfl, rfl, hB5, hC8⟩
    try dsimp only at hL1
    obtain ⟨r3, hr5, hL1⟩ := bind_some hL1
    refine W_norm (fun l w => ∃ v6 : Value, ∃ x10 : (List (Int × (List Int))), ∃ x11 : Bool, (x10, x11) = r3 ∧ l = [(0, u1), (3, (ptr b1 0)), (5, v6), (6, (.bool x11)), (7, (.int .i64 x4))] ∧ Ctx [] w0 w [Item.own v6 (x10 : (List (Int × (List Int)))), Item.box b1 [(.int .i64 a2.1), u2]]) ?_ ?_
    ·refine W_cond rfl (fun hc3 => ?_) (fun hc3 => ?_)
     ·replace hr5 := ite_t hr5 hc3
      refine W_seq_reg ?_
      refine WL_move rfl rfl ?_
      refine WL_field Tryd.underlying72 rfl rfl (fun w => ⟨_, Tryd.sizeOf3 w⟩) rfl rfl ?_
      refine WL_load_box hC8 1 rfl rfl Tryd.isAgg3 rfl rfl ?_
      refine WL_field Tryd.underlying72 rfl rfl (fun w => ⟨_, Tryd.sizeOf22 w⟩) rfl rfl ?_
      refine WL_load_box hC8 1 rfl rfl Tryd.isAgg22 rfl rfl ?_
      obtain ⟨x12, hr6, hr5⟩ := bind_some hr5
      refine WL_call Tryd.call60 rfl rfl (c_S_l2One a2.1 a2.2 u2 (g2.now hC8.keep) x12 hr6) ?_
      rintro v7 w12 ⟨hB11, F1, hv3, hn2, hb2⟩
      have hC13 := hC8.push hB11 (A := Item.own v7 x12) hv3 hn2 hb2
      obtain ⟨v8, rfl, hC14⟩ := st72_own hC13
      refine WL_buildSlice (vs := [(.agg #[(.int .i64 x12.1), v8])]) hC14 Tryd.underlying43 ty72 rfl rfl rfl rfl (by intro v hv; simp only [List.mem_cons, List.not_mem_nil, or_false] at hv; rcases hv with rfl <;> rfl) rfl rfl (fun b4 w13 hC15 hB12 => ?_)
      have hC16 := hC15.row0 (α := (Int × (List Int)))
      have hC18 := hC16.f2
      have hC17 := own_st72 x12.1 v8 x12.2 hC18
      have hC19 := hC17.row1
      have hC20 := hC19.front 1 rfl
      dsimp only [List.eraseIdx, List.cons_append, List.nil_append, List.append_nil] at hC20
      have hC21 : Ctx [] w0 w13 (Item.own (.slice (some ⟨b4, 0, none⟩) 1 1) ([(x12.1, x12.2)] : List (Int × (List Int))) :: [Item.own v1 (x2 : (List (Int × (List Int)))), Item.box b1 [(.int .i64 a2.1), u2]]) := hC20.rowOwn (by simp [maxLen])
      obtain ⟨x13, hx2, hr5⟩ := bind_some hr5
      refine WL_append_head hC21 0 rfl Tryd.underlying43 ty72 rfl hx2 rfl rfl rfl (fun v9 w14 hC22 => ?_)
      try dsimp only [List.set] at hC22
      refine WL_assign rfl rfl ?_
      refine WL_nil (W_reg ?_)
      refine WL_assign rfl rfl ?_
      refine WL_nil ?_
      have hq3 := Option.some.inj hr5
      subst hq3
      refine nrm_sub (l' := [(0, u1), (3, (ptr b1 0)), (5, v9), (6, (.bool true)), (7, (.int .i64 x4))]) ⟨rfl, rfl, rfl, rfl, rfl, trivial⟩ ?_
      exact ⟨v9, x13, true, rfl, rfl, hC22⟩
     replace hr5 := ite_f hr5 hc3
     refine W_skip ?_
     have hq4 := Option.some.inj hr5
     subst hq4
     refine nrm_sub (l' := [(0, u1), (3, (ptr b1 0)), (5, v1), (6, (.bool x3)), (7, (.int .i64 x4))]) ⟨rfl, rfl, rfl, rfl, rfl, trivial⟩ ?_
     exact ⟨v1, x2, x3, rfl, rfl, hC8⟩
    rintro l3 _ w11 hs3 ⟨v6, x10, x11, rfl, rfl, hC12⟩
    try dsimp only at hL1
    refine nrm_sub' hs3 ?_
    clear hs3
    refine W_drawn 15 rfl hmix (fun w15 hB13 => ?_)
    have hC24 := hC12.grow hB13
    refine WA_tk 0 (by kernel_rfl) rfl rfl (fl_move rfl) ?_
    refine WL_move rfl rfl ?_
    refine WL_nil ?_
    refine WA_tk 1 (by kernel_rfl) rfl rfl (fl_move rfl) ?_
    refine WL_move rfl rfl ?_
    refine WL_nil ?_
    refine WA_tk 2 (by kernel_rfl) rfl rfl (fl_move rfl) ?_
    refine WL_move rfl rfl ?_
    refine WL_nil ?_
    obtain ⟨x14, hx3, hL1⟩ := bind_some hL1
    refine WA_tk 3 (by kernel_rfl) rfl rfl (fl_index Tryd.underlying43 ty72 g1 hx3 rfl rfl) ?_
    refine WL_index Tryd.underlying43 ty72 g1 hx3 rfl rfl rfl (fun b5 o2 h5 => ?_)
    refine WL_nil ?_
    refine WA_tk 4 (by kernel_rfl) rfl rfl (fl_field Tryd.underlying72 rfl rfl (fun w => ⟨_, Tryd.sizeOf3 w⟩) rfl) ?_
    refine WL_field Tryd.underlying72 rfl rfl (fun w => ⟨_, Tryd.sizeOf3 w⟩) rfl rfl ?_
    refine WL_nil ?_
    refine WA_tk 6 (by kernel_rfl) rfl rfl (fl_move rfl) ?_
    refine WL_move rfl rfl ?_
    refine WL_nil ?_
    refine WA_tk 7 (by kernel_rfl) rfl rfl (fl_move rfl) ?_
    refine WL_move rfl rfl ?_
    refine WL_nil ?_
    obtain ⟨x15, hx4, hL1⟩ := bind_some hL1
    refine WA_tk 8 (by kernel_rfl) rfl rfl (fl_index Tryd.underlying43 ty72 g1 hx4 rfl rfl) ?_
    refine WL_index Tryd.underlying43 ty72 g1 hx4 rfl rfl rfl (fun b6 o3 h6 => ?_)
    refine WL_nil ?_
    refine WA_tk 9 (by kernel_rfl) rfl rfl (fl_field Tryd.underlying72 rfl rfl (fun w => ⟨_, Tryd.sizeOf22 w⟩) rfl) ?_
    refine WL_field Tryd.underlying72 rfl rfl (fun w => ⟨_, Tryd.sizeOf22 w⟩) rfl rfl ?_
    refine WL_nil ?_
    refine WA.sub (l' := [(0, u1), (3, (ptr b1 0)), (5, v6), (6, (.bool x11)), (7, (.int .i64 x4)), (37, v6), (38, u1), (39, (.int .i64 x4)), (40, (ptr b5 o2)), (41, (ptr b5 (o2 + 0))), (43, u1), (44, (.int .i64 x4)), (45, (ptr b6 o3)), (46, (ptr b6 (o3 + 1)))]) ?_ ⟨rfl, rfl, rfl, rfl, rfl, rfl, rfl, rfl, rfl, rfl, rfl, rfl, rfl, rfl, trivial⟩
    refine WA_postsE [⟨5, [], fun vs => PW.val (.int .i64 x14.1), []⟩, ⟨10, [], fun vs => PW.ro [] w0 x15.2, []⟩] [[], []] 4 rfl (by kernel_rfl) (by kernel_rfl) rfl ?_ ?_
    ·refine StepsE_cons rfl ?_ ?_
     ·intro w16 hB14
      refine DepsE_nil ?_
      refine ⟨_, rfl, ?_⟩
      refine WL_load ty3 h5.fst (hC24.keep.then hB14) rfl rfl (fun v10 h7 => ?_)
      obtain rfl := ro_int h7
      refine WL_nil ?_
      exact FinE_val (Below.refl _ _) rfl rfl ⟨rfl, rfl⟩
     refine StepsE_cons rfl ?_ ?_
     ·intro w16 hB14
      refine DepsE_nil ?_
      refine ⟨_, rfl, ?_⟩
      refine WL_load ty22 h6.snd (hC24.keep.then hB14) rfl rfl (fun v11 h8 => ?_)
      refine WL_nil ?_
      exact FinE_val (Below.refl _ _) rfl rfl ⟨rfl, h8⟩
     exact StepsE_nil
    intro w17 hB15
    refine AllE_cons rfl rfl rfl ?_
    rintro _ _ ⟨rfl, rfl⟩
    refine AllE_cons rfl rfl rfl ?_
    rintro v11 _ ⟨rfl, h8⟩
    refine AllE_nil ?_
    intro hn3 hb3
    have hC25 := hC24.grow hB15
    obtain ⟨x16, hr7, hL1⟩ := bind_some hL1
    refine WA_one 11 (by kernel_rfl) rfl ?_
    refine WL_call Tryd.call60 rfl rfl (c_S_l2One x14.1 x15.2 v11 (h8.now hC25.keep) x16 hr7) ?_
    rintro v12 w18 ⟨hB16, F2, hv4, hn4, hb4⟩
    have hC26 := hC25.push hB16 (A := Item.own v12 x16) hv4 hn4 hb4
    obtain ⟨v13, rfl, hC27⟩ := st72_own hC26
    refine WL_nil ?_
    refine WA_one 12 (by kernel_rfl) rfl ?_
    refine WL_buildSlice (vs := [(.agg #[(.int .i64 x16.1), v13])]) hC27 Tryd.underlying43 ty72 rfl rfl rfl rfl (by intro v hv; simp only [List.mem_cons, List.not_mem_nil, or_false] at hv; rcases hv with rfl <;> rfl) rfl rfl (fun b7 w19 hC28 hB17 => ?_)
    have hC29 := hC28.row0 (α := (Int × (List Int)))
    have hC31 := hC29.f2
    have hC30 := own_st72 x16.1 v13 x16.2 hC31
    have hC32 := hC30.row1
    have hC33 := hC32.front 1 rfl
    dsimp only [List.eraseIdx, List.cons_append, List.nil_append, List.append_nil] at hC33
    have hC34 : Ctx [] w0 w19 (Item.own (.slice (some ⟨b7, 0, none⟩) 1 1) ([(x16.1, x16.2)] : List (Int × (List Int))) :: [Item.own v6 (x10 : (List (Int × (List Int)))), Item.box b1 [(.int .i64 a2.1), u2]]) := hC33.rowOwn (by simp [maxLen])
    refine WL_nil ?_
    obtain ⟨x17, hx5, hL1⟩ := bind_some hL1
    refine WA_one 13 (by kernel_rfl) rfl ?_
    refine WL_append_head hC34 0 rfl Tryd.underlying43 ty72 rfl hx5 rfl rfl rfl (fun v14 w20 hC35 => ?_)
    try dsimp only [List.set] at hC35
    refine WL_nil ?_
    refine WA_tk 14 (by kernel_rfl) rfl rfl (fl_assign rfl) ?_
    refine WL_assign rfl rfl ?_
    refine WL_nil ?_
    refine WA_done (by kernel_rfl) ?_
    refine blk_normal (nrm_normal (W_reg ?_))
    refine WL_move rfl rfl ?_
    refine WL_add rfl rfl rfl ?_
    refine WL_assign rfl rfl ?_
    refine WL_nil ?_
    refine nrm_sub (l' := [(0, u1), (3, (ptr b1 0)), (5, v14), (6, (.bool x11)), (7, (.int .i64 (w64 (x4 + 1))))]) ⟨rfl, rfl, rfl, rfl, rfl, trivial⟩ ?_
    exact ⟨k1, Nat.lt_succ_self _, v14, x17, x11, w64 (x4 + 1), rfl, hC35, hL1⟩
   replace hL1 := ite_f hL1 hc1
   refine W_exit (nrm_exit (nrm_exit (blk_exit ?_)))
   have hq5 := Option.some.inj hL1
   subst hq5
   refine nrm_sub (l' := [(3, (ptr b1 0)), (5, v1), (6, (.bool x3))]) ⟨rfl, rfl, rfl, trivial⟩ ?_
   exact ⟨v1, x2, x3, rfl, rfl, hC7⟩
 rintro l4 _ w21 hs4 ⟨v2, x5, x6, rfl, rfl, hC37⟩
 try dsimp only at hF
 refine nrm_sub' hs4 ?_
 clear hs4
 refine W_seq (W_seq_reg ?_)
 refine WL_move rfl rfl ?_
 refine WL_not rfl rfl ?_
 refine WL_nil ?_
 obtain ⟨r4, hr8, hF⟩ := bind_some hF
 refine W_norm (fun l w => ∃ v15 : Value, ∃ x18 : (List (Int × (List Int))), x18 = r4 ∧ l = [(5, v15)] ∧ Ctx [] w0 w [Item.own v15 (x18 : (List (Int × (List Int))))]) ?_ ?_
 ·refine W_cond rfl (fun hc4 => ?_) (fun hc4 => ?_)
  ·replace hr8 := ite_t hr8 hc4
   refine W_reg ?_
   refine WL_move rfl rfl ?_
   refine WL_field Tryd.underlying72 rfl rfl (fun w => ⟨_, Tryd.sizeOf3 w⟩) rfl rfl ?_
   refine WL_load_box hC37 1 rfl rfl Tryd.isAgg3 rfl rfl ?_
   refine WL_field Tryd.underlying72 rfl rfl (fun w => ⟨_, Tryd.sizeOf22 w⟩) rfl rfl ?_
   refine WL_load_box hC37 1 rfl rfl Tryd.isAgg22 rfl rfl ?_
   obtain ⟨x19, hr9, hr8⟩ := bind_some hr8
   refine WL_call Tryd.call60 rfl rfl (c_S_l2One a2.1 a2.2 u2 (g2.now hC37.keep) x19 hr9) ?_
   rintro v16 w23 ⟨hB20, F3, hv5, hn5, hb5⟩
   have hC39 := hC37.push hB20 (A := Item.own v16 x19) hv5 hn5 hb5
   obtain ⟨v17, rfl, hC40⟩ := st72_own hC39
   refine WL_buildSlice (vs := [(.agg #[(.int .i64 x19.1), v17])]) hC40 Tryd.underlying43 ty72 rfl rfl rfl rfl (by intro v hv; simp only [List.mem_cons, List.not_mem_nil, or_false] at hv; rcases hv with rfl <;> rfl) rfl rfl (fun b8 w24 hC41 hB21 => ?_)
   have hC42 := hC41.row0 (α := (Int × (List Int)))
   have hC44 := hC42.f2
   have hC43 := own_st72 x19.1 v17 x19.2 hC44
   have hC45 := hC43.row1
   have hC46 := hC45.front 1 rfl
   dsimp only [List.eraseIdx, List.cons_append, List.nil_append, List.append_nil] at hC46
   have hC47 : Ctx [] w0 w24 (Item.own (.slice (some ⟨b8, 0, none⟩) 1 1) ([(x19.1, x19.2)] : List (Int × (List Int))) :: [Item.own v2 (x5 : (List (Int × (List Int)))), Item.box b1 [(.int .i64 a2.1), u2]]) := hC46.rowOwn (by simp [maxLen])
   obtain ⟨x20, hx6, hr8⟩ := bind_some hr8
   refine WL_append_head hC47 0 rfl Tryd.underlying43 ty72 rfl hx6 rfl rfl rfl (fun v18 w25 hC48 => ?_)
   try dsimp only [List.set] at hC48
   refine WL_assign rfl rfl ?_
   refine WL_nil ?_
   have hq6 := Option.some.inj hr8
   subst hq6
   have hC50 := hC48.h1
   refine nrm_sub (l' := [(5, v18)]) ⟨rfl, trivial⟩ ?_
   exact ⟨v18, x20, rfl, rfl, hC50⟩
  replace hr8 := ite_f hr8 hc4
  refine W_skip ?_
  have hq7 := Option.some.inj hr8
  subst hq7
  have hC51 := hC37.h1
  refine nrm_sub (l' := [(5, v2)]) ⟨rfl, trivial⟩ ?_
  exact ⟨v2, x5, rfl, rfl, hC51⟩
 rintro l5 _ w22 hs5 ⟨v15, x18, rfl, rfl, hC38⟩
 try dsimp only at hF
 refine nrm_sub' hs5 ?_
 clear hs5
 refine W_seq_reg ?_
 refine WL_move rfl rfl ?_
 refine WL_assign rfl rfl ?_
 refine WL_nil (W_ret ?_)
 have hq8 := Option.some.inj hF
 subst hq8
 refine fn_ret1 rfl rfl ?_
 exact ⟨_, rfl, own_res hC38 0 rfl⟩

theorem c_S_l2Fact {w0 : World} {Fs : List (List Nat)} (pb1 : Nat) (a1 : ((List UInt8) × Int × Int)) (u1 : Value) (g1 : RO Fs.flatten w0 u1 a1.1) (a2 : (List Int)) (u2 : Value) (g2 : RO Fs.flatten w0 u2 a2) (a3 : Int) (hH : Hold [Item.box pb1 [u1, (.int .i64 a1.2.1), (.int .i64 a1.2.2)]] w0 Fs) (hn : Fs.flatten.Nodup) (rr : ((Int × (List Int)) × ((List UInt8) × Int × Int))) (hF : S.l2Fact a1 a2 a3 = some rr) :
 Calls Tryd.prog 100 [(ptr pb1 0), u2, (.int .i64 a3)].toArray w0 fun e w' => ∃ v, e = .returned v ∧ ∃ q0 : Value, v = q0 ∧ Ctx Fs.flatten w0 w' [Item.own q0 (rr.1 : (Int × (List Int))), Item.box pb1 [u1, (.int .i64 rr.2.2.1), (.int .i64 rr.2.2.2)]] := by
 refine calls_of_W Tryd.func100 rfl rfl ?_
 have hC0 := Ctx.startIn hH hn
 unfold S.l2Fact at hF
 refine W_seq_reg ?_
 refine WL_allocK hC0 zero72 rfl rfl (fun b1 w1 hC1 hB1 hN1 => ?_)
 refine WL_nil (W_seq_reg ?_)
 refine WL_move rfl rfl ?_
 refine WL_move rfl rfl ?_
 refine WL_len Tryd.underlying22 g2 rfl rfl ?_
 obtain ⟨x1, hr1, hF⟩ := bind_some hF
 have hC2 := hC1.f1
 obtain ⟨Fs1, hH1, hn1, hF1, hO1, hb1⟩ := Ctx.lend2 (As := [Item.box b1 [(.int .i64 0), (.slice none 0 0)]]) [Item.box pb1 [u1, (.int .i64 a1.2.1), (.int .i64 a1.2.2)]] hC2
 refine WL_call Tryd.call64 rfl rfl (c_S_l1Below pb1 (a1.1, a1.2.1, a1.2.2) u1 (RO.lent g1 hC2.keep hF1) (List.length a2 : Int) hH1 hn1 x1 hr1) ?_
 rintro _ w2 ⟨rfl, hq1⟩
 have hC3 : Ctx Fs.flatten w0 w2 [Item.box pb1 [u1, (.int .i64 x1.2.2.1), (.int .i64 x1.2.2.2)], Item.box b1 [(.int .i64 0), (.slice none 0 0)]] := hb1 _ _ hq1
 refine WL_build (vs := [(0, (.int .i64 x1.1))]) rfl rfl rfl (built72_0 rfl) ?_
 refine WL_allocK hC3 zero72 rfl rfl (fun b2 w3 hC4 hB2 hN2 => ?_)
 refine WL_store_box_aggK (cs' := [(.int .i64 x1.1), (.slice none 0 0)]) (new := [(.int .i64 x1.1), (.slice none 0 0)]) hC4 0 rfl rfl (by intro v hv; simp only [List.mem_cons, List.not_mem_nil, or_false] at hv; rcases hv with rfl | rfl; exact rfl; exact rfl) rfl Tryd.sizeOf72 rfl rfl (fun w4 hC5 hKp1 => ?_)
 try dsimp only [List.set] at hC5
 have hk1 := Keep.over (Keep.of hB2) hN2 hKp1
 refine WL_nil (W_seq (W_seq_reg ?_))
 refine WL_assign rfl rfl ?_
 refine WL_nil ?_
 obtain ⟨r1, hr2, hF⟩ := bind_some hF
 refine W_norm (fun l w => ∃ x7 : Int, ∃ v2 : Value, ∃ x8 : (List Int), ∃ x9 : Int, ∃ x10 : Int, (x7, x8, x9, x10) = r1 ∧ l = [(6, (ptr b1 0)), (7, (ptr b2 0))] ∧ Ctx Fs.flatten w0 w [Item.own v2 (x8 : (List Int)), Item.box b2 [(.int .i64 x7), v2], Item.box pb1 [u1, (.int .i64 x9), (.int .i64 x10)], Item.box b1 [(.int .i64 0), (.slice none 0 0)]]) ?_ ?_
 ·refine W_block ?_
  have hC22 := hC5.triv (nil_val (α := Int))
  refine W.sub (l' := [(0, (ptr pb1 0)), (1, u2), (2, (.int .i64 a3)), (6, (ptr b1 0)), (7, (ptr b2 0)), (8, (.int .i64 0))]) ?_ ⟨rfl, rfl, rfl, rfl, rfl, rfl, trivial⟩
  refine W_loop (fun k l w => ∃ x2 : Int, ∃ v1 : Value, ∃ x3 : (List Int), ∃ x4 : Int, ∃ x5 : Int, ∃ x6 : Int, l = [(0, (ptr pb1 0)), (1, u2), (2, (.int .i64 a3)), (6, (ptr b1 0)), (7, (ptr b2 0)), (8, (.int .i64 x6))] ∧ Ctx Fs.flatten w0 w [Item.own v1 (x3 : (List Int)), Item.box b2 [(.int .i64 x2), v1], Item.box pb1 [u1, (.int .i64 x4), (.int .i64 x5)], Item.box b1 [(.int .i64 0), (.slice none 0 0)]] ∧ S.l2Fact_l1 a2 a1 a3 k x2 x3 x4 x5 x6 = some r1) FUEL ⟨x1.1, (.slice none 0 0), [], x1.2.2.1, x1.2.2.2, 0, rfl, hC22, hr2⟩ ?_
  clear hr2
  rintro k1 _ w5 ⟨x2, v1, x3, x4, x5, x6, rfl, hC6, hL1⟩
  cases k1 with
  | zero => rw [S.l2Fact_l1] at hL1; cases hL1
  | succ k1 =>
   rw [S.l2Fact_l1] at hL1
   refine W_seq (W_seq_reg ?_)
   refine WL_move rfl rfl ?_
   refine WL_move rfl rfl ?_
   refine WL_field Tryd.underlying72 rfl rfl (fun w => ⟨_, Tryd.sizeOf3 w⟩) rfl rfl ?_
   refine WL_load_box hC6 1 rfl rfl Tryd.isAgg3 rfl rfl ?_
   obtain ⟨x11, hx1, hL1⟩ := bind_some hL1
   refine WL_index Tryd.underlying22 ty3 g2 hx1 rfl rfl rfl (fun b3 o1 h1 => ?_)
   refine WL_load ty3 h1 hC6.keep rfl rfl (fun v3 h2 => ?_)
   obtain rfl := ro_int h2
   refine WL_lss rfl rfl rfl ?_
   refine WL_nil ?_
   refine W_cond rfl (fun hc1 => ?_) (fun hc1 => ?_)
   ·replace hL1 := ite_t hL1 hc1
    refine W_skip (nrm_normal (W_seq (W_block (W_seq_reg ?_))))
    refine WL_move rfl rfl ?_
    refine WL_move rfl rfl ?_
    obtain ⟨x12, hr3, hL1⟩ := bind_some hL1
    have hC7 := hC6.f2
    obtain ⟨Fs2, hH2, hn2, hF2, hO2, hb2⟩ := Ctx.lend2 (As := [Item.own v1 (x3 : (List Int)), Item.box b2 [(.int .i64 x2), v1], Item.box b1 [(.int .i64 0), (.slice none 0 0)]]) [Item.box pb1 [u1, (.int .i64 x4), (.int .i64 x5)]] hC7
    refine WL_call Tryd.call64 rfl rfl (c_S_l1Below pb1 (a1.1, x4, x5) u1 (RO.lent g1 hC7.keep hF2) a3 hH2 hn2 x12 hr3) ?_
    rintro _ w6 ⟨rfl, hq2⟩
    have hC8 : Ctx Fs.flatten w0 w6 [Item.box pb1 [u1, (.int .i64 x12.2.2.1), (.int .i64 x12.2.2.2)], Item.own v1 (x3 : (List Int)), Item.box b2 [(.int .i64 x2), v1], Item.box b1 [(.int .i64 0), (.slice none 0 0)]] := hb2 _ _ hq2
    refine WL_assign rfl rfl ?_
    refine WL_nil (W_reg ?_)
    refine WL_field Tryd.underlying72 rfl rfl (fun w => ⟨_, Tryd.sizeOf22 w⟩) rfl rfl ?_
    refine WL_load_box hC8 2 rfl rfl Tryd.isAgg22 rfl rfl ?_
    refine WL_move rfl rfl ?_
    refine WL_buildSlice (vs := [(.int .i64 x12.1)]) hC8 Tryd.underlying22 ty3 rfl rfl rfl rfl (by intro v hv; simp only [List.mem_cons, List.not_mem_nil, or_false] at hv; rcases hv with rfl <;> rfl) rfl rfl (fun b4 w7 hC9 hB4 => ?_)
    have hC10 := hC9.row0 (α := Int)
    have hC11 := hC10.triv (int_val (x12.1))
    have hC12 := hC11.row1
    have hC13 := hC12.front 1 rfl
    dsimp only [List.eraseIdx, List.cons_append, List.nil_append, List.append_nil] at hC13
    have hC14 : Ctx Fs.flatten w0 w7 (Item.own (.slice (some ⟨b4, 0, none⟩) 1 1) ([x12.1] : List Int) :: [Item.box pb1 [u1, (.int .i64 x12.2.2.1), (.int .i64 x12.2.2.2)], Item.own v1 (x3 : (List Int)), Item.box b2 [(.int .i64 x2), v1], Item.box b1 [(.int .i64 0), (.slice none 0 0)]]) := hC13.rowOwn (by simp [maxLen])
    obtain ⟨x13, hx2, hL1⟩ := bind_some hL1
    refine WL_append_flat (α := Int) hC14 2 rfl (hC14.ro 0 rfl) (Keep.refl _ _) Tryd.underlying22 ty3 rfl hx2 rfl rfl rfl (fun v4 w9 hC15 => ?_)
    try dsimp only [List.set] at hC15
    refine WL_field Tryd.underlying72 rfl rfl (fun w => ⟨_, Tryd.sizeOf22 w⟩) rfl rfl ?_
    refine WL_store_boxK (cs' := [(.int .i64 x2), v4]) hC15 3 rfl rfl (ro_one (hC15.ro 2 rfl)) rfl Tryd.sizeOf22 rfl rfl (fun w10 hC16 hKp2 => ?_)
    try dsimp only [List.set] at hC16
    refine WL_nil (blk_normal (nrm_normal (W_reg ?_)))
    refine WL_move rfl rfl ?_
    refine WL_add rfl rfl rfl ?_
    refine WL_assign rfl rfl ?_
    refine WL_nil ?_
    have hC17 := hC16.f4
    have hC18 := hC17.f2
    have hC19 := hC18.f4
    have hC20 := hC19.f4
    have hC21 := hC20.h4
    refine nrm_sub (l' := [(0, (ptr pb1 0)), (1, u2), (2, (.int .i64 a3)), (6, (ptr b1 0)), (7, (ptr b2 0)), (8, (.int .i64 (w64 (x6 + 1))))]) ⟨rfl, rfl, rfl, rfl, rfl, rfl, trivial⟩ ?_
    exact ⟨k1, Nat.lt_succ_self _, x2, v4, x13, x12.2.2.1, x12.2.2.2, w64 (x6 + 1), rfl, hC21, hL1⟩
   replace hL1 := ite_f hL1 hc1
   refine W_exit (nrm_exit (nrm_exit (blk_exit ?_)))
   have hq3 := Option.some.inj hL1
   subst hq3
   refine nrm_sub (l' := [(6, (ptr b1 0)), (7, (ptr b2 0))]) ⟨rfl, rfl, trivial⟩ ?_
   exact ⟨x2, v1, x3, x4, x5, rfl, rfl, hC6⟩
 rintro l2 _ w11 hs2 ⟨x7, v2, x8, x9, x10, rfl, rfl, hC23⟩
 try dsimp only at hF
 refine nrm_sub' hs2 ?_
 clear hs2
 refine W_seq_reg ?_
 refine WL_load_box_agg [(.int .i64 x7), v2] hC23 1 rfl rfl rfl Tryd.isAgg72 Tryd.sizeOf72 rfl rfl ?_
 refine WL_store_box_aggK (cs' := [(.int .i64 x7), v2]) (new := [(.int .i64 x7), v2]) hC23 3 rfl rfl (by intro v hv; simp only [List.mem_cons, List.not_mem_nil, or_false] at hv; rcases hv with rfl | rfl; exact rfl; exact (ro_one (hC23.ro 0 rfl))) rfl Tryd.sizeOf72 rfl rfl (fun w12 hC24 hKp3 => ?_)
 try dsimp only [List.set] at hC24
 refine WL_nil (W_ret ?_)
 have hq4 := Option.some.inj hF
 subst hq4
 refine fn_retG1 rfl (rv_cell_agg (cs' := [(.int .i64 x7), v2]) hC24 (i := 3) rfl rfl rfl Tryd.isAgg72 Tryd.sizeOf72 rfl) ?_
 have hC25 := hC24.f2
 have hC27 := hC25.f1
 have hC26 := own_st72 x7 v2 x8 hC27
 have hC28 := hC26.h2
 exact ⟨_, rfl, _, rfl, hC28⟩

theorem c_S_l2Facts {w0 : World} {Fs : List (List Nat)} (pb1 : Nat) (a1 : ((List UInt8) × Int × Int)) (u1 : Value) (g1 : RO Fs.flatten w0 u1 a1.1) (a2 : (List Int)) (u2 : Value) (g2 : RO Fs.flatten w0 u2 a2) (a3 : Int) (hH : Hold [Item.box pb1 [u1, (.int .i64 a1.2.1), (.int .i64 a1.2.2)]] w0 Fs) (hn : Fs.flatten.Nodup) (rr : ((List (Int × (List Int))) × ((List UInt8) × Int × Int))) (hF : S.l2Facts a1 a2 a3 = some rr) :
 Calls Tryd.prog 86 [(ptr pb1 0), u2, (.int .i64 a3)].toArray w0 fun e w' => ∃ v, e = .returned v ∧ ∃ q0 : Value, v = q0 ∧ Ctx Fs.flatten w0 w' [Item.own q0 (rr.1 : (List (Int × (List Int)))), Item.box pb1 [u1, (.int .i64 rr.2.2.1), (.int .i64 rr.2.2.2)]] := by
 refine calls_of_W Tryd.func86 rfl rfl ?_
 have hC0 := Ctx.startIn hH hn
 unfold S.l2Facts at hF
 refine W_seq_reg ?_
 refine WL_assign rfl rfl ?_
 refine WL_nil (W_seq_reg ?_)
 refine WL_buildSlice (vs := []) hC0 Tryd.underlying43 ty72 rfl rfl rfl rfl (by simp) rfl rfl (fun b1 w1 hC1 hB1 => ?_)
 have hC2 := hC1.row0 (α := (Int × (List Int)))
 have hC3 := hC2.front 1 rfl
 dsimp only [List.eraseIdx, List.cons_append, List.nil_append, List.append_nil] at hC3
 have hC4 : Ctx Fs.flatten w0 w1 (Item.own (.slice (some ⟨b1, 0, none⟩) 0 0) (([] : List (Int × (List Int))) : List (Int × (List Int))) :: [Item.box pb1 [u1, (.int .i64 a1.2.1), (.int .i64 a1.2.2)]]) := hC3.rowOwn (by simp [maxLen])
 refine WL_assign rfl rfl ?_
 refine WL_nil (W_seq (W_seq_reg ?_))
 refine WL_move rfl rfl ?_
 refine WL_move rfl rfl ?_
 refine WL_add rfl rfl rfl ?_
 obtain ⟨x1, hr1, hF⟩ := bind_some hF
 have hC5 := hC4.f1
 obtain ⟨Fs1, hH1, hn1, hF1, hO1, hb1⟩ := Ctx.lend2 (As := [Item.own (.slice (some ⟨b1, 0, none⟩) 0 0) (([] : List (Int × (List Int))) : (List (Int × (List Int))))]) [Item.box pb1 [u1, (.int .i64 a1.2.1), (.int .i64 a1.2.2)]] hC5
 refine WL_call Tryd.call64 rfl rfl (c_S_l1Below pb1 (a1.1, a1.2.1, a1.2.2) u1 (RO.lent g1 hC5.keep hF1) (w64 (a3 + 1)) hH1 hn1 x1 hr1) ?_
 rintro _ w2 ⟨rfl, hq1⟩
 have hC6 : Ctx Fs.flatten w0 w2 [Item.box pb1 [u1, (.int .i64 x1.2.2.1), (.int .i64 x1.2.2.2)], Item.own (.slice (some ⟨b1, 0, none⟩) 0 0) (([] : List (Int × (List Int))) : (List (Int × (List Int))))] := hb1 _ _ hq1
 refine WL_assign rfl rfl ?_
 refine WL_nil ?_
 obtain ⟨r1, hr2, hF⟩ := bind_some hF
 refine W_norm (fun l w => ∃ x6 : Int, ∃ x7 : Int, ∃ v2 : Value, ∃ x8 : (List (Int × (List Int))), (x6, x7, x8) = r1 ∧ l = [(7, v2)] ∧ Ctx Fs.flatten w0 w [Item.box pb1 [u1, (.int .i64 x6), (.int .i64 x7)], Item.own v2 (x8 : (List (Int × (List Int))))]) ?_ ?_
 ·refine W_block ?_
  refine W.sub (l' := [(0, (ptr pb1 0)), (1, u2), (7, (.slice (some ⟨b1, 0, none⟩) 0 0)), (8, (.int .i64 x1.1))]) ?_ ⟨rfl, rfl, rfl, rfl, trivial⟩
  refine W_loop (fun k l w => ∃ x2 : Int, ∃ x3 : Int, ∃ v1 : Value, ∃ x4 : (List (Int × (List Int))), ∃ x5 : Int, l = [(0, (ptr pb1 0)), (1, u2), (7, v1), (8, (.int .i64 x5))] ∧ Ctx Fs.flatten w0 w [Item.box pb1 [u1, (.int .i64 x2), (.int .i64 x3)], Item.own v1 (x4 : (List (Int × (List Int))))] ∧ S.l2Facts_l1 a1 a2 k x2 x3 x4 x5 = some r1) FUEL ⟨x1.2.2.1, x1.2.2.2, (.slice (some ⟨b1, 0, none⟩) 0 0), ([] : List (Int × (List Int))), x1.1, rfl, hC6, hr2⟩ ?_
  clear hr2
  rintro k1 _ w3 ⟨x2, x3, v1, x4, x5, rfl, hC7, hL1⟩
  cases k1 with
  | zero => rw [S.l2Facts_l1] at hL1; cases hL1
  | succ k1 =>
   rw [S.l2Facts_l1] at hL1
   refine W_seq (W_seq_reg ?_)
   refine WL_move rfl rfl ?_
   refine WL_gtr rfl rfl rfl ?_
   refine WL_nil ?_
   refine W_cond rfl (fun hc1 => ?_) (fun hc1 => ?_)
   ·replace hL1 := ite_t hL1 hc1
    refine W_skip (nrm_normal (W_seq (W_block (W_reg ?_))))
    refine WL_move rfl rfl ?_
    refine WL_move rfl rfl ?_
    refine WL_move rfl rfl ?_
    obtain ⟨x9, hr3, hL1⟩ := bind_some hL1
    obtain ⟨Fs2, hH2, hn2, hF2, hO2, hb2⟩ := Ctx.lend2 (As := [Item.own v1 (x4 : (List (Int × (List Int))))]) [Item.box pb1 [u1, (.int .i64 x2), (.int .i64 x3)]] hC7
    refine WL_call Tryd.call100 rfl rfl (c_S_l2Fact pb1 (a1.1, x2, x3) u1 (RO.lent g1 hC7.keep hF2) a2 u2 (RO.lent g2 hC7.keep hF2) 4 hH2 hn2 x9 hr3) ?_
    rintro v3 w4 ⟨_, rfl, hq2⟩
    have hC8 : Ctx Fs.flatten w0 w4 [Item.own v3 (x9.1 : (Int × (List Int))), Item.box pb1 [u1, (.int .i64 x9.2.2.1), (.int .i64 x9.2.2.2)], Item.own v1 (x4 : (List (Int × (List Int))))] := hb2 _ _ hq2
    obtain ⟨v4, rfl, hC9⟩ := st72_own hC8
    obtain ⟨x10, hr4, hL1⟩ := bind_some hL1
    refine WL_call Tryd.call99 rfl rfl (c_S_AddFact x4 v1 ((hC9.ro 2 rfl).now (Keep.refl _ _)) x9.1 v4 ((hC9.ro 0 rfl).now (Keep.refl _ _)) x10 hr4) ?_
    rintro v5 w5 ⟨hB3, F1, hv1, hn3, hb3⟩
    have hC10 := hC9.push hB3 (A := Item.own v5 x10) hv1 hn3 hb3
    refine WL_assign rfl rfl ?_
    refine WL_nil (blk_normal (nrm_normal (W_reg ?_)))
    refine WL_move rfl rfl ?_
    refine WL_sub rfl rfl rfl ?_
    refine WL_assign rfl rfl ?_
    refine WL_nil ?_
    have hC11 := hC10.f2
    have hC12 := hC11.h2
    refine nrm_sub (l' := [(0, (ptr pb1 0)), (1, u2), (7, v5), (8, (.int .i64 (w64 (x5 - 1))))]) ⟨rfl, rfl, rfl, rfl, trivial⟩ ?_
    exact ⟨k1, Nat.lt_succ_self _, x9.2.2.1, x9.2.2.2, v5, x10, w64 (x5 - 1), rfl, hC12, hL1⟩
   replace hL1 := ite_f hL1 hc1
   refine W_exit (nrm_exit (nrm_exit (blk_exit ?_)))
   have hq3 := Option.some.inj hL1
   subst hq3
   refine nrm_sub (l' := [(7, v1)]) ⟨rfl, trivial⟩ ?_
   exact ⟨x2, x3, v1, x4, rfl, rfl, hC7⟩
 rintro l2 _ w6 hs2 ⟨x6, x7, v2, x8, rfl, rfl, hC13⟩
 try dsimp only at hF
 refine nrm_sub' hs2 ?_
 clear hs2
 refine W_seq_reg ?_
 refine WL_move rfl rfl ?_
 refine WL_assign rfl rfl ?_
 refine WL_nil (W_ret ?_)
 have hq4 := Option.some.inj hF
 subst hq4
 refine fn_ret1 rfl rfl ?_
 have hC14 := hC13.f1
 exact ⟨_, rfl, _, rfl, hC14⟩

theorem c_S_l1PickInt {w0 : World} {Fs : List (List Nat)} (pb1 : Nat) (a1 : ((List UInt8) × Int × Int)) (u1 : Value) (g1 : RO Fs.flatten w0 u1 a1.1) (a2 : (List Int)) (u2 : Value) (g2 : RO Fs.flatten w0 u2 a2) (hH : Hold [Item.box pb1 [u1, (.int .i64 a1.2.1), (.int .i64 a1.2.2)]] w0 Fs) (hn : Fs.flatten.Nodup) (rr : (Int × ((List UInt8) × Int × Int))) (hF : S.l1PickInt a1 a2 = some rr) :
 Calls Tryd.prog 98 [(ptr pb1 0), u2].toArray w0 fun e w' => ∃ v, e = .returned v ∧ v = (.int .i64 rr.1) ∧ Ctx Fs.flatten w0 w' [Item.box pb1 [u1, (.int .i64 rr.2.2.1), (.int .i64 rr.2.2.2)]] := by
 refine calls_of_W Tryd.func98 rfl rfl ?_
 have hC0 := Ctx.startIn hH hn
 unfold S.l1PickInt at hF
 refine W_seq_reg ?_
 refine WL_assign rfl rfl ?_
 refine WL_nil (W_seq_reg ?_)
 refine WL_move rfl rfl ?_
 refine WL_move rfl rfl ?_
 refine WL_move rfl rfl ?_
 refine WL_len Tryd.underlying22 g2 rfl rfl ?_
 obtain ⟨x1, hr1, hF⟩ := bind_some hF
 obtain ⟨Fs1, hH1, hn1, hF1, hO1, hb1⟩ := Ctx.lend2 (As := []) [Item.box pb1 [u1, (.int .i64 a1.2.1), (.int .i64 a1.2.2)]] hC0
 refine WL_call Tryd.call64 rfl rfl (c_S_l1Below pb1 (a1.1, a1.2.1, a1.2.2) u1 (RO.lent g1 hC0.keep hF1) (List.length a2 : Int) hH1 hn1 x1 hr1) ?_
 rintro _ w1 ⟨rfl, hq1⟩
 have hC1 : Ctx Fs.flatten w0 w1 [Item.box pb1 [u1, (.int .i64 x1.2.2.1), (.int .i64 x1.2.2.2)]] := hb1 _ _ hq1
 obtain ⟨x2, hx1, hF⟩ := bind_some hF
 refine WL_index Tryd.underlying22 ty3 g2 hx1 rfl rfl rfl (fun b1 o1 h1 => ?_)
 refine WL_load ty3 h1 hC1.keep rfl rfl (fun v1 h2 => ?_)
 obtain rfl := ro_int h2
 refine WL_assign rfl rfl ?_
 refine WL_nil (W_ret ?_)
 have hq2 := Option.some.inj hF
 subst hq2
 refine fn_ret1 rfl rfl ?_
 exact ⟨_, rfl, rfl, hC1⟩

end Go.Gx.Px
