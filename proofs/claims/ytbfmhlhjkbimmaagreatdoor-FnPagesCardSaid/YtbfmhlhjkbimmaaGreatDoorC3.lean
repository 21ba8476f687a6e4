/- The contracts of the Go functions against the pure functions, printed by program. Conditions: each says them. -/
import Derived.Test.YtbfmhlhjkbimmaaGreatDoorC2
set_option linter.unusedVariables false
set_option linter.unusedSimpArgs false
set_option maxRecDepth 100000
set_option maxHeartbeats 4000000
namespace Go.Gx.Px
open Go.Proofs Go.RowKit

theorem c_S_l2AnyFact {w0 : World} {Fs : List (List Nat)} (pb1 : Nat) (a1 : ((List UInt8) × Int × Int)) (u1 : Value) (g1 : RO Fs.flatten w0 u1 a1.1) (a2 : (List Int)) (u2 : Value) (g2 : RO Fs.flatten w0 u2 a2) (hH : Hold [Item.box pb1 [u1, (.int .i64 a1.2.1), (.int .i64 a1.2.2)]] w0 Fs) (hn : Fs.flatten.Nodup) (rr : ((Int × (List Int)) × ((List UInt8) × Int × Int))) (hF : S.l2AnyFact a1 a2 = some rr) :
 Calls Tryz.prog 109 [(ptr pb1 0), u2].toArray w0 fun e w' => ∃ v, e = .returned v ∧ ∃ q0 : Value, v = q0 ∧ Ctx Fs.flatten w0 w' [Item.own q0 (rr.1 : (Int × (List Int))), Item.box pb1 [u1, (.int .i64 rr.2.2.1), (.int .i64 rr.2.2.2)]] := by
 refine calls_of_W Tryz.func109 rfl rfl ?_
 have hC0 := Ctx.startIn hH hn
 unfold S.l2AnyFact at hF
 refine W_seq_reg ?_
 refine WL_allocK hC0 zero70 rfl rfl (fun b1 w1 hC1 hB1 hN1 => ?_)
 refine WL_nil (W_seq_reg ?_)
 refine WL_buildSlice (vs := [(.int .i64 1)]) hC1 Tryz.underlying22 ty3 rfl rfl rfl rfl (by intro v hv; simp only [List.mem_cons, List.not_mem_nil, or_false] at hv; rcases hv with rfl <;> rfl) rfl rfl (fun b2 w2 hC2 hB2 => ?_)
 have hC3 := hC2.row0 (α := Int)
 have hC4 := hC3.triv (int_val (1))
 have hC5 := hC4.row1
 have hC6 := hC5.front 1 rfl
 dsimp only [List.eraseIdx, List.cons_append, List.nil_append, List.append_nil] at hC6
 have hC7 : Ctx Fs.flatten w0 w2 (Item.own (.slice (some ⟨b2, 0, none⟩) 1 1) ([1] : List Int) :: [Item.box b1 [(.int .i64 0), (.slice none 0 0)], Item.box pb1 [u1, (.int .i64 a1.2.1), (.int .i64 a1.2.2)]]) := hC6.rowOwn (by simp [maxLen])
 refine WL_build (vs := [(1, (.slice (some ⟨b2, 0, none⟩) 1 1))]) rfl rfl rfl (built70_1 (ro_cells (hC7.ro 0 rfl))) ?_
 refine WL_allocK hC7 zero70 rfl rfl (fun b3 w3 hC8 hB3 hN2 => ?_)
 refine WL_store_box_aggK (cs' := [(.int .i64 0), (.slice (some ⟨b2, 0, none⟩) 1 1)]) (new := [(.int .i64 0), (.slice (some ⟨b2, 0, none⟩) 1 1)]) hC8 0 rfl rfl (by intro v hv; simp only [List.mem_cons, List.not_mem_nil, or_false] at hv; rcases hv with rfl | rfl; exact rfl; exact (ro_one (hC8.ro 1 rfl))) rfl Tryz.sizeOf70 rfl rfl (fun w4 hC9 hKp1 => ?_)
 try dsimp only [List.set] at hC9
 have hk1 := Keep.over (((Keep.of hB1).then hB2).then hB3) (Nat.le_trans ((Keep.of hB1).then hB2).size hN2) hKp1
 have hk2 := Keep.over ((Keep.of hB2).then hB3) (Nat.le_trans (Keep.of hB2).size hN2) hKp1
 have hk3 := Keep.over (Keep.of hB3) hN2 hKp1
 refine WL_nil (W_seq (W_seq_reg ?_))
 refine WL_move rfl rfl ?_
 obtain ⟨x1, hr1, hF⟩ := bind_some hF
 refine WL_call Tryz.call108 rfl rfl (c_S_IsSchema a2 u2 (g2.now hC9.keep) x1 hr1) ?_
 intro _ w5 hv1
 obtain ⟨rfl, hB4⟩ := res_bool hv1
 have hC10 := hC9.grow hB4
 refine WL_nil ?_
 obtain ⟨r1, hr2, hF⟩ := bind_some hF
 refine W_norm (fun l w => ∃ x2 : Int, ∃ v1 : Value, ∃ x3 : (List Int), ∃ x4 : Int, ∃ x5 : Int, (x2, x3, x4, x5) = r1 ∧ l = [(0, (ptr pb1 0)), (4, (ptr b1 0)), (5, (ptr b3 0))] ∧ Ctx Fs.flatten w0 w [Item.box b3 [(.int .i64 x2), v1], Item.own v1 (x3 : (List Int)), Item.box b1 [(.int .i64 0), (.slice none 0 0)], Item.box pb1 [u1, (.int .i64 x4), (.int .i64 x5)]]) ?_ ?_
 ·refine W_cond rfl (fun hc1 => ?_) (fun hc1 => ?_)
  ·replace hr2 := ite_t hr2 hc1
   refine W_reg ?_
   refine WL_move rfl rfl ?_
   refine WL_move rfl rfl ?_
   obtain ⟨x6, hr3, hr2⟩ := bind_some hr2
   have hC12 := hC10.f3
   obtain ⟨Fs1, hH1, hn1, hF1, hO1, hb1⟩ := Ctx.lend2 (As := [Item.box b3 [(.int .i64 0), (.slice (some ⟨b2, 0, none⟩) 1 1)], Item.own (.slice (some ⟨b2, 0, none⟩) 1 1) ([1] : (List Int)), Item.box b1 [(.int .i64 0), (.slice none 0 0)]]) [Item.box pb1 [u1, (.int .i64 a1.2.1), (.int .i64 a1.2.2)]] hC12
   refine WL_call Tryz.call81 rfl rfl (c_S_l2Fact pb1 (a1.1, a1.2.1, a1.2.2) u1 (RO.lent g1 hC12.keep hF1) a2 u2 (RO.lent g2 hC12.keep hF1) 10 hH1 hn1 x6 hr3) ?_
   rintro v2 w7 ⟨_, rfl, hq1⟩
   have hC13 : Ctx Fs.flatten w0 w7 [Item.own v2 (x6.1 : (Int × (List Int))), Item.box pb1 [u1, (.int .i64 x6.2.2.1), (.int .i64 x6.2.2.2)], Item.box b3 [(.int .i64 0), (.slice (some ⟨b2, 0, none⟩) 1 1)], Item.own (.slice (some ⟨b2, 0, none⟩) 1 1) ([1] : (List Int)), Item.box b1 [(.int .i64 0), (.slice none 0 0)]] := hb1 _ _ hq1
   obtain ⟨v3, rfl, hC14⟩ := st70_own hC13
   refine WL_store_box_aggK (cs' := [(.int .i64 x6.1.1), v3]) (new := [(.int .i64 x6.1.1), v3]) hC14 2 rfl rfl (by intro v hv; simp only [List.mem_cons, List.not_mem_nil, or_false] at hv; rcases hv with rfl | rfl; exact rfl; exact (ro_one (hC14.ro 0 rfl))) rfl Tryz.sizeOf70 rfl rfl (fun w9 hC15 hKp2 => ?_)
   try dsimp only [List.set] at hC15
   refine WL_nil ?_
   have hq2 := Option.some.inj hr2
   subst hq2
   have hC16 := hC15.f1
   have hC17 := hC16.f4
   have hC18 := hC17.f2
   have hC19 := hC18.f3
   have hC20 := hC19.h4
   refine nrm_sub (l' := [(0, (ptr pb1 0)), (4, (ptr b1 0)), (5, (ptr b3 0))]) ⟨rfl, rfl, rfl, trivial⟩ ?_
   exact ⟨x6.1.1, v3, x6.1.2, x6.2.2.1, x6.2.2.2, rfl, rfl, hC20⟩
  replace hr2 := ite_f hr2 hc1
  refine W_skip ?_
  have hq3 := Option.some.inj hr2
  subst hq3
  refine nrm_sub (l' := [(0, (ptr pb1 0)), (4, (ptr b1 0)), (5, (ptr b3 0))]) ⟨rfl, rfl, rfl, trivial⟩ ?_
  exact ⟨0, (.slice (some ⟨b2, 0, none⟩) 1 1), [1], a1.2.1, a1.2.2, rfl, rfl, hC10⟩
 rintro l1 _ w6 hs1 ⟨x2, v1, x3, x4, x5, rfl, rfl, hC11⟩
 try dsimp only at hF
 refine nrm_sub' hs1 ?_
 clear hs1
 refine W_seq (W_seq_reg ?_)
 refine WL_move rfl rfl ?_
 obtain ⟨x7, hr4, hF⟩ := bind_some hF
 have hC21 := hC11.f3
 obtain ⟨Fs2, hH2, hn2, hF2, hO2, hb2⟩ := Ctx.lend2 (As := [Item.box b3 [(.int .i64 x2), v1], Item.own v1 (x3 : (List Int)), Item.box b1 [(.int .i64 0), (.slice none 0 0)]]) [Item.box pb1 [u1, (.int .i64 x4), (.int .i64 x5)]] hC21
 refine WL_call Tryz.call37 rfl rfl (c_S_l1Below pb1 (a1.1, x4, x5) u1 (RO.lent g1 hC21.keep hF2) 8 hH2 hn2 x7 hr4) ?_
 rintro _ w10 ⟨rfl, hq4⟩
 have hC22 : Ctx Fs.flatten w0 w10 [Item.box pb1 [u1, (.int .i64 x7.2.2.1), (.int .i64 x7.2.2.2)], Item.box b3 [(.int .i64 x2), v1], Item.own v1 (x3 : (List Int)), Item.box b1 [(.int .i64 0), (.slice none 0 0)]] := hb2 _ _ hq4
 refine WL_nil (W_block (W_seq_reg ?_))
 refine WL_eql rfl rfl rfl ?_
 refine WL_assign rfl rfl ?_
 refine WL_nil ?_
 obtain ⟨r2, hr5, hF⟩ := bind_some hF
 refine W_norm (fun l w => ∃ x8 : Int, ∃ x9 : Int, ∃ x10 : Int, ∃ v4 : Value, ∃ x11 : (List Int), (x8, x9, x10, x11) = r2 ∧ l = [(4, (ptr b1 0)), (5, (ptr b3 0))] ∧ Ctx Fs.flatten w0 w [Item.box pb1 [u1, (.int .i64 x8), (.int .i64 x9)], Item.box b3 [(.int .i64 x10), v4], Item.own v4 (x11 : (List Int)), Item.box b1 [(.int .i64 0), (.slice none 0 0)]]) ?_ ?_
 ·refine W_cond rfl (fun hc2 => ?_) (fun hc2 => ?_)
  ·replace hr5 := ite_t hr5 hc2
   refine W_reg ?_
   refine WL_move rfl rfl ?_
   obtain ⟨x12, hr6, hr5⟩ := bind_some hr5
   obtain ⟨Fs3, hH3, hn3, hF3, hO3, hb3⟩ := Ctx.lend2 (As := [Item.box b3 [(.int .i64 x2), v1], Item.own v1 (x3 : (List Int)), Item.box b1 [(.int .i64 0), (.slice none 0 0)]]) [Item.box pb1 [u1, (.int .i64 x7.2.2.1), (.int .i64 x7.2.2.2)]] hC22
   refine WL_call Tryz.call37 rfl rfl (c_S_l1Below pb1 (a1.1, x7.2.2.1, x7.2.2.2) u1 (RO.lent g1 hC22.keep hF3) 5 hH3 hn3 x12 hr6) ?_
   rintro _ w12 ⟨rfl, hq5⟩
   have hC24 : Ctx Fs.flatten w0 w12 [Item.box pb1 [u1, (.int .i64 x12.2.2.1), (.int .i64 x12.2.2.2)], Item.box b3 [(.int .i64 x2), v1], Item.own v1 (x3 : (List Int)), Item.box b1 [(.int .i64 0), (.slice none 0 0)]] := hb3 _ _ hq5
   refine WL_sub rfl rfl rfl ?_
   refine WL_field Tryz.underlying70 rfl rfl (fun w => ⟨_, Tryz.sizeOf3 w⟩) rfl rfl ?_
   refine WL_store_boxK (cs' := [(.int .i64 (w64 (x12.1 - 1))), v1]) hC24 1 rfl rfl rfl rfl Tryz.sizeOf3 rfl rfl (fun w13 hC25 hKp3 => ?_)
   try dsimp only [List.set] at hC25
   refine WL_nil ?_
   have hq6 := Option.some.inj hr5
   subst hq6
   refine nrm_sub (l' := [(4, (ptr b1 0)), (5, (ptr b3 0))]) ⟨rfl, rfl, trivial⟩ ?_
   exact ⟨x12.2.2.1, x12.2.2.2, w64 (x12.1 - 1), v1, x3, rfl, rfl, hC25⟩
  replace hr5 := ite_f hr5 hc2
  refine W_seq_reg ?_
  refine WL_eql rfl rfl rfl ?_
  refine WL_assign rfl rfl ?_
  refine WL_nil ?_
  obtain ⟨r3, hr7, hr5⟩ := bind_some hr5
  refine W_norm (fun l w => ∃ x13 : Int, ∃ x14 : Int, ∃ x15 : Int, ∃ v5 : Value, ∃ x16 : (List Int), (x13, x14, x15, x16) = r3 ∧ l = [(4, (ptr b1 0)), (5, (ptr b3 0))] ∧ Ctx Fs.flatten w0 w [Item.box pb1 [u1, (.int .i64 x13), (.int .i64 x14)], Item.box b3 [(.int .i64 x15), v5], Item.own v5 (x16 : (List Int)), Item.box b1 [(.int .i64 0), (.slice none 0 0)]]) ?_ ?_
  ·refine W_cond rfl (fun hc3 => ?_) (fun hc3 => ?_)
   ·replace hr7 := ite_t hr7 hc3
    obtain ⟨r4, hr8, hr7⟩ := bind_some hr7
    refine W_norm (fun l w => ∃ x17 : (List Int), ∃ x18 : Int, ∃ x19 : Int, (x17, x18, x19) = r4 ∧ l = [(4, (ptr b1 0)), (5, (ptr b3 0))] ∧ Ctx Fs.flatten w0 w [Item.box pb1 [u1, (.int .i64 x18), (.int .i64 x19)], Item.box b3 [(.int .i64 x2), v1], Item.own v1 (x17 : (List Int)), Item.box b1 [(.int .i64 0), (.slice none 0 0)]]) ?_ ?_
    ·refine W_drawn 7 rfl hmix (fun w16 hB9 => ?_)
     have hC28 := hC22.grow hB9
     refine WA_tk 0 (by kernel_rfl) rfl rfl (fl_field Tryz.underlying70 rfl rfl (fun w => ⟨_, Tryz.sizeOf22 w⟩) rfl) ?_
     refine WL_field Tryz.underlying70 rfl rfl (fun w => ⟨_, Tryz.sizeOf22 w⟩) rfl rfl ?_
     refine WL_nil ?_
     refine WA_tk 2 (by kernel_rfl) rfl rfl (fl_move rfl) ?_
     refine WL_move rfl rfl ?_
     refine WL_nil ?_
     refine WA_all2 (i := 1) (j := 3) (by kernel_rfl) rfl rfl ?_ ?_
     ·refine WL_load_box hC28 1 rfl rfl Tryz.isAgg22 rfl rfl ?_
      refine WL_nil ?_
      refine WA_one 3 (by kernel_rfl) rfl ?_
      refine WL_buildSlice (vs := [(.int .i64 (-1)), (.int .i64 9), (.int .i64 10)]) hC28 Tryz.underlying22 ty3 rfl rfl rfl rfl (by intro v hv; simp only [List.mem_cons, List.not_mem_nil, or_false] at hv; rcases hv with rfl | rfl | rfl <;> rfl) rfl rfl (fun b4 w17 hC29 hB10 => ?_)
      have hC30 := hC29.row0 (α := Int)
      have hC31 := hC30.triv (int_val (10))
      have hC32 := hC31.row1
      have hC33 := hC32.triv (int_val (9))
      have hC34 := hC33.row1
      have hC35 := hC34.triv (int_val ((-1)))
      have hC36 := hC35.row1
      have hC37 := hC36.front 1 rfl
      dsimp only [List.eraseIdx, List.cons_append, List.nil_append, List.append_nil] at hC37
      have hC38 : Ctx Fs.flatten w0 w17 (Item.own (.slice (some ⟨b4, 0, none⟩) 3 3) ([(-1), 9, 10] : List Int) :: [Item.box pb1 [u1, (.int .i64 x7.2.2.1), (.int .i64 x7.2.2.2)], Item.box b3 [(.int .i64 x2), v1], Item.own v1 (x3 : (List Int)), Item.box b1 [(.int .i64 0), (.slice none 0 0)]]) := hC37.rowOwn (by simp [maxLen])
      refine WL_nil ?_
      obtain ⟨x20, hr9, hr8⟩ := bind_some hr8
      refine WA_one 4 (by kernel_rfl) rfl ?_
      have hC39 := hC38.f1
      obtain ⟨Fs4, hH4, hn4, hF4, hO4, hb4⟩ := Ctx.lend2 (As := [Item.own (.slice (some ⟨b4, 0, none⟩) 3 3) ([(-1), 9, 10] : (List Int)), Item.box b3 [(.int .i64 x2), v1], Item.own v1 (x3 : (List Int)), Item.box b1 [(.int .i64 0), (.slice none 0 0)]]) [Item.box pb1 [u1, (.int .i64 x7.2.2.1), (.int .i64 x7.2.2.2)]] hC39
      refine WL_call Tryz.call66 rfl rfl (c_S_l1PickInt pb1 (a1.1, x7.2.2.1, x7.2.2.2) u1 (RO.lent g1 hC39.keep hF4) ([(-1), 9, 10]) (.slice (some ⟨b4, 0, none⟩) 3 3) (hO4 0 _ _ _ rfl) hH4 hn4 x20 hr9) ?_
      rintro _ w18 ⟨rfl, hq7⟩
      have hC40 : Ctx Fs.flatten w0 w18 [Item.box pb1 [u1, (.int .i64 x20.2.2.1), (.int .i64 x20.2.2.2)], Item.own (.slice (some ⟨b4, 0, none⟩) 3 3) ([(-1), 9, 10] : (List Int)), Item.box b3 [(.int .i64 x2), v1], Item.own v1 (x3 : (List Int)), Item.box b1 [(.int .i64 0), (.slice none 0 0)]] := hb4 _ _ hq7
      refine WL_nil ?_
      obtain ⟨x21, hx1, hr8⟩ := bind_some hr8
      refine WA_tk 5 (by kernel_rfl) rfl rfl (fl_index_own hC40 3 rfl Tryz.underlying22 ty3 hx1 rfl rfl) ?_
      refine WL_index_own hC40 3 rfl Tryz.underlying22 ty3 hx1 rfl rfl rfl (fun b5 hE1 => ?_)
      refine WL_nil ?_
      refine WA_one 6 (by kernel_rfl) rfl ?_
      have hC42 := hC40.triv (int_val (x20.1))
      refine WL_store_elem hC42 3 rfl ty3 hE1 hx1 rfl rfl rfl (fun w19 hC41 => ?_)
      try dsimp only [List.set] at hC41
      refine WL_nil ?_
      refine WA_done (by kernel_rfl) ?_
      have hq8 := Option.some.inj hr8
      subst hq8
      have hC43 := hC41.f4
      have hC44 := hC43.f4
      have hC45 := hC44.f4
      have hC46 := hC45.f3
      have hC47 := hC46.h4
      refine nrm_sub (l' := [(4, (ptr b1 0)), (5, (ptr b3 0))]) ⟨rfl, rfl, trivial⟩ ?_
      exact ⟨(List.set x3 (Int.toNat 0) x20.1), x20.2.2.1, x20.2.2.2, rfl, rfl, hC47⟩
     refine WL_buildSlice (vs := [(.int .i64 (-1)), (.int .i64 9), (.int .i64 10)]) hC28 Tryz.underlying22 ty3 rfl rfl rfl rfl (by intro v hv; simp only [List.mem_cons, List.not_mem_nil, or_false] at hv; rcases hv with rfl | rfl | rfl <;> rfl) rfl rfl (fun b4 w17 hC29 hB10 => ?_)
     have hC30 := hC29.row0 (α := Int)
     have hC31 := hC30.triv (int_val (10))
     have hC32 := hC31.row1
     have hC33 := hC32.triv (int_val (9))
     have hC34 := hC33.row1
     have hC35 := hC34.triv (int_val ((-1)))
     have hC36 := hC35.row1
     have hC37 := hC36.front 1 rfl
     dsimp only [List.eraseIdx, List.cons_append, List.nil_append, List.append_nil] at hC37
     have hC38 : Ctx Fs.flatten w0 w17 (Item.own (.slice (some ⟨b4, 0, none⟩) 3 3) ([(-1), 9, 10] : List Int) :: [Item.box pb1 [u1, (.int .i64 x7.2.2.1), (.int .i64 x7.2.2.2)], Item.box b3 [(.int .i64 x2), v1], Item.own v1 (x3 : (List Int)), Item.box b1 [(.int .i64 0), (.slice none 0 0)]]) := hC37.rowOwn (by simp [maxLen])
     refine WL_nil ?_
     refine WA_all2 (i := 1) (j := 4) (by kernel_rfl) rfl rfl ?_ ?_
     ·refine WL_load_box hC38 2 rfl rfl Tryz.isAgg22 rfl rfl ?_
      refine WL_nil ?_
      obtain ⟨x20, hr9, hr8⟩ := bind_some hr8
      refine WA_one 4 (by kernel_rfl) rfl ?_
      have hC39 := hC38.f1
      obtain ⟨Fs4, hH4, hn4, hF4, hO4, hb4⟩ := Ctx.lend2 (As := [Item.own (.slice (some ⟨b4, 0, none⟩) 3 3) ([(-1), 9, 10] : (List Int)), Item.box b3 [(.int .i64 x2), v1], Item.own v1 (x3 : (List Int)), Item.box b1 [(.int .i64 0), (.slice none 0 0)]]) [Item.box pb1 [u1, (.int .i64 x7.2.2.1), (.int .i64 x7.2.2.2)]] hC39
      refine WL_call Tryz.call66 rfl rfl (c_S_l1PickInt pb1 (a1.1, x7.2.2.1, x7.2.2.2) u1 (RO.lent g1 hC39.keep hF4) ([(-1), 9, 10]) (.slice (some ⟨b4, 0, none⟩) 3 3) (hO4 0 _ _ _ rfl) hH4 hn4 x20 hr9) ?_
      rintro _ w18 ⟨rfl, hq7⟩
      have hC40 : Ctx Fs.flatten w0 w18 [Item.box pb1 [u1, (.int .i64 x20.2.2.1), (.int .i64 x20.2.2.2)], Item.own (.slice (some ⟨b4, 0, none⟩) 3 3) ([(-1), 9, 10] : (List Int)), Item.box b3 [(.int .i64 x2), v1], Item.own v1 (x3 : (List Int)), Item.box b1 [(.int .i64 0), (.slice none 0 0)]] := hb4 _ _ hq7
      refine WL_nil ?_
      obtain ⟨x21, hx1, hr8⟩ := bind_some hr8
      refine WA_tk 5 (by kernel_rfl) rfl rfl (fl_index_own hC40 3 rfl Tryz.underlying22 ty3 hx1 rfl rfl) ?_
      refine WL_index_own hC40 3 rfl Tryz.underlying22 ty3 hx1 rfl rfl rfl (fun b5 hE1 => ?_)
      refine WL_nil ?_
      refine WA_one 6 (by kernel_rfl) rfl ?_
      have hC42 := hC40.triv (int_val (x20.1))
      refine WL_store_elem hC42 3 rfl ty3 hE1 hx1 rfl rfl rfl (fun w19 hC41 => ?_)
      try dsimp only [List.set] at hC41
      refine WL_nil ?_
      refine WA_done (by kernel_rfl) ?_
      have hq8 := Option.some.inj hr8
      subst hq8
      have hC43 := hC41.f4
      have hC44 := hC43.f4
      have hC45 := hC44.f4
      have hC46 := hC45.f3
      have hC47 := hC46.h4
      refine nrm_sub (l' := [(4, (ptr b1 0)), (5, (ptr b3 0))]) ⟨rfl, rfl, trivial⟩ ?_
      exact ⟨(List.set x3 (Int.toNat 0) x20.1), x20.2.2.1, x20.2.2.2, rfl, rfl, hC47⟩
     obtain ⟨x20, hr9, hr8⟩ := bind_some hr8
     have hC39 := hC38.f1
     obtain ⟨Fs4, hH4, hn4, hF4, hO4, hb4⟩ := Ctx.lend2 (As := [Item.own (.slice (some ⟨b4, 0, none⟩) 3 3) ([(-1), 9, 10] : (List Int)), Item.box b3 [(.int .i64 x2), v1], Item.own v1 (x3 : (List Int)), Item.box b1 [(.int .i64 0), (.slice none 0 0)]]) [Item.box pb1 [u1, (.int .i64 x7.2.2.1), (.int .i64 x7.2.2.2)]] hC39
     refine WL_call Tryz.call66 rfl rfl (c_S_l1PickInt pb1 (a1.1, x7.2.2.1, x7.2.2.2) u1 (RO.lent g1 hC39.keep hF4) ([(-1), 9, 10]) (.slice (some ⟨b4, 0, none⟩) 3 3) (hO4 0 _ _ _ rfl) hH4 hn4 x20 hr9) ?_
     rintro _ w18 ⟨rfl, hq7⟩
     have hC40 : Ctx Fs.flatten w0 w18 [Item.box pb1 [u1, (.int .i64 x20.2.2.1), (.int .i64 x20.2.2.2)], Item.own (.slice (some ⟨b4, 0, none⟩) 3 3) ([(-1), 9, 10] : (List Int)), Item.box b3 [(.int .i64 x2), v1], Item.own v1 (x3 : (List Int)), Item.box b1 [(.int .i64 0), (.slice none 0 0)]] := hb4 _ _ hq7
     refine WL_nil ?_
     refine WA_one 1 (by kernel_rfl) rfl ?_
     refine WL_load_box hC40 2 rfl rfl Tryz.isAgg22 rfl rfl ?_
     refine WL_nil ?_
     obtain ⟨x21, hx1, hr8⟩ := bind_some hr8
     refine WA_tk 5 (by kernel_rfl) rfl rfl (fl_index_own hC40 3 rfl Tryz.underlying22 ty3 hx1 rfl rfl) ?_
     refine WL_index_own hC40 3 rfl Tryz.underlying22 ty3 hx1 rfl rfl rfl (fun b5 hE1 => ?_)
     refine WL_nil ?_
     refine WA_one 6 (by kernel_rfl) rfl ?_
     have hC42 := hC40.triv (int_val (x20.1))
     refine WL_store_elem hC42 3 rfl ty3 hE1 hx1 rfl rfl rfl (fun w19 hC41 => ?_)
     try dsimp only [List.set] at hC41
     refine WL_nil ?_
     refine WA_done (by kernel_rfl) ?_
     have hq8 := Option.some.inj hr8
     subst hq8
     have hC43 := hC41.f4
     have hC44 := hC43.f4
     have hC45 := hC44.f4
     have hC46 := hC45.f3
     have hC47 := hC46.h4
     refine nrm_sub (l' := [(4, (ptr b1 0)), (5, (ptr b3 0))]) ⟨rfl, rfl, trivial⟩ ?_
     exact ⟨(List.set x3 (Int.toNat 0) x20.1), x20.2.2.1, x20.2.2.2, rfl, rfl, hC47⟩
    rintro l4 _ w15 hs4 ⟨x17, x18, x19, rfl, rfl, hC27⟩
    try dsimp only at hr7
    have hq9 := Option.some.inj hr7
    subst hq9
    refine nrm_subs (l2 := [(4, (ptr b1 0)), (5, (ptr b3 0))]) hs4 ⟨rfl, rfl, trivial⟩ ?_
    exact ⟨x18, x19, x2, v1, x17, rfl, rfl, hC27⟩
   replace hr7 := ite_f hr7 hc3
   refine W_seq_reg ?_
   refine WL_eql rfl rfl rfl ?_
   refine WL_assign rfl rfl ?_
   refine WL_nil ?_
   obtain ⟨r5, hr10, hr7⟩ := bind_some hr7
   refine W_norm (fun l w => ∃ x22 : Int, ∃ v6 : Value, ∃ x23 : (List Int), (x22, x23) = r5 ∧ l = [(4, (ptr b1 0)), (5, (ptr b3 0))] ∧ Ctx Fs.flatten w0 w [Item.box pb1 [u1, (.int .i64 x7.2.2.1), (.int .i64 x7.2.2.2)], Item.box b3 [(.int .i64 x22), v6], Item.own v6 (x23 : (List Int)), Item.box b1 [(.int .i64 0), (.slice none 0 0)]]) ?_ ?_
   ·refine W_cond rfl (fun hc4 => ?_) (fun hc4 => ?_)
    ·replace hr10 := ite_t hr10 hc4
     refine W_reg ?_
     refine WL_field Tryz.underlying70 rfl rfl (fun w => ⟨_, Tryz.sizeOf22 w⟩) rfl rfl ?_
     refine WL_load_box hC22 1 rfl rfl Tryz.isAgg22 rfl rfl ?_
     refine WL_buildSlice (vs := [(.int .i64 1)]) hC22 Tryz.underlying22 ty3 rfl rfl rfl rfl (by intro v hv; simp only [List.mem_cons, List.not_mem_nil, or_false] at hv; rcases hv with rfl <;> rfl) rfl rfl (fun b6 w21 hC49 hB12 => ?_)
     have hC50 := hC49.row0 (α := Int)
     have hC51 := hC50.triv (int_val (1))
     have hC52 := hC51.row1
     have hC53 := hC52.front 1 rfl
     dsimp only [List.eraseIdx, List.cons_append, List.nil_append, List.append_nil] at hC53
     have hC54 : Ctx Fs.flatten w0 w21 (Item.own (.slice (some ⟨b6, 0, none⟩) 1 1) ([1] : List Int) :: [Item.box pb1 [u1, (.int .i64 x7.2.2.1), (.int .i64 x7.2.2.2)], Item.box b3 [(.int .i64 x2), v1], Item.own v1 (x3 : (List Int)), Item.box b1 [(.int .i64 0), (.slice none 0 0)]]) := hC53.rowOwn (by simp [maxLen])
     obtain ⟨x24, hx2, hr10⟩ := bind_some hr10
     refine WL_append_flat (α := Int) hC54 3 rfl (hC54.ro 0 rfl) (Keep.refl _ _) Tryz.underlying22 ty3 rfl hx2 rfl rfl rfl (fun v7 w22 hC55 => ?_)
     try dsimp only [List.set] at hC55
     refine WL_field Tryz.underlying70 rfl rfl (fun w => ⟨_, Tryz.sizeOf22 w⟩) rfl rfl ?_
     refine WL_store_boxK (cs' := [(.int .i64 x2), v7]) hC55 2 rfl rfl (ro_one (hC55.ro 3 rfl)) rfl Tryz.sizeOf22 rfl rfl (fun w23 hC56 hKp5 => ?_)
     try dsimp only [List.set] at hC56
     refine WL_nil ?_
     have hq10 := Option.some.inj hr10
     subst hq10
     have hC57 := hC56.f4
     have hC58 := hC57.f4
     have hC59 := hC58.f4
     have hC60 := hC59.f4
     have hC61 := hC60.h4
     refine nrm_sub (l' := [(4, (ptr b1 0)), (5, (ptr b3 0))]) ⟨rfl, rfl, trivial⟩ ?_
     exact ⟨x2, v7, x24, rfl, rfl, hC61⟩
    replace hr10 := ite_f hr10 hc4
    refine W_skip ?_
    have hq11 := Option.some.inj hr10
    subst hq11
    refine nrm_sub (l' := [(4, (ptr b1 0)), (5, (ptr b3 0))]) ⟨rfl, rfl, trivial⟩ ?_
    exact ⟨x2, v1, x3, rfl, rfl, hC22⟩
   rintro l5 _ w20 hs5 ⟨x22, v6, x23, rfl, rfl, hC48⟩
   try dsimp only at hr7
   have hq12 := Option.some.inj hr7
   subst hq12
   refine nrm_subs (l2 := [(4, (ptr b1 0)), (5, (ptr b3 0))]) hs5 ⟨rfl, rfl, trivial⟩ ?_
   exact ⟨x7.2.2.1, x7.2.2.2, x22, v6, x23, rfl, rfl, hC48⟩
  rintro l3 _ w14 hs3 ⟨x13, x14, x15, v5, x16, rfl, rfl, hC26⟩
  try dsimp only at hr5
  have hq13 := Option.some.inj hr5
  subst hq13
  refine nrm_subs (l2 := [(4, (ptr b1 0)), (5, (ptr b3 0))]) hs3 ⟨rfl, rfl, trivial⟩ ?_
  exact ⟨x13, x14, x15, v5, x16, rfl, rfl, hC26⟩
 rintro l2 _ w11 hs2 ⟨x8, x9, x10, v4, x11, rfl, rfl, hC23⟩
 try dsimp only at hF
 refine blk_normal ?_
 refine nrm_sub' hs2 ?_
 clear hs2
 refine W_seq_reg ?_
 refine WL_load_box_agg [(.int .i64 x10), v4] hC23 1 rfl rfl rfl Tryz.isAgg70 Tryz.sizeOf70 rfl rfl ?_
 refine WL_store_box_aggK (cs' := [(.int .i64 x10), v4]) (new := [(.int .i64 x10), v4]) hC23 3 rfl rfl (by intro v hv; simp only [List.mem_cons, List.not_mem_nil, or_false] at hv; rcases hv with rfl | rfl; exact rfl; exact (ro_one (hC23.ro 2 rfl))) rfl Tryz.sizeOf70 rfl rfl (fun w24 hC62 hKp6 => ?_)
 try dsimp only [List.set] at hC62
 refine WL_nil (W_ret ?_)
 have hq14 := Option.some.inj hF
 subst hq14
 refine fn_retG1 rfl (rv_cell_agg (cs' := [(.int .i64 x10), v4]) hC62 (i := 3) rfl rfl rfl Tryz.isAgg70 Tryz.sizeOf70 rfl) ?_
 have hC64 := hC62.f2
 have hC63 := own_st70 x10 v4 x11 hC64
 have hC65 := hC63.h2
 exact ⟨_, rfl, _, rfl, hC65⟩

theorem c_S_l2AnyFacts {w0 : World} {Fs : List (List Nat)} (pb1 : Nat) (a1 : ((List UInt8) × Int × Int)) (u1 : Value) (g1 : RO Fs.flatten w0 u1 a1.1) (a2 : (List Int)) (u2 : Value) (g2 : RO Fs.flatten w0 u2 a2) (hH : Hold [Item.box pb1 [u1, (.int .i64 a1.2.1), (.int .i64 a1.2.2)]] w0 Fs) (hn : Fs.flatten.Nodup) (rr : ((List (Int × (List Int))) × ((List UInt8) × Int × Int))) (hF : S.l2AnyFacts a1 a2 = some rr) :
 Calls Tryz.prog 85 [(ptr pb1 0), u2].toArray w0 fun e w' => ∃ v, e = .returned v ∧ ∃ q0 : Value, v = q0 ∧ Ctx Fs.flatten w0 w' [Item.own q0 (rr.1 : (List (Int × (List Int)))), Item.box pb1 [u1, (.int .i64 rr.2.2.1), (.int .i64 rr.2.2.2)]] := by
 refine calls_of_W Tryz.func85 rfl rfl ?_
 have hC0 := Ctx.startIn hH hn
 unfold S.l2AnyFacts at hF
 refine W_seq_reg ?_
 refine WL_assign rfl rfl ?_
 refine WL_nil (W_seq_reg ?_)
 refine WL_buildSlice (vs := []) hC0 Tryz.underlying34 ty70 rfl rfl rfl rfl (by simp) rfl rfl (fun b1 w1 hC1 hB1 => ?_)
 have hC2 := hC1.row0 (α := (Int × (List Int)))
 have hC3 := hC2.front 1 rfl
 dsimp only [List.eraseIdx, List.cons_append, List.nil_append, List.append_nil] at hC3
 have hC4 : Ctx Fs.flatten w0 w1 (Item.own (.slice (some ⟨b1, 0, none⟩) 0 0) (([] : List (Int × (List Int))) : List (Int × (List Int))) :: [Item.box pb1 [u1, (.int .i64 a1.2.1), (.int .i64 a1.2.2)]]) := hC3.rowOwn (by simp [maxLen])
 refine WL_assign rfl rfl ?_
 refine WL_nil (W_seq (W_seq_reg ?_))
 refine WL_move rfl rfl ?_
 obtain ⟨x1, hr1, hF⟩ := bind_some hF
 refine WL_call Tryz.call108 rfl rfl (c_S_IsSchema a2 u2 (g2.now hC4.keep) x1 hr1) ?_
 intro _ w2 hv1
 obtain ⟨rfl, hB2⟩ := res_bool hv1
 have hC5 := hC4.grow hB2
 refine WL_nil ?_
 obtain ⟨r1, hr2, hF⟩ := bind_some hF
 refine W_norm (fun l w => ∃ x2 : Int, ∃ x3 : Int, ∃ v1 : Value, ∃ x4 : (List (Int × (List Int))), (x2, x3, x4) = r1 ∧ l = [(0, (ptr pb1 0)), (1, u2), (5, v1)] ∧ Ctx Fs.flatten w0 w [Item.own v1 (x4 : (List (Int × (List Int)))), Item.box pb1 [u1, (.int .i64 x2), (.int .i64 x3)]]) ?_ ?_
 ·refine W_cond rfl (fun hc1 => ?_) (fun hc1 => ?_)
  ·replace hr2 := ite_t hr2 hc1
   refine W_reg ?_
   refine WL_move rfl rfl ?_
   refine WL_move rfl rfl ?_
   obtain ⟨x5, hr3, hr2⟩ := bind_some hr2
   have hC7 := hC5.f1
   obtain ⟨Fs1, hH1, hn1, hF1, hO1, hb1⟩ := Ctx.lend2 (As := [Item.own (.slice (some ⟨b1, 0, none⟩) 0 0) (([] : List (Int × (List Int))) : (List (Int × (List Int))))]) [Item.box pb1 [u1, (.int .i64 a1.2.1), (.int .i64 a1.2.2)]] hC7
   refine WL_call Tryz.call60 rfl rfl (c_S_l2Facts pb1 (a1.1, a1.2.1, a1.2.2) u1 (RO.lent g1 hC7.keep hF1) a2 u2 (RO.lent g2 hC7.keep hF1) 8 hH1 hn1 x5 hr3) ?_
   rintro v2 w4 ⟨_, rfl, hq1⟩
   have hC8 : Ctx Fs.flatten w0 w4 [Item.own v2 (x5.1 : (List (Int × (List Int)))), Item.box pb1 [u1, (.int .i64 x5.2.2.1), (.int .i64 x5.2.2.2)], Item.own (.slice (some ⟨b1, 0, none⟩) 0 0) (([] : List (Int × (List Int))) : (List (Int × (List Int))))] := hb1 _ _ hq1
   refine WL_assign rfl rfl ?_
   refine WL_nil ?_
   have hq2 := Option.some.inj hr2
   subst hq2
   have hC9 := hC8.f1
   have hC10 := hC9.f1
   have hC11 := hC10.h2
   refine nrm_sub (l' := [(0, (ptr pb1 0)), (1, u2), (5, v2)]) ⟨rfl, rfl, rfl, trivial⟩ ?_
   exact ⟨x5.2.2.1, x5.2.2.2, v2, x5.1, rfl, rfl, hC11⟩
  replace hr2 := ite_f hr2 hc1
  refine W_skip ?_
  have hq3 := Option.some.inj hr2
  subst hq3
  refine nrm_sub (l' := [(0, (ptr pb1 0)), (1, u2), (5, (.slice (some ⟨b1, 0, none⟩) 0 0))]) ⟨rfl, rfl, rfl, trivial⟩ ?_
  exact ⟨a1.2.1, a1.2.2, (.slice (some ⟨b1, 0, none⟩) 0 0), ([] : List (Int × (List Int))), rfl, rfl, hC5⟩
 rintro l1 _ w3 hs1 ⟨x2, x3, v1, x4, rfl, rfl, hC6⟩
 try dsimp only at hF
 refine nrm_sub' hs1 ?_
 clear hs1
 refine W_seq (W_seq_reg ?_)
 refine WL_move rfl rfl ?_
 obtain ⟨x6, hr4, hF⟩ := bind_some hF
 have hC12 := hC6.f1
 obtain ⟨Fs2, hH2, hn2, hF2, hO2, hb2⟩ := Ctx.lend2 (As := [Item.own v1 (x4 : (List (Int × (List Int))))]) [Item.box pb1 [u1, (.int .i64 x2), (.int .i64 x3)]] hC12
 refine WL_call Tryz.call79 rfl rfl (c_S_l1Once pb1 (a1.1, x2, x3) u1 (RO.lent g1 hC12.keep hF2) 10 hH2 hn2 x6 hr4) ?_
 rintro _ w5 ⟨rfl, hq4⟩
 have hC13 : Ctx Fs.flatten w0 w5 [Item.box pb1 [u1, (.int .i64 x6.2.2.1), (.int .i64 x6.2.2.2)], Item.own v1 (x4 : (List (Int × (List Int))))] := hb2 _ _ hq4
 refine WL_nil ?_
 obtain ⟨r2, hr5, hF⟩ := bind_some hF
 refine W_norm (fun l w => ∃ x7 : Int, ∃ x8 : Int, ∃ v3 : Value, ∃ x9 : (List (Int × (List Int))), (x7, x8, x9) = r2 ∧ l = [(5, v3)] ∧ Ctx Fs.flatten w0 w [Item.box pb1 [u1, (.int .i64 x7), (.int .i64 x8)], Item.own v3 (x9 : (List (Int × (List Int))))]) ?_ ?_
 ·refine W_cond rfl (fun hc2 => ?_) (fun hc2 => ?_)
  ·replace hr5 := ite_t hr5 hc2
   refine W_reg ?_
   refine WL_move rfl rfl ?_
   refine WL_move rfl rfl ?_
   refine WL_move rfl rfl ?_
   obtain ⟨x10, hr6, hr5⟩ := bind_some hr5
   obtain ⟨Fs3, hH3, hn3, hF3, hO3, hb3⟩ := Ctx.lend2 (As := [Item.own v1 (x4 : (List (Int × (List Int))))]) [Item.box pb1 [u1, (.int .i64 x6.2.2.1), (.int .i64 x6.2.2.2)]] hC13
   refine WL_call Tryz.call109 rfl rfl (c_S_l2AnyFact pb1 (a1.1, x6.2.2.1, x6.2.2.2) u1 (RO.lent g1 hC13.keep hF3) a2 u2 (RO.lent g2 hC13.keep hF3) hH3 hn3 x10 hr6) ?_
   rintro v4 w7 ⟨_, rfl, hq5⟩
   have hC15 : Ctx Fs.flatten w0 w7 [Item.own v4 (x10.1 : (Int × (List Int))), Item.box pb1 [u1, (.int .i64 x10.2.2.1), (.int .i64 x10.2.2.2)], Item.own v1 (x4 : (List (Int × (List Int))))] := hb3 _ _ hq5
   obtain ⟨v5, rfl, hC16⟩ := st70_own hC15
   refine WL_buildSlice (vs := [(.agg #[(.int .i64 x10.1.1), v5])]) hC16 Tryz.underlying34 ty70 rfl rfl rfl rfl (by intro v hv; simp only [List.mem_cons, List.not_mem_nil, or_false] at hv; rcases hv with rfl <;> rfl) rfl rfl (fun b2 w9 hC17 hB5 => ?_)
   have hC18 := hC17.row0 (α := (Int × (List Int)))
   have hC20 := hC18.f2
   have hC19 := own_st70 x10.1.1 v5 x10.1.2 hC20
   have hC21 := hC19.row1
   have hC22 := hC21.front 1 rfl
   dsimp only [List.eraseIdx, List.cons_append, List.nil_append, List.append_nil] at hC22
   have hC23 : Ctx Fs.flatten w0 w9 (Item.own (.slice (some ⟨b2, 0, none⟩) 1 1) ([(x10.1.1, x10.1.2)] : List (Int × (List Int))) :: [Item.box pb1 [u1, (.int .i64 x10.2.2.1), (.int .i64 x10.2.2.2)], Item.own v1 (x4 : (List (Int × (List Int))))]) := hC22.rowOwn (by simp [maxLen])
   obtain ⟨x11, hx1, hr5⟩ := bind_some hr5
   refine WL_append_head hC23 1 rfl Tryz.underlying34 ty70 rfl hx1 rfl rfl rfl (fun v6 w10 hC24 => ?_)
   try dsimp only [List.set] at hC24
   refine WL_assign rfl rfl ?_
   refine WL_nil ?_
   have hq6 := Option.some.inj hr5
   subst hq6
   refine nrm_sub (l' := [(5, v6)]) ⟨rfl, trivial⟩ ?_
   exact ⟨x10.2.2.1, x10.2.2.2, v6, x11, rfl, rfl, hC24⟩
  replace hr5 := ite_f hr5 hc2
  refine W_skip ?_
  have hq7 := Option.some.inj hr5
  subst hq7
  refine nrm_sub (l' := [(5, v1)]) ⟨rfl, trivial⟩ ?_
  exact ⟨x6.2.2.1, x6.2.2.2, v1, x4, rfl, rfl, hC13⟩
 rintro l2 _ w6 hs2 ⟨x7, x8, v3, x9, rfl, rfl, hC14⟩
 try dsimp only at hF
 refine nrm_sub' hs2 ?_
 clear hs2
 refine W_seq_reg ?_
 refine WL_move rfl rfl ?_
 refine WL_assign rfl rfl ?_
 refine WL_nil (W_ret ?_)
 have hq8 := Option.some.inj hF
 subst hq8
 refine fn_ret1 rfl rfl ?_
 have hC26 := hC14.f1
 exact ⟨_, rfl, _, rfl, hC26⟩

theorem c_S_l2AnySchema {w0 : World} {Fs : List (List Nat)} (pb1 : Nat) (a1 : ((List UInt8) × Int × Int)) (u1 : Value) (g1 : RO Fs.flatten w0 u1 a1.1) (hH : Hold [Item.box pb1 [u1, (.int .i64 a1.2.1), (.int .i64 a1.2.2)]] w0 Fs) (hn : Fs.flatten.Nodup) (rr : ((List Int) × ((List UInt8) × Int × Int))) (hF : S.l2AnySchema a1 = some rr) :
 Calls Tryz.prog 86 [(ptr pb1 0)].toArray w0 fun e w' => ∃ v, e = .returned v ∧ ∃ q0 : Value, v = q0 ∧ Ctx Fs.flatten w0 w' [Item.own q0 (rr.1 : (List Int)), Item.box pb1 [u1, (.int .i64 rr.2.2.1), (.int .i64 rr.2.2.2)]] := by
 refine calls_of_W Tryz.func86 rfl rfl ?_
 have hC0 := Ctx.startIn hH hn
 unfold S.l2AnySchema at hF
 refine W_seq_reg ?_
 refine WL_assign rfl rfl ?_
 refine WL_nil (W_seq_reg ?_)
 refine WL_move rfl rfl ?_
 obtain ⟨x1, hr1, hF⟩ := bind_some hF
 obtain ⟨Fs1, hH1, hn1, hF1, hO1, hb1⟩ := Ctx.lend2 (As := []) [Item.box pb1 [u1, (.int .i64 a1.2.1), (.int .i64 a1.2.2)]] hC0
 refine WL_call Tryz.call59 rfl rfl (c_S_l2Schema pb1 (a1.1, a1.2.1, a1.2.2) u1 (RO.lent g1 hC0.keep hF1) hH1 hn1 x1 hr1) ?_
 rintro v1 w1 ⟨_, rfl, hq1⟩
 have hC1 : Ctx Fs.flatten w0 w1 [Item.own v1 (x1.1 : (List Int)), Item.box pb1 [u1, (.int .i64 x1.2.2.1), (.int .i64 x1.2.2.2)]] := hb1 _ _ hq1
 refine WL_assign rfl rfl ?_
 refine WL_nil (W_seq (W_seq_reg ?_))
 refine WL_move rfl rfl ?_
 obtain ⟨x2, hr2, hF⟩ := bind_some hF
 have hC2 := hC1.f1
 obtain ⟨Fs2, hH2, hn2, hF2, hO2, hb2⟩ := Ctx.lend2 (As := [Item.own v1 (x1.1 : (List Int))]) [Item.box pb1 [u1, (.int .i64 x1.2.2.1), (.int .i64 x1.2.2.2)]] hC2
 refine WL_call Tryz.call79 rfl rfl (c_S_l1Once pb1 (a1.1, x1.2.2.1, x1.2.2.2) u1 (RO.lent g1 hC2.keep hF2) 14 hH2 hn2 x2 hr2) ?_
 rintro _ w2 ⟨rfl, hq2⟩
 have hC3 : Ctx Fs.flatten w0 w2 [Item.box pb1 [u1, (.int .i64 x2.2.2.1), (.int .i64 x2.2.2.2)], Item.own v1 (x1.1 : (List Int))] := hb2 _ _ hq2
 refine WL_nil ?_
 obtain ⟨r1, hr3, hF⟩ := bind_some hF
 refine W_norm (fun l w => ∃ x3 : Int, ∃ x4 : Int, ∃ v2 : Value, ∃ x5 : (List Int), (x3, x4, x5) = r1 ∧ l = [(3, v2)] ∧ Ctx Fs.flatten w0 w [Item.box pb1 [u1, (.int .i64 x3), (.int .i64 x4)], Item.own v2 (x5 : (List Int))]) ?_ ?_
 ·refine W_cond rfl (fun hc1 => ?_) (fun hc1 => ?_)
  ·replace hr3 := ite_t hr3 hc1
   refine W_reg ?_
   refine WL_move rfl rfl ?_
   refine WL_move rfl rfl ?_
   refine WL_buildSlice (vs := [(.int .i64 0), (.int .i64 1), (.int .i64 4)]) hC3 Tryz.underlying22 ty3 rfl rfl rfl rfl (by intro v hv; simp only [List.mem_cons, List.not_mem_nil, or_false] at hv; rcases hv with rfl | rfl | rfl <;> rfl) rfl rfl (fun b1 w4 hC5 hB2 => ?_)
   have hC6 := hC5.row0 (α := Int)
   have hC7 := hC6.triv (int_val (4))
   have hC8 := hC7.row1
   have hC9 := hC8.triv (int_val (1))
   have hC10 := hC9.row1
   have hC11 := hC10.triv (int_val (0))
   have hC12 := hC11.row1
   have hC13 := hC12.front 1 rfl
   dsimp only [List.eraseIdx, List.cons_append, List.nil_append, List.append_nil] at hC13
   have hC14 : Ctx Fs.flatten w0 w4 (Item.own (.slice (some ⟨b1, 0, none⟩) 3 3) ([0, 1, 4] : List Int) :: [Item.box pb1 [u1, (.int .i64 x2.2.2.1), (.int .i64 x2.2.2.2)], Item.own v1 (x1.1 : (List Int))]) := hC13.rowOwn (by simp [maxLen])
   obtain ⟨x6, hr4, hr3⟩ := bind_some hr3
   have hC15 := hC14.f1
   obtain ⟨Fs3, hH3, hn3, hF3, hO3, hb3⟩ := Ctx.lend2 (As := [Item.own (.slice (some ⟨b1, 0, none⟩) 3 3) ([0, 1, 4] : (List Int)), Item.own v1 (x1.1 : (List Int))]) [Item.box pb1 [u1, (.int .i64 x2.2.2.1), (.int .i64 x2.2.2.2)]] hC15
   refine WL_call Tryz.call66 rfl rfl (c_S_l1PickInt pb1 (a1.1, x2.2.2.1, x2.2.2.2) u1 (RO.lent g1 hC15.keep hF3) ([0, 1, 4]) (.slice (some ⟨b1, 0, none⟩) 3 3) (hO3 0 _ _ _ rfl) hH3 hn3 x6 hr4) ?_
   rintro _ w5 ⟨rfl, hq3⟩
   have hC16 : Ctx Fs.flatten w0 w5 [Item.box pb1 [u1, (.int .i64 x6.2.2.1), (.int .i64 x6.2.2.2)], Item.own (.slice (some ⟨b1, 0, none⟩) 3 3) ([0, 1, 4] : (List Int)), Item.own v1 (x1.1 : (List Int))] := hb3 _ _ hq3
   refine WL_buildSlice (vs := [(.int .i64 x6.1)]) hC16 Tryz.underlying22 ty3 rfl rfl rfl rfl (by intro v hv; simp only [List.mem_cons, List.not_mem_nil, or_false] at hv; rcases hv with rfl <;> rfl) rfl rfl (fun b2 w6 hC17 hB3 => ?_)
   have hC18 := hC17.row0 (α := Int)
   have hC19 := hC18.triv (int_val (x6.1))
   have hC20 := hC19.row1
   have hC21 := hC20.front 1 rfl
   dsimp only [List.eraseIdx, List.cons_append, List.nil_append, List.append_nil] at hC21
   have hC22 : Ctx Fs.flatten w0 w6 (Item.own (.slice (some ⟨b2, 0, none⟩) 1 1) ([x6.1] : List Int) :: [Item.box pb1 [u1, (.int .i64 x6.2.2.1), (.int .i64 x6.2.2.2)], Item.own (.slice (some ⟨b1, 0, none⟩) 3 3) ([0, 1, 4] : (List Int)), Item.own v1 (x1.1 : (List Int))]) := hC21.rowOwn (by simp [maxLen])
   obtain ⟨x7, hx1, hr3⟩ := bind_some hr3
   refine WL_append_flat (α := Int) hC22 3 rfl (hC22.ro 0 rfl) (Keep.refl _ _) Tryz.underlying22 ty3 rfl hx1 rfl rfl rfl (fun v3 w7 hC23 => ?_)
   try dsimp only [List.set] at hC23
   refine WL_assign rfl rfl ?_
   refine WL_nil ?_
   have hq4 := Option.some.inj hr3
   subst hq4
   have hC24 := hC23.f3
   have hC25 := hC24.f2
   have hC26 := hC25.h2
   refine nrm_sub (l' := [(3, v3)]) ⟨rfl, trivial⟩ ?_
   exact ⟨x6.2.2.1, x6.2.2.2, v3, x7, rfl, rfl, hC26⟩
  replace hr3 := ite_f hr3 hc1
  refine W_skip ?_
  have hq5 := Option.some.inj hr3
  subst hq5
  refine nrm_sub (l' := [(3, v1)]) ⟨rfl, trivial⟩ ?_
  exact ⟨x2.2.2.1, x2.2.2.2, v1, x1.1, rfl, rfl, hC3⟩
 rintro l1 _ w3 hs1 ⟨x3, x4, v2, x5, rfl, rfl, hC4⟩
 try dsimp only at hF
 refine nrm_sub' hs1 ?_
 clear hs1
 refine W_seq_reg ?_
 refine WL_move rfl rfl ?_
 refine WL_assign rfl rfl ?_
 refine WL_nil (W_ret ?_)
 have hq6 := Option.some.inj hF
 subst hq6
 refine fn_ret1 rfl rfl ?_
 have hC27 := hC4.f1
 exact ⟨_, rfl, _, rfl, hC27⟩

theorem c_S_l5Draw {w0 : World} {Fs : List (List Nat)} (pb1 : Nat) (a1 : ((List UInt8) × Int × Int)) (u1 : Value) (g1 : RO Fs.flatten w0 u1 a1.1) (hH : Hold [Item.box pb1 [u1, (.int .i64 a1.2.1), (.int .i64 a1.2.2)]] w0 Fs) (hn : Fs.flatten.Nodup) (rr : ((List Int) × (List (Int × (List Int) × Int × Int × Int)) × (List (Int × (List Int))) × ((List UInt8) × Int × Int))) (hF : S.l5Draw a1 = some rr) :
 Calls Tryz.prog 64 [(ptr pb1 0)].toArray w0 fun e w' => ∃ v, e = .returned v ∧ ∃ q0 : Value, ∃ q1 : Value, ∃ q2 : Value, v = (.tuple #[q0, q1, q2]) ∧ Ctx Fs.flatten w0 w' [Item.own q0 (rr.1 : (List Int)), Item.own q1 (rr.2.1 : (List (Int × (List Int) × Int × Int × Int))), Item.own q2 (rr.2.2.1 : (List (Int × (List Int)))), Item.box pb1 [u1, (.int .i64 rr.2.2.2.2.1), (.int .i64 rr.2.2.2.2.2)]] := by
 refine calls_of_W Tryz.func64 rfl rfl ?_
 have hC0 := Ctx.startIn hH hn
 unfold S.l5Draw at hF
 refine W_seq_reg ?_
 refine WL_assign rfl rfl ?_
 refine WL_assign rfl rfl ?_
 refine WL_assign rfl rfl ?_
 refine WL_nil (W_seq_reg ?_)
 refine WL_move rfl rfl ?_
 obtain ⟨x1, hr1, hF⟩ := bind_some hF
 obtain ⟨Fs1, hH1, hn1, hF1, hO1, hb1⟩ := Ctx.lend2 (As := []) [Item.box pb1 [u1, (.int .i64 a1.2.1), (.int .i64 a1.2.2)]] hC0
 refine WL_call Tryz.call59 rfl rfl (c_S_l2Schema pb1 (a1.1, a1.2.1, a1.2.2) u1 (RO.lent g1 hC0.keep hF1) hH1 hn1 x1 hr1) ?_
 rintro v1 w1 ⟨_, rfl, hq1⟩
 have hC1 : Ctx Fs.flatten w0 w1 [Item.own v1 (x1.1 : (List Int)), Item.box pb1 [u1, (.int .i64 x1.2.2.1), (.int .i64 x1.2.2.2)]] := hb1 _ _ hq1
 refine WL_assign rfl rfl ?_
 refine WL_nil (W_seq_reg ?_)
 refine WL_move rfl rfl ?_
 refine WL_move rfl rfl ?_
 obtain ⟨x2, hr2, hF⟩ := bind_some hF
 have hC2 := hC1.f1
 obtain ⟨Fs2, hH2, hn2, hF2, hO2, hb2⟩ := Ctx.lend2 (As := [Item.own v1 (x1.1 : (List Int))]) [Item.box pb1 [u1, (.int .i64 x1.2.2.1), (.int .i64 x1.2.2.2)]] hC2
 refine WL_call Tryz.call83 rfl rfl (c_S_l5Methods pb1 (a1.1, x1.2.2.1, x1.2.2.2) u1 (RO.lent g1 hC2.keep hF2) x1.1 v1 (hO2 0 _ _ _ rfl) hH2 hn2 x2 hr2) ?_
 rintro v2 w2 ⟨_, rfl, hq2⟩
 have hC3 : Ctx Fs.flatten w0 w2 [Item.own v2 (x2.1 : (List (Int × (List Int) × Int × Int × Int))), Item.box pb1 [u1, (.int .i64 x2.2.2.1), (.int .i64 x2.2.2.2)], Item.own v1 (x1.1 : (List Int))] := hb2 _ _ hq2
 refine WL_assign rfl rfl ?_
 refine WL_nil (W_seq_reg ?_)
 refine WL_move rfl rfl ?_
 refine WL_move rfl rfl ?_
 obtain ⟨x3, hr3, hF⟩ := bind_some hF
 have hC4 := hC3.f1
 obtain ⟨Fs3, hH3, hn3, hF3, hO3, hb3⟩ := Ctx.lend2 (As := [Item.own v2 (x2.1 : (List (Int × (List Int) × Int × Int × Int))), Item.own v1 (x1.1 : (List Int))]) [Item.box pb1 [u1, (.int .i64 x2.2.2.1), (.int .i64 x2.2.2.2)]] hC4
 refine WL_call Tryz.call60 rfl rfl (c_S_l2Facts pb1 (a1.1, x2.2.2.1, x2.2.2.2) u1 (RO.lent g1 hC4.keep hF3) x1.1 v1 (hO3 1 _ _ _ rfl) 8 hH3 hn3 x3 hr3) ?_
 rintro v3 w3 ⟨_, rfl, hq3⟩
 have hC5 : Ctx Fs.flatten w0 w3 [Item.own v3 (x3.1 : (List (Int × (List Int)))), Item.box pb1 [u1, (.int .i64 x3.2.2.1), (.int .i64 x3.2.2.2)], Item.own v2 (x2.1 : (List (Int × (List Int) × Int × Int × Int))), Item.own v1 (x1.1 : (List Int))] := hb3 _ _ hq3
 refine WL_assign rfl rfl ?_
 refine WL_nil (W_seq (W_seq_reg ?_))
 refine WL_move rfl rfl ?_
 obtain ⟨x4, hr4, hF⟩ := bind_some hF
 have hC6 := hC5.f1
 obtain ⟨Fs4, hH4, hn4, hF4, hO4, hb4⟩ := Ctx.lend2 (As := [Item.own v3 (x3.1 : (List (Int × (List Int)))), Item.own v2 (x2.1 : (List (Int × (List Int) × Int × Int × Int))), Item.own v1 (x1.1 : (List Int))]) [Item.box pb1 [u1, (.int .i64 x3.2.2.1), (.int .i64 x3.2.2.2)]] hC6
 refine WL_call Tryz.call37 rfl rfl (c_S_l1Below pb1 (a1.1, x3.2.2.1, x3.2.2.2) u1 (RO.lent g1 hC6.keep hF4) 20 hH4 hn4 x4 hr4) ?_
 rintro _ w4 ⟨rfl, hq4⟩
 have hC7 : Ctx Fs.flatten w0 w4 [Item.box pb1 [u1, (.int .i64 x4.2.2.1), (.int .i64 x4.2.2.2)], Item.own v3 (x3.1 : (List (Int × (List Int)))), Item.own v2 (x2.1 : (List (Int × (List Int) × Int × Int × Int))), Item.own v1 (x1.1 : (List Int))] := hb4 _ _ hq4
 refine WL_nil (W_block (W_seq_reg ?_))
 refine WL_eql rfl rfl rfl ?_
 refine WL_assign rfl rfl ?_
 refine WL_nil ?_
 obtain ⟨r1, hr5, hF⟩ := bind_some hF
 refine W_norm (fun l w => ∃ x5 : Int, ∃ x6 : Int, ∃ v4 : Value, ∃ x7 : (List Int), ∃ v5 : Value, ∃ x8 : (List (Int × (List Int) × Int × Int × Int)), ∃ v6 : Value, ∃ x9 : (List (Int × (List Int))), (x5, x6, x7, x8, x9) = r1 ∧ l = [(5, v4), (6, v5), (7, v6)] ∧ Ctx Fs.flatten w0 w [Item.box pb1 [u1, (.int .i64 x5), (.int .i64 x6)], Item.own v6 (x9 : (List (Int × (List Int)))), Item.own v5 (x8 : (List (Int × (List Int) × Int × Int × Int))), Item.own v4 (x7 : (List Int))]) ?_ ?_
 ·refine W_cond rfl (fun hc1 => ?_) (fun hc1 => ?_)
  ·replace hr5 := ite_t hr5 hc1
   refine W_reg ?_
   refine WL_move rfl rfl ?_
   refine WL_move rfl rfl ?_
   refine WL_move rfl rfl ?_
   obtain ⟨x10, hr6, hr5⟩ := bind_some hr5
   obtain ⟨Fs5, hH5, hn5, hF5, hO5, hb5⟩ := Ctx.lend2 (As := [Item.own v3 (x3.1 : (List (Int × (List Int)))), Item.own v2 (x2.1 : (List (Int × (List Int) × Int × Int × Int))), Item.own v1 (x1.1 : (List Int))]) [Item.box pb1 [u1, (.int .i64 x4.2.2.1), (.int .i64 x4.2.2.2)]] hC7
   refine WL_call Tryz.call84 rfl rfl (c_S_l5AnyMethod pb1 (a1.1, x4.2.2.1, x4.2.2.2) u1 (RO.lent g1 hC7.keep hF5) x1.1 v1 (hO5 2 _ _ _ rfl) hH5 hn5 x10 hr6) ?_
   rintro v7 w6 ⟨_, rfl, hq5⟩
   have hC9 : Ctx Fs.flatten w0 w6 [Item.own v7 (x10.1 : (Int × (List Int) × Int × Int × Int)), Item.box pb1 [u1, (.int .i64 x10.2.2.1), (.int .i64 x10.2.2.2)], Item.own v3 (x3.1 : (List (Int × (List Int)))), Item.own v2 (x2.1 : (List (Int × (List Int) × Int × Int × Int))), Item.own v1 (x1.1 : (List Int))] := hb5 _ _ hq5
   obtain ⟨v8, rfl, hC10⟩ := st116_own hC9
   refine WL_buildSlice (vs := [(.agg #[(.int .i64 x10.1.1), v8, (.int .i64 x10.1.2.2.1), (.int .i64 x10.1.2.2.2.1), (.int .i64 x10.1.2.2.2.2)])]) hC10 Tryz.underlying95 ty116 rfl rfl rfl rfl (by intro v hv; simp only [List.mem_cons, List.not_mem_nil, or_false] at hv; rcases hv with rfl <;> rfl) rfl rfl (fun b1 w7 hC11 hB2 => ?_)
   have hC12 := hC11.row0 (α := (Int × (List Int) × Int × Int × Int))
   have hC14 := hC12.f2
   have hC13 := own_st116 x10.1.1 v8 x10.1.2.1 x10.1.2.2.1 x10.1.2.2.2.1 x10.1.2.2.2.2 hC14
   have hC15 := hC13.row1
   have hC16 := hC15.front 1 rfl
   dsimp only [List.eraseIdx, List.cons_append, List.nil_append, List.append_nil] at hC16
   have hC17 : Ctx Fs.flatten w0 w7 (Item.own (.slice (some ⟨b1, 0, none⟩) 1 1) ([(x10.1.1, x10.1.2.1, x10.1.2.2.1, x10.1.2.2.2.1, x10.1.2.2.2.2)] : List (Int × (List Int) × Int × Int × Int)) :: [Item.box pb1 [u1, (.int .i64 x10.2.2.1), (.int .i64 x10.2.2.2)], Item.own v3 (x3.1 : (List (Int × (List Int)))), Item.own v2 (x2.1 : (List (Int × (List Int) × Int × Int × Int))), Item.own v1 (x1.1 : (List Int))]) := hC16.rowOwn (by simp [maxLen])
   obtain ⟨x11, hx1, hr5⟩ := bind_some hr5
   refine WL_append_head hC17 2 rfl Tryz.underlying95 ty116 rfl hx1 rfl rfl rfl (fun v9 w9 hC18 => ?_)
   try dsimp only [List.set] at hC18
   refine WL_assign rfl rfl ?_
   refine WL_nil ?_
   have hq6 := Option.some.inj hr5
   subst hq6
   refine nrm_sub (l' := [(5, v1), (6, v9), (7, v3)]) ⟨rfl, rfl, rfl, trivial⟩ ?_
   exact ⟨x10.2.2.1, x10.2.2.2, v1, x1.1, v9, x11, v3, x3.1, rfl, rfl, hC18⟩
  replace hr5 := ite_f hr5 hc1
  refine W_seq_reg ?_
  refine WL_eql rfl rfl rfl ?_
  refine WL_assign rfl rfl ?_
  refine WL_nil ?_
  obtain ⟨r2, hr7, hr5⟩ := bind_some hr5
  refine W_norm (fun l w => ∃ x12 : Int, ∃ x13 : Int, ∃ v10 : Value, ∃ x14 : (List Int), ∃ v11 : Value, ∃ x15 : (List (Int × (List Int))), (x12, x13, x14, x15) = r2 ∧ l = [(5, v10), (6, v2), (7, v11)] ∧ Ctx Fs.flatten w0 w [Item.box pb1 [u1, (.int .i64 x12), (.int .i64 x13)], Item.own v11 (x15 : (List (Int × (List Int)))), Item.own v2 (x2.1 : (List (Int × (List Int) × Int × Int × Int))), Item.own v10 (x14 : (List Int))]) ?_ ?_
  ·refine W_cond rfl (fun hc2 => ?_) (fun hc2 => ?_)
   ·replace hr7 := ite_t hr7 hc2
    refine W_reg ?_
    refine WL_move rfl rfl ?_
    refine WL_move rfl rfl ?_
    obtain ⟨x16, hr8, hr7⟩ := bind_some hr7
    obtain ⟨Fs6, hH6, hn6, hF6, hO6, hb6⟩ := Ctx.lend2 (As := [Item.own v3 (x3.1 : (List (Int × (List Int)))), Item.own v2 (x2.1 : (List (Int × (List Int) × Int × Int × Int))), Item.own v1 (x1.1 : (List Int))]) [Item.box pb1 [u1, (.int .i64 x4.2.2.1), (.int .i64 x4.2.2.2)]] hC7
    refine WL_call Tryz.call85 rfl rfl (c_S_l2AnyFacts pb1 (a1.1, x4.2.2.1, x4.2.2.2) u1 (RO.lent g1 hC7.keep hF6) x1.1 v1 (hO6 2 _ _ _ rfl) hH6 hn6 x16 hr8) ?_
    rintro v12 w11 ⟨_, rfl, hq7⟩
    have hC21 : Ctx Fs.flatten w0 w11 [Item.own v12 (x16.1 : (List (Int × (List Int)))), Item.box pb1 [u1, (.int .i64 x16.2.2.1), (.int .i64 x16.2.2.2)], Item.own v3 (x3.1 : (List (Int × (List Int)))), Item.own v2 (x2.1 : (List (Int × (List Int) × Int × Int × Int))), Item.own v1 (x1.1 : (List Int))] := hb6 _ _ hq7
    refine WL_assign rfl rfl ?_
    refine WL_nil ?_
    have hq8 := Option.some.inj hr7
    subst hq8
    have hC22 := hC21.f4
    have hC23 := hC22.f4
    have hC24 := hC23.f2
    have hC25 := hC24.f3
    have hC26 := hC25.h4
    refine nrm_sub (l' := [(5, v1), (6, v2), (7, v12)]) ⟨rfl, rfl, rfl, trivial⟩ ?_
    exact ⟨x16.2.2.1, x16.2.2.2, v1, x1.1, v12, x16.1, rfl, rfl, hC26⟩
   replace hr7 := ite_f hr7 hc2
   refine W_seq_reg ?_
   refine WL_eql rfl rfl rfl ?_
   refine WL_assign rfl rfl ?_
   refine WL_nil ?_
   obtain ⟨r3, hr9, hr7⟩ := bind_some hr7
   refine W_norm (fun l w => ∃ x17 : Int, ∃ x18 : Int, ∃ v13 : Value, ∃ x19 : (List Int), (x17, x18, x19) = r3 ∧ l = [(5, v13), (6, v2), (7, v3)] ∧ Ctx Fs.flatten w0 w [Item.box pb1 [u1, (.int .i64 x17), (.int .i64 x18)], Item.own v3 (x3.1 : (List (Int × (List Int)))), Item.own v2 (x2.1 : (List (Int × (List Int) × Int × Int × Int))), Item.own v13 (x19 : (List Int))]) ?_ ?_
   ·refine W_cond rfl (fun hc3 => ?_) (fun hc3 => ?_)
    ·replace hr9 := ite_t hr9 hc3
     refine W_reg ?_
     refine WL_move rfl rfl ?_
     obtain ⟨x20, hr10, hr9⟩ := bind_some hr9
     obtain ⟨Fs7, hH7, hn7, hF7, hO7, hb7⟩ := Ctx.lend2 (As := [Item.own v3 (x3.1 : (List (Int × (List Int)))), Item.own v2 (x2.1 : (List (Int × (List Int) × Int × Int × Int))), Item.own v1 (x1.1 : (List Int))]) [Item.box pb1 [u1, (.int .i64 x4.2.2.1), (.int .i64 x4.2.2.2)]] hC7
     refine WL_call Tryz.call86 rfl rfl (c_S_l2AnySchema pb1 (a1.1, x4.2.2.1, x4.2.2.2) u1 (RO.lent g1 hC7.keep hF7) hH7 hn7 x20 hr10) ?_
     rintro v14 w13 ⟨_, rfl, hq9⟩
     have hC28 : Ctx Fs.flatten w0 w13 [Item.own v14 (x20.1 : (List Int)), Item.box pb1 [u1, (.int .i64 x20.2.2.1), (.int .i64 x20.2.2.2)], Item.own v3 (x3.1 : (List (Int × (List Int)))), Item.own v2 (x2.1 : (List (Int × (List Int) × Int × Int × Int))), Item.own v1 (x1.1 : (List Int))] := hb7 _ _ hq9
     refine WL_assign rfl rfl ?_
     refine WL_nil ?_
     have hq10 := Option.some.inj hr9
     subst hq10
     have hC29 := hC28.f3
     have hC30 := hC29.f3
     have hC31 := hC30.f3
     have hC32 := hC31.h4
     refine nrm_sub (l' := [(5, v14), (6, v2), (7, v3)]) ⟨rfl, rfl, rfl, trivial⟩ ?_
     exact ⟨x20.2.2.1, x20.2.2.2, v14, x20.1, rfl, rfl, hC32⟩
    replace hr9 := ite_f hr9 hc3
    refine W_skip ?_
    have hq11 := Option.some.inj hr9
    subst hq11
    refine nrm_sub (l' := [(5, v1), (6, v2), (7, v3)]) ⟨rfl, rfl, rfl, trivial⟩ ?_
    exact ⟨x4.2.2.1, x4.2.2.2, v1, x1.1, rfl, rfl, hC7⟩
   rintro l3 _ w12 hs3 ⟨x17, x18, v13, x19, rfl, rfl, hC27⟩
   try dsimp only at hr7
   have hq12 := Option.some.inj hr7
   subst hq12
   refine nrm_subs (l2 := [(5, v13), (6, v2), (7, v3)]) hs3 ⟨rfl, rfl, rfl, trivial⟩ ?_
   exact ⟨x17, x18, v13, x19, v3, x3.1, rfl, rfl, hC27⟩
  rintro l2 _ w10 hs2 ⟨x12, x13, v10, x14, v11, x15, rfl, rfl, hC20⟩
  try dsimp only at hr5
  have hq13 := Option.some.inj hr5
  subst hq13
  refine nrm_subs (l2 := [(5, v10), (6, v2), (7, v11)]) hs2 ⟨rfl, rfl, rfl, trivial⟩ ?_
  exact ⟨x12, x13, v10, x14, v2, x2.1, v11, x15, rfl, rfl, hC20⟩
 rintro l1 _ w5 hs1 ⟨x5, x6, v4, x7, v5, x8, v6, x9, rfl, rfl, hC8⟩
 try dsimp only at hF
 refine blk_normal ?_
 refine nrm_sub' hs1 ?_
 clear hs1
 refine W_seq_reg ?_
 refine WL_move rfl rfl ?_
 refine WL_move rfl rfl ?_
 refine WL_move rfl rfl ?_
 refine WL_assign rfl rfl ?_
 refine WL_assign rfl rfl ?_
 refine WL_assign rfl rfl ?_
 refine WL_nil (W_ret ?_)
 have hq14 := Option.some.inj hF
 subst hq14
 refine fn_ret3 rfl rfl rfl rfl ?_
 have hC33 := hC8.f1
 have hC34 := hC33.f2
 have hC35 := hC34.f3
 exact ⟨_, rfl, _, _, _, rfl, hC35⟩

theorem c_S_l5Access {w0 : World} {Fs : List (List Nat)} (pb1 : Nat) (a1 : ((List UInt8) × Int × Int)) (u1 : Value) (g1 : RO Fs.flatten w0 u1 a1.1) (a2 : (List (Int × (List Int) × Int × Int × Int))) (u2 : Value) (g2 : RO Fs.flatten w0 u2 a2) (hH : Hold [Item.box pb1 [u1, (.int .i64 a1.2.1), (.int .i64 a1.2.2)]] w0 Fs) (hn : Fs.flatten.Nodup) (rr : ((Int × (List Int)) × ((List UInt8) × Int × Int))) (hF : S.l5Access a1 a2 = some rr) :
 Calls Tryz.prog 87 [(ptr pb1 0), u2].toArray w0 fun e w' => ∃ v, e = .returned v ∧ ∃ q0 : Value, v = q0 ∧ Ctx Fs.flatten w0 w' [Item.own q0 (rr.1 : (Int × (List Int))), Item.box pb1 [u1, (.int .i64 rr.2.2.1), (.int .i64 rr.2.2.2)]] := by
 refine calls_of_W Tryz.func87 rfl rfl ?_
 have hC0 := Ctx.startIn hH hn
 unfold S.l5Access at hF
 refine W_seq_reg ?_
 refine WL_allocK hC0 zero24 rfl rfl (fun b1 w1 hC1 hB1 hN1 => ?_)
 refine WL_nil (W_seq (W_seq_reg ?_))
 refine WL_move rfl rfl ?_
 refine WL_len Tryz.underlying95 g2 rfl rfl ?_
 refine WL_eql rfl rfl rfl ?_
 refine WL_nil ?_
 refine W_cond rfl (fun hc1 => ?_) (fun hc1 => ?_)
 ·replace hF := ite_t hF hc1
  refine W_seq_reg ?_
  refine WL_build (vs := []) rfl rfl rfl built24 ?_
  refine WL_store_box_aggK (cs' := [(.int .i64 0), (.slice none 0 0)]) (new := [(.int .i64 0), (.slice none 0 0)]) hC1 0 rfl rfl (by intro v hv; simp only [List.mem_cons, List.not_mem_nil, or_false] at hv; rcases hv with rfl | rfl; exact rfl; exact rfl) rfl Tryz.sizeOf24 rfl rfl (fun w2 hC2 hKp1 => ?_)
  try dsimp only [List.set] at hC2
  have hk1 := Keep.over (Keep.of hB1) hN1 hKp1
  refine WL_nil (W_ret (nrm_ret ?_))
  have hq1 := Option.some.inj hF
  subst hq1
  refine fn_retG1 rfl (rv_cell_agg (cs' := [(.int .i64 0), (.slice none 0 0)]) hC2 (i := 0) rfl rfl rfl Tryz.isAgg24 Tryz.sizeOf24 rfl) ?_
  have hC3 := hC2.f1
  have hC5 := hC3.triv (nil_val (α := Int))
  have hC4 := own_st24 0 (.slice none 0 0) ([]) hC5
  have hC6 := hC4.h2
  exact ⟨_, rfl, _, rfl, hC6⟩
 replace hF := ite_f hF hc1
 refine W_skip (nrm_normal (W_seq_reg ?_))
 refine WL_move rfl rfl ?_
 refine WL_move rfl rfl ?_
 refine WL_len Tryz.underlying95 g2 rfl rfl ?_
 obtain ⟨x1, hr1, hF⟩ := bind_some hF
 have hC7 := hC1.f1
 obtain ⟨Fs1, hH1, hn1, hF1, hO1, hb1⟩ := Ctx.lend2 (As := [Item.box b1 [(.int .i64 0), (.slice none 0 0)]]) [Item.box pb1 [u1, (.int .i64 a1.2.1), (.int .i64 a1.2.2)]] hC7
 refine WL_call Tryz.call37 rfl rfl (c_S_l1Below pb1 (a1.1, a1.2.1, a1.2.2) u1 (RO.lent g1 hC7.keep hF1) (List.length a2 : Int) hH1 hn1 x1 hr1) ?_
 rintro _ w3 ⟨rfl, hq2⟩
 have hC8 : Ctx Fs.flatten w0 w3 [Item.box pb1 [u1, (.int .i64 x1.2.2.1), (.int .i64 x1.2.2.2)], Item.box b1 [(.int .i64 0), (.slice none 0 0)]] := hb1 _ _ hq2
 refine WL_build (vs := [(0, (.int .i64 x1.1))]) rfl rfl rfl (built24_0 rfl) ?_
 refine WL_allocK hC8 zero24 rfl rfl (fun b2 w4 hC9 hB2 hN2 => ?_)
 refine WL_store_box_aggK (cs' := [(.int .i64 x1.1), (.slice none 0 0)]) (new := [(.int .i64 x1.1), (.slice none 0 0)]) hC9 0 rfl rfl (by intro v hv; simp only [List.mem_cons, List.not_mem_nil, or_false] at hv; rcases hv with rfl | rfl; exact rfl; exact rfl) rfl Tryz.sizeOf24 rfl rfl (fun w5 hC10 hKp2 => ?_)
 try dsimp only [List.set] at hC10
 have hk2 := Keep.over (Keep.of hB2) hN2 hKp2
 refine WL_nil (W_seq (W_seq_reg ?_))
 refine WL_assign rfl rfl ?_
 refine WL_nil ?_
 obtain ⟨r1, hr2, hF⟩ := bind_some hF
 refine W_norm (fun l w => ∃ x7 : Int, ∃ v2 : Value, ∃ x8 : (List Int), ∃ x9 : Int, ∃ x10 : Int, (x7, x8, x9, x10) = r1 ∧ l = [(4, (ptr b1 0)), (5, (ptr b2 0))] ∧ Ctx Fs.flatten w0 w [Item.own v2 (x8 : (List Int)), Item.box b2 [(.int .i64 x7), v2], Item.box pb1 [u1, (.int .i64 x9), (.int .i64 x10)], Item.box b1 [(.int .i64 0), (.slice none 0 0)]]) ?_ ?_
 ·refine W_block ?_
  have hC27 := hC10.triv (nil_val (α := Int))
  refine W.sub (l' := [(0, (ptr pb1 0)), (1, u2), (4, (ptr b1 0)), (5, (ptr b2 0)), (6, (.int .i64 0))]) ?_ ⟨rfl, rfl, rfl, rfl, rfl, trivial⟩
  refine W_loop (fun k l w => ∃ x2 : Int, ∃ v1 : Value, ∃ x3 : (List Int), ∃ x4 : Int, ∃ x5 : Int, ∃ x6 : Int, l = [(0, (ptr pb1 0)), (1, u2), (4, (ptr b1 0)), (5, (ptr b2 0)), (6, (.int .i64 x6))] ∧ Ctx Fs.flatten w0 w [Item.own v1 (x3 : (List Int)), Item.box b2 [(.int .i64 x2), v1], Item.box pb1 [u1, (.int .i64 x4), (.int .i64 x5)], Item.box b1 [(.int .i64 0), (.slice none 0 0)]] ∧ S.l5Access_l1 a2 a1 k x2 x3 x4 x5 x6 = some r1) FUEL ⟨x1.1, (.slice none 0 0), [], x1.2.2.1, x1.2.2.2, 0, rfl, hC27, hr2⟩ ?_
  clear hr2
  rintro k1 _ w6 ⟨x2, v1, x3, x4, x5, x6, rfl, hC11, hL1⟩
  cases k1 with
  | zero => rw [S.l5Access_l1] at hL1; cases hL1
  | succ k1 =>
   rw [S.l5Access_l1] at hL1
   refine W_seq (W_seq_reg ?_)
   refine WL_move rfl rfl ?_
   refine WL_move rfl rfl ?_
   refine WL_field Tryz.underlying24 rfl rfl (fun w => ⟨_, Tryz.sizeOf3 w⟩) rfl rfl ?_
   refine WL_load_box hC11 1 rfl rfl Tryz.isAgg3 rfl rfl ?_
   obtain ⟨x11, hx1, hL1⟩ := bind_some hL1
   refine WL_index Tryz.underlying95 ty116 g2 hx1 rfl rfl rfl (fun b3 o1 h1 => ?_)
   refine WL_field Tryz.underlying116 rfl rfl (fun w => ⟨_, Tryz.sizeOf22 w⟩) rfl rfl ?_
   refine WL_load ty22 h1.snd.fst hC11.keep rfl rfl (fun v3 h2 => ?_)
   refine WL_len Tryz.underlying22 h2 rfl rfl ?_
   refine WL_lss rfl rfl rfl ?_
   refine WL_nil ?_
   refine W_cond rfl (fun hc2 => ?_) (fun hc2 => ?_)
   ·replace hL1 := ite_t hL1 hc2
    refine W_skip (nrm_normal (W_seq (W_block (W_seq_reg ?_))))
    refine WL_move rfl rfl ?_
    obtain ⟨x12, hr3, hL1⟩ := bind_some hL1
    have hC12 := hC11.f2
    obtain ⟨Fs2, hH2, hn2, hF2, hO2, hb2⟩ := Ctx.lend2 (As := [Item.own v1 (x3 : (List Int)), Item.box b2 [(.int .i64 x2), v1], Item.box b1 [(.int .i64 0), (.slice none 0 0)]]) [Item.box pb1 [u1, (.int .i64 x4), (.int .i64 x5)]] hC12
    refine WL_call Tryz.call37 rfl rfl (c_S_l1Below pb1 (a1.1, x4, x5) u1 (RO.lent g1 hC12.keep hF2) 4 hH2 hn2 x12 hr3) ?_
    rintro _ w7 ⟨rfl, hq3⟩
    have hC13 : Ctx Fs.flatten w0 w7 [Item.box pb1 [u1, (.int .i64 x12.2.2.1), (.int .i64 x12.2.2.2)], Item.own v1 (x3 : (List Int)), Item.box b2 [(.int .i64 x2), v1], Item.box b1 [(.int .i64 0), (.slice none 0 0)]] := hb2 _ _ hq3
    refine WL_assign rfl rfl ?_
    refine WL_nil (W_reg ?_)
    refine WL_field Tryz.underlying24 rfl rfl (fun w => ⟨_, Tryz.sizeOf22 w⟩) rfl rfl ?_
    refine WL_load_box hC13 2 rfl rfl Tryz.isAgg22 rfl rfl ?_
    refine WL_move rfl rfl ?_
    refine WL_buildSlice (vs := [(.int .i64 x12.1)]) hC13 Tryz.underlying22 ty3 rfl rfl rfl rfl (by intro v hv; simp only [List.mem_cons, List.not_mem_nil, or_false] at hv; rcases hv with rfl <;> rfl) rfl rfl (fun b4 w9 hC14 hB4 => ?_)
    have hC15 := hC14.row0 (α := Int)
    have hC16 := hC15.triv (int_val (x12.1))
    have hC17 := hC16.row1
    have hC18 := hC17.front 1 rfl
    dsimp only [List.eraseIdx, List.cons_append, List.nil_append, List.append_nil] at hC18
    have hC19 : Ctx Fs.flatten w0 w9 (Item.own (.slice (some ⟨b4, 0, none⟩) 1 1) ([x12.1] : List Int) :: [Item.box pb1 [u1, (.int .i64 x12.2.2.1), (.int .i64 x12.2.2.2)], Item.own v1 (x3 : (List Int)), Item.box b2 [(.int .i64 x2), v1], Item.box b1 [(.int .i64 0), (.slice none 0 0)]]) := hC18.rowOwn (by simp [maxLen])
    obtain ⟨x13, hx2, hL1⟩ := bind_some hL1
    refine WL_append_flat (α := Int) hC19 2 rfl (hC19.ro 0 rfl) (Keep.refl _ _) Tryz.underlying22 ty3 rfl hx2 rfl rfl rfl (fun v4 w10 hC20 => ?_)
    try dsimp only [List.set] at hC20
    refine WL_field Tryz.underlying24 rfl rfl (fun w => ⟨_, Tryz.sizeOf22 w⟩) rfl rfl ?_
    refine WL_store_boxK (cs' := [(.int .i64 x2), v4]) hC20 3 rfl rfl (ro_one (hC20.ro 2 rfl)) rfl Tryz.sizeOf22 rfl rfl (fun w11 hC21 hKp3 => ?_)
    try dsimp only [List.set] at hC21
    refine WL_nil (blk_normal (nrm_normal (W_reg ?_)))
    refine WL_move rfl rfl ?_
    refine WL_add rfl rfl rfl ?_
    refine WL_assign rfl rfl ?_
    refine WL_nil ?_
    have hC22 := hC21.f4
    have hC23 := hC22.f2
    have hC24 := hC23.f4
    have hC25 := hC24.f4
    have hC26 := hC25.h4
    refine nrm_sub (l' := [(0, (ptr pb1 0)), (1, u2), (4, (ptr b1 0)), (5, (ptr b2 0)), (6, (.int .i64 (w64 (x6 + 1))))]) ⟨rfl, rfl, rfl, rfl, rfl, trivial⟩ ?_
    exact ⟨k1, Nat.lt_succ_self _, x2, v4, x13, x12.2.2.1, x12.2.2.2, w64 (x6 + 1), rfl, hC26, hL1⟩
   replace hL1 := ite_f hL1 hc2
   refine W_exit (nrm_exit (nrm_exit (blk_exit ?_)))
   have hq4 := Option.some.inj hL1
   subst hq4
   refine nrm_sub (l' := [(4, (ptr b1 0)), (5, (ptr b2 0))]) ⟨rfl, rfl, trivial⟩ ?_
   exact ⟨x2, v1, x3, x4, x5, rfl, rfl, hC11⟩
 rintro l2 _ w12 hs2 ⟨x7, v2, x8, x9, x10, rfl, rfl, hC28⟩
 try dsimp only at hF
 refine nrm_sub' hs2 ?_
 clear hs2
 refine W_seq_reg ?_
 refine WL_load_box_agg [(.int .i64 x7), v2] hC28 1 rfl rfl rfl Tryz.isAgg24 Tryz.sizeOf24 rfl rfl ?_
 refine WL_store_box_aggK (cs' := [(.int .i64 x7), v2]) (new := [(.int .i64 x7), v2]) hC28 3 rfl rfl (by intro v hv; simp only [List.mem_cons, List.not_mem_nil, or_false] at hv; rcases hv with rfl | rfl; exact rfl; exact (ro_one (hC28.ro 0 rfl))) rfl Tryz.sizeOf24 rfl rfl (fun w13 hC29 hKp4 => ?_)
 try dsimp only [List.set] at hC29
 refine WL_nil (W_ret ?_)
 have hq5 := Option.some.inj hF
 subst hq5
 refine fn_retG1 rfl (rv_cell_agg (cs' := [(.int .i64 x7), v2]) hC29 (i := 3) rfl rfl rfl Tryz.isAgg24 Tryz.sizeOf24 rfl) ?_
 have hC30 := hC29.f2
 have hC32 := hC30.f1
 have hC31 := own_st24 x7 v2 x8 hC32
 have hC33 := hC31.h2
 exact ⟨_, rfl, _, rfl, hC33⟩

theorem c_S_l5AnyAccess {w0 : World} {Fs : List (List Nat)} (pb1 : Nat) (a1 : ((List UInt8) × Int × Int)) (u1 : Value) (g1 : RO Fs.flatten w0 u1 a1.1) (a2 : (List (Int × (List Int) × Int × Int × Int))) (u2 : Value) (g2 : RO Fs.flatten w0 u2 a2) (hH : Hold [Item.box pb1 [u1, (.int .i64 a1.2.1), (.int .i64 a1.2.2)]] w0 Fs) (hn : Fs.flatten.Nodup) (rr : ((Int × (List Int)) × ((List UInt8) × Int × Int))) (hF : S.l5AnyAccess a1 a2 = some rr) :
 Calls Tryz.prog 65 [(ptr pb1 0), u2].toArray w0 fun e w' => ∃ v, e = .returned v ∧ ∃ q0 : Value, v = q0 ∧ Ctx Fs.flatten w0 w' [Item.own q0 (rr.1 : (Int × (List Int))), Item.box pb1 [u1, (.int .i64 rr.2.2.1), (.int .i64 rr.2.2.2)]] := by
 refine calls_of_W Tryz.func65 rfl rfl ?_
 have hC0 := Ctx.startIn hH hn
 unfold S.l5AnyAccess at hF
 refine W_seq_reg ?_
 refine WL_allocK hC0 zero24 rfl rfl (fun b1 w1 hC1 hB1 hN1 => ?_)
 refine WL_nil (W_seq_reg ?_)
 refine WL_move rfl rfl ?_
 refine WL_move rfl rfl ?_
 obtain ⟨x1, hr1, hF⟩ := bind_some hF
 have hC2 := hC1.f1
 obtain ⟨Fs1, hH1, hn1, hF1, hO1, hb1⟩ := Ctx.lend2 (As := [Item.box b1 [(.int .i64 0), (.slice none 0 0)]]) [Item.box pb1 [u1, (.int .i64 a1.2.1), (.int .i64 a1.2.2)]] hC2
 refine WL_call Tryz.call87 rfl rfl (c_S_l5Access pb1 (a1.1, a1.2.1, a1.2.2) u1 (RO.lent g1 hC2.keep hF1) a2 u2 (RO.lent g2 hC2.keep hF1) hH1 hn1 x1 hr1) ?_
 rintro v1 w2 ⟨_, rfl, hq1⟩
 have hC3 : Ctx Fs.flatten w0 w2 [Item.own v1 (x1.1 : (Int × (List Int))), Item.box pb1 [u1, (.int .i64 x1.2.2.1), (.int .i64 x1.2.2.2)], Item.box b1 [(.int .i64 0), (.slice none 0 0)]] := hb1 _ _ hq1
 obtain ⟨v2, rfl, hC4⟩ := st24_own hC3
 refine WL_allocK hC4 zero24 rfl rfl (fun b2 w3 hC5 hB2 hN2 => ?_)
 refine WL_store_box_aggK (cs' := [(.int .i64 x1.1.1), v2]) (new := [(.int .i64 x1.1.1), v2]) hC5 0 rfl rfl (by intro v hv; simp only [List.mem_cons, List.not_mem_nil, or_false] at hv; rcases hv with rfl | rfl; exact rfl; exact (ro_one (hC5.ro 1 rfl))) rfl Tryz.sizeOf24 rfl rfl (fun w4 hC6 hKp1 => ?_)
 try dsimp only [List.set] at hC6
 have hk1 := Keep.over (Keep.of hB2) hN2 hKp1
 refine WL_nil (W_seq (W_seq_reg ?_))
 refine WL_move rfl rfl ?_
 obtain ⟨x2, hr2, hF⟩ := bind_some hF
 have hC7 := hC6.f2
 obtain ⟨Fs2, hH2, hn2, hF2, hO2, hb2⟩ := Ctx.lend2 (As := [Item.box b2 [(.int .i64 x1.1.1), v2], Item.own v2 (x1.1.2 : (List Int)), Item.box b1 [(.int .i64 0), (.slice none 0 0)]]) [Item.box pb1 [u1, (.int .i64 x1.2.2.1), (.int .i64 x1.2.2.2)]] hC7
 refine WL_call Tryz.call37 rfl rfl (c_S_l1Below pb1 (a1.1, x1.2.2.1, x1.2.2.2) u1 (RO.lent g1 hC7.keep hF2) 12 hH2 hn2 x2 hr2) ?_
 rintro _ w5 ⟨rfl, hq2⟩
 have hC8 : Ctx Fs.flatten w0 w5 [Item.box pb1 [u1, (.int .i64 x2.2.2.1), (.int .i64 x2.2.2.2)], Item.box b2 [(.int .i64 x1.1.1), v2], Item.own v2 (x1.1.2 : (List Int)), Item.box b1 [(.int .i64 0), (.slice none 0 0)]] := hb2 _ _ hq2
 refine WL_nil (W_block (W_seq_reg ?_))
 refine WL_eql rfl rfl rfl ?_
 refine WL_assign rfl rfl ?_
 refine WL_nil ?_
 obtain ⟨r1, hr3, hF⟩ := bind_some hF
 refine W_norm (fun l w => ∃ x3 : Int, ∃ x4 : Int, ∃ x5 : Int, ∃ v3 : Value, ∃ x6 : (List Int), (x3, x4, x5, x6) = r1 ∧ l = [(4, (ptr b1 0)), (5, (ptr b2 0))] ∧ Ctx Fs.flatten w0 w [Item.box pb1 [u1, (.int .i64 x3), (.int .i64 x4)], Item.box b2 [(.int .i64 x5), v3], Item.own v3 (x6 : (List Int)), Item.box b1 [(.int .i64 0), (.slice none 0 0)]]) ?_ ?_
 ·refine W_cond rfl (fun hc1 => ?_) (fun hc1 => ?_)
  ·replace hr3 := ite_t hr3 hc1
   refine W_reg ?_
   refine WL_move rfl rfl ?_
   obtain ⟨x7, hr4, hr3⟩ := bind_some hr3
   obtain ⟨Fs3, hH3, hn3, hF3, hO3, hb3⟩ := Ctx.lend2 (As := [Item.box b2 [(.int .i64 x1.1.1), v2], Item.own v2 (x1.1.2 : (List Int)), Item.box b1 [(.int .i64 0), (.slice none 0 0)]]) [Item.box pb1 [u1, (.int .i64 x2.2.2.1), (.int .i64 x2.2.2.2)]] hC8
   refine WL_call Tryz.call37 rfl rfl (c_S_l1Below pb1 (a1.1, x2.2.2.1, x2.2.2.2) u1 (RO.lent g1 hC8.keep hF3) 7 hH3 hn3 x7 hr4) ?_
   rintro _ w7 ⟨rfl, hq3⟩
   have hC10 : Ctx Fs.flatten w0 w7 [Item.box pb1 [u1, (.int .i64 x7.2.2.1), (.int .i64 x7.2.2.2)], Item.box b2 [(.int .i64 x1.1.1), v2], Item.own v2 (x1.1.2 : (List Int)), Item.box b1 [(.int .i64 0), (.slice none 0 0)]] := hb3 _ _ hq3
   refine WL_sub rfl rfl rfl ?_
   refine WL_field Tryz.underlying24 rfl rfl (fun w => ⟨_, Tryz.sizeOf3 w⟩) rfl rfl ?_
   refine WL_store_boxK (cs' := [(.int .i64 (w64 (x7.1 - 1))), v2]) hC10 1 rfl rfl rfl rfl Tryz.sizeOf3 rfl rfl (fun w9 hC11 hKp2 => ?_)
   try dsimp only [List.set] at hC11
   refine WL_nil ?_
   have hq4 := Option.some.inj hr3
   subst hq4
   refine nrm_sub (l' := [(4, (ptr b1 0)), (5, (ptr b2 0))]) ⟨rfl, rfl, trivial⟩ ?_
   exact ⟨x7.2.2.1, x7.2.2.2, w64 (x7.1 - 1), v2, x1.1.2, rfl, rfl, hC11⟩
  replace hr3 := ite_f hr3 hc1
  refine W_seq_reg ?_
  refine WL_eql rfl rfl rfl ?_
  refine WL_assign rfl rfl ?_
  refine WL_nil ?_
  obtain ⟨r2, hr5, hr3⟩ := bind_some hr3
  refine W_norm (fun l w => ∃ x8 : Int, ∃ x9 : Int, ∃ x10 : Int, ∃ v4 : Value, ∃ x11 : (List Int), (x8, x9, x10, x11) = r2 ∧ l = [(4, (ptr b1 0)), (5, (ptr b2 0))] ∧ Ctx Fs.flatten w0 w [Item.box pb1 [u1, (.int .i64 x8), (.int .i64 x9)], Item.box b2 [(.int .i64 x10), v4], Item.own v4 (x11 : (List Int)), Item.box b1 [(.int .i64 0), (.slice none 0 0)]]) ?_ ?_
  ·refine W_cond rfl (fun hc2 => ?_) (fun hc2 => ?_)
   ·replace hr5 := ite_t hr5 hc2
    obtain ⟨r3, hr6, hr5⟩ := bind_some hr5
    refine W_norm (fun l w => ∃ x12 : Int, ∃ x13 : Int, ∃ x14 : Int, ∃ v5 : Value, ∃ x15 : (List Int), (x12, x13, x14, x15) = r3 ∧ l = [(4, (ptr b1 0)), (5, (ptr b2 0))] ∧ Ctx Fs.flatten w0 w [Item.box pb1 [u1, (.int .i64 x12), (.int .i64 x13)], Item.box b2 [(.int .i64 x14), v5], Item.own v5 (x15 : (List Int)), Item.box b1 [(.int .i64 0), (.slice none 0 0)]]) ?_ ?_
    ·refine W_drawn 9 rfl hmix (fun w12 hB6 => ?_)
     have hC14 := hC8.grow hB6
     refine WA_tk 0 (by kernel_rfl) rfl rfl (fl_field Tryz.underlying24 rfl rfl (fun w => ⟨_, Tryz.sizeOf22 w⟩) rfl) ?_
     refine WL_field Tryz.underlying24 rfl rfl (fun w => ⟨_, Tryz.sizeOf22 w⟩) rfl rfl ?_
     refine WL_nil ?_
     refine WA_tk 2 (by kernel_rfl) rfl rfl (fl_move rfl) ?_
     refine WL_move rfl rfl ?_
     refine WL_nil ?_
     refine WA_all2 (i := 1) (j := 3) (by kernel_rfl) rfl rfl ?_ ?_
     ·refine WL_load_box hC14 1 rfl rfl Tryz.isAgg22 rfl rfl ?_
      refine WL_nil ?_
      refine WA_one 3 (by kernel_rfl) rfl ?_
      refine WL_buildSlice (vs := [(.int .i64 (-1)), (.int .i64 3), (.int .i64 10)]) hC14 Tryz.underlying22 ty3 rfl rfl rfl rfl (by intro v hv; simp only [List.mem_cons, List.not_mem_nil, or_false] at hv; rcases hv with rfl | rfl | rfl <;> rfl) rfl rfl (fun b3 w13 hC15 hB7 => ?_)
      have hC16 := hC15.row0 (α := Int)
      have hC17 := hC16.triv (int_val (10))
      have hC18 := hC17.row1
      have hC19 := hC18.triv (int_val (3))
      have hC20 := hC19.row1
      have hC21 := hC20.triv (int_val ((-1)))
      have hC22 := hC21.row1
      have hC23 := hC22.front 1 rfl
      dsimp only [List.eraseIdx, List.cons_append, List.nil_append, List.append_nil] at hC23
      have hC24 : Ctx Fs.flatten w0 w13 (Item.own (.slice (some ⟨b3, 0, none⟩) 3 3) ([(-1), 3, 10] : List Int) :: [Item.box pb1 [u1, (.int .i64 x2.2.2.1), (.int .i64 x2.2.2.2)], Item.box b2 [(.int .i64 x1.1.1), v2], Item.own v2 (x1.1.2 : (List Int)), Item.box b1 [(.int .i64 0), (.slice none 0 0)]]) := hC23.rowOwn (by simp [maxLen])
      refine WL_nil ?_
      obtain ⟨x16, hr7, hr6⟩ := bind_some hr6
      refine WA_one 4 (by kernel_rfl) rfl ?_
      have hC25 := hC24.f1
      obtain ⟨Fs4, hH4, hn4, hF4, hO4, hb4⟩ := Ctx.lend2 (As := [Item.own (.slice (some ⟨b3, 0, none⟩) 3 3) ([(-1), 3, 10] : (List Int)), Item.box b2 [(.int .i64 x1.1.1), v2], Item.own v2 (x1.1.2 : (List Int)), Item.box b1 [(.int .i64 0), (.slice none 0 0)]]) [Item.box pb1 [u1, (.int .i64 x2.2.2.1), (.int .i64 x2.2.2.2)]] hC25
      refine WL_call Tryz.call66 rfl rfl (c_S_l1PickInt pb1 (a1.1, x2.2.2.1, x2.2.2.2) u1 (RO.lent g1 hC25.keep hF4) ([(-1), 3, 10]) (.slice (some ⟨b3, 0, none⟩) 3 3) (hO4 0 _ _ _ rfl) hH4 hn4 x16 hr7) ?_
      rintro _ w14 ⟨rfl, hq5⟩
      have hC26 : Ctx Fs.flatten w0 w14 [Item.box pb1 [u1, (.int .i64 x16.2.2.1), (.int .i64 x16.2.2.2)], Item.own (.slice (some ⟨b3, 0, none⟩) 3 3) ([(-1), 3, 10] : (List Int)), Item.box b2 [(.int .i64 x1.1.1), v2], Item.own v2 (x1.1.2 : (List Int)), Item.box b1 [(.int .i64 0), (.slice none 0 0)]] := hb4 _ _ hq5
      refine WL_nil ?_
      refine WA_one 5 (by kernel_rfl) rfl ?_
      refine WL_buildSlice (vs := [(.int .i64 x16.1)]) hC26 Tryz.underlying22 ty3 rfl rfl rfl rfl (by intro v hv; simp only [List.mem_cons, List.not_mem_nil, or_false] at hv; rcases hv with rfl <;> rfl) rfl rfl (fun b4 w15 hC27 hB8 => ?_)
      have hC28 := hC27.row0 (α := Int)
      have hC29 := hC28.triv (int_val (x16.1))
      have hC30 := hC29.row1
      have hC31 := hC30.front 1 rfl
      dsimp only [List.eraseIdx, List.cons_append, List.nil_append, List.append_nil] at hC31
      have hC32 : Ctx Fs.flatten w0 w15 (Item.own (.slice (some ⟨b4, 0, none⟩) 1 1) ([x16.1] : List Int) :: [Item.box pb1 [u1, (.int .i64 x16.2.2.1), (.int .i64 x16.2.2.2)], Item.own (.slice (some ⟨b3, 0, none⟩) 3 3) ([(-1), 3, 10] : (List Int)), Item.box b2 [(.int .i64 x1.1.1), v2], Item.own v2 (x1.1.2 : (List Int)), Item.box b1 [(.int .i64 0), (.slice none 0 0)]]) := hC31.rowOwn (by simp [maxLen])
      refine WL_nil ?_
      obtain ⟨x17, hx1, hr6⟩ := bind_some hr6
      refine WA_one 6 (by kernel_rfl) rfl ?_
      refine WL_append_flat (α := Int) hC32 4 rfl (hC32.ro 0 rfl) (Keep.refl _ _) Tryz.underlying22 ty3 rfl hx1 rfl rfl rfl (fun v6 w16 hC33 => ?_)
      try dsimp only [List.set] at hC33
      refine WL_nil ?_
      refine WA_tk 7 (by kernel_rfl) rfl rfl (fl_field Tryz.underlying24 rfl rfl (fun w => ⟨_, Tryz.sizeOf22 w⟩) rfl) ?_
      refine WL_field Tryz.underlying24 rfl rfl (fun w => ⟨_, Tryz.sizeOf22 w⟩) rfl rfl ?_
      refine WL_nil ?_
      refine WA_one 8 (by kernel_rfl) rfl ?_
      refine WL_store_boxK (cs' := [(.int .i64 x1.1.1), v6]) hC33 3 rfl rfl (ro_one (hC33.ro 4 rfl)) rfl Tryz.sizeOf22 rfl rfl (fun w17 hC34 hKp3 => ?_)
      try dsimp only [List.set] at hC34
      refine WL_nil ?_
      refine WA_done (by kernel_rfl) ?_
      have hq6 := Option.some.inj hr6
      subst hq6
      have hC35 := hC34.f5
      have hC36 := hC35.f5
      have hC37 := hC36.f5
      have hC38 := hC37.f4
      have hC39 := hC38.h4
      refine nrm_sub (l' := [(4, (ptr b1 0)), (5, (ptr b2 0))]) ⟨rfl, rfl, trivial⟩ ?_
      exact ⟨x16.2.2.1, x16.2.2.2, x1.1.1, v6, x17, rfl, rfl, hC39⟩
     refine WL_buildSlice (vs := [(.int .i64 (-1)), (.int .i64 3), (.int .i64 10)]) hC14 Tryz.underlying22 ty3 rfl rfl rfl rfl (by intro v hv; simp only [List.mem_cons, List.not_mem_nil, or_false] at hv; rcases hv with rfl | rfl | rfl <;> rfl) rfl rfl (fun b3 w13 hC15 hB7 => ?_)
     have hC16 := hC15.row0 (α := Int)
     have hC17 := hC16.triv (int_val (10))
     have hC18 := hC17.row1
     have hC19 := hC18.triv (int_val (3))
     have hC20 := hC19.row1
     have hC21 := hC20.triv (int_val ((-1)))
     have hC22 := hC21.row1
     have hC23 := hC22.front 1 rfl
     dsimp only [List.eraseIdx, List.cons_append, List.nil_append, List.append_nil] at hC23
     have hC24 : Ctx Fs.flatten w0 w13 (Item.own (.slice (some ⟨b3, 0, none⟩) 3 3) ([(-1), 3, 10] : List Int) :: [Item.box pb1 [u1, (.int .i64 x2.2.2.1), (.int .i64 x2.2.2.2)], Item.box b2 [(.int .i64 x1.1.1), v2], Item.own v2 (x1.1.2 : (List Int)), Item.box b1 [(.int .i64 0), (.slice none 0 0)]]) := hC23.rowOwn (by simp [maxLen])
     refine WL_nil ?_
     refine WA_all2 (i := 1) (j := 4) (by kernel_rfl) rfl rfl ?_ ?_
     ·refine WL_load_box hC24 2 rfl rfl Tryz.isAgg22 rfl rfl ?_
      refine WL_nil ?_
      obtain ⟨x16, hr7, hr6⟩ := bind_some hr6
      refine WA_one 4 (by kernel_rfl) rfl ?_
      have hC25 := hC24.f1
      obtain ⟨Fs4, hH4, hn4, hF4, hO4, hb4⟩ := Ctx.lend2 (As := [Item.own (.slice (some ⟨b3, 0, none⟩) 3 3) ([(-1), 3, 10] : (List Int)), Item.box b2 [(.int .i64 x1.1.1), v2], Item.own v2 (x1.1.2 : (List Int)), Item.box b1 [(.int .i64 0), (.slice none 0 0)]]) [Item.box pb1 [u1, (.int .i64 x2.2.2.1), (.int .i64 x2.2.2.2)]] hC25
      refine WL_call Tryz.call66 rfl rfl (c_S_l1PickInt pb1 (a1.1, x2.2.2.1, x2.2.2.2) u1 (RO.lent g1 hC25.keep hF4) ([(-1), 3, 10]) (.slice (some ⟨b3, 0, none⟩) 3 3) (hO4 0 _ _ _ rfl) hH4 hn4 x16 hr7) ?_
      rintro _ w14 ⟨rfl, hq5⟩
      have hC26 : Ctx Fs.flatten w0 w14 [Item.box pb1 [u1, (.int .i64 x16.2.2.1), (.int .i64 x16.2.2.2)], Item.own (.slice (some ⟨b3, 0, none⟩) 3 3) ([(-1), 3, 10] : (List Int)), Item.box b2 [(.int .i64 x1.1.1), v2], Item.own v2 (x1.1.2 : (List Int)), Item.box b1 [(.int .i64 0), (.slice none 0 0)]] := hb4 _ _ hq5
      refine WL_nil ?_
      refine WA_one 5 (by kernel_rfl) rfl ?_
      refine WL_buildSlice (vs := [(.int .i64 x16.1)]) hC26 Tryz.underlying22 ty3 rfl rfl rfl rfl (by intro v hv; simp only [List.mem_cons, List.not_mem_nil, or_false] at hv; rcases hv with rfl <;> rfl) rfl rfl (fun b4 w15 hC27 hB8 => ?_)
      have hC28 := hC27.row0 (α := Int)
      have hC29 := hC28.triv (int_val (x16.1))
      have hC30 := hC29.row1
      have hC31 := hC30.front 1 rfl
      dsimp only [List.eraseIdx, List.cons_append, List.nil_append, List.append_nil] at hC31
      have hC32 : Ctx Fs.flatten w0 w15 (Item.own (.slice (some ⟨b4, 0, none⟩) 1 1) ([x16.1] : List Int) :: [Item.box pb1 [u1, (.int .i64 x16.2.2.1), (.int .i64 x16.2.2.2)], Item.own (.slice (some ⟨b3, 0, none⟩) 3 3) ([(-1), 3, 10] : (List Int)), Item.box b2 [(.int .i64 x1.1.1), v2], Item.own v2 (x1.1.2 : (List Int)), Item.box b1 [(.int .i64 0), (.slice none 0 0)]]) := hC31.rowOwn (by simp [maxLen])
      refine WL_nil ?_
      obtain ⟨x17, hx1, hr6⟩ := bind_some hr6
      refine WA_one 6 (by kernel_rfl) rfl ?_
      refine WL_append_flat (α := Int) hC32 4 rfl (hC32.ro 0 rfl) (Keep.refl _ _) Tryz.underlying22 ty3 rfl hx1 rfl rfl rfl (fun v6 w16 hC33 => ?_)
      try dsimp only [List.set] at hC33
      refine WL_nil ?_
      refine WA_tk 7 (by kernel_rfl) rfl rfl (fl_field Tryz.underlying24 rfl rfl (fun w => ⟨_, Tryz.sizeOf22 w⟩) rfl) ?_
      refine WL_field Tryz.underlying24 rfl rfl (fun w => ⟨_, Tryz.sizeOf22 w⟩) rfl rfl ?_
      refine WL_nil ?_
      refine WA_one 8 (by kernel_rfl) rfl ?_
      refine WL_store_boxK (cs' := [(.int .i64 x1.1.1), v6]) hC33 3 rfl rfl (ro_one (hC33.ro 4 rfl)) rfl Tryz.sizeOf22 rfl rfl (fun w17 hC34 hKp3 => ?_)
      try dsimp only [List.set] at hC34
      refine WL_nil ?_
      refine WA_done (by kernel_rfl) ?_
      have hq6 := Option.some.inj hr6
      subst hq6
      have hC35 := hC34.f5
      have hC36 := hC35.f5
      have hC37 := hC36.f5
      have hC38 := hC37.f4
      have hC39 := hC38.h4
      refine nrm_sub (l' := [(4, (ptr b1 0)), (5, (ptr b2 0))]) ⟨rfl, rfl, trivial⟩ ?_
      exact ⟨x16.2.2.1, x16.2.2.2, x1.1.1, v6, x17, rfl, rfl, hC39⟩
     obtain ⟨x16, hr7, hr6⟩ := bind_some hr6
     have hC25 := hC24.f1
     obtain ⟨Fs4, hH4, hn4, hF4, hO4, hb4⟩ := Ctx.lend2 (As := [Item.own (.slice (some ⟨b3, 0, none⟩) 3 3) ([(-1), 3, 10] : (List Int)), Item.box b2 [(.int .i64 x1.1.1), v2], Item.own v2 (x1.1.2 : (List Int)), Item.box b1 [(.int .i64 0), (.slice none 0 0)]]) [Item.box pb1 [u1, (.int .i64 x2.2.2.1), (.int .i64 x2.2.2.2)]] hC25
     refine WL_call Tryz.call66 rfl rfl (c_S_l1PickInt pb1 (a1.1, x2.2.2.1, x2.2.2.2) u1 (RO.lent g1 hC25.keep hF4) ([(-1), 3, 10]) (.slice (some ⟨b3, 0, none⟩) 3 3) (hO4 0 _ _ _ rfl) hH4 hn4 x16 hr7) ?_
     rintro _ w14 ⟨rfl, hq5⟩
     have hC26 : Ctx Fs.flatten w0 w14 [Item.box pb1 [u1, (.int .i64 x16.2.2.1), (.int .i64 x16.2.2.2)], Item.own (.slice (some ⟨b3, 0, none⟩) 3 3) ([(-1), 3, 10] : (List Int)), Item.box b2 [(.int .i64 x1.1.1), v2], Item.own v2 (x1.1.2 : (List Int)), Item.box b1 [(.int .i64 0), (.slice none 0 0)]] := hb4 _ _ hq5
     refine WL_nil ?_
     refine WA.sub (l' := [(0, (ptr pb1 0)), (1, u2), (4, (ptr b1 0)), (5, (ptr b2 0)), (6, (ptr pb1 0)), (7, u2), (8, (.agg #[(.int .i64 x1.1.1), v2])), (9, (ptr pb1 0)), (10, (.int .i64 x2.1)), (11, (.bool (decide (x2.1 = 0)))), (12, (.bool (decide (x2.1 = 0)))), (17, (.bool (decide (x2.1 = 1)))), (18, (.bool (decide (x2.1 = 1)))), (19, (ptr b2 1)), (21, (ptr pb1 0)), (22, (.slice (some ⟨b3, 0, none⟩) 3 3)), (23, (.int .i64 x16.1))]) ?_ ⟨rfl, rfl, rfl, rfl, rfl, rfl, rfl, rfl, rfl, rfl, rfl, rfl, rfl, rfl, rfl, rfl, rfl, trivial⟩
     refine WA_postsE [⟨1, [], fun vs => PW.val v2, []⟩, ⟨5, [], fun vs => PW.own ([x16.1] : (List Int)), []⟩] [[], []] 3 rfl (by kernel_rfl) (by kernel_rfl) rfl ?_ ?_
     ·refine StepsE_cons rfl ?_ ?_
      ·intro w16 hB9
       refine DepsE_nil ?_
       refine ⟨_, rfl, ?_⟩
       refine WL_load_box (hC26.grow hB9) 2 rfl rfl Tryz.isAgg22 rfl rfl ?_
       refine WL_nil ?_
       exact FinE_val (Below.refl _ _) rfl rfl ⟨rfl, rfl⟩
      refine StepsE_cons rfl ?_ ?_
      ·intro w16 hB9
       refine DepsE_nil ?_
       refine ⟨_, rfl, ?_⟩
       refine WL_buildSlice (vs := [(.int .i64 x16.1)]) (Ctx.start w16) Tryz.underlying22 ty3 rfl rfl rfl rfl (by intro v hv; simp only [List.mem_cons, List.not_mem_nil, or_false] at hv; rcases hv with rfl <;> rfl) rfl rfl (fun b4 w15 hC27 hB8 => ?_)
       have hC28 := hC27.row0 (α := Int)
       have hC29 := hC28.triv (int_val (x16.1))
       have hC30 := hC29.row1
       have hC31 := hC30.front 1 rfl
       dsimp only [List.eraseIdx, List.cons_append, List.nil_append, List.append_nil] at hC31
       have hC32 : Ctx [] w16 w15 (Item.own (.slice (some ⟨b4, 0, none⟩) 1 1) ([x16.1] : List Int) :: []) := hC31.rowOwn (by simp [maxLen])
       refine WL_nil ?_
       exact FinE_ctx hC32 rfl rfl (fun F h => h)
      exact StepsE_nil
     intro w17 hB10
     refine AllE_cons rfl rfl rfl ?_
     rintro _ _ ⟨rfl, rfl⟩
     refine AllE_cons rfl rfl rfl ?_
     intro v6 F1 hv1
     refine AllE_nil ?_
     intro hn5 hb5
     have hC33 := hC26.pushL hB10 (Bs := [Item.own v6 ([x16.1] : (List Int))]) (Fs := [F1]) ⟨F1, _, rfl, hv1, rfl⟩ (by simpa using hn5) (fun b h => (hb5 b (by simpa using h)).1)
     obtain ⟨x17, hx1, hr6⟩ := bind_some hr6
     refine WA_one 6 (by kernel_rfl) rfl ?_
     refine WL_append_flat (α := Int) hC33 4 rfl (hC33.ro 0 rfl) (Keep.refl _ _) Tryz.underlying22 ty3 rfl hx1 rfl rfl rfl (fun v7 w18 hC34 => ?_)
     try dsimp only [List.set] at hC34
     refine WL_nil ?_
     refine WA_tk 7 (by kernel_rfl) rfl rfl (fl_field Tryz.underlying24 rfl rfl (fun w => ⟨_, Tryz.sizeOf22 w⟩) rfl) ?_
     refine WL_field Tryz.underlying24 rfl rfl (fun w => ⟨_, Tryz.sizeOf22 w⟩) rfl rfl ?_
     refine WL_nil ?_
     refine WA_one 8 (by kernel_rfl) rfl ?_
     refine WL_store_boxK (cs' := [(.int .i64 x1.1.1), v7]) hC34 3 rfl rfl (ro_one (hC34.ro 4 rfl)) rfl Tryz.sizeOf22 rfl rfl (fun w19 hC35 hKp3 => ?_)
     try dsimp only [List.set] at hC35
     refine WL_nil ?_
     refine WA_done (by kernel_rfl) ?_
     have hq6 := Option.some.inj hr6
     subst hq6
     have hC36 := hC35.f5
     have hC37 := hC36.f5
     have hC38 := hC37.f5
     have hC39 := hC38.f4
     have hC40 := hC39.h4
     refine nrm_sub (l' := [(4, (ptr b1 0)), (5, (ptr b2 0))]) ⟨rfl, rfl, trivial⟩ ?_
     exact ⟨x16.2.2.1, x16.2.2.2, x1.1.1, v7, x17, rfl, rfl, hC40⟩
    rintro l3 _ w11 hs3 ⟨x12, x13, x14, v5, x15, rfl, rfl, hC13⟩
    try dsimp only at hr5
    have hq7 := Option.some.inj hr5
    subst hq7
    refine nrm_subs (l2 := [(4, (ptr b1 0)), (5, (ptr b2 0))]) hs3 ⟨rfl, rfl, trivial⟩ ?_
    exact ⟨x12, x13, x14, v5, x15, rfl, rfl, hC13⟩
   replace hr5 := ite_f hr5 hc2
   refine W_skip ?_
   have hq8 := Option.some.inj hr5
   subst hq8
   refine nrm_sub (l' := [(4, (ptr b1 0)), (5, (ptr b2 0))]) ⟨rfl, rfl, trivial⟩ ?_
   exact ⟨x2.2.2.1, x2.2.2.2, x1.1.1, v2, x1.1.2, rfl, rfl, hC8⟩
  rintro l2 _ w10 hs2 ⟨x8, x9, x10, v4, x11, rfl, rfl, hC12⟩
  try dsimp only at hr3
  have hq9 := Option.some.inj hr3
  subst hq9
  refine nrm_subs (l2 := [(4, (ptr b1 0)), (5, (ptr b2 0))]) hs2 ⟨rfl, rfl, trivial⟩ ?_
  exact ⟨x8, x9, x10, v4, x11, rfl, rfl, hC12⟩
 rintro l1 _ w6 hs1 ⟨x3, x4, x5, v3, x6, rfl, rfl, hC9⟩
 try dsimp only at hF
 refine blk_normal ?_
 refine nrm_sub' hs1 ?_
 clear hs1
 refine W_seq_reg ?_
 refine WL_load_box_agg [(.int .i64 x5), v3] hC9 1 rfl rfl rfl Tryz.isAgg24 Tryz.sizeOf24 rfl rfl ?_
 refine WL_store_box_aggK (cs' := [(.int .i64 x5), v3]) (new := [(.int .i64 x5), v3]) hC9 3 rfl rfl (by intro v hv; simp only [List.mem_cons, List.not_mem_nil, or_false] at hv; rcases hv with rfl | rfl; exact rfl; exact (ro_one (hC9.ro 2 rfl))) rfl Tryz.sizeOf24 rfl rfl (fun w20 hC41 hKp4 => ?_)
 try dsimp only [List.set] at hC41
 refine WL_nil (W_ret ?_)
 have hq10 := Option.some.inj hF
 subst hq10
 refine fn_retG1 rfl (rv_cell_agg (cs' := [(.int .i64 x5), v3]) hC41 (i := 3) rfl rfl rfl Tryz.isAgg24 Tryz.sizeOf24 rfl) ?_
 have hC43 := hC41.f2
 have hC42 := own_st24 x5 v3 x6 hC43
 have hC44 := hC42.h2
 exact ⟨_, rfl, _, rfl, hC44⟩

theorem c_S_l24Cursor {w0 : World} {Fs : List (List Nat)} (pb1 : Nat) (a1 : ((List UInt8) × Int × Int)) (u1 : Value) (g1 : RO Fs.flatten w0 u1 a1.1) (hH : Hold [Item.box pb1 [u1, (.int .i64 a1.2.1), (.int .i64 a1.2.2)]] w0 Fs) (hn : Fs.flatten.Nodup) (rr : (((Int × (List Int)) × Int × Int) × ((List UInt8) × Int × Int))) (hF : S.l24Cursor a1 = some rr) :
 Calls Tryz.prog 44 [(ptr pb1 0)].toArray w0 fun e w' => ∃ v, e = .returned v ∧ ∃ q0 : Value, v = q0 ∧ Ctx Fs.flatten w0 w' [Item.own q0 (rr.1 : ((Int × (List Int)) × Int × Int)), Item.box pb1 [u1, (.int .i64 rr.2.2.1), (.int .i64 rr.2.2.2)]] := by
 refine calls_of_W Tryz.func44 rfl rfl ?_
 have hC0 := Ctx.startIn hH hn
 unfold S.l24Cursor at hF
 refine W_seq_reg ?_
 refine WL_allocK hC0 zero26 rfl rfl (fun b1 w1 hC1 hB1 hN1 => ?_)
 refine WL_nil (W_seq_reg ?_)
 refine WL_move rfl rfl ?_
 obtain ⟨x1, hr1, hF⟩ := bind_some hF
 have hC2 := hC1.f1
 obtain ⟨Fs1, hH1, hn1, hF1, hO1, hb1⟩ := Ctx.lend2 (As := [Item.box b1 [(.int .i64 0), (.slice none 0 0), (.int .i64 0), (.int .i64 0)]]) [Item.box pb1 [u1, (.int .i64 a1.2.1), (.int .i64 a1.2.2)]] hC2
 refine WL_call Tryz.call64 rfl rfl (c_S_l5Draw pb1 (a1.1, a1.2.1, a1.2.2) u1 (RO.lent g1 hC2.keep hF1) hH1 hn1 x1 hr1) ?_
 rintro _ w2 ⟨v1, v2, v3, rfl, hq1⟩
 have hC3 : Ctx Fs.flatten w0 w2 [Item.own v1 (x1.1 : (List Int)), Item.own v2 (x1.2.1 : (List (Int × (List Int) × Int × Int × Int))), Item.own v3 (x1.2.2.1 : (List (Int × (List Int)))), Item.box pb1 [u1, (.int .i64 x1.2.2.2.2.1), (.int .i64 x1.2.2.2.2.2)], Item.box b1 [(.int .i64 0), (.slice none 0 0), (.int .i64 0), (.int .i64 0)]] := hb1 _ _ hq1
 refine WL_move rfl rfl ?_
 refine WL_extract rfl rfl rfl ?_
 refine WL_extract rfl rfl rfl ?_
 refine WL_extract rfl rfl rfl ?_
 refine WL_assign rfl rfl ?_
 refine WL_assign rfl rfl ?_
 refine WL_assign rfl rfl ?_
 refine WL_nil (W_seq_reg ?_)
 refine WL_move rfl rfl ?_
 refine WL_move rfl rfl ?_
 obtain ⟨x2, hr2, hF⟩ := bind_some hF
 have hC4 := hC3.f3
 obtain ⟨Fs2, hH2, hn2, hF2, hO2, hb2⟩ := Ctx.lend2 (As := [Item.own v1 (x1.1 : (List Int)), Item.own v2 (x1.2.1 : (List (Int × (List Int) × Int × Int × Int))), Item.own v3 (x1.2.2.1 : (List (Int × (List Int)))), Item.box b1 [(.int .i64 0), (.slice none 0 0), (.int .i64 0), (.int .i64 0)]]) [Item.box pb1 [u1, (.int .i64 x1.2.2.2.2.1), (.int .i64 x1.2.2.2.2.2)]] hC4
 refine WL_call Tryz.call65 rfl rfl (c_S_l5AnyAccess pb1 (a1.1, x1.2.2.2.2.1, x1.2.2.2.2.2) u1 (RO.lent g1 hC4.keep hF2) x1.2.1 v2 (hO2 1 _ _ _ rfl) hH2 hn2 x2 hr2) ?_
 rintro v4 w3 ⟨_, rfl, hq2⟩
 have hC5 : Ctx Fs.flatten w0 w3 [Item.own v4 (x2.1 : (Int × (List Int))), Item.box pb1 [u1, (.int .i64 x2.2.2.1), (.int .i64 x2.2.2.2)], Item.own v1 (x1.1 : (List Int)), Item.own v2 (x1.2.1 : (List (Int × (List Int) × Int × Int × Int))), Item.own v3 (x1.2.2.1 : (List (Int × (List Int)))), Item.box b1 [(.int .i64 0), (.slice none 0 0), (.int .i64 0), (.int .i64 0)]] := hb2 _ _ hq2
 obtain ⟨v5, rfl, hC6⟩ := st24_own hC5
 refine WL_move rfl rfl ?_
 obtain ⟨x3, hr3, hF⟩ := bind_some hF
 have hC7 := hC6.f1
 obtain ⟨Fs3, hH3, hn3, hF3, hO3, hb3⟩ := Ctx.lend2 (As := [Item.own v5 (x2.1.2 : (List Int)), Item.own v1 (x1.1 : (List Int)), Item.own v2 (x1.2.1 : (List (Int × (List Int) × Int × Int × Int))), Item.own v3 (x1.2.2.1 : (List (Int × (List Int)))), Item.box b1 [(.int .i64 0), (.slice none 0 0), (.int .i64 0), (.int .i64 0)]]) [Item.box pb1 [u1, (.int .i64 x2.2.2.1), (.int .i64 x2.2.2.2)]] hC7
 refine WL_call Tryz.call37 rfl rfl (c_S_l1Below pb1 (a1.1, x2.2.2.1, x2.2.2.2) u1 (RO.lent g1 hC7.keep hF3) 9 hH3 hn3 x3 hr3) ?_
 rintro _ w4 ⟨rfl, hq3⟩
 have hC8 : Ctx Fs.flatten w0 w4 [Item.box pb1 [u1, (.int .i64 x3.2.2.1), (.int .i64 x3.2.2.2)], Item.own v5 (x2.1.2 : (List Int)), Item.own v1 (x1.1 : (List Int)), Item.own v2 (x1.2.1 : (List (Int × (List Int) × Int × Int × Int))), Item.own v3 (x1.2.2.1 : (List (Int × (List Int)))), Item.box b1 [(.int .i64 0), (.slice none 0 0), (.int .i64 0), (.int .i64 0)]] := hb3 _ _ hq3
 refine WL_build (vs := [(0, (.agg #[(.int .i64 x2.1.1), v5])), (1, (.int .i64 x3.1))]) rfl rfl rfl (built26_0_1 rfl rfl) ?_
 refine WL_allocK hC8 zero26 rfl rfl (fun b2 w5 hC9 hB2 hN2 => ?_)
 refine WL_store_box_aggK (cs' := [(.int .i64 x2.1.1), v5, (.int .i64 x3.1), (.int .i64 0)]) (new := [(.int .i64 x2.1.1), v5, (.int .i64 x3.1), (.int .i64 0)]) hC9 0 rfl rfl (by intro v hv; simp only [List.mem_cons, List.not_mem_nil, or_false] at hv; rcases hv with rfl | rfl | rfl | rfl; exact rfl; exact (ro_one (hC9.ro 2 rfl)); exact rfl; exact rfl) rfl Tryz.sizeOf26 rfl rfl (fun w6 hC10 hKp1 => ?_)
 try dsimp only [List.set] at hC10
 have hk1 := Keep.over (Keep.of hB2) hN2 hKp1
 refine WL_nil (W_seq_reg ?_)
 refine WL_move rfl rfl ?_
 obtain ⟨x4, hr4, hF⟩ := bind_some hF
 have hC11 := hC10.f1
 obtain ⟨Fs4, hH4, hn4, hF4, hO4, hb4⟩ := Ctx.lend2 (As := [Item.box b2 [(.int .i64 x2.1.1), v5, (.int .i64 x3.1), (.int .i64 0)], Item.own v5 (x2.1.2 : (List Int)), Item.own v1 (x1.1 : (List Int)), Item.own v2 (x1.2.1 : (List (Int × (List Int) × Int × Int × Int))), Item.own v3 (x1.2.2.1 : (List (Int × (List Int)))), Item.box b1 [(.int .i64 0), (.slice none 0 0), (.int .i64 0), (.int .i64 0)]]) [Item.box pb1 [u1, (.int .i64 x3.2.2.1), (.int .i64 x3.2.2.2)]] hC11
 refine WL_call Tryz.call37 rfl rfl (c_S_l1Below pb1 (a1.1, x3.2.2.1, x3.2.2.2) u1 (RO.lent g1 hC11.keep hF4) 4 hH4 hn4 x4 hr4) ?_
 rintro _ w7 ⟨rfl, hq4⟩
 have hC12 : Ctx Fs.flatten w0 w7 [Item.box pb1 [u1, (.int .i64 x4.2.2.1), (.int .i64 x4.2.2.2)], Item.box b2 [(.int .i64 x2.1.1), v5, (.int .i64 x3.1), (.int .i64 0)], Item.own v5 (x2.1.2 : (List Int)), Item.own v1 (x1.1 : (List Int)), Item.own v2 (x1.2.1 : (List (Int × (List Int) × Int × Int × Int))), Item.own v3 (x1.2.2.1 : (List (Int × (List Int)))), Item.box b1 [(.int .i64 0), (.slice none 0 0), (.int .i64 0), (.int .i64 0)]] := hb4 _ _ hq4
 refine WL_field Tryz.underlying26 rfl rfl (fun w => ⟨_, Tryz.sizeOf3 w⟩) rfl rfl ?_
 refine WL_store_boxK (cs' := [(.int .i64 x2.1.1), v5, (.int .i64 x3.1), (.int .i64 x4.1)]) hC12 1 rfl rfl rfl rfl Tryz.sizeOf3 rfl rfl (fun w9 hC13 hKp2 => ?_)
 try dsimp only [List.set] at hC13
 refine WL_nil (W_seq (W_seq_reg ?_))
 refine WL_move rfl rfl ?_
 obtain ⟨x5, hr5, hF⟩ := bind_some hF
 obtain ⟨Fs5, hH5, hn5, hF5, hO5, hb5⟩ := Ctx.lend2 (As := [Item.box b2 [(.int .i64 x2.1.1), v5, (.int .i64 x3.1), (.int .i64 x4.1)], Item.own v5 (x2.1.2 : (List Int)), Item.own v1 (x1.1 : (List Int)), Item.own v2 (x1.2.1 : (List (Int × (List Int) × Int × Int × Int))), Item.own v3 (x1.2.2.1 : (List (Int × (List Int)))), Item.box b1 [(.int .i64 0), (.slice none 0 0), (.int .i64 0), (.int .i64 0)]]) [Item.box pb1 [u1, (.int .i64 x4.2.2.1), (.int .i64 x4.2.2.2)]] hC13
 refine WL_call Tryz.call37 rfl rfl (c_S_l1Below pb1 (a1.1, x4.2.2.1, x4.2.2.2) u1 (RO.lent g1 hC13.keep hF5) 10 hH5 hn5 x5 hr5) ?_
 rintro _ w10 ⟨rfl, hq5⟩
 have hC14 : Ctx Fs.flatten w0 w10 [Item.box pb1 [u1, (.int .i64 x5.2.2.1), (.int .i64 x5.2.2.2)], Item.box b2 [(.int .i64 x2.1.1), v5, (.int .i64 x3.1), (.int .i64 x4.1)], Item.own v5 (x2.1.2 : (List Int)), Item.own v1 (x1.1 : (List Int)), Item.own v2 (x1.2.1 : (List (Int × (List Int) × Int × Int × Int))), Item.own v3 (x1.2.2.1 : (List (Int × (List Int)))), Item.box b1 [(.int .i64 0), (.slice none 0 0), (.int .i64 0), (.int .i64 0)]] := hb5 _ _ hq5
 refine WL_nil (W_block (W_seq_reg ?_))
 refine WL_eql rfl rfl rfl ?_
 refine WL_assign rfl rfl ?_
 refine WL_nil ?_
 obtain ⟨r1, hr6, hF⟩ := bind_some hF
 refine W_norm (fun l w => ∃ x6 : Int, ∃ x7 : Int, ∃ x8 : Int, ∃ v6 : Value, ∃ x9 : (List Int), ∃ x10 : Int, ∃ x11 : Int, (x6, x7, x8, x9, x10, x11) = r1 ∧ l = [(2, (ptr b1 0)), (6, (ptr b2 0))] ∧ Ctx Fs.flatten w0 w [Item.box pb1 [u1, (.int .i64 x6), (.int .i64 x7)], Item.box b2 [(.int .i64 x8), v6, (.int .i64 x10), (.int .i64 x11)], Item.own v6 (x9 : (List Int)), Item.box b1 [(.int .i64 0), (.slice none 0 0), (.int .i64 0), (.int .i64 0)]]) ?_ ?_
 ·refine W_cond rfl (fun hc1 => ?_) (fun hc1 => ?_)
  ·replace hr6 := ite_t hr6 hc1
   refine W_reg ?_
   refine WL_move rfl rfl ?_
   refine WL_buildSlice (vs := [(.int .i64 (-1)), (.int .i64 1000), (.int .i64 1001)]) hC14 Tryz.underlying22 ty3 rfl rfl rfl rfl (by intro v hv; simp only [List.mem_cons, List.not_mem_nil, or_false] at hv; rcases hv with rfl | rfl | rfl <;> rfl) rfl rfl (fun b3 w12 hC16 hB4 => ?_)
   have hC17 := hC16.row0 (α := Int)
   have hC18 := hC17.triv (int_val (1001))
   have hC19 := hC18.row1
   have hC20 := hC19.triv (int_val (1000))
   have hC21 := hC20.row1
   have hC22 := hC21.triv (int_val ((-1)))
   have hC23 := hC22.row1
   have hC24 := hC23.front 1 rfl
   dsimp only [List.eraseIdx, List.cons_append, List.nil_append, List.append_nil] at hC24
   have hC25 : Ctx Fs.flatten w0 w12 (Item.own (.slice (some ⟨b3, 0, none⟩) 3 3) ([(-1), 1000, 1001] : List Int) :: [Item.box pb1 [u1, (.int .i64 x5.2.2.1), (.int .i64 x5.2.2.2)], Item.box b2 [(.int .i64 x2.1.1), v5, (.int .i64 x3.1), (.int .i64 x4.1)], Item.own v5 (x2.1.2 : (List Int)), Item.own v1 (x1.1 : (List Int)), Item.own v2 (x1.2.1 : (List (Int × (List Int) × Int × Int × Int))), Item.own v3 (x1.2.2.1 : (List (Int × (List Int)))), Item.box b1 [(.int .i64 0), (.slice none 0 0), (.int .i64 0), (.int .i64 0)]]) := hC24.rowOwn (by simp [maxLen])
   obtain ⟨x12, hr7, hr6⟩ := bind_some hr6
   have hC26 := hC25.f1
   obtain ⟨Fs6, hH6, hn6, hF6, hO6, hb6⟩ := Ctx.lend2 (As := [Item.own (.slice (some ⟨b3, 0, none⟩) 3 3) ([(-1), 1000, 1001] : (List Int)), Item.box b2 [(.int .i64 x2.1.1), v5, (.int .i64 x3.1), (.int .i64 x4.1)], Item.own v5 (x2.1.2 : (List Int)), Item.own v1 (x1.1 : (List Int)), Item.own v2 (x1.2.1 : (List (Int × (List Int) × Int × Int × Int))), Item.own v3 (x1.2.2.1 : (List (Int × (List Int)))), Item.box b1 [(.int .i64 0), (.slice none 0 0), (.int .i64 0), (.int .i64 0)]]) [Item.box pb1 [u1, (.int .i64 x5.2.2.1), (.int .i64 x5.2.2.2)]] hC26
   refine WL_call Tryz.call66 rfl rfl (c_S_l1PickInt pb1 (a1.1, x5.2.2.1, x5.2.2.2) u1 (RO.lent g1 hC26.keep hF6) ([(-1), 1000, 1001]) (.slice (some ⟨b3, 0, none⟩) 3 3) (hO6 0 _ _ _ rfl) hH6 hn6 x12 hr7) ?_
   rintro _ w13 ⟨rfl, hq6⟩
   have hC27 : Ctx Fs.flatten w0 w13 [Item.box pb1 [u1, (.int .i64 x12.2.2.1), (.int .i64 x12.2.2.2)], Item.own (.slice (some ⟨b3, 0, none⟩) 3 3) ([(-1), 1000, 1001] : (List Int)), Item.box b2 [(.int .i64 x2.1.1), v5, (.int .i64 x3.1), (.int .i64 x4.1)], Item.own v5 (x2.1.2 : (List Int)), Item.own v1 (x1.1 : (List Int)), Item.own v2 (x1.2.1 : (List (Int × (List Int) × Int × Int × Int))), Item.own v3 (x1.2.2.1 : (List (Int × (List Int)))), Item.box b1 [(.int .i64 0), (.slice none 0 0), (.int .i64 0), (.int .i64 0)]] := hb6 _ _ hq6
   refine WL_field Tryz.underlying26 rfl rfl (fun w => ⟨_, Tryz.sizeOf3 w⟩) rfl rfl ?_
   refine WL_store_boxK (cs' := [(.int .i64 x2.1.1), v5, (.int .i64 x12.1), (.int .i64 x4.1)]) hC27 2 rfl rfl rfl rfl Tryz.sizeOf3 rfl rfl (fun w14 hC28 hKp3 => ?_)
   try dsimp only [List.set] at hC28
   refine WL_nil ?_
   have hq7 := Option.some.inj hr6
   subst hq7
   have hC29 := hC28.f7
   have hC30 := hC29.f4
   have hC31 := hC30.f4
   have hC32 := hC31.f3
   have hC33 := hC32.h4
   refine nrm_sub (l' := [(2, (ptr b1 0)), (6, (ptr b2 0))]) ⟨rfl, rfl, trivial⟩ ?_
   exact ⟨x12.2.2.1, x12.2.2.2, x2.1.1, v5, x2.1.2, x12.1, x4.1, rfl, rfl, hC33⟩
  replace hr6 := ite_f hr6 hc1
  refine W_seq_reg ?_
  refine WL_eql rfl rfl rfl ?_
  refine WL_assign rfl rfl ?_
  refine WL_nil ?_
  obtain ⟨r2, hr8, hr6⟩ := bind_some hr6
  refine W_norm (fun l w => ∃ x13 : Int, ∃ x14 : Int, ∃ x15 : Int, ∃ v7 : Value, ∃ x16 : (List Int), ∃ x17 : Int, ∃ x18 : Int, (x13, x14, x15, x16, x17, x18) = r2 ∧ l = [(2, (ptr b1 0)), (6, (ptr b2 0))] ∧ Ctx Fs.flatten w0 w [Item.box pb1 [u1, (.int .i64 x13), (.int .i64 x14)], Item.box b2 [(.int .i64 x15), v7, (.int .i64 x17), (.int .i64 x18)], Item.own v7 (x16 : (List Int)), Item.box b1 [(.int .i64 0), (.slice none 0 0), (.int .i64 0), (.int .i64 0)]]) ?_ ?_
  ·refine W_cond rfl (fun hc2 => ?_) (fun hc2 => ?_)
   ·replace hr8 := ite_t hr8 hc2
    refine W_reg ?_
    refine WL_move rfl rfl ?_
    refine WL_buildSlice (vs := [(.int .i64 (-1)), (.int .i64 1000), (.int .i64 1001)]) hC14 Tryz.underlying22 ty3 rfl rfl rfl rfl (by intro v hv; simp only [List.mem_cons, List.not_mem_nil, or_false] at hv; rcases hv with rfl | rfl | rfl <;> rfl) rfl rfl (fun b4 w16 hC35 hB6 => ?_)
    have hC36 := hC35.row0 (α := Int)
    have hC37 := hC36.triv (int_val (1001))
    have hC38 := hC37.row1
    have hC39 := hC38.triv (int_val (1000))
    have hC40 := hC39.row1
    have hC41 := hC40.triv (int_val ((-1)))
    have hC42 := hC41.row1
    have hC43 := hC42.front 1 rfl
    dsimp only [List.eraseIdx, List.cons_append, List.nil_append, List.append_nil] at hC43
    have hC44 : Ctx Fs.flatten w0 w16 (Item.own (.slice (some ⟨b4, 0, none⟩) 3 3) ([(-1), 1000, 1001] : List Int) :: [Item.box pb1 [u1, (.int .i64 x5.2.2.1), (.int .i64 x5.2.2.2)], Item.box b2 [(.int .i64 x2.1.1), v5, (.int .i64 x3.1), (.int .i64 x4.1)], Item.own v5 (x2.1.2 : (List Int)), Item.own v1 (x1.1 : (List Int)), Item.own v2 (x1.2.1 : (List (Int × (List Int) × Int × Int × Int))), Item.own v3 (x1.2.2.1 : (List (Int × (List Int)))), Item.box b1 [(.int .i64 0), (.slice none 0 0), (.int .i64 0), (.int .i64 0)]]) := hC43.rowOwn (by simp [maxLen])
    obtain ⟨x19, hr9, hr8⟩ := bind_some hr8
    have hC45 := hC44.f1
    obtain ⟨Fs7, hH7, hn7, hF7, hO7, hb7⟩ := Ctx.lend2 (As := [Item.own (.slice (some ⟨b4, 0, none⟩) 3 3) ([(-1), 1000, 1001] : (List Int)), Item.box b2 [(.int .i64 x2.1.1), v5, (.int .i64 x3.1), (.int .i64 x4.1)], Item.own v5 (x2.1.2 : (List Int)), Item.own v1 (x1.1 : (List Int)), Item.own v2 (x1.2.1 : (List (Int × (List Int) × Int × Int × Int))), Item.own v3 (x1.2.2.1 : (List (Int × (List Int)))), Item.box b1 [(.int .i64 0), (.slice none 0 0), (.int .i64 0), (.int .i64 0)]]) [Item.box pb1 [u1, (.int .i64 x5.2.2.1), (.int .i64 x5.2.2.2)]] hC45
    refine WL_call Tryz.call66 rfl rfl (c_S_l1PickInt pb1 (a1.1, x5.2.2.1, x5.2.2.2) u1 (RO.lent g1 hC45.keep hF7) ([(-1), 1000, 1001]) (.slice (some ⟨b4, 0, none⟩) 3 3) (hO7 0 _ _ _ rfl) hH7 hn7 x19 hr9) ?_
    rintro _ w17 ⟨rfl, hq8⟩
    have hC46 : Ctx Fs.flatten w0 w17 [Item.box pb1 [u1, (.int .i64 x19.2.2.1), (.int .i64 x19.2.2.2)], Item.own (.slice (some ⟨b4, 0, none⟩) 3 3) ([(-1), 1000, 1001] : (List Int)), Item.box b2 [(.int .i64 x2.1.1), v5, (.int .i64 x3.1), (.int .i64 x4.1)], Item.own v5 (x2.1.2 : (List Int)), Item.own v1 (x1.1 : (List Int)), Item.own v2 (x1.2.1 : (List (Int × (List Int) × Int × Int × Int))), Item.own v3 (x1.2.2.1 : (List (Int × (List Int)))), Item.box b1 [(.int .i64 0), (.slice none 0 0), (.int .i64 0), (.int .i64 0)]] := hb7 _ _ hq8
    refine WL_field Tryz.underlying26 rfl rfl (fun w => ⟨_, Tryz.sizeOf3 w⟩) rfl rfl ?_
    refine WL_store_boxK (cs' := [(.int .i64 x2.1.1), v5, (.int .i64 x3.1), (.int .i64 x19.1)]) hC46 2 rfl rfl rfl rfl Tryz.sizeOf3 rfl rfl (fun w18 hC47 hKp4 => ?_)
    try dsimp only [List.set] at hC47
    refine WL_nil ?_
    have hq9 := Option.some.inj hr8
    subst hq9
    have hC48 := hC47.f7
    have hC49 := hC48.f4
    have hC50 := hC49.f4
    have hC51 := hC50.f3
    have hC52 := hC51.h4
    refine nrm_sub (l' := [(2, (ptr b1 0)), (6, (ptr b2 0))]) ⟨rfl, rfl, trivial⟩ ?_
    exact ⟨x19.2.2.1, x19.2.2.2, x2.1.1, v5, x2.1.2, x3.1, x19.1, rfl, rfl, hC52⟩
   replace hr8 := ite_f hr8 hc2
   refine W_skip ?_
   have hq10 := Option.some.inj hr8
   subst hq10
   have hC53 := hC14.f6
   have hC54 := hC53.f3
   have hC55 := hC54.f3
   have hC56 := hC55.f3
   have hC57 := hC56.h4
   refine nrm_sub (l' := [(2, (ptr b1 0)), (6, (ptr b2 0))]) ⟨rfl, rfl, trivial⟩ ?_
   exact ⟨x5.2.2.1, x5.2.2.2, x2.1.1, v5, x2.1.2, x3.1, x4.1, rfl, rfl, hC57⟩
  rintro l2 _ w15 hs2 ⟨x13, x14, x15, v7, x16, x17, x18, rfl, rfl, hC34⟩
  try dsimp only at hr6
  have hq11 := Option.some.inj hr6
  subst hq11
  refine nrm_subs (l2 := [(2, (ptr b1 0)), (6, (ptr b2 0))]) hs2 ⟨rfl, rfl, trivial⟩ ?_
  exact ⟨x13, x14, x15, v7, x16, x17, x18, rfl, rfl, hC34⟩
 rintro l1 _ w11 hs1 ⟨x6, x7, x8, v6, x9, x10, x11, rfl, rfl, hC15⟩
 try dsimp only at hF
 refine blk_normal ?_
 refine nrm_sub' hs1 ?_
 clear hs1
 refine W_seq_reg ?_
 refine WL_load_box_agg [(.int .i64 x8), v6, (.int .i64 x10), (.int .i64 x11)] hC15 1 rfl rfl rfl Tryz.isAgg26 Tryz.sizeOf26 rfl rfl ?_
 refine WL_store_box_aggK (cs' := [(.int .i64 x8), v6, (.int .i64 x10), (.int .i64 x11)]) (new := [(.int .i64 x8), v6, (.int .i64 x10), (.int .i64 x11)]) hC15 3 rfl rfl (by intro v hv; simp only [List.mem_cons, List.not_mem_nil, or_false] at hv; rcases hv with rfl | rfl | rfl | rfl; exact rfl; exact (ro_one (hC15.ro 2 rfl)); exact rfl; exact rfl) rfl Tryz.sizeOf26 rfl rfl (fun w19 hC58 hKp5 => ?_)
 try dsimp only [List.set] at hC58
 refine WL_nil (W_ret ?_)
 have hq12 := Option.some.inj hF
 subst hq12
 refine fn_retG1 rfl (rv_cell_agg (cs' := [(.int .i64 x8), v6, (.int .i64 x10), (.int .i64 x11)]) hC58 (i := 3) rfl rfl rfl Tryz.isAgg26 Tryz.sizeOf26 rfl) ?_
 have hC60 := hC58.f2
 have hC59 := own_st26 x8 v6 x9 x10 x11 hC60
 have hC61 := hC59.h2
 exact ⟨_, rfl, _, rfl, hC61⟩

theorem c_S_DrawFormatCursor {w0 : World} (a1 : (List UInt8)) (u1 : Value) (g1 : RO [] w0 u1 a1) (rr : ((Int × (List Int)) × Int × Int)) (hF : S.DrawFormatCursor a1 = some rr) :
 Calls Tryz.prog 21 [u1].toArray w0 fun e w' => ∃ v, e = .returned v ∧ Res w0 rr v w' := by
 refine calls_of_W Tryz.func21 rfl rfl ?_
 have hC0 := Ctx.start w0
 unfold S.DrawFormatCursor at hF
 refine W_seq_reg ?_
 refine WL_allocK hC0 zero26 rfl rfl (fun b1 w1 hC1 hB1 hN1 => ?_)
 refine WL_nil (W_seq_reg ?_)
 refine WL_move rfl rfl ?_
 obtain ⟨x1, hr1, hF⟩ := bind_some hF
 refine WL_call Tryz.call35 rfl rfl (c_S_l1New a1 u1 (g1.now hC1.keep) x1 hr1) ?_
 rintro _ w2 ⟨b2, rfl, hq1⟩
 have hC2 : Ctx [] w0 w2 [Item.box b2 [u1, (.int .i64 x1.2.1), (.int .i64 x1.2.2)], Item.box b1 [(.int .i64 0), (.slice none 0 0), (.int .i64 0), (.int .i64 0)]] := hC1.push2 hq1
 obtain ⟨x2, hr2, hF⟩ := bind_some hF
 obtain ⟨Fs2, hH2, hn2, hF2, hO2, hb2⟩ := Ctx.lend2 (As := [Item.box b1 [(.int .i64 0), (.slice none 0 0), (.int .i64 0), (.int .i64 0)]]) [Item.box b2 [u1, (.int .i64 x1.2.1), (.int .i64 x1.2.2)]] hC2
 refine WL_call Tryz.call44 rfl rfl (c_S_l24Cursor b2 (a1, x1.2.1, x1.2.2) u1 (RO.lent g1 hC2.keep hF2) hH2 hn2 x2 hr2) ?_
 rintro v1 w3 ⟨_, rfl, hq2⟩
 have hC3 : Ctx [] w0 w3 [Item.own v1 (x2.1 : ((Int × (List Int)) × Int × Int)), Item.box b2 [u1, (.int .i64 x2.2.2.1), (.int .i64 x2.2.2.2)], Item.box b1 [(.int .i64 0), (.slice none 0 0), (.int .i64 0), (.int .i64 0)]] := hb2 _ _ hq2
 obtain ⟨v2, rfl, hC4⟩ := st26_own hC3
 refine WL_store_box_aggK (cs' := [(.int .i64 x2.1.1.1), v2, (.int .i64 x2.1.2.1), (.int .i64 x2.1.2.2)]) (new := [(.int .i64 x2.1.1.1), v2, (.int .i64 x2.1.2.1), (.int .i64 x2.1.2.2)]) hC4 2 rfl rfl (by intro v hv; simp only [List.mem_cons, List.not_mem_nil, or_false] at hv; rcases hv with rfl | rfl | rfl | rfl; exact rfl; exact (ro_one (hC4.ro 0 rfl)); exact rfl; exact rfl) rfl Tryz.sizeOf26 rfl rfl (fun w4 hC5 hKp1 => ?_)
 try dsimp only [List.set] at hC5
 refine WL_nil (W_ret ?_)
 have hq3 := Option.some.inj hF
 subst hq3
 refine fn_retG1 rfl (rv_cell_agg (cs' := [(.int .i64 x2.1.1.1), v2, (.int .i64 x2.1.2.1), (.int .i64 x2.1.2.2)]) hC5 (i := 2) rfl rfl rfl Tryz.isAgg26 Tryz.sizeOf26 rfl) ?_
 have hC6 := own_st26 x2.1.1.1 v2 x2.1.1.2 x2.1.2.1 x2.1.2.2 hC5
 exact ⟨_, rfl, own_res hC6 0 rfl⟩

theorem c_S_l1Text {w0 : World} {Fs : List (List Nat)} (pb1 : Nat) (a1 : ((List UInt8) × Int × Int)) (u1 : Value) (g1 : RO Fs.flatten w0 u1 a1.1) (a2 : Int) (hH : Hold [Item.box pb1 [u1, (.int .i64 a1.2.1), (.int .i64 a1.2.2)]] w0 Fs) (hn : Fs.flatten.Nodup) (rr : (Str × ((List UInt8) × Int × Int))) (hF : S.l1Text a1 a2 = some rr) :
 Calls Tryz.prog 70 [(ptr pb1 0), (.int .i64 a2)].toArray w0 fun e w' => ∃ v, e = .returned v ∧ v = (sv rr.1) ∧ Ctx Fs.flatten w0 w' [Item.box pb1 [u1, (.int .i64 rr.2.2.1), (.int .i64 rr.2.2.2)]] := by
 refine calls_of_W Tryz.func70 rfl rfl ?_
 have hC0 := Ctx.startIn hH hn
 unfold S.l1Text at hF
 refine W_seq_reg ?_
 refine WL_assign rfl rfl ?_
 refine WL_nil (W_seq_reg ?_)
 refine WL_buildSlice (vs := []) hC0 Tryz.underlying32 ty5 rfl rfl rfl rfl (by simp) rfl rfl (fun b1 w1 hC1 hB1 => ?_)
 have hC2 := hC1.row0 (α := UInt8)
 have hC3 := hC2.front 1 rfl
 dsimp only [List.eraseIdx, List.cons_append, List.nil_append, List.append_nil] at hC3
 have hC4 : Ctx Fs.flatten w0 w1 (Item.own (.slice (some ⟨b1, 0, none⟩) 0 0) (([] : List UInt8) : List UInt8) :: [Item.box pb1 [u1, (.int .i64 a1.2.1), (.int .i64 a1.2.2)]]) := hC3.rowOwn (by simp [maxLen])
 refine WL_assign rfl rfl ?_
 refine WL_nil (W_seq_reg ?_)
 refine WL_move rfl rfl ?_
 obtain ⟨x1, hr1, hF⟩ := bind_some hF
 have hC5 := hC4.f1
 obtain ⟨Fs1, hH1, hn1, hF1, hO1, hb1⟩ := Ctx.lend2 (As := [Item.own (.slice (some ⟨b1, 0, none⟩) 0 0) (([] : List UInt8) : (List UInt8))]) [Item.box pb1 [u1, (.int .i64 a1.2.1), (.int .i64 a1.2.2)]] hC5
 refine WL_call Tryz.call37 rfl rfl (c_S_l1Below pb1 (a1.1, a1.2.1, a1.2.2) u1 (RO.lent g1 hC5.keep hF1) 4 hH1 hn1 x1 hr1) ?_
 rintro _ w2 ⟨rfl, hq1⟩
 have hC6 : Ctx Fs.flatten w0 w2 [Item.box pb1 [u1, (.int .i64 x1.2.2.1), (.int .i64 x1.2.2.2)], Item.own (.slice (some ⟨b1, 0, none⟩) 0 0) (([] : List UInt8) : (List UInt8))] := hb1 _ _ hq1
 refine WL_assign rfl rfl ?_
 refine WL_nil (W_seq (W_seq_reg ?_))
 refine WL_move rfl rfl ?_
 refine WL_move rfl rfl ?_
 refine WL_add rfl rfl rfl ?_
 obtain ⟨x2, hr2, hF⟩ := bind_some hF
 obtain ⟨Fs2, hH2, hn2, hF2, hO2, hb2⟩ := Ctx.lend2 (As := [Item.own (.slice (some ⟨b1, 0, none⟩) 0 0) (([] : List UInt8) : (List UInt8))]) [Item.box pb1 [u1, (.int .i64 x1.2.2.1), (.int .i64 x1.2.2.2)]] hC6
 refine WL_call Tryz.call37 rfl rfl (c_S_l1Below pb1 (a1.1, x1.2.2.1, x1.2.2.2) u1 (RO.lent g1 hC6.keep hF2) (w64 (a2 + 1)) hH2 hn2 x2 hr2) ?_
 rintro _ w3 ⟨rfl, hq2⟩
 have hC7 : Ctx Fs.flatten w0 w3 [Item.box pb1 [u1, (.int .i64 x2.2.2.1), (.int .i64 x2.2.2.2)], Item.own (.slice (some ⟨b1, 0, none⟩) 0 0) (([] : List UInt8) : (List UInt8))] := hb2 _ _ hq2
 refine WL_assign rfl rfl ?_
 refine WL_nil ?_
 obtain ⟨r1, hr3, hF⟩ := bind_some hF
 refine W_norm (fun l w => ∃ x7 : Int, ∃ x8 : Int, ∃ v2 : Value, ∃ x9 : (List UInt8), (x7, x8, x9) = r1 ∧ l = [(5, v2)] ∧ Ctx Fs.flatten w0 w [Item.box pb1 [u1, (.int .i64 x7), (.int .i64 x8)], Item.own v2 (x9 : (List UInt8))]) ?_ ?_
 ·refine W_block ?_
  refine W.sub (l' := [(0, (ptr pb1 0)), (5, (.slice (some ⟨b1, 0, none⟩) 0 0)), (6, (.int .i64 x1.1)), (7, (.int .i64 x2.1))]) ?_ ⟨rfl, rfl, rfl, rfl, trivial⟩
  refine W_loop (fun k l w => ∃ x3 : Int, ∃ x4 : Int, ∃ v1 : Value, ∃ x5 : (List UInt8), ∃ x6 : Int, l = [(0, (ptr pb1 0)), (5, v1), (6, (.int .i64 x1.1)), (7, (.int .i64 x6))] ∧ Ctx Fs.flatten w0 w [Item.box pb1 [u1, (.int .i64 x3), (.int .i64 x4)], Item.own v1 (x5 : (List UInt8))] ∧ S.l1Text_l1 a1 x1 k x3 x4 x5 x6 = some r1) FUEL ⟨x2.2.2.1, x2.2.2.2, (.slice (some ⟨b1, 0, none⟩) 0 0), ([] : List UInt8), x2.1, rfl, hC7, hr3⟩ ?_
  clear hr3
  rintro k1 _ w4 ⟨x3, x4, v1, x5, x6, rfl, hC8, hL1⟩
  cases k1 with
  | zero => rw [S.l1Text_l1] at hL1; cases hL1
  | succ k1 =>
   rw [S.l1Text_l1] at hL1
   refine W_seq (W_seq_reg ?_)
   refine WL_move rfl rfl ?_
   refine WL_gtr rfl rfl rfl ?_
   refine WL_nil ?_
   refine W_cond rfl (fun hc1 => ?_) (fun hc1 => ?_)
   ·replace hL1 := ite_t hL1 hc1
    refine W_skip (nrm_normal (W_seq (W_block (W_seq_reg ?_))))
    refine WL_move rfl rfl ?_
    obtain ⟨x10, hr4, hL1⟩ := bind_some hL1
    obtain ⟨Fs3, hH3, hn3, hF3, hO3, hb3⟩ := Ctx.lend2 (As := [Item.own v1 (x5 : (List UInt8))]) [Item.box pb1 [u1, (.int .i64 x3), (.int .i64 x4)]] hC8
    refine WL_call Tryz.call61 rfl rfl (c_S_l1Byte pb1 (a1.1, x3, x4) u1 (RO.lent g1 hC8.keep hF3) hH3 hn3 x10 hr4) ?_
    rintro _ w5 ⟨rfl, hq3⟩
    have hC9 : Ctx Fs.flatten w0 w5 [Item.box pb1 [u1, (.int .i64 x10.2.2.1), (.int .i64 x10.2.2.2)], Item.own v1 (x5 : (List UInt8))] := hb3 _ _ hq3
    refine WL_assign rfl rfl ?_
    refine WL_nil (W_seq (W_seq_reg ?_))
    refine WL_move rfl rfl ?_
    refine WL_eql rfl rfl rfl ?_
    refine WL_nil ?_
    obtain ⟨r2, hr5, hL1⟩ := bind_some hL1
    refine W_norm (fun l w => ∃ x11 : Int, x11 = r2 ∧ l = [(0, (ptr pb1 0)), (5, v1), (6, (.int .i64 x1.1)), (7, (.int .i64 x6)), (8, (.int .i64 x11))] ∧ Below w5.heap.size w5 w ∧ Ctx Fs.flatten w0 w [Item.box pb1 [u1, (.int .i64 x10.2.2.1), (.int .i64 x10.2.2.2)], Item.own v1 (x5 : (List UInt8))]) ?_ ?_
    ·refine W_cond rfl (fun hc2 => ?_) (fun hc2 => ?_)
     ·replace hr5 := ite_t hr5 hc2
      refine W_reg ?_
      refine WL_move rfl rfl ?_
      refine WL_rem (by decide) rfl rfl rfl ?_
      refine WL_assign rfl rfl ?_
      refine WL_nil ?_
      have hq4 := Option.some.inj hr5
      subst hq4
      refine nrm_sub (l' := [(0, (ptr pb1 0)), (5, v1), (6, (.int .i64 x1.1)), (7, (.int .i64 x6)), (8, (.int .i64 (x10.1.tmod 2)))]) ⟨rfl, rfl, rfl, rfl, rfl, trivial⟩ ?_
      exact ⟨x10.1.tmod 2, rfl, rfl, (Below.refl _ _), hC9⟩
     replace hr5 := ite_f hr5 hc2
     refine W_skip ?_
     have hq5 := Option.some.inj hr5
     subst hq5
     refine nrm_sub (l' := [(0, (ptr pb1 0)), (5, v1), (6, (.int .i64 x1.1)), (7, (.int .i64 x6)), (8, (.int .i64 x10.1))]) ⟨rfl, rfl, rfl, rfl, rfl, trivial⟩ ?_
     exact ⟨x10.1, rfl, rfl, (Below.refl _ _), hC9⟩
    rintro l2 _ w6 hs2 ⟨x11, rfl, rfl, hB3, hC10⟩
    try dsimp only at hL1
    refine nrm_sub' hs2 ?_
    clear hs2
    refine W_seq (W_seq_reg ?_)
    refine WL_move rfl rfl ?_
    refine WL_eql rfl rfl rfl ?_
    refine WL_nil ?_
    obtain ⟨r3, hr6, hL1⟩ := bind_some hL1
    refine W_norm (fun l w => ∃ x12 : Int, x12 = r3 ∧ l = [(0, (ptr pb1 0)), (5, v1), (6, (.int .i64 x1.1)), (7, (.int .i64 x6)), (8, (.int .i64 x12))] ∧ Below w6.heap.size w6 w ∧ Ctx Fs.flatten w0 w [Item.box pb1 [u1, (.int .i64 x10.2.2.1), (.int .i64 x10.2.2.2)], Item.own v1 (x5 : (List UInt8))]) ?_ ?_
    ·refine W_cond rfl (fun hc3 => ?_) (fun hc3 => ?_)
     ·replace hr6 := ite_t hr6 hc3
      refine W_reg ?_
      refine WL_move rfl rfl ?_
      refine WL_rem (by decide) rfl rfl rfl ?_
      refine WL_add rfl rfl rfl ?_
      refine WL_assign rfl rfl ?_
      refine WL_nil ?_
      have hq6 := Option.some.inj hr6
      subst hq6
      refine nrm_sub (l' := [(0, (ptr pb1 0)), (5, v1), (6, (.int .i64 x1.1)), (7, (.int .i64 x6)), (8, (.int .i64 (w64 (97 + (x11.tmod 4)))))]) ⟨rfl, rfl, rfl, rfl, rfl, trivial⟩ ?_
      exact ⟨w64 (97 + (x11.tmod 4)), rfl, rfl, (Below.refl _ _), hC10⟩
     replace hr6 := ite_f hr6 hc3
     refine W_skip ?_
     have hq7 := Option.some.inj hr6
     subst hq7
     refine nrm_sub (l' := [(0, (ptr pb1 0)), (5, v1), (6, (.int .i64 x1.1)), (7, (.int .i64 x6)), (8, (.int .i64 x11))]) ⟨rfl, rfl, rfl, rfl, rfl, trivial⟩ ?_
     exact ⟨x11, rfl, rfl, (Below.refl _ _), hC10⟩
    rintro l3 _ w7 hs3 ⟨x12, rfl, rfl, hB4, hC11⟩
    try dsimp only at hL1
    refine nrm_sub' hs3 ?_
    clear hs3
    refine W_reg ?_
    refine WL_move rfl rfl ?_
    refine WL_move rfl rfl ?_
    refine WL_conv_u8 Tryz.underlying3 Tryz.underlying5 rfl rfl ?_
    refine WL_buildSlice (vs := [(.int .u8 (w8 x12))]) hC11 Tryz.underlying32 ty5 rfl rfl rfl rfl (by intro v hv; simp only [List.mem_cons, List.not_mem_nil, or_false] at hv; rcases hv with rfl <;> rfl) rfl rfl (fun b2 w9 hC12 hB5 => ?_)
    have hC13 := hC12.row0 (α := UInt8)
    have hC14 := hC13.triv (u8_val x12)
    have hC15 := hC14.row1
    have hC16 := hC15.front 1 rfl
    dsimp only [List.eraseIdx, List.cons_append, List.nil_append, List.append_nil] at hC16
    have hC17 : Ctx Fs.flatten w0 w9 (Item.own (.slice (some ⟨b2, 0, none⟩) 1 1) ([(u8 x12)] : List UInt8) :: [Item.box pb1 [u1, (.int .i64 x10.2.2.1), (.int .i64 x10.2.2.2)], Item.own v1 (x5 : (List UInt8))]) := hC16.rowOwn (by simp [maxLen])
    obtain ⟨x13, hx1, hL1⟩ := bind_some hL1
    refine WL_append_flat (α := UInt8) hC17 2 rfl (hC17.ro 0 rfl) (Keep.refl _ _) Tryz.underlying32 ty5 rfl hx1 rfl rfl rfl (fun v3 w10 hC18 => ?_)
    try dsimp only [List.set] at hC18
    refine WL_assign rfl rfl ?_
    refine WL_nil (blk_normal (nrm_normal (W_reg ?_)))
    refine WL_move rfl rfl ?_
    refine WL_sub rfl rfl rfl ?_
    refine WL_assign rfl rfl ?_
    refine WL_nil ?_
    have hC19 := hC18.f2
    have hC20 := hC19.f2
    have hC21 := hC20.h2
    refine nrm_sub (l' := [(0, (ptr pb1 0)), (5, v3), (6, (.int .i64 x1.1)), (7, (.int .i64 (w64 (x6 - 1))))]) ⟨rfl, rfl, rfl, rfl, trivial⟩ ?_
    exact ⟨k1, Nat.lt_succ_self _, x10.2.2.1, x10.2.2.2, v3, x13, w64 (x6 - 1), rfl, hC21, hL1⟩
   replace hL1 := ite_f hL1 hc1
   refine W_exit (nrm_exit (nrm_exit (blk_exit ?_)))
   have hq8 := Option.some.inj hL1
   subst hq8
   refine nrm_sub (l' := [(5, v1)]) ⟨rfl, trivial⟩ ?_
   exact ⟨x3, x4, v1, x5, rfl, rfl, hC8⟩
 rintro l4 _ w11 hs4 ⟨x7, x8, v2, x9, rfl, rfl, hC22⟩
 try dsimp only at hF
 refine nrm_sub' hs4 ?_
 clear hs4
 refine W_seq_reg ?_
 refine WL_move rfl rfl ?_
 refine WL_conv_bytes Tryz.underlying32 Tryz.underlying5 Tryz.underlying9 (hC22.ro 1 rfl) (Keep.refl _ _) rfl rfl ?_
 refine WL_assign rfl rfl ?_
 refine WL_nil (W_ret ?_)
 have hq9 := Option.some.inj hF
 subst hq9
 refine fn_ret1 rfl rfl ?_
 have hC23 := hC22.h1
 exact ⟨_, rfl, rfl, hC23⟩

theorem c_S_l1Spoil {w0 : World} {Fs : List (List Nat)} (pb1 : Nat) (a1 : ((List UInt8) × Int × Int)) (u1 : Value) (g1 : RO Fs.flatten w0 u1 a1.1) (a2 : Str) (hH : Hold [Item.box pb1 [u1, (.int .i64 a1.2.1), (.int .i64 a1.2.2)]] w0 Fs) (hn : Fs.flatten.Nodup) (rr : (Str × ((List UInt8) × Int × Int))) (hF : S.l1Spoil a1 a2 = some rr) :
 Calls Tryz.prog 47 [(ptr pb1 0), (sv a2)].toArray w0 fun e w' => ∃ v, e = .returned v ∧ v = (sv rr.1) ∧ Ctx Fs.flatten w0 w' [Item.box pb1 [u1, (.int .i64 rr.2.2.1), (.int .i64 rr.2.2.2)]] := by
 refine calls_of_W Tryz.func47 rfl rfl ?_
 have hC0 := Ctx.startIn hH hn
 unfold S.l1Spoil at hF
 refine W_seq_reg ?_
 refine WL_assign rfl rfl ?_
 refine WL_nil (W_seq (W_seq_reg ?_))
 refine WL_move rfl rfl ?_
 refine WL_len_str Tryz.underlying9 rfl rfl ?_
 refine WL_eql rfl rfl rfl ?_
 refine WL_nil ?_
 refine W_cond rfl (fun hc1 => ?_) (fun hc1 => ?_)
 ·replace hF := ite_t hF hc1
  refine W_seq_reg ?_
  refine WL_move rfl rfl ?_
  obtain ⟨x1, hr1, hF⟩ := bind_some hF
  obtain ⟨Fs1, hH1, hn1, hF1, hO1, hb1⟩ := Ctx.lend2 (As := []) [Item.box pb1 [u1, (.int .i64 a1.2.1), (.int .i64 a1.2.2)]] hC0
  refine WL_call Tryz.call70 rfl rfl (c_S_l1Text pb1 (a1.1, a1.2.1, a1.2.2) u1 (RO.lent g1 hC0.keep hF1) 3 hH1 hn1 x1 hr1) ?_
  rintro _ w1 ⟨rfl, hq1⟩
  have hC1 : Ctx Fs.flatten w0 w1 [Item.box pb1 [u1, (.int .i64 x1.2.2.1), (.int .i64 x1.2.2.2)]] := hb1 _ _ hq1
  refine WL_assign rfl rfl ?_
  refine WL_nil (W_ret (nrm_ret ?_))
  have hq2 := Option.some.inj hF
  subst hq2
  refine fn_ret1 rfl rfl ?_
  exact ⟨_, rfl, rfl, hC1⟩
 replace hF := ite_f hF hc1
 refine W_skip (nrm_normal (W_seq_reg ?_))
 refine WL_move rfl rfl ?_
 refine WL_move rfl rfl ?_
 refine WL_len_str Tryz.underlying9 rfl rfl ?_
 obtain ⟨x2, hr2, hF⟩ := bind_some hF
 obtain ⟨Fs2, hH2, hn2, hF2, hO2, hb2⟩ := Ctx.lend2 (As := []) [Item.box pb1 [u1, (.int .i64 a1.2.1), (.int .i64 a1.2.2)]] hC0
 refine WL_call Tryz.call37 rfl rfl (c_S_l1Below pb1 (a1.1, a1.2.1, a1.2.2) u1 (RO.lent g1 hC0.keep hF2) (List.length a2 : Int) hH2 hn2 x2 hr2) ?_
 rintro _ w2 ⟨rfl, hq3⟩
 have hC2 : Ctx Fs.flatten w0 w2 [Item.box pb1 [u1, (.int .i64 x2.2.2.1), (.int .i64 x2.2.2.2)]] := hb2 _ _ hq3
 refine WL_assign rfl rfl ?_
 refine WL_nil (W_seq (W_seq_reg ?_))
 refine WL_move rfl rfl ?_
 obtain ⟨x3, hr3, hF⟩ := bind_some hF
 obtain ⟨Fs3, hH3, hn3, hF3, hO3, hb3⟩ := Ctx.lend2 (As := []) [Item.box pb1 [u1, (.int .i64 x2.2.2.1), (.int .i64 x2.2.2.2)]] hC2
 refine WL_call Tryz.call37 rfl rfl (c_S_l1Below pb1 (a1.1, x2.2.2.1, x2.2.2.2) u1 (RO.lent g1 hC2.keep hF3) 4 hH3 hn3 x3 hr3) ?_
 rintro _ w3 ⟨rfl, hq4⟩
 have hC3 : Ctx Fs.flatten w0 w3 [Item.box pb1 [u1, (.int .i64 x3.2.2.1), (.int .i64 x3.2.2.2)]] := hb3 _ _ hq4
 refine WL_nil (W_block (W_seq_reg ?_))
 refine WL_eql rfl rfl rfl ?_
 refine WL_assign rfl rfl ?_
 refine WL_nil ?_
 refine W_cond rfl (fun hc2 => ?_) (fun hc2 => ?_)
 ·replace hF := ite_t hF hc2
  refine W_seq ?_
  refine W_drawn 9 rfl hmix (fun w4 hB1 => ?_)
  have hC4 := hC3.grow hB1
  refine WA_tk 0 (by kernel_rfl) rfl rfl (fl_move rfl) ?_
  refine WL_move rfl rfl ?_
  refine WL_nil ?_
  refine WA_tk 1 (by kernel_rfl) rfl rfl (fl_move rfl) ?_
  refine WL_move rfl rfl ?_
  refine WL_nil ?_
  obtain ⟨x4, hx1, hF⟩ := bind_some hF
  refine WA_tk 2 (by kernel_rfl) rfl rfl (fl_slice_str_h Tryz.underlying9 hx1 rfl rfl) ?_
  refine WL_slice_str_h Tryz.underlying9 hx1 rfl rfl rfl ?_
  refine WL_nil ?_
  refine WA_tk 3 (by kernel_rfl) rfl rfl (fl_move rfl) ?_
  refine WL_move rfl rfl ?_
  refine WL_nil ?_
  refine WA_tk 4 (by kernel_rfl) rfl rfl (fl_move rfl) ?_
  refine WL_move rfl rfl ?_
  refine WL_nil ?_
  refine WA_tk 5 (by kernel_rfl) rfl rfl (fl_add rfl rfl) ?_
  refine WL_add rfl rfl rfl ?_
  refine WL_nil ?_
  obtain ⟨x5, hx2, hF⟩ := bind_some hF
  refine WA_tk 6 (by kernel_rfl) rfl rfl (fl_slice_str_l Tryz.underlying9 hx2 rfl rfl) ?_
  refine WL_slice_str_l Tryz.underlying9 hx2 rfl rfl rfl ?_
  refine WL_nil ?_
  obtain ⟨x6, hx3, hF⟩ := bind_some hF
  refine WA_tk 7 (by kernel_rfl) rfl rfl (fl_str_add hx3 rfl rfl) ?_
  refine WL_str_add hx3 rfl rfl rfl ?_
  refine WL_nil ?_
  refine WA_tk 8 (by kernel_rfl) rfl rfl (fl_assign rfl) ?_
  refine WL_assign rfl rfl ?_
  refine WL_nil ?_
  refine WA_done (by kernel_rfl) ?_
  refine nrm_normal (W_ret (blk_ret (nrm_ret ?_)))
  have hq5 := Option.some.inj hF
  subst hq5
  refine fn_ret1 rfl rfl ?_
  exact ⟨_, rfl, rfl, hC4⟩
 replace hF := ite_f hF hc2
 refine W_seq_reg ?_
 refine WL_eql rfl rfl rfl ?_
 refine WL_assign rfl rfl ?_
 refine WL_nil ?_
 refine W_cond rfl (fun hc3 => ?_) (fun hc3 => ?_)
 ·replace hF := ite_t hF hc3
  refine W_seq ?_
  refine W_drawn 14 rfl hmix (fun w5 hB2 => ?_)
  have hC5 := hC3.grow hB2
  refine WA_tk 0 (by kernel_rfl) rfl rfl (fl_move rfl) ?_
  refine WL_move rfl rfl ?_
  refine WL_nil ?_
  refine WA_tk 1 (by kernel_rfl) rfl rfl (fl_move rfl) ?_
  refine WL_move rfl rfl ?_
  refine WL_nil ?_
  obtain ⟨x7, hx4, hF⟩ := bind_some hF
  refine WA_tk 2 (by kernel_rfl) rfl rfl (fl_slice_str_h Tryz.underlying9 hx4 rfl rfl) ?_
  refine WL_slice_str_h Tryz.underlying9 hx4 rfl rfl rfl ?_
  refine WL_nil ?_
  refine WA_tk 3 (by kernel_rfl) rfl rfl (fl_move rfl) ?_
  refine WL_move rfl rfl ?_
  refine WL_nil ?_
  refine WA_tk 9 (by kernel_rfl) rfl rfl (fl_move rfl) ?_
  refine WL_move rfl rfl ?_
  refine WL_nil ?_
  refine WA_tk 10 (by kernel_rfl) rfl rfl (fl_move rfl) ?_
  refine WL_move rfl rfl ?_
  refine WL_nil ?_
  obtain ⟨x8, hx5, hF⟩ := bind_some hF
  refine WA_tk 11 (by kernel_rfl) rfl rfl (fl_slice_str_l Tryz.underlying9 hx5 rfl rfl) ?_
  refine WL_slice_str_l Tryz.underlying9 hx5 rfl rfl rfl ?_
  refine WL_nil ?_
  obtain ⟨x9, hr4, hF⟩ := bind_some hF
  refine WA_one 4 (by kernel_rfl) rfl ?_
  obtain ⟨Fs4, hH4, hn4, hF4, hO4, hb4⟩ := Ctx.lend2 (As := []) [Item.box pb1 [u1, (.int .i64 x3.2.2.1), (.int .i64 x3.2.2.2)]] hC5
  refine WL_call Tryz.call61 rfl rfl (c_S_l1Byte pb1 (a1.1, x3.2.2.1, x3.2.2.2) u1 (RO.lent g1 hC5.keep hF4) hH4 hn4 x9 hr4) ?_
  rintro _ w6 ⟨rfl, hq6⟩
  have hC6 : Ctx Fs.flatten w0 w6 [Item.box pb1 [u1, (.int .i64 x9.2.2.1), (.int .i64 x9.2.2.2)]] := hb4 _ _ hq6
  refine WL_nil ?_
  refine WA_tk 5 (by kernel_rfl) rfl rfl (fl_conv_int Tryz.underlying3 Tryz.underlying5 rfl) ?_
  refine WL_conv_u8 Tryz.underlying3 Tryz.underlying5 rfl rfl ?_
  refine WL_nil ?_
  refine WA_one 6 (by kernel_rfl) rfl ?_
  refine WL_buildSlice (vs := [(.int .u8 (w8 x9.1))]) hC6 Tryz.underlying32 ty5 rfl rfl rfl rfl (by intro v hv; simp only [List.mem_cons, List.not_mem_nil, or_false] at hv; rcases hv with rfl <;> rfl) rfl rfl (fun b1 w7 hC7 hB3 => ?_)
  have hC8 := hC7.row0 (α := UInt8)
  have hC9 := hC8.triv (u8_val x9.1)
  have hC10 := hC9.row1
  have hC11 := hC10.front 1 rfl
  dsimp only [List.eraseIdx, List.cons_append, List.nil_append, List.append_nil] at hC11
  have hC12 : Ctx Fs.flatten w0 w7 (Item.own (.slice (some ⟨b1, 0, none⟩) 1 1) ([(u8 x9.1)] : List UInt8) :: [Item.box pb1 [u1, (.int .i64 x9.2.2.1), (.int .i64 x9.2.2.2)]]) := hC11.rowOwn (by simp [maxLen])
  refine WL_nil ?_
  refine WA_one 7 (by kernel_rfl) rfl ?_
  refine WL_conv_bytes Tryz.underlying32 Tryz.underlying5 Tryz.underlying9 (hC12.ro 0 rfl) (Keep.refl _ _) rfl rfl ?_
  refine WL_nil ?_
  obtain ⟨x10, hx6, hF⟩ := bind_some hF
  refine WA_tk 8 (by kernel_rfl) rfl rfl (fl_str_add hx6 rfl rfl) ?_
  refine WL_str_add hx6 rfl rfl rfl ?_
  refine WL_nil ?_
  obtain ⟨x11, hx7, hF⟩ := bind_some hF
  refine WA_tk 12 (by kernel_rfl) rfl rfl (fl_str_add hx7 rfl rfl) ?_
  refine WL_str_add hx7 rfl rfl rfl ?_
  refine WL_nil ?_
  refine WA_tk 13 (by kernel_rfl) rfl rfl (fl_assign rfl) ?_
  refine WL_assign rfl rfl ?_
  refine WL_nil ?_
  refine WA_done (by kernel_rfl) ?_
  refine nrm_normal (W_ret (blk_ret (nrm_ret ?_)))
  have hq7 := Option.some.inj hF
  subst hq7
  refine fn_ret1 rfl rfl ?_
  have hC13 := hC12.f1
  have hC14 := hC13.h1
  exact ⟨_, rfl, rfl, hC14⟩
 replace hF := ite_f hF hc3
 refine W_seq_reg ?_
 refine WL_eql rfl rfl rfl ?_
 refine WL_assign rfl rfl ?_
 refine WL_nil ?_
 refine W_cond rfl (fun hc4 => ?_) (fun hc4 => ?_)
 ·replace hF := ite_t hF hc4
  refine W_seq_reg ?_
  refine WL_move rfl rfl ?_
  refine WL_move rfl rfl ?_
  obtain ⟨x12, hx8, hF⟩ := bind_some hF
  refine WL_slice_str_h Tryz.underlying9 hx8 rfl rfl rfl ?_
  refine WL_assign rfl rfl ?_
  refine WL_nil (W_ret (blk_ret (nrm_ret ?_)))
  have hq8 := Option.some.inj hF
  subst hq8
  refine fn_ret1 rfl rfl ?_
  exact ⟨_, rfl, rfl, hC3⟩
 replace hF := ite_f hF hc4
 refine W_skip (blk_normal (nrm_normal (W_seq ?_)))
 refine W_drawn 21 rfl hmix (fun w9 hB4 => ?_)
 have hC15 := hC3.grow hB4
 refine WA_tk 0 (by kernel_rfl) rfl rfl (fl_move rfl) ?_
 refine WL_move rfl rfl ?_
 refine WL_nil ?_
 refine WA_tk 1 (by kernel_rfl) rfl rfl (fl_move rfl) ?_
 refine WL_move rfl rfl ?_
 refine WL_nil ?_
 obtain ⟨x13, hx9, hF⟩ := bind_some hF
 refine WA_tk 2 (by kernel_rfl) rfl rfl (fl_slice_str_h Tryz.underlying9 hx9 rfl rfl) ?_
 refine WL_slice_str_h Tryz.underlying9 hx9 rfl rfl rfl ?_
 refine WL_nil ?_
 refine WA_tk 3 (by kernel_rfl) rfl rfl (fl_move rfl) ?_
 refine WL_move rfl rfl ?_
 refine WL_nil ?_
 refine WA_tk 4 (by kernel_rfl) rfl rfl (fl_move rfl) ?_
 refine WL_move rfl rfl ?_
 refine WL_nil ?_
 obtain ⟨x14, hx10, hF⟩ := bind_some hF
 refine WA_tk 5 (by kernel_rfl) rfl rfl (fl_index_str Tryz.underlying9 hx10 rfl rfl) ?_
 refine WL_index_str Tryz.underlying9 hx10 rfl rfl rfl ?_
 refine WL_nil ?_
 refine WA_tk 6 (by kernel_rfl) rfl rfl (fl_conv_int Tryz.underlying5 Tryz.underlying3 rfl) ?_
 refine WL_conv_i64 Tryz.underlying5 Tryz.underlying3 rfl rfl ?_
 refine WL_nil ?_
 refine WA_tk 7 (by kernel_rfl) rfl rfl (fl_move rfl) ?_
 refine WL_move rfl rfl ?_
 refine WL_nil ?_
 refine WA_tk 15 (by kernel_rfl) rfl rfl (fl_move rfl) ?_
 refine WL_move rfl rfl ?_
 refine WL_nil ?_
 refine WA_tk 16 (by kernel_rfl) rfl rfl (fl_move rfl) ?_
 refine WL_move rfl rfl ?_
 refine WL_nil ?_
 refine WA_tk 17 (by kernel_rfl) rfl rfl (fl_add rfl rfl) ?_
 refine WL_add rfl rfl rfl ?_
 refine WL_nil ?_
 obtain ⟨x15, hx11, hF⟩ := bind_some hF
 refine WA_tk 18 (by kernel_rfl) rfl rfl (fl_slice_str_l Tryz.underlying9 hx11 rfl rfl) ?_
 refine WL_slice_str_l Tryz.underlying9 hx11 rfl rfl rfl ?_
 refine WL_nil ?_
 obtain ⟨x16, hr5, hF⟩ := bind_some hF
 refine WA_one 8 (by kernel_rfl) rfl ?_
 obtain ⟨Fs5, hH5, hn5, hF5, hO5, hb5⟩ := Ctx.lend2 (As := []) [Item.box pb1 [u1, (.int .i64 x3.2.2.1), (.int .i64 x3.2.2.2)]] hC15
 refine WL_call Tryz.call37 rfl rfl (c_S_l1Below pb1 (a1.1, x3.2.2.1, x3.2.2.2) u1 (RO.lent g1 hC15.keep hF5) 255 hH5 hn5 x16 hr5) ?_
 rintro _ w10 ⟨rfl, hq9⟩
 have hC16 : Ctx Fs.flatten w0 w10 [Item.box pb1 [u1, (.int .i64 x16.2.2.1), (.int .i64 x16.2.2.2)]] := hb5 _ _ hq9
 refine WL_nil ?_
 refine WA_tk 9 (by kernel_rfl) rfl rfl (fl_add rfl rfl) ?_
 refine WL_add rfl rfl rfl ?_
 refine WL_nil ?_
 refine WA_tk 10 (by kernel_rfl) rfl rfl (fl_bxor rfl rfl) ?_
 refine WL_bxor rfl rfl rfl ?_
 refine WL_nil ?_
 refine WA_tk 11 (by kernel_rfl) rfl rfl (fl_conv_int Tryz.underlying3 Tryz.underlying5 rfl) ?_
 refine WL_conv_u8 Tryz.underlying3 Tryz.underlying5 rfl rfl ?_
 refine WL_nil ?_
 refine WA_one 12 (by kernel_rfl) rfl ?_
 refine WL_buildSlice (vs := [(.int .u8 (w8 (bxor (w64 (UInt8.toNat x14 : Int)) (w64 (1 + x16.1)))))]) hC16 Tryz.underlying32 ty5 rfl rfl rfl rfl (by intro v hv; simp only [List.mem_cons, List.not_mem_nil, or_false] at hv; rcases hv with rfl <;> rfl) rfl rfl (fun b2 w11 hC17 hB5 => ?_)
 have hC18 := hC17.row0 (α := UInt8)
 have hC19 := hC18.triv (u8_val (bxor (w64 (UInt8.toNat x14 : Int)) (w64 (1 + x16.1))))
 have hC20 := hC19.row1
 have hC21 := hC20.front 1 rfl
 dsimp only [List.eraseIdx, List.cons_append, List.nil_append, List.append_nil] at hC21
 have hC22 : Ctx Fs.flatten w0 w11 (Item.own (.slice (some ⟨b2, 0, none⟩) 1 1) ([(u8 (bxor (w64 (UInt8.toNat x14 : Int)) (w64 (1 + x16.1))))] : List UInt8) :: [Item.box pb1 [u1, (.int .i64 x16.2.2.1), (.int .i64 x16.2.2.2)]]) := hC21.rowOwn (by simp [maxLen])
 refine WL_nil ?_
 refine WA_one 13 (by kernel_rfl) rfl ?_
 refine WL_conv_bytes Tryz.underlying32 Tryz.underlying5 Tryz.underlying9 (hC22.ro 0 rfl) (Keep.refl _ _) rfl rfl ?_
 refine WL_nil ?_
 obtain ⟨x17, hx12, hF⟩ := bind_some hF
 refine WA_tk 14 (by kernel_rfl) rfl rfl (fl_str_add hx12 rfl rfl) ?_
 refine WL_str_add hx12 rfl rfl rfl ?_
 refine WL_nil ?_
 obtain ⟨x18, hx13, hF⟩ := bind_some hF
 refine WA_tk 19 (by kernel_rfl) rfl rfl (fl_str_add hx13 rfl rfl) ?_
 refine WL_str_add hx13 rfl rfl rfl ?_
 refine WL_nil ?_
 refine WA_tk 20 (by kernel_rfl) rfl rfl (fl_assign rfl) ?_
 refine WL_assign rfl rfl ?_
 refine WL_nil ?_
 refine WA_done (by kernel_rfl) ?_
 refine nrm_normal (W_ret ?_)
 have hq10 := Option.some.inj hF
 subst hq10
 refine fn_ret1 rfl rfl ?_
 have hC23 := hC22.f1
 have hC24 := hC23.h1
 exact ⟨_, rfl, rfl, hC24⟩

theorem c_S_l1Pick {w0 : World} {Fs : List (List Nat)} (pb1 : Nat) (a1 : ((List UInt8) × Int × Int)) (u1 : Value) (g1 : RO Fs.flatten w0 u1 a1.1) (a2 : (List Str)) (u2 : Value) (g2 : RO Fs.flatten w0 u2 a2) (hH : Hold [Item.box pb1 [u1, (.int .i64 a1.2.1), (.int .i64 a1.2.2)]] w0 Fs) (hn : Fs.flatten.Nodup) (rr : (Str × ((List UInt8) × Int × Int))) (hF : S.l1Pick a1 a2 = some rr) :
 Calls Tryz.prog 48 [(ptr pb1 0), u2].toArray w0 fun e w' => ∃ v, e = .returned v ∧ v = (sv rr.1) ∧ Ctx Fs.flatten w0 w' [Item.box pb1 [u1, (.int .i64 rr.2.2.1), (.int .i64 rr.2.2.2)]] := by
 refine calls_of_W Tryz.func48 rfl rfl ?_
 have hC0 := Ctx.startIn hH hn
 unfold S.l1Pick at hF
 refine W_seq_reg ?_
 refine WL_assign rfl rfl ?_
 refine WL_nil (W_seq_reg ?_)
 refine WL_move rfl rfl ?_
 refine WL_move rfl rfl ?_
 refine WL_move rfl rfl ?_
 refine WL_len Tryz.underlying51 g2 rfl rfl ?_
 obtain ⟨x1, hr1, hF⟩ := bind_some hF
 obtain ⟨Fs1, hH1, hn1, hF1, hO1, hb1⟩ := Ctx.lend2 (As := []) [Item.box pb1 [u1, (.int .i64 a1.2.1), (.int .i64 a1.2.2)]] hC0
 refine WL_call Tryz.call37 rfl rfl (c_S_l1Below pb1 (a1.1, a1.2.1, a1.2.2) u1 (RO.lent g1 hC0.keep hF1) (List.length a2 : Int) hH1 hn1 x1 hr1) ?_
 rintro _ w1 ⟨rfl, hq1⟩
 have hC1 : Ctx Fs.flatten w0 w1 [Item.box pb1 [u1, (.int .i64 x1.2.2.1), (.int .i64 x1.2.2.2)]] := hb1 _ _ hq1
 obtain ⟨x2, hx1, hF⟩ := bind_some hF
 refine WL_index Tryz.underlying51 ty9 g2 hx1 rfl rfl rfl (fun b1 o1 h1 => ?_)
 refine WL_load ty9 h1 hC1.keep rfl rfl (fun v1 h2 => ?_)
 obtain rfl := ro_str h2
 refine WL_assign rfl rfl ?_
 refine WL_nil (W_ret ?_)
 have hq2 := Option.some.inj hF
 subst hq2
 refine fn_ret1 rfl rfl ?_
 exact ⟨_, rfl, rfl, hC1⟩

theorem c_S_DrawParseCursor {w0 : World} (a1 : (List UInt8)) (u1 : Value) (g1 : RO [] w0 u1 a1) (rr : Str) (hF : S.DrawParseCursor a1 = some rr) :
 Calls Tryz.prog 23 [u1].toArray w0 fun e w' => ∃ v, e = .returned v ∧ Res w0 rr v w' := by
 refine calls_of_W Tryz.func23 rfl rfl ?_
 have hC0 := Ctx.start w0
 unfold S.DrawParseCursor at hF
 refine W_seq_reg ?_
 refine WL_assign rfl rfl ?_
 refine WL_nil (W_seq_reg ?_)
 refine WL_move rfl rfl ?_
 obtain ⟨x1, hr1, hF⟩ := bind_some hF
 refine WL_call Tryz.call35 rfl rfl (c_S_l1New a1 u1 (g1.now hC0.keep) x1 hr1) ?_
 rintro _ w1 ⟨b1, rfl, hq1⟩
 have hC1 : Ctx [] w0 w1 [Item.box b1 [u1, (.int .i64 x1.2.1), (.int .i64 x1.2.2)]] := hC0.push2 hq1
 refine WL_assign rfl rfl ?_
 refine WL_nil (W_seq_reg ?_)
 refine WL_move rfl rfl ?_
 obtain ⟨x2, hr2, hF⟩ := bind_some hF
 obtain ⟨Fs2, hH2, hn2, hF2, hO2, hb2⟩ := Ctx.lend2 (As := []) [Item.box b1 [u1, (.int .i64 x1.2.1), (.int .i64 x1.2.2)]] hC1
 refine WL_call Tryz.call44 rfl rfl (c_S_l24Cursor b1 (a1, x1.2.1, x1.2.2) u1 (RO.lent g1 hC1.keep hF2) hH2 hn2 x2 hr2) ?_
 rintro v1 w2 ⟨_, rfl, hq2⟩
 have hC2 : Ctx [] w0 w2 [Item.own v1 (x2.1 : ((Int × (List Int)) × Int × Int)), Item.box b1 [u1, (.int .i64 x2.2.2.1), (.int .i64 x2.2.2.2)]] := hb2 _ _ hq2
 obtain ⟨v2, rfl, hC3⟩ := st26_own hC2
 obtain ⟨x3, hr3, hF⟩ := bind_some hF
 refine WL_call Tryz.call25 rfl rfl (c_S_FormatCursor x2.1 v2 ((hC3.ro 0 rfl).now (Keep.refl _ _)) x3 hr3) ?_
 intro _ w3 hv1
 obtain ⟨rfl, hB1⟩ := res_str hv1
 have hC4 := hC3.grow hB1
 refine WL_assign rfl rfl ?_
 refine WL_nil (W_seq (W_seq_reg ?_))
 refine WL_move rfl rfl ?_
 obtain ⟨x4, hr4, hF⟩ := bind_some hF
 have hC5 := hC4.f1
 obtain ⟨Fs3, hH3, hn3, hF3, hO3, hb3⟩ := Ctx.lend2 (As := [Item.own v2 (x2.1.1.2 : (List Int))]) [Item.box b1 [u1, (.int .i64 x2.2.2.1), (.int .i64 x2.2.2.2)]] hC5
 refine WL_call Tryz.call37 rfl rfl (c_S_l1Below b1 (a1, x2.2.2.1, x2.2.2.2) u1 (RO.lent g1 hC5.keep hF3) 4 hH3 hn3 x4 hr4) ?_
 rintro _ w4 ⟨rfl, hq3⟩
 have hC6 : Ctx [] w0 w4 [Item.box b1 [u1, (.int .i64 x4.2.2.1), (.int .i64 x4.2.2.2)], Item.own v2 (x2.1.1.2 : (List Int))] := hb3 _ _ hq3
 refine WL_nil (W_block (W_seq_reg ?_))
 refine WL_eql rfl rfl rfl ?_
 refine WL_assign rfl rfl ?_
 refine WL_nil ?_
 refine W_cond rfl (fun hc1 => ?_) (fun hc1 => ?_)
 ·replace hF := ite_t hF hc1
  refine W_seq_reg ?_
  refine WL_move rfl rfl ?_
  refine WL_move rfl rfl ?_
  obtain ⟨x5, hr5, hF⟩ := bind_some hF
  obtain ⟨Fs4, hH4, hn4, hF4, hO4, hb4⟩ := Ctx.lend2 (As := [Item.own v2 (x2.1.1.2 : (List Int))]) [Item.box b1 [u1, (.int .i64 x4.2.2.1), (.int .i64 x4.2.2.2)]] hC6
  refine WL_call Tryz.call47 rfl rfl (c_S_l1Spoil b1 (a1, x4.2.2.1, x4.2.2.2) u1 (RO.lent g1 hC6.keep hF4) x3 hH4 hn4 x5 hr5) ?_
  rintro _ w5 ⟨rfl, hq4⟩
  have hC7 : Ctx [] w0 w5 [Item.box b1 [u1, (.int .i64 x5.2.2.1), (.int .i64 x5.2.2.2)], Item.own v2 (x2.1.1.2 : (List Int))] := hb4 _ _ hq4
  refine WL_assign rfl rfl ?_
  refine WL_nil (W_ret (blk_ret (nrm_ret ?_)))
  have hq5 := Option.some.inj hF
  subst hq5
  refine fn_ret1 rfl rfl ?_
  exact ⟨_, rfl, str_res hC7 _⟩
 replace hF := ite_f hF hc1
 refine W_seq_reg ?_
 refine WL_eql rfl rfl rfl ?_
 refine WL_assign rfl rfl ?_
 refine WL_nil ?_
 refine W_cond rfl (fun hc2 => ?_) (fun hc2 => ?_)
 ·replace hF := ite_t hF hc2
  refine W_seq_reg ?_
  refine WL_move rfl rfl ?_
  refine WL_buildSlice (vs := [(sv (str [])), (sv (str [109, 48, 40, 41, 43, 48, 64, 48])), (sv (str [109, 48, 40, 49, 44, 50, 41, 43, 51, 64, 49])), (sv (str [109, 53, 40, 41, 43, 48, 64, 48])), (sv (str [109, 48, 40, 41, 43, 48])), (sv (str [109, 48, 40, 41, 64, 48, 43, 48])), (sv (str [109, 48, 40, 44, 41, 43, 48, 64, 48])), (sv (str [109, 48, 40, 41, 43, 48, 49, 64, 48]))]) hC6 Tryz.underlying51 ty9 rfl rfl rfl rfl (by intro v hv; simp only [List.mem_cons, List.not_mem_nil, or_false] at hv; rcases hv with rfl | rfl | rfl | rfl | rfl | rfl | rfl | rfl <;> rfl) rfl rfl (fun b2 w6 hC8 hB2 => ?_)
  have hC9 := hC8.row0 (α := Str)
  have hC10 := hC9.triv (str_val ((str [109, 48, 40, 41, 43, 48, 49, 64, 48])))
  have hC11 := hC10.row1
  have hC12 := hC11.triv (str_val ((str [109, 48, 40, 44, 41, 43, 48, 64, 48])))
  have hC13 := hC12.row1
  have hC14 := hC13.triv (str_val ((str [109, 48, 40, 41, 64, 48, 43, 48])))
  have hC15 := hC14.row1
  have hC16 := hC15.triv (str_val ((str [109, 48, 40, 41, 43, 48])))
  have hC17 := hC16.row1
  have hC18 := hC17.triv (str_val ((str [109, 53, 40, 41, 43, 48, 64, 48])))
  have hC19 := hC18.row1
  have hC20 := hC19.triv (str_val ((str [109, 48, 40, 49, 44, 50, 41, 43, 51, 64, 49])))
  have hC21 := hC20.row1
  have hC22 := hC21.triv (str_val ((str [109, 48, 40, 41, 43, 48, 64, 48])))
  have hC23 := hC22.row1
  have hC24 := hC23.triv (str_val ((str [])))
  have hC25 := hC24.row1
  have hC26 := hC25.front 1 rfl
  dsimp only [List.eraseIdx, List.cons_append, List.nil_append, List.append_nil] at hC26
  have hC27 : Ctx [] w0 w6 (Item.own (.slice (some ⟨b2, 0, none⟩) 8 8) ([(str []), (str [109, 48, 40, 41, 43, 48, 64, 48]), (str [109, 48, 40, 49, 44, 50, 41, 43, 51, 64, 49]), (str [109, 53, 40, 41, 43, 48, 64, 48]), (str [109, 48, 40, 41, 43, 48]), (str [109, 48, 40, 41, 64, 48, 43, 48]), (str [109, 48, 40, 44, 41, 43, 48, 64, 48]), (str [109, 48, 40, 41, 43, 48, 49, 64, 48])] : List Str) :: [Item.box b1 [u1, (.int .i64 x4.2.2.1), (.int .i64 x4.2.2.2)], Item.own v2 (x2.1.1.2 : (List Int))]) := hC26.rowOwn (by simp [maxLen])
  obtain ⟨x6, hr6, hF⟩ := bind_some hF
  have hC28 := hC27.f1
  obtain ⟨Fs5, hH5, hn5, hF5, hO5, hb5⟩ := Ctx.lend2 (As := [Item.own (.slice (some ⟨b2, 0, none⟩) 8 8) ([(str []), (str [109, 48, 40, 41, 43, 48, 64, 48]), (str [109, 48, 40, 49, 44, 50, 41, 43, 51, 64, 49]), (str [109, 53, 40, 41, 43, 48, 64, 48]), (str [109, 48, 40, 41, 43, 48]), (str [109, 48, 40, 41, 64, 48, 43, 48]), (str [109, 48, 40, 44, 41, 43, 48, 64, 48]), (str [109, 48, 40, 41, 43, 48, 49, 64, 48])] : (List Str)), Item.own v2 (x2.1.1.2 : (List Int))]) [Item.box b1 [u1, (.int .i64 x4.2.2.1), (.int .i64 x4.2.2.2)]] hC28
  refine WL_call Tryz.call48 rfl rfl (c_S_l1Pick b1 (a1, x4.2.2.1, x4.2.2.2) u1 (RO.lent g1 hC28.keep hF5) ([(str []), (str [109, 48, 40, 41, 43, 48, 64, 48]), (str [109, 48, 40, 49, 44, 50, 41, 43, 51, 64, 49]), (str [109, 53, 40, 41, 43, 48, 64, 48]), (str [109, 48, 40, 41, 43, 48]), (str [109, 48, 40, 41, 64, 48, 43, 48]), (str [109, 48, 40, 44, 41, 43, 48, 64, 48]), (str [109, 48, 40, 41, 43, 48, 49, 64, 48])]) (.slice (some ⟨b2, 0, none⟩) 8 8) (hO5 0 _ _ _ rfl) hH5 hn5 x6 hr6) ?_
  rintro _ w7 ⟨rfl, hq6⟩
  have hC29 : Ctx [] w0 w7 [Item.box b1 [u1, (.int .i64 x6.2.2.1), (.int .i64 x6.2.2.2)], Item.own (.slice (some ⟨b2, 0, none⟩) 8 8) ([(str []), (str [109, 48, 40, 41, 43, 48, 64, 48]), (str [109, 48, 40, 49, 44, 50, 41, 43, 51, 64, 49]), (str [109, 53, 40, 41, 43, 48, 64, 48]), (str [109, 48, 40, 41, 43, 48]), (str [109, 48, 40, 41, 64, 48, 43, 48]), (str [109, 48, 40, 44, 41, 43, 48, 64, 48]), (str [109, 48, 40, 41, 43, 48, 49, 64, 48])] : (List Str)), Item.own v2 (x2.1.1.2 : (List Int))] := hb5 _ _ hq6
  refine WL_assign rfl rfl ?_
  refine WL_nil (W_ret (blk_ret (nrm_ret ?_)))
  have hq7 := Option.some.inj hF
  subst hq7
  refine fn_ret1 rfl rfl ?_
  exact ⟨_, rfl, str_res hC29 _⟩
 replace hF := ite_f hF hc2
 refine W_skip (blk_normal (nrm_normal (W_seq_reg ?_)))
 refine WL_move rfl rfl ?_
 refine WL_assign rfl rfl ?_
 refine WL_nil (W_ret ?_)
 have hq8 := Option.some.inj hF
 subst hq8
 refine fn_ret1 rfl rfl ?_
 exact ⟨_, rfl, str_res hC6 _⟩

theorem c_S_CountPages {w0 : World} (a1 : Int) (a2 : Int) (rr : Int) (hF : S.CountPages a1 a2 = some rr) :
 Calls Tryz.prog 24 [(.int .i64 a1), (.int .i64 a2)].toArray w0 fun e w' => ∃ v, e = .returned v ∧ Res w0 rr v w' := by
 refine calls_of_W Tryz.func24 rfl rfl ?_
 have hC0 := Ctx.start w0
 unfold S.CountPages at hF
 refine W_seq_reg ?_
 refine WL_assign rfl rfl ?_
 refine WL_nil (W_seq ?_)
 obtain ⟨r1, hr1, hF⟩ := bind_some hF
 refine W_cut (fun l w => ∃ x1 : Bool, x1 = r1 ∧ l = [(0, (.int .i64 a1)), (1, (.int .i64 a2)), (12, (.bool x1))] ∧ Below w0.heap.size w0 w ∧ Ctx [] w0 w []) ?_ ?_
 ·refine W_reg ?_
  refine WL_move rfl rfl ?_
  obtain ⟨x2, hr2, hr1⟩ := bind_some hr1
  refine WL_call Tryz.call38 rfl rfl (c_S_l1In a2 1 9 x2 hr2) ?_
  intro _ w2 hv1
  obtain ⟨rfl, hB2⟩ := res_bool hv1
  have hC2 := hC0.grow hB2
  refine WL_not rfl rfl ?_
  refine WL_move rfl rfl ?_
  refine WL_fork (fun hc1 => ?_) (fun hc1 => ?_)
  ·replace hr1 := ite_t hr1 hc1
   refine WL_guard_skip rfl rfl (by simp) rfl ?_
   refine WL_guard_skip rfl rfl (by simp) rfl ?_
   refine WL_guard_skip rfl rfl (by simp) rfl ?_
   refine WL_pick_t rfl rfl rfl ?_
   refine WL_nil ?_
   have hq1 := Option.some.inj hr1
   subst hq1
   refine nrm_sub (l' := [(0, (.int .i64 a1)), (1, (.int .i64 a2)), (12, (.bool true))]) ⟨rfl, rfl, rfl, trivial⟩ ?_
   exact ⟨true, rfl, rfl, (Keep.of hB2).below, hC2⟩
  replace hr1 := ite_f hr1 hc1
  refine WL_guard rfl rfl ?_
  refine WL_move rfl rfl ?_
  obtain ⟨x3, hr3, hr1⟩ := bind_some hr1
  refine WL_guard rfl rfl ?_
  refine WL_call Tryz.call38 rfl rfl (c_S_l1In a1 0 1000000 x3 hr3) ?_
  intro _ w3 hv2
  obtain ⟨rfl, hB3⟩ := res_bool hv2
  have hC3 := hC2.grow hB3
  refine WL_guard rfl rfl ?_
  refine WL_not rfl rfl ?_
  refine WL_pick_f rfl rfl rfl ?_
  refine WL_nil ?_
  have hq2 := Option.some.inj hr1
  subst hq2
  refine nrm_sub (l' := [(0, (.int .i64 a1)), (1, (.int .i64 a2)), (12, (.bool (!x3)))]) ⟨rfl, rfl, rfl, trivial⟩ ?_
  exact ⟨(!x3), rfl, rfl, ((Keep.of hB2).then hB3).below, hC3⟩
 rintro _ w1 ⟨x1, rfl, rfl, hB1, hC1⟩
 try dsimp only at hF
 refine W_cond rfl (fun hc2 => ?_) (fun hc2 => ?_)
 ·replace hF := ite_t hF hc2
  refine W_seq_reg ?_
  refine WL_assign rfl rfl ?_
  refine WL_nil (W_ret (nrm_ret ?_))
  have hq3 := Option.some.inj hF
  subst hq3
  refine fn_ret1 rfl rfl ?_
  exact ⟨_, rfl, int_res hC1 _⟩
 replace hF := ite_f hF hc2
 refine W_skip (nrm_normal (W_seq (W_seq_reg ?_)))
 refine WL_move rfl rfl ?_
 refine WL_eql rfl rfl rfl ?_
 refine WL_nil ?_
 refine W_cond rfl (fun hc3 => ?_) (fun hc3 => ?_)
 ·replace hF := ite_t hF hc3
  refine W_seq_reg ?_
  refine WL_assign rfl rfl ?_
  refine WL_nil (W_ret (nrm_ret ?_))
  have hq4 := Option.some.inj hF
  subst hq4
  refine fn_ret1 rfl rfl ?_
  exact ⟨_, rfl, int_res hC1 _⟩
 replace hF := ite_f hF hc3
 refine W_skip (nrm_normal (W_seq_reg ?_))
 refine WL_move rfl rfl ?_
 refine WL_move rfl rfl ?_
 refine WL_add rfl rfl rfl ?_
 refine WL_sub rfl rfl rfl ?_
 refine WL_move rfl rfl ?_
 obtain ⟨_, hx1, hF⟩ := bind_some hF
 refine WL_quo (nz_some hx1) rfl rfl rfl ?_
 refine WL_assign rfl rfl ?_
 refine WL_nil (W_ret ?_)
 have hq5 := Option.some.inj hF
 subst hq5
 refine fn_ret1 rfl rfl ?_
 exact ⟨_, rfl, int_res hC1 _⟩

theorem c_Q_FnPages {w0 : World} (hT : HasTab w0) (a1 : (List UInt8)) (u1 : Value) (g1 : RO [] w0 u1 a1) (rr : Bool) (hF : Q.FnPages a1 = some rr) :
 Calls Tryz.prog 4 [u1].toArray w0 fun e w' => ∃ v, e = .returned v ∧ Res w0 rr v w' := by
 refine calls_of_W Tryz.func4 rfl rfl ?_
 have hC0 := Ctx.start w0
 unfold Q.FnPages at hF
 refine W_seq_reg ?_
 refine WL_assign rfl rfl ?_
 refine WL_nil (W_seq (W_seq_reg ?_))
 refine WL_move rfl rfl ?_
 obtain ⟨x1, hr1, hF⟩ := bind_some hF
 refine WL_call Tryz.call10 rfl rfl (c_Q_big a1 u1 (g1.now hC0.keep) x1 hr1) ?_
 intro _ w1 hv1
 obtain ⟨rfl, hB1⟩ := res_bool hv1
 have hC1 := hC0.grow hB1
 refine WL_nil ?_
 refine W_cond rfl (fun hc1 => ?_) (fun hc1 => ?_)
 ·replace hF := ite_t hF hc1
  refine W_seq_reg ?_
  refine WL_assign rfl rfl ?_
  refine WL_nil (W_ret (nrm_ret ?_))
  have hq1 := Option.some.inj hF
  subst hq1
  refine fn_ret1 rfl rfl ?_
  exact ⟨_, rfl, bool_res hC1 _⟩
 replace hF := ite_f hF hc1
 refine W_skip (nrm_normal (W_seq_reg ?_))
 refine WL_move rfl rfl ?_
 obtain ⟨x2, hr2, hF⟩ := bind_some hF
 refine WL_call Tryz.call11 rfl rfl (c_S_DrawPagesOf a1 u1 (g1.now hC1.keep) x2 hr2) ?_
 rintro _ w2 ⟨hB2, v1, v2, F1, F2, rfl, hv2, hv3, hn1, hb1⟩
 obtain ⟨rfl, rfl⟩ := val_int hv3
 have hC2 := hC1.pushL hB2 (Bs := [Item.own v1 x2.1]) (Fs := [F1]) ⟨F1, _, rfl, hv2, rfl⟩ (by simpa using hn1) (fun b h => hb1 b (by simpa using h))
 refine WL_move rfl rfl ?_
 refine WL_extract rfl rfl rfl ?_
 refine WL_extract rfl rfl rfl ?_
 refine WL_assign rfl rfl ?_
 refine WL_assign rfl rfl ?_
 refine WL_nil (W_seq_reg ?_)
 refine WL_move rfl rfl ?_
 refine WL_move rfl rfl ?_
 obtain ⟨x3, hr3, hF⟩ := bind_some hF
 refine WL_call Tryz.call12 rfl rfl (c_M_PagesOf x2.1 v1 ((hC2.ro 0 rfl).now (Keep.refl _ _)) x2.2 x3 hr3) ?_
 rintro v3 w3 ⟨hB3, F3, hv4, hn2, hb2⟩
 have hC3 := hC2.push hB3 (A := Item.own v3 x3) hv4 hn2 hb2
 refine WL_assign rfl rfl ?_
 refine WL_nil (W_seq_reg ?_)
 refine WL_move rfl rfl ?_
 refine WL_move rfl rfl ?_
 obtain ⟨x4, hr4, hF⟩ := bind_some hF
 refine WL_call Tryz.call13 rfl rfl (c_S_PagesOf x2.1 v1 ((hC3.ro 1 rfl).now (Keep.refl _ _)) x2.2 x4 hr4) ?_
 rintro v4 w4 ⟨hB4, F4, hv5, hn3, hb3⟩
 have hC4 := hC3.push hB4 (A := Item.own v4 x4) hv5 hn3 hb3
 refine WL_assign rfl rfl ?_
 refine WL_nil (W_seq ?_)
 obtain ⟨r1, hr5, hF⟩ := bind_some hF
 refine W_cut (fun l w => ∃ x5 : Bool, x5 = r1 ∧ l = [(0, u1), (4, (.int .i64 x2.2)), (5, v3), (6, v4), (66, (.bool x5))] ∧ Below w4.heap.size w4 w ∧ Ctx [] w0 w [Item.own v4 (x4 : (List (List (Int × (List Int))))), Item.own v3 (x3 : (List (List (Int × (List Int)))))]) ?_ ?_
 ·refine W_reg ?_
  refine WL_move rfl rfl ?_
  refine WL_len Tryz.underlying37 (hC4.ro 1 rfl) rfl rfl ?_
  refine WL_move rfl rfl ?_
  refine WL_len Tryz.underlying37 (hC4.ro 0 rfl) rfl rfl ?_
  refine WL_neq rfl rfl rfl ?_
  refine WL_move rfl rfl ?_
  refine WL_fork (fun hc2 => ?_) (fun hc2 => ?_)
  ·replace hr5 := ite_t hr5 hc2
   refine WL_guard_skip rfl rfl (by simp) rfl ?_
   refine WL_guard_skip rfl rfl (by simp) rfl ?_
   refine WL_guard_skip rfl rfl (by simp) rfl ?_
   refine WL_guard_skip rfl rfl (by simp) rfl ?_
   refine WL_guard_skip rfl rfl (by simp [undef]) rfl ?_
   refine WL_guard_skip rfl rfl (by simp [undef]) rfl ?_
   refine WL_guard_skip rfl rfl (by simp [undef]) rfl ?_
   refine WL_guard_skip rfl rfl (by simp [undef]) rfl ?_
   refine WL_guard_skip rfl rfl (by simp [undef]) rfl ?_
   refine WL_guard_skip rfl rfl (by simp [undef]) rfl ?_
   refine WL_guard_skip rfl rfl (by simp [undef]) rfl ?_
   refine WL_guard_skip rfl rfl (by simp [undef]) rfl ?_
   refine WL_guard_skip rfl rfl (by simp [undef]) rfl ?_
   refine WL_guard_skip rfl rfl (by simp [undef]) rfl ?_
   refine WL_guard_skip rfl rfl (by simp [undef]) rfl ?_
   refine WL_guard_skip rfl rfl (by simp [undef]) rfl ?_
   refine WL_guard_skip rfl rfl (by simp [undef]) rfl ?_
   refine WL_guard_skip rfl rfl (by simp [undef]) rfl ?_
   refine WL_guard_skip rfl rfl (by simp) rfl ?_
   refine WL_pick_t rfl rfl rfl ?_
   refine WL_nil ?_
   have hq2 := Option.some.inj hr5
   subst hq2
   have hC6 := hC4.f1
   have hC7 := hC6.f1
   have hC8 := hC7.h2
   refine nrm_sub (l' := [(0, u1), (4, (.int .i64 x2.2)), (5, v3), (6, v4), (66, (.bool true))]) ⟨rfl, rfl, rfl, rfl, rfl, trivial⟩ ?_
   exact ⟨true, rfl, rfl, (Below.refl _ _), hC8⟩
  replace hr5 := ite_f hr5 hc2
  refine WL_guard rfl rfl ?_
  refine WL_move rfl rfl ?_
  refine WL_guard rfl rfl ?_
  refine WL_len Tryz.underlying37 (hC4.ro 0 rfl) rfl rfl ?_
  refine WL_guard rfl rfl ?_
  refine WL_gtr rfl rfl rfl ?_
  refine WL_guard rfl rfl ?_
  refine WL_move rfl rfl ?_
  refine WL_fork (fun hc3 => ?_) (fun hc3 => ?_)
  ·replace hr5 := ite_t hr5 hc3
   refine WL_guard rfl rfl ?_
   refine WL_move rfl rfl ?_
   obtain ⟨x6, hr6, hr5⟩ := bind_some hr5
   refine WL_guard rfl rfl ?_
   refine WL_call Tryz.call15 rfl rfl (c_M_JoinPages x4 v4 ((hC4.ro 0 rfl).now (Keep.refl _ _)) x6 hr6) ?_
   rintro v5 w6 ⟨hB6, F5, hv6, hn4, hb4⟩
   have hC9 := hC4.push hB6 (A := Item.own v5 x6) hv6 hn4 hb4
   refine WL_guard rfl rfl ?_
   refine WL_move rfl rfl ?_
   obtain ⟨x7, hr7, hr5⟩ := bind_some hr5
   refine WL_guard rfl rfl ?_
   refine WL_call Tryz.call14 rfl rfl (c_S_SameFacts x6 v5 ((hC9.ro 0 rfl).now (Keep.refl _ _)) x2.1 v1 ((hC9.ro 3 rfl).now (Keep.refl _ _)) x7 hr7) ?_
   intro _ w7 hv7
   obtain ⟨rfl, hB7⟩ := res_bool hv7
   have hC10 := hC9.grow hB7
   refine WL_guard rfl rfl ?_
   refine WL_not rfl rfl ?_
   refine WL_guard rfl rfl ?_
   refine WL_move rfl rfl ?_
   refine WL_fork (fun hc4 => ?_) (fun hc4 => ?_)
   ·replace hr5 := ite_t hr5 hc4
    refine WL_guard_skip rfl rfl (by simp) rfl ?_
    refine WL_guard_skip rfl rfl (by simp) rfl ?_
    refine WL_guard_skip rfl rfl (by simp) rfl ?_
    refine WL_guard_skip rfl rfl (by simp) rfl ?_
    refine WL_guard_skip rfl rfl (by simp) rfl ?_
    refine WL_guard_skip rfl rfl (by simp) rfl ?_
    refine WL_guard_skip rfl rfl (by simp) rfl ?_
    refine WL_guard rfl rfl ?_
    refine WL_pick_t rfl rfl rfl ?_
    refine WL_guard rfl rfl ?_
    refine WL_pick_t rfl rfl rfl ?_
    refine WL_pick_f rfl rfl rfl ?_
    refine WL_nil ?_
    have hq3 := Option.some.inj hr5
    subst hq3
    have hC11 := hC10.f2
    have hC12 := hC11.f2
    have hC13 := hC12.h2
    refine nrm_sub (l' := [(0, u1), (4, (.int .i64 x2.2)), (5, v3), (6, v4), (66, (.bool true))]) ⟨rfl, rfl, rfl, rfl, rfl, trivial⟩ ?_
    exact ⟨true, rfl, rfl, ((Keep.of hB6).then hB7).below, hC13⟩
   replace hr5 := ite_f hr5 hc4
   refine WL_guard rfl rfl ?_
   refine WL_move rfl rfl ?_
   refine WL_guard rfl rfl ?_
   refine WL_len Tryz.underlying37 (hC10.ro 1 rfl) rfl rfl ?_
   refine WL_guard rfl rfl ?_
   refine WL_move rfl rfl ?_
   refine WL_guard rfl rfl ?_
   refine WL_len Tryz.underlying34 (hC10.ro 3 rfl) rfl rfl ?_
   refine WL_guard rfl rfl ?_
   refine WL_move rfl rfl ?_
   obtain ⟨x8, hr8, hr5⟩ := bind_some hr5
   refine WL_guard rfl rfl ?_
   refine WL_call Tryz.call16 rfl rfl (c_M_CountPages (List.length x2.1 : Int) x2.2 x8 hr8) ?_
   intro _ w9 hv8
   obtain ⟨rfl, hB8⟩ := res_int hv8
   have hC14 := hC10.grow hB8
   refine WL_guard rfl rfl ?_
   refine WL_neq rfl rfl rfl ?_
   refine WL_guard rfl rfl ?_
   refine WL_pick_f rfl rfl rfl ?_
   refine WL_guard rfl rfl ?_
   refine WL_pick_t rfl rfl rfl ?_
   refine WL_pick_f rfl rfl rfl ?_
   refine WL_nil ?_
   have hq4 := Option.some.inj hr5
   subst hq4
   have hC15 := hC14.f2
   have hC16 := hC15.f2
   have hC17 := hC16.h2
   refine nrm_sub (l' := [(0, u1), (4, (.int .i64 x2.2)), (5, v3), (6, v4), (66, (.bool (!decide ((List.length x4 : Int) = x8))))]) ⟨rfl, rfl, rfl, rfl, rfl, trivial⟩ ?_
   exact ⟨(!decide ((List.length x4 : Int) = x8)), rfl, rfl, (((Keep.of hB6).then hB7).then hB8).below, hC17⟩
  replace hr5 := ite_f hr5 hc3
  refine WL_guard_skip rfl rfl (by simp) rfl ?_
  refine WL_guard_skip rfl rfl (by simp) rfl ?_
  refine WL_guard_skip rfl rfl (by simp) rfl ?_
  refine WL_guard_skip rfl rfl (by simp) rfl ?_
  refine WL_guard_skip rfl rfl (by simp) rfl ?_
  refine WL_guard_skip rfl rfl (by simp) rfl ?_
  refine WL_guard_skip rfl rfl (by simp [undef]) rfl ?_
  refine WL_guard_skip rfl rfl (by simp [undef]) rfl ?_
  refine WL_guard_skip rfl rfl (by simp [undef]) rfl ?_
  refine WL_guard_skip rfl rfl (by simp [undef]) rfl ?_
  refine WL_guard_skip rfl rfl (by simp [undef]) rfl ?_
  refine WL_guard_skip rfl rfl (by simp [undef]) rfl ?_
  refine WL_guard_skip rfl rfl (by simp [undef]) rfl ?_
  refine WL_guard_skip rfl rfl (by simp) rfl ?_
  refine WL_guard rfl rfl ?_
  refine WL_pick_f rfl rfl rfl ?_
  refine WL_pick_f rfl rfl rfl ?_
  refine WL_nil ?_
  have hq5 := Option.some.inj hr5
  subst hq5
  have hC18 := hC4.f1
  have hC19 := hC18.f1
  have hC20 := hC19.h2
  refine nrm_sub (l' := [(0, u1), (4, (.int .i64 x2.2)), (5, v3), (6, v4), (66, (.bool false))]) ⟨rfl, rfl, rfl, rfl, rfl, trivial⟩ ?_
  exact ⟨false, rfl, rfl, (Below.refl _ _), hC20⟩
 rintro _ w5 ⟨x5, rfl, rfl, hB5, hC5⟩
 try dsimp only at hF
 refine W_cond rfl (fun hc5 => ?_) (fun hc5 => ?_)
 ·replace hF := ite_t hF hc5
  refine W_seq_reg ?_
  refine WL_assign rfl rfl ?_
  refine WL_nil (W_ret (nrm_ret ?_))
  have hq6 := Option.some.inj hF
  subst hq6
  refine fn_ret1 rfl rfl ?_
  exact ⟨_, rfl, bool_res hC5 _⟩
 replace hF := ite_f hF hc5
 refine W_skip (nrm_normal (W_seq (W_seq_reg ?_)))
 refine WL_assign rfl rfl ?_
 refine WL_nil ?_
 obtain ⟨r2, hr9, hF⟩ := bind_some hF
 refine W_norm (fun l w => .inl () = r2 ∧ l = [(0, u1)] ∧ Below w5.heap.size w5 w ∧ Ctx [] w0 w []) ?_ ?_
 ·refine W_block ?_
  refine W.sub (l' := [(0, u1), (4, (.int .i64 x2.2)), (5, v3), (6, v4), (7, (.int .i64 0))]) ?_ ⟨rfl, rfl, rfl, rfl, rfl, trivial⟩
  refine W_loop (fun k l w => ∃ x9 : Int, l = [(0, u1), (4, (.int .i64 x2.2)), (5, v3), (6, v4), (7, (.int .i64 x9))] ∧ Below w5.heap.size w5 w ∧ Ctx [] w0 w [Item.own v4 (x4 : (List (List (Int × (List Int))))), Item.own v3 (x3 : (List (List (Int × (List Int)))))] ∧ Q.FnPages_l1 x3 x4 x2 k x9 = some r2) FUEL ⟨0, rfl, (Below.refl _ _), hC5, hr9⟩ ?_
  clear hr9
  rintro k1 _ w10 ⟨x9, rfl, hB9, hC21, hL1⟩
  cases k1 with
  | zero => rw [Q.FnPages_l1] at hL1; cases hL1
  | succ k1 =>
   rw [Q.FnPages_l1] at hL1
   refine W_seq (W_seq_reg ?_)
   refine WL_move rfl rfl ?_
   refine WL_move rfl rfl ?_
   refine WL_len Tryz.underlying37 (hC21.ro 1 rfl) rfl rfl ?_
   refine WL_lss rfl rfl rfl ?_
   refine WL_nil ?_
   refine W_cond rfl (fun hc6 => ?_) (fun hc6 => ?_)
   ·replace hL1 := ite_t hL1 hc6
    refine W_skip (nrm_normal (W_seq (W_block ?_)))
    obtain ⟨r3, hr10, hL1⟩ := bind_some hL1
    refine W_cut (fun l w => ∃ x10 : Bool, x10 = r3 ∧ l = [(0, u1), (4, (.int .i64 x2.2)), (5, v3), (6, v4), (7, (.int .i64 x9)), (107, (.bool x10))] ∧ Below w10.heap.size w10 w ∧ Ctx [] w0 w [Item.own v4 (x4 : (List (List (Int × (List Int))))), Item.own v3 (x3 : (List (List (Int × (List Int)))))]) ?_ ?_
    ·refine W_drawn 35 rfl hmix (fun w12 hB11 => ?_)
     have hC23 := hC21.grow hB11
     refine WA_tk 0 (by kernel_rfl) rfl rfl (fl_move rfl) ?_
     refine WL_move rfl rfl ?_
     refine WL_nil ?_
     refine WA_tk 1 (by kernel_rfl) rfl rfl (fl_move rfl) ?_
     refine WL_move rfl rfl ?_
     refine WL_nil ?_
     obtain ⟨x11, hx1, hr10⟩ := bind_some hr10
     refine WA_tk 2 (by kernel_rfl) rfl rfl (fl_index Tryz.underlying37 ty34 (hC23.ro 1 rfl) hx1 rfl rfl) ?_
     refine WL_index Tryz.underlying37 ty34 (hC23.ro 1 rfl) hx1 rfl rfl rfl (fun b1 o1 h1 => ?_)
     refine WL_nil ?_
     refine WA_tk 4 (by kernel_rfl) rfl rfl (fl_move rfl) ?_
     refine WL_move rfl rfl ?_
     refine WL_nil ?_
     refine WA_tk 5 (by kernel_rfl) rfl rfl (fl_move rfl) ?_
     refine WL_move rfl rfl ?_
     refine WL_nil ?_
     obtain ⟨x12, hx2, hr10⟩ := bind_some hr10
     refine WA_tk 6 (by kernel_rfl) rfl rfl (fl_index Tryz.underlying37 ty34 (hC23.ro 0 rfl) hx2 rfl rfl) ?_
     refine WL_index Tryz.underlying37 ty34 (hC23.ro 0 rfl) hx2 rfl rfl rfl (fun b2 o2 h2 => ?_)
     refine WL_nil ?_
     refine WA.sub (l' := [(0, u1), (4, (.int .i64 x2.2)), (5, v3), (6, v4), (7, (.int .i64 x9)), (67, (.int .i64 x9)), (68, v3), (69, (.int .i64 (List.length x3 : Int))), (70, (.bool (decide (x9 < (List.length x3 : Int))))), (73, v3), (74, (.int .i64 x9)), (75, (ptr b1 o1)), (77, v4), (78, (.int .i64 x9)), (79, (ptr b2 o2))]) ?_ ⟨rfl, rfl, rfl, rfl, rfl, rfl, rfl, rfl, rfl, rfl, rfl, rfl, rfl, rfl, rfl, trivial⟩
     refine WA_postsE [⟨3, [], fun vs => PW.ro [] w12 x11, []⟩, ⟨7, [], fun vs => PW.ro [] w12 x12, []⟩] [[], []] 27 rfl (by kernel_rfl) (by kernel_rfl) rfl ?_ ?_
     ·refine StepsE_cons rfl ?_ ?_
      ·intro w13 hB12
       refine DepsE_nil ?_
       refine ⟨_, rfl, ?_⟩
       refine WL_load ty34 h1 (Keep.of hB12) rfl rfl (fun v6 h3 => ?_)
       refine WL_nil ?_
       exact FinE_val (Below.refl _ _) rfl rfl ⟨rfl, h3⟩
      refine StepsE_cons rfl ?_ ?_
      ·intro w13 hB12
       refine DepsE_nil ?_
       refine ⟨_, rfl, ?_⟩
       refine WL_load ty34 h2 (Keep.of hB12) rfl rfl (fun v7 h4 => ?_)
       refine WL_nil ?_
       exact FinE_val (Below.refl _ _) rfl rfl ⟨rfl, h4⟩
      exact StepsE_nil
     intro w14 hB13
     refine AllE_cons rfl rfl rfl ?_
     rintro v6 _ ⟨rfl, h3⟩
     refine AllE_cons rfl rfl rfl ?_
     rintro v7 _ ⟨rfl, h4⟩
     refine AllE_nil ?_
     intro hn5 hb5
     have hC24 := hC23.grow hB13
     obtain ⟨x13, hr11, hr10⟩ := bind_some hr10
     refine WA_one 8 (by kernel_rfl) rfl ?_
     refine WL_call Tryz.call14 rfl rfl (c_S_SameFacts x11 v6 (h3.now (Keep.of hB13)) x12 v7 (h4.now (Keep.of hB13)) x13 hr11) ?_
     intro _ w15 hv9
     obtain ⟨rfl, hB14⟩ := res_bool hv9
     have hC25 := hC24.grow hB14
     refine WL_nil ?_
     refine WA_tk 9 (by kernel_rfl) rfl rfl (fl_not rfl) ?_
     refine WL_not rfl rfl ?_
     refine WL_nil ?_
     refine WA_tk 10 (by kernel_rfl) rfl rfl (fl_move rfl) ?_
     refine WL_move rfl rfl ?_
     refine WL_nil ?_
     refine WA_fork (fun hc7 => ?_) (fun hc7 => ?_)
     ·replace hr10 := ite_t hr10 hc7
      refine WA_sk 11 (by kernel_rfl) rfl rfl rfl rfl (by simp) rfl rfl ?_
      refine WA_sk 12 (by kernel_rfl) rfl rfl rfl rfl (by simp) rfl rfl ?_
      refine WA_sk 13 (by kernel_rfl) rfl rfl rfl rfl (by simp) rfl rfl ?_
      refine WA_sk 14 (by kernel_rfl) rfl rfl rfl rfl (by simp) rfl rfl ?_
      refine WA_sk 15 (by kernel_rfl) rfl rfl rfl rfl (by simp) rfl rfl ?_
      refine WA_sk 16 (by kernel_rfl) rfl rfl rfl rfl (by simp) rfl rfl ?_
      refine WA_sk 17 (by kernel_rfl) rfl rfl rfl rfl (by simp [undef]) rfl rfl ?_
      refine WA_sk 18 (by kernel_rfl) rfl rfl rfl rfl (by simp [undef]) rfl rfl ?_
      refine WA_sk 19 (by kernel_rfl) rfl rfl rfl rfl (by simp [undef]) rfl rfl ?_
      refine WA_sk 20 (by kernel_rfl) rfl rfl rfl rfl (by simp [undef]) rfl rfl ?_
      refine WA_sk 21 (by kernel_rfl) rfl rfl rfl rfl (by simp [undef]) rfl rfl ?_
      refine WA_sk 22 (by kernel_rfl) rfl rfl rfl rfl (by simp [undef]) rfl rfl ?_
      refine WA_sk 23 (by kernel_rfl) rfl rfl rfl rfl (by simp [undef]) rfl rfl ?_
      refine WA_sk 24 (by kernel_rfl) rfl rfl rfl rfl (by simp) rfl rfl ?_
      refine WA_tk 25 (by kernel_rfl) rfl rfl (fl_pick_t rfl rfl) ?_
      refine WL_pick_t rfl rfl rfl ?_
      refine WL_nil ?_
      refine WA_tk 26 (by kernel_rfl) rfl rfl (fl_move rfl) ?_
      refine WL_move rfl rfl ?_
      refine WL_nil ?_
      refine WA_sk 27 (by kernel_rfl) rfl rfl rfl rfl (by simp) rfl rfl ?_
      refine WA_sk 28 (by kernel_rfl) rfl rfl rfl rfl (by simp) rfl rfl ?_
      refine WA_sk 29 (by kernel_rfl) rfl rfl rfl rfl (by simp) rfl rfl ?_
      refine WA_sk 30 (by kernel_rfl) rfl rfl rfl rfl (by simp) rfl rfl ?_
      refine WA_sk 31 (by kernel_rfl) rfl rfl rfl rfl (by simp) rfl rfl ?_
      refine WA_sk 32 (by kernel_rfl) rfl rfl rfl rfl (by simp) rfl rfl ?_
      refine WA_sk 33 (by kernel_rfl) rfl rfl rfl rfl (by simp) rfl rfl ?_
      refine WA_tk 34 (by kernel_rfl) rfl rfl (fl_pick_t rfl rfl) ?_
      refine WL_pick_t rfl rfl rfl ?_
      refine WL_nil ?_
      refine WA_done (by kernel_rfl) ?_
      have hq7 := Option.some.inj hr10
      subst hq7
      refine nrm_sub (l' := [(0, u1), (4, (.int .i64 x2.2)), (5, v3), (6, v4), (7, (.int .i64 x9)), (107, (.bool true))]) ⟨rfl, rfl, rfl, rfl, rfl, rfl, trivial⟩ ?_
      exact ⟨true, rfl, rfl, (((Keep.of hB11).then hB13).then hB14).below, hC25⟩
     replace hr10 := ite_f hr10 hc7
     refine WA_takeG 11 rfl (by kernel_rfl) (by kernel_rfl) (by kernel_rfl) rfl rfl rfl (fl_move rfl) ?_
     refine WL_guard rfl rfl ?_
     refine WL_move rfl rfl ?_
     refine WL_nil ?_
     refine WA_takeG 12 rfl (by kernel_rfl) (by kernel_rfl) (by kernel_rfl) rfl rfl rfl (fl_add rfl rfl) ?_
     refine WL_guard rfl rfl ?_
     refine WL_add rfl rfl rfl ?_
     refine WL_nil ?_
     refine WA_takeG 13 rfl (by kernel_rfl) (by kernel_rfl) (by kernel_rfl) rfl rfl rfl (fl_move rfl) ?_
     refine WL_guard rfl rfl ?_
     refine WL_move rfl rfl ?_
     refine WL_nil ?_
     refine WA_takeG 14 rfl (by kernel_rfl) (by kernel_rfl) (by kernel_rfl) rfl rfl rfl (fl_len Tryz.underlying37 (hC25.ro 1 rfl) rfl) ?_
     refine WL_guard rfl rfl ?_
     refine WL_len Tryz.underlying37 (hC25.ro 1 rfl) rfl rfl ?_
     refine WL_nil ?_
     refine WA_takeG 15 rfl (by kernel_rfl) (by kernel_rfl) (by kernel_rfl) rfl rfl rfl (fl_lss rfl rfl) ?_
     refine WL_guard rfl rfl ?_
     refine WL_lss rfl rfl rfl ?_
     refine WL_nil ?_
     refine WA_takeG 16 rfl (by kernel_rfl) (by kernel_rfl) (by kernel_rfl) rfl rfl rfl (fl_move rfl) ?_
     refine WL_guard rfl rfl ?_
     refine WL_move rfl rfl ?_
     refine WL_nil ?_
     refine WA_fork (fun hc8 => ?_) (fun hc8 => ?_)
     ·replace hr10 := ite_t hr10 hc8
      refine WA_takeG 17 rfl (by kernel_rfl) (by kernel_rfl) (by kernel_rfl) rfl rfl rfl (fl_move rfl) ?_
      refine WL_guard rfl rfl ?_
      refine WL_move rfl rfl ?_
      refine WL_nil ?_
      refine WA_takeG 18 rfl (by kernel_rfl) (by kernel_rfl) (by kernel_rfl) rfl rfl rfl (fl_move rfl) ?_
      refine WL_guard rfl rfl ?_
      refine WL_move rfl rfl ?_
      refine WL_nil ?_
      obtain ⟨x14, hx3, hr10⟩ := bind_some hr10
      refine WA_takeG 19 rfl (by kernel_rfl) (by kernel_rfl) (by kernel_rfl) rfl rfl rfl (fl_index Tryz.underlying37 ty34 (hC25.ro 1 rfl) hx3 rfl rfl) ?_
      refine WL_guard rfl rfl ?_
      refine WL_index Tryz.underlying37 ty34 (hC25.ro 1 rfl) hx3 rfl rfl rfl (fun b3 o3 h5 => ?_)
      refine WL_nil ?_
      refine WA_takeG 22 rfl (by kernel_rfl) (by kernel_rfl) (by kernel_rfl) rfl rfl rfl (fl_move rfl) ?_
      refine WL_guard rfl rfl ?_
      refine WL_move rfl rfl ?_
      refine WL_nil ?_
      refine WA_one 20 (by kernel_rfl) rfl ?_
      refine WL_guard rfl rfl ?_
      refine WL_load ty34 h5 (Keep.refl _ _) rfl rfl (fun v8 h6 => ?_)
      refine WL_nil ?_
      refine WA_takeG 21 rfl (by kernel_rfl) (by kernel_rfl) (by kernel_rfl) rfl rfl rfl (fl_len Tryz.underlying34 h6 rfl) ?_
      refine WL_guard rfl rfl ?_
      refine WL_len Tryz.underlying34 h6 rfl rfl ?_
      refine WL_nil ?_
      refine WA_takeG 23 rfl (by kernel_rfl) (by kernel_rfl) (by kernel_rfl) rfl rfl rfl (fl_neq rfl rfl) ?_
      refine WL_guard rfl rfl ?_
      refine WL_neq rfl rfl rfl ?_
      refine WL_nil ?_
      refine WA_takeG 24 rfl (by kernel_rfl) (by kernel_rfl) (by kernel_rfl) rfl rfl rfl (fl_pick_t rfl rfl) ?_
      refine WL_guard rfl rfl ?_
      refine WL_pick_t rfl rfl rfl ?_
      refine WL_nil ?_
      refine WA_tk 25 (by kernel_rfl) rfl rfl (fl_pick_f rfl rfl) ?_
      refine WL_pick_f rfl rfl rfl ?_
      refine WL_nil ?_
      refine WA_tk 26 (by kernel_rfl) rfl rfl (fl_move rfl) ?_
      refine WL_move rfl rfl ?_
      refine WL_nil ?_
      refine WA_fork (fun hc9 => ?_) (fun hc9 => ?_)
      ·replace hr10 := ite_t hr10 hc9
       refine WA_sk 27 (by kernel_rfl) rfl rfl rfl rfl (by simp) rfl rfl ?_
       refine WA_sk 28 (by kernel_rfl) rfl rfl rfl rfl (by simp) rfl rfl ?_
       refine WA_sk 29 (by kernel_rfl) rfl rfl rfl rfl (by simp) rfl rfl ?_
       refine WA_sk 30 (by kernel_rfl) rfl rfl rfl rfl (by simp) rfl rfl ?_
       refine WA_sk 31 (by kernel_rfl) rfl rfl rfl rfl (by simp) rfl rfl ?_
       refine WA_sk 32 (by kernel_rfl) rfl rfl rfl rfl (by simp) rfl rfl ?_
       refine WA_sk 33 (by kernel_rfl) rfl rfl rfl rfl (by simp) rfl rfl ?_
       refine WA_tk 34 (by kernel_rfl) rfl rfl (fl_pick_t rfl rfl) ?_
       refine WL_pick_t rfl rfl rfl ?_
       refine WL_nil ?_
       refine WA_done (by kernel_rfl) ?_
       have hq8 := Option.some.inj hr10
       subst hq8
       refine nrm_sub (l' := [(0, u1), (4, (.int .i64 x2.2)), (5, v3), (6, v4), (7, (.int .i64 x9)), (107, (.bool true))]) ⟨rfl, rfl, rfl, rfl, rfl, rfl, trivial⟩ ?_
       exact ⟨true, rfl, rfl, (((Keep.of hB11).then hB13).then hB14).below, hC25⟩
      replace hr10 := ite_f hr10 hc9
      refine WA_takeG 27 rfl (by kernel_rfl) (by kernel_rfl) (by kernel_rfl) rfl rfl rfl (fl_move rfl) ?_
      refine WL_guard rfl rfl ?_
      refine WL_move rfl rfl ?_
      refine WL_nil ?_
      refine WA_takeG 28 rfl (by kernel_rfl) (by kernel_rfl) (by kernel_rfl) rfl rfl rfl (fl_move rfl) ?_
      refine WL_guard rfl rfl ?_
      refine WL_move rfl rfl ?_
      refine WL_nil ?_
      obtain ⟨x15, hx4, hr10⟩ := bind_some hr10
      refine WA_takeG 29 rfl (by kernel_rfl) (by kernel_rfl) (by kernel_rfl) rfl rfl rfl (fl_index Tryz.underlying37 ty34 (hC25.ro 1 rfl) hx4 rfl rfl) ?_
      refine WL_guard rfl rfl ?_
      refine WL_index Tryz.underlying37 ty34 (hC25.ro 1 rfl) hx4 rfl rfl rfl (fun b4 o4 h7 => ?_)
      refine WL_nil ?_
      refine WA_takeG 32 rfl (by kernel_rfl) (by kernel_rfl) (by kernel_rfl) rfl rfl rfl (fl_move rfl) ?_
      refine WL_guard rfl rfl ?_
      refine WL_move rfl rfl ?_
      refine WL_nil ?_
      refine WA_one 30 (by kernel_rfl) rfl ?_
      refine WL_guard rfl rfl ?_
      refine WL_load ty34 h7 (Keep.refl _ _) rfl rfl (fun v9 h8 => ?_)
      refine WL_nil ?_
      refine WA_takeG 31 rfl (by kernel_rfl) (by kernel_rfl) (by kernel_rfl) rfl rfl rfl (fl_len Tryz.underlying34 h8 rfl) ?_
      refine WL_guard rfl rfl ?_
      refine WL_len Tryz.underlying34 h8 rfl rfl ?_
      refine WL_nil ?_
      refine WA_takeG 33 rfl (by kernel_rfl) (by kernel_rfl) (by kernel_rfl) rfl rfl rfl (fl_gtr rfl rfl) ?_
      refine WL_guard rfl rfl ?_
      refine WL_gtr rfl rfl rfl ?_
      refine WL_nil ?_
      refine WA_tk 34 (by kernel_rfl) rfl rfl (fl_pick_f rfl rfl) ?_
      refine WL_pick_f rfl rfl rfl ?_
      refine WL_nil ?_
      refine WA_done (by kernel_rfl) ?_
      have hq9 := Option.some.inj hr10
      subst hq9
      refine nrm_sub (l' := [(0, u1), (4, (.int .i64 x2.2)), (5, v3), (6, v4), (7, (.int .i64 x9)), (107, (.bool (decide (x2.2 < (List.length x15 : Int)))))]) ⟨rfl, rfl, rfl, rfl, rfl, rfl, trivial⟩ ?_
      exact ⟨(decide (x2.2 < (List.length x15 : Int))), rfl, rfl, (((Keep.of hB11).then hB13).then hB14).below, hC25⟩
     replace hr10 := ite_f hr10 hc8
     refine WA_sk 17 (by kernel_rfl) rfl rfl rfl rfl (by simp) rfl rfl ?_
     refine WA_sk 18 (by kernel_rfl) rfl rfl rfl rfl (by simp) rfl rfl ?_
     refine WA_sk 19 (by kernel_rfl) rfl rfl rfl rfl (by simp) rfl rfl ?_
     refine WA_sk 20 (by kernel_rfl) rfl rfl rfl rfl (by simp) rfl rfl ?_
     refine WA_sk 21 (by kernel_rfl) rfl rfl rfl rfl (by simp) rfl rfl ?_
     refine WA_sk 22 (by kernel_rfl) rfl rfl rfl rfl (by simp) rfl rfl ?_
     refine WA_sk 23 (by kernel_rfl) rfl rfl rfl rfl (by simp) rfl rfl ?_
     refine WA_takeG 24 rfl (by kernel_rfl) (by kernel_rfl) (by kernel_rfl) rfl rfl rfl (fl_pick_f rfl rfl) ?_
     refine WL_guard rfl rfl ?_
     refine WL_pick_f rfl rfl rfl ?_
     refine WL_nil ?_
     refine WA_tk 25 (by kernel_rfl) rfl rfl (fl_pick_f rfl rfl) ?_
     refine WL_pick_f rfl rfl rfl ?_
     refine WL_nil ?_
     refine WA_tk 26 (by kernel_rfl) rfl rfl (fl_move rfl) ?_
     refine WL_move rfl rfl ?_
     refine WL_nil ?_
     refine WA_takeG 27 rfl (by kernel_rfl) (by kernel_rfl) (by kernel_rfl) rfl rfl rfl (fl_move rfl) ?_
     refine WL_guard rfl rfl ?_
     refine WL_move rfl rfl ?_
     refine WL_nil ?_
     refine WA_takeG 28 rfl (by kernel_rfl) (by kernel_rfl) (by kernel_rfl) rfl rfl rfl (fl_move rfl) ?_
     refine WL_guard rfl rfl ?_
     refine WL_move rfl rfl ?_
     refine WL_nil ?_
     obtain ⟨x16, hx5, hr10⟩ := bind_some hr10
     refine WA_takeG 29 rfl (by kernel_rfl) (by kernel_rfl) (by kernel_rfl) rfl rfl rfl (fl_index Tryz.underlying37 ty34 (hC25.ro 1 rfl) hx5 rfl rfl) ?_
     refine WL_guard rfl rfl ?_
     refine WL_index Tryz.underlying37 ty34 (hC25.ro 1 rfl) hx5 rfl rfl rfl (fun b5 o5 h9 => ?_)
     refine WL_nil ?_
     refine WA_takeG 32 rfl (by kernel_rfl) (by kernel_rfl) (by kernel_rfl) rfl rfl rfl (fl_move rfl) ?_
     refine WL_guard rfl rfl ?_
     refine WL_move rfl rfl ?_
     refine WL_nil ?_
     refine WA_one 30 (by kernel_rfl) rfl ?_
     refine WL_guard rfl rfl ?_
     refine WL_load ty34 h9 (Keep.refl _ _) rfl rfl (fun v10 h10 => ?_)
     refine WL_nil ?_
     refine WA_takeG 31 rfl (by kernel_rfl) (by kernel_rfl) (by kernel_rfl) rfl rfl rfl (fl_len Tryz.underlying34 h10 rfl) ?_
     refine WL_guard rfl rfl ?_
     refine WL_len Tryz.underlying34 h10 rfl rfl ?_
     refine WL_nil ?_
     refine WA_takeG 33 rfl (by kernel_rfl) (by kernel_rfl) (by kernel_rfl) rfl rfl rfl (fl_gtr rfl rfl) ?_
     refine WL_guard rfl rfl ?_
     refine WL_gtr rfl rfl rfl ?_
     refine WL_nil ?_
     refine WA_tk 34 (by kernel_rfl) rfl rfl (fl_pick_f rfl rfl) ?_
     refine WL_pick_f rfl rfl rfl ?_
     refine WL_nil ?_
     refine WA_done (by kernel_rfl) ?_
     have hq10 := Option.some.inj hr10
     subst hq10
     refine nrm_sub (l' := [(0, u1), (4, (.int .i64 x2.2)), (5, v3), (6, v4), (7, (.int .i64 x9)), (107, (.bool (decide (x2.2 < (List.length x16 : Int)))))]) ⟨rfl, rfl, rfl, rfl, rfl, rfl, trivial⟩ ?_
     exact ⟨(decide (x2.2 < (List.length x16 : Int))), rfl, rfl, (((Keep.of hB11).then hB13).then hB14).below, hC25⟩
    rintro _ w11 ⟨x10, rfl, rfl, hB10, hC22⟩
    try dsimp only at hL1
    refine W_cond rfl (fun hc10 => ?_) (fun hc10 => ?_)
    ·replace hL1 := ite_t hL1 hc10
     refine W_seq_reg ?_
     refine WL_assign rfl rfl ?_
     refine WL_nil (W_ret (blk_ret (nrm_ret (nrm_ret (blk_ret (nrm_ret (nrm_ret ?_)))))))
     have hq11 := Option.some.inj hL1
     subst hq11
     dsimp only at hF
     have hq12 := Option.some.inj hF
     subst hq12
     refine fn_ret1 rfl rfl ?_
     exact ⟨_, rfl, bool_res hC22 _⟩
    replace hL1 := ite_f hL1 hc10
    refine W_skip (blk_normal (nrm_normal (W_reg ?_)))
    refine WL_move rfl rfl ?_
    refine WL_add rfl rfl rfl ?_
    refine WL_assign rfl rfl ?_
    refine WL_nil ?_
    refine nrm_sub (l' := [(0, u1), (4, (.int .i64 x2.2)), (5, v3), (6, v4), (7, (.int .i64 (w64 (x9 + 1))))]) ⟨rfl, rfl, rfl, rfl, rfl, trivial⟩ ?_
    exact ⟨k1, Nat.lt_succ_self _, w64 (x9 + 1), rfl, ((Keep.of hB9).then hB10).below, hC22, hL1⟩
   replace hL1 := ite_f hL1 hc6
   refine W_exit (nrm_exit (nrm_exit (blk_exit ?_)))
   have hq13 := Option.some.inj hL1
   subst hq13
   have hC26 := hC21.h0
   refine nrm_sub (l' := [(0, u1)]) ⟨rfl, trivial⟩ ?_
   exact ⟨rfl, rfl, (Keep.of hB9).below, hC26⟩
 rintro l4 _ w16 hs4 ⟨rfl, rfl, hB15, hC27⟩
 try dsimp only at hF
 refine nrm_sub' hs4 ?_
 clear hs4
 refine W_seq_reg ?_
 refine WL_move rfl rfl ?_
 obtain ⟨x17, hr12, hF⟩ := bind_some hF
 refine WL_call Tryz.call17 rfl rfl (c_S_DrawPageAt a1 u1 (g1.now hC27.keep) x17 hr12) ?_
 rintro _ w17 ⟨hB16, v11, v12, v13, F6, F7, F8, rfl, hv10, hv11, hv12, hn6, hb6⟩
 obtain ⟨rfl, rfl⟩ := val_int hv11
 obtain ⟨rfl, rfl⟩ := val_int hv12
 have hC28 := hC27.pushL hB16 (Bs := [Item.own v11 x17.1]) (Fs := [F6]) ⟨F6, _, rfl, hv10, rfl⟩ (by simpa using hn6) (fun b h => hb6 b (by simpa using h))
 refine WL_move rfl rfl ?_
 refine WL_extract rfl rfl rfl ?_
 refine WL_extract rfl rfl rfl ?_
 refine WL_extract rfl rfl rfl ?_
 refine WL_assign rfl rfl ?_
 refine WL_assign rfl rfl ?_
 refine WL_assign rfl rfl ?_
 refine WL_nil (W_seq_reg ?_)
 refine WL_move rfl rfl ?_
 refine WL_move rfl rfl ?_
 refine WL_move rfl rfl ?_
 obtain ⟨x18, hr13, hF⟩ := bind_some hF
 refine WL_call Tryz.call18 rfl rfl (c_M_PageAt x17.1 v11 ((hC28.ro 0 rfl).now (Keep.refl _ _)) x17.2.1 x17.2.2 x18 hr13) ?_
 rintro _ w18 ⟨hB17, v14, v15, v16, F9, F10, F11, rfl, hv13, hv14, hv15, hn7, hb7⟩
 obtain ⟨rfl, rfl⟩ := val_int hv14
 obtain ⟨rfl, rfl⟩ := val_bool hv15
 have hC29 := hC28.pushL hB17 (Bs := [Item.own v14 x18.1]) (Fs := [F9]) ⟨F9, _, rfl, hv13, rfl⟩ (by simpa using hn7) (fun b h => hb7 b (by simpa using h))
 refine WL_move rfl rfl ?_
 refine WL_extract rfl rfl rfl ?_
 refine WL_extract rfl rfl rfl ?_
 refine WL_extract rfl rfl rfl ?_
 refine WL_assign rfl rfl ?_
 refine WL_assign rfl rfl ?_
 refine WL_assign rfl rfl ?_
 refine WL_nil (W_seq_reg ?_)
 refine WL_move rfl rfl ?_
 refine WL_move rfl rfl ?_
 refine WL_move rfl rfl ?_
 obtain ⟨x19, hr14, hF⟩ := bind_some hF
 refine WL_call Tryz.call19 rfl rfl (c_S_PageAt x17.1 v11 ((hC29.ro 1 rfl).now (Keep.refl _ _)) x17.2.1 x17.2.2 x19 hr14) ?_
 rintro _ w19 ⟨hB18, v17, v18, v19, F12, F13, F14, rfl, hv16, hv17, hv18, hn8, hb8⟩
 obtain ⟨rfl, rfl⟩ := val_int hv17
 obtain ⟨rfl, rfl⟩ := val_bool hv18
 have hC30 := hC29.pushL hB18 (Bs := [Item.own v17 x19.1]) (Fs := [F12]) ⟨F12, _, rfl, hv16, rfl⟩ (by simpa using hn8) (fun b h => hb8 b (by simpa using h))
 refine WL_move rfl rfl ?_
 refine WL_extract rfl rfl rfl ?_
 refine WL_extract rfl rfl rfl ?_
 refine WL_extract rfl rfl rfl ?_
 refine WL_assign rfl rfl ?_
 refine WL_assign rfl rfl ?_
 refine WL_assign rfl rfl ?_
 refine WL_nil (W_seq_reg ?_)
 refine WL_move rfl rfl ?_
 obtain ⟨x20, hr15, hF⟩ := bind_some hF
 refine WL_call Tryz.call20 rfl rfl (c_S_DrawCountPages a1 u1 (g1.now hC30.keep) x20 hr15) ?_
 rintro _ w20 ⟨hB19, v20, v21, F15, F16, rfl, hv19, hv20, hn9, hb9⟩
 obtain ⟨rfl, rfl⟩ := val_int hv19
 obtain ⟨rfl, rfl⟩ := val_int hv20
 have hC31 := hC30.grow hB19
 refine WL_move rfl rfl ?_
 refine WL_extract rfl rfl rfl ?_
 refine WL_extract rfl rfl rfl ?_
 refine WL_assign rfl rfl ?_
 refine WL_assign rfl rfl ?_
 refine WL_nil (W_seq_reg ?_)
 refine WL_move rfl rfl ?_
 obtain ⟨x21, hr16, hF⟩ := bind_some hF
 refine WL_call Tryz.call21 rfl rfl (c_S_DrawFormatCursor a1 u1 (g1.now hC31.keep) x21 hr16) ?_
 rintro v22 w21 ⟨hB20, F17, hv21, hn10, hb10⟩
 have hC32 := hC31.push hB20 (A := Item.own v22 x21) hv21 hn10 hb10
 obtain ⟨v23, rfl, hC33⟩ := st26_own hC32
 refine WL_allocK hC33 zero26 rfl rfl (fun b6 w22 hC34 hB21 hN1 => ?_)
 refine WL_store_box_aggK (cs' := [(.int .i64 x21.1.1), v23, (.int .i64 x21.2.1), (.int .i64 x21.2.2)]) (new := [(.int .i64 x21.1.1), v23, (.int .i64 x21.2.1), (.int .i64 x21.2.2)]) hC34 0 rfl rfl (by intro v hv; simp only [List.mem_cons, List.not_mem_nil, or_false] at hv; rcases hv with rfl | rfl | rfl | rfl; exact rfl; exact (ro_one (hC34.ro 1 rfl)); exact rfl; exact rfl) rfl Tryz.sizeOf26 rfl rfl (fun w23 hC35 hKp1 => ?_)
 try dsimp only [List.set] at hC35
 have hk1 := Keep.over ((((((((((((Keep.of hB1).then hB2).then hB3).then hB4).then hB5).then hB15).then hB16).then hB17).then hB18).then hB19).then hB20).then hB21) (Nat.le_trans (((((((((((Keep.of hB1).then hB2).then hB3).then hB4).then hB5).then hB15).then hB16).then hB17).then hB18).then hB19).then hB20).size hN1) hKp1
 have hk2 := Keep.over (((((((((((Keep.of hB2).then hB3).then hB4).then hB5).then hB15).then hB16).then hB17).then hB18).then hB19).then hB20).then hB21) (Nat.le_trans ((((((((((Keep.of hB2).then hB3).then hB4).then hB5).then hB15).then hB16).then hB17).then hB18).then hB19).then hB20).size hN1) hKp1
 have hk3 := Keep.over ((((((((((Keep.of hB3).then hB4).then hB5).then hB15).then hB16).then hB17).then hB18).then hB19).then hB20).then hB21) (Nat.le_trans (((((((((Keep.of hB3).then hB4).then hB5).then hB15).then hB16).then hB17).then hB18).then hB19).then hB20).size hN1) hKp1
 have hk4 := Keep.over (((((((((Keep.of hB4).then hB5).then hB15).then hB16).then hB17).then hB18).then hB19).then hB20).then hB21) (Nat.le_trans ((((((((Keep.of hB4).then hB5).then hB15).then hB16).then hB17).then hB18).then hB19).then hB20).size hN1) hKp1
 have hk5 := Keep.over ((((((((Keep.of hB5).then hB15).then hB16).then hB17).then hB18).then hB19).then hB20).then hB21) (Nat.le_trans (((((((Keep.of hB5).then hB15).then hB16).then hB17).then hB18).then hB19).then hB20).size hN1) hKp1
 have hk6 := Keep.over (((((((Keep.of hB15).then hB16).then hB17).then hB18).then hB19).then hB20).then hB21) (Nat.le_trans ((((((Keep.of hB15).then hB16).then hB17).then hB18).then hB19).then hB20).size hN1) hKp1
 have hk7 := Keep.over ((((((Keep.of hB16).then hB17).then hB18).then hB19).then hB20).then hB21) (Nat.le_trans (((((Keep.of hB16).then hB17).then hB18).then hB19).then hB20).size hN1) hKp1
 have hk8 := Keep.over (((((Keep.of hB17).then hB18).then hB19).then hB20).then hB21) (Nat.le_trans ((((Keep.of hB17).then hB18).then hB19).then hB20).size hN1) hKp1
 have hk9 := Keep.over ((((Keep.of hB18).then hB19).then hB20).then hB21) (Nat.le_trans (((Keep.of hB18).then hB19).then hB20).size hN1) hKp1
 have hk10 := Keep.over (((Keep.of hB19).then hB20).then hB21) (Nat.le_trans ((Keep.of hB19).then hB20).size hN1) hKp1
 have hk11 := Keep.over ((Keep.of hB20).then hB21) (Nat.le_trans (Keep.of hB20).size hN1) hKp1
 have hk12 := Keep.over (Keep.of hB21) hN1 hKp1
 refine WL_nil (W_seq_reg ?_)
 refine WL_load_box_agg [(.int .i64 x21.1.1), v23, (.int .i64 x21.2.1), (.int .i64 x21.2.2)] hC35 0 rfl rfl rfl Tryz.isAgg26 Tryz.sizeOf26 rfl rfl ?_
 obtain ⟨x22, hr17, hF⟩ := bind_some hF
 refine WL_call Tryz.call22 rfl rfl (c_M_FormatCursor (hT.keep hC35.keep) ((x21.1.1, x21.1.2), x21.2.1, x21.2.2) v23 ((hC35.ro 1 rfl).now (Keep.refl _ _)) x22 hr17) ?_
 intro _ w24 hv22
 obtain ⟨rfl, hB22⟩ := res_str hv22
 have hC36 := hC35.grow hB22
 refine WL_assign rfl rfl ?_
 refine WL_nil (W_seq_reg ?_)
 refine WL_move rfl rfl ?_
 obtain ⟨x23, hr18, hF⟩ := bind_some hF
 refine WL_call Tryz.call6 rfl rfl (c_M_ParseCursor (hT.keep hC36.keep) x22 x23 hr18) ?_
 rintro _ w25 ⟨hB23, v24, v25, F18, F19, rfl, hv23, hv24, hn11, hb11⟩
 obtain ⟨rfl, rfl⟩ := val_bool hv24
 have hC37 := hC36.pushL hB23 (Bs := [Item.own v24 x23.1]) (Fs := [F18]) ⟨F18, _, rfl, hv23, rfl⟩ (by simpa using hn11) (fun b h => hb11 b (by simpa using h))
 obtain ⟨v26, rfl, hC38⟩ := st26_own hC37
 refine WL_move rfl rfl ?_
 refine WL_extract rfl rfl rfl ?_
 refine WL_extract rfl rfl rfl ?_
 refine WL_allocK hC38 zero26 rfl rfl (fun b7 w26 hC39 hB24 hN2 => ?_)
 refine WL_store_box_aggK (cs' := [(.int .i64 x23.1.1.1), v26, (.int .i64 x23.1.2.1), (.int .i64 x23.1.2.2)]) (new := [(.int .i64 x23.1.1.1), v26, (.int .i64 x23.1.2.1), (.int .i64 x23.1.2.2)]) hC39 0 rfl rfl (by intro v hv; simp only [List.mem_cons, List.not_mem_nil, or_false] at hv; rcases hv with rfl | rfl | rfl | rfl; exact rfl; exact (ro_one (hC39.ro 1 rfl)); exact rfl; exact rfl) rfl Tryz.sizeOf26 rfl rfl (fun w27 hC40 hKp2 => ?_)
 try dsimp only [List.set] at hC40
 have hk13 := Keep.over (((hk1.then hB22).then hB23).then hB24) (Nat.le_trans ((hk1.then hB22).then hB23).size hN2) hKp2
 have hk14 := Keep.over (((hk2.then hB22).then hB23).then hB24) (Nat.le_trans ((hk2.then hB22).then hB23).size hN2) hKp2
 have hk15 := Keep.over (((hk3.then hB22).then hB23).then hB24) (Nat.le_trans ((hk3.then hB22).then hB23).size hN2) hKp2
 have hk16 := Keep.over (((hk4.then hB22).then hB23).then hB24) (Nat.le_trans ((hk4.then hB22).then hB23).size hN2) hKp2
 have hk17 := Keep.over (((hk5.then hB22).then hB23).then hB24) (Nat.le_trans ((hk5.then hB22).then hB23).size hN2) hKp2
 have hk18 := Keep.over (((hk6.then hB22).then hB23).then hB24) (Nat.le_trans ((hk6.then hB22).then hB23).size hN2) hKp2
 have hk19 := Keep.over (((hk7.then hB22).then hB23).then hB24) (Nat.le_trans ((hk7.then hB22).then hB23).size hN2) hKp2
 have hk20 := Keep.over (((hk8.then hB22).then hB23).then hB24) (Nat.le_trans ((hk8.then hB22).then hB23).size hN2) hKp2
 have hk21 := Keep.over (((hk9.then hB22).then hB23).then hB24) (Nat.le_trans ((hk9.then hB22).then hB23).size hN2) hKp2
 have hk22 := Keep.over (((hk10.then hB22).then hB23).then hB24) (Nat.le_trans ((hk10.then hB22).then hB23).size hN2) hKp2
 have hk23 := Keep.over (((hk11.then hB22).then hB23).then hB24) (Nat.le_trans ((hk11.then hB22).then hB23).size hN2) hKp2
 have hk24 := Keep.over (((hk12.then hB22).then hB23).then hB24) (Nat.le_trans ((hk12.then hB22).then hB23).size hN2) hKp2
 have hk25 := Keep.over (((Keep.of hB22).then hB23).then hB24) (Nat.le_trans ((Keep.of hB22).then hB23).size hN2) hKp2
 have hk26 := Keep.over ((Keep.of hB23).then hB24) (Nat.le_trans (Keep.of hB23).size hN2) hKp2
 have hk27 := Keep.over (Keep.of hB24) hN2 hKp2
 refine WL_assign rfl rfl ?_
 refine WL_nil (W_seq_reg ?_)
 refine WL_move rfl rfl ?_
 obtain ⟨x24, hr19, hF⟩ := bind_some hF
 refine WL_call Tryz.call23 rfl rfl (c_S_DrawParseCursor a1 u1 (g1.now hC40.keep) x24 hr19) ?_
 intro _ w28 hv25
 obtain ⟨rfl, hB25⟩ := res_str hv25
 have hC41 := hC40.grow hB25
 refine WL_assign rfl rfl ?_
 refine WL_nil (W_seq_reg ?_)
 refine WL_move rfl rfl ?_
 obtain ⟨x25, hr20, hF⟩ := bind_some hF
 refine WL_call Tryz.call6 rfl rfl (c_M_ParseCursor (hT.keep hC41.keep) x24 x25 hr20) ?_
 rintro _ w29 ⟨hB26, v27, v28, F20, F21, rfl, hv26, hv27, hn12, hb12⟩
 obtain ⟨rfl, rfl⟩ := val_bool hv27
 have hC42 := hC41.pushL hB26 (Bs := [Item.own v27 x25.1]) (Fs := [F20]) ⟨F20, _, rfl, hv26, rfl⟩ (by simpa using hn12) (fun b h => hb12 b (by simpa using h))
 obtain ⟨v29, rfl, hC43⟩ := st26_own hC42
 refine WL_move rfl rfl ?_
 refine WL_extract rfl rfl rfl ?_
 refine WL_extract rfl rfl rfl ?_
 refine WL_allocK hC43 zero26 rfl rfl (fun b8 w30 hC44 hB27 hN3 => ?_)
 refine WL_store_box_aggK (cs' := [(.int .i64 x25.1.1.1), v29, (.int .i64 x25.1.2.1), (.int .i64 x25.1.2.2)]) (new := [(.int .i64 x25.1.1.1), v29, (.int .i64 x25.1.2.1), (.int .i64 x25.1.2.2)]) hC44 0 rfl rfl (by intro v hv; simp only [List.mem_cons, List.not_mem_nil, or_false] at hv; rcases hv with rfl | rfl | rfl | rfl; exact rfl; exact (ro_one (hC44.ro 1 rfl)); exact rfl; exact rfl) rfl Tryz.sizeOf26 rfl rfl (fun w31 hC45 hKp3 => ?_)
 try dsimp only [List.set] at hC45
 have hk28 := Keep.over (((hk13.then hB25).then hB26).then hB27) (Nat.le_trans ((hk13.then hB25).then hB26).size hN3) hKp3
 have hk29 := Keep.over (((hk14.then hB25).then hB26).then hB27) (Nat.le_trans ((hk14.then hB25).then hB26).size hN3) hKp3
 have hk30 := Keep.over (((hk15.then hB25).then hB26).then hB27) (Nat.le_trans ((hk15.then hB25).then hB26).size hN3) hKp3
 have hk31 := Keep.over (((hk16.then hB25).then hB26).then hB27) (Nat.le_trans ((hk16.then hB25).then hB26).size hN3) hKp3
 have hk32 := Keep.over (((hk17.then hB25).then hB26).then hB27) (Nat.le_trans ((hk17.then hB25).then hB26).size hN3) hKp3
 have hk33 := Keep.over (((hk18.then hB25).then hB26).then hB27) (Nat.le_trans ((hk18.then hB25).then hB26).size hN3) hKp3
 have hk34 := Keep.over (((hk19.then hB25).then hB26).then hB27) (Nat.le_trans ((hk19.then hB25).then hB26).size hN3) hKp3
 have hk35 := Keep.over (((hk20.then hB25).then hB26).then hB27) (Nat.le_trans ((hk20.then hB25).then hB26).size hN3) hKp3
 have hk36 := Keep.over (((hk21.then hB25).then hB26).then hB27) (Nat.le_trans ((hk21.then hB25).then hB26).size hN3) hKp3
 have hk37 := Keep.over (((hk22.then hB25).then hB26).then hB27) (Nat.le_trans ((hk22.then hB25).then hB26).size hN3) hKp3
 have hk38 := Keep.over (((hk23.then hB25).then hB26).then hB27) (Nat.le_trans ((hk23.then hB25).then hB26).size hN3) hKp3
 have hk39 := Keep.over (((hk24.then hB25).then hB26).then hB27) (Nat.le_trans ((hk24.then hB25).then hB26).size hN3) hKp3
 have hk40 := Keep.over (((hk25.then hB25).then hB26).then hB27) (Nat.le_trans ((hk25.then hB25).then hB26).size hN3) hKp3
 have hk41 := Keep.over (((hk26.then hB25).then hB26).then hB27) (Nat.le_trans ((hk26.then hB25).then hB26).size hN3) hKp3
 have hk42 := Keep.over (((hk27.then hB25).then hB26).then hB27) (Nat.le_trans ((hk27.then hB25).then hB26).size hN3) hKp3
 have hk43 := Keep.over (((Keep.of hB25).then hB26).then hB27) (Nat.le_trans ((Keep.of hB25).then hB26).size hN3) hKp3
 have hk44 := Keep.over ((Keep.of hB26).then hB27) (Nat.le_trans (Keep.of hB26).size hN3) hKp3
 have hk45 := Keep.over (Keep.of hB27) hN3 hKp3
 refine WL_assign rfl rfl ?_
 refine WL_nil (W_seq_reg ?_)
 refine WL_move rfl rfl ?_
 obtain ⟨x26, hr21, hF⟩ := bind_some hF
 refine WL_call Tryz.call5 rfl rfl (c_S_ParseCursor x24 x26 hr21) ?_
 rintro _ w32 ⟨hB28, v30, v31, F22, F23, rfl, hv28, hv29, hn13, hb13⟩
 obtain ⟨rfl, rfl⟩ := val_bool hv29
 have hC46 := hC45.pushL hB28 (Bs := [Item.own v30 x26.1]) (Fs := [F22]) ⟨F22, _, rfl, hv28, rfl⟩ (by simpa using hn13) (fun b h => hb13 b (by simpa using h))
 obtain ⟨v32, rfl, hC47⟩ := st26_own hC46
 refine WL_move rfl rfl ?_
 refine WL_extract rfl rfl rfl ?_
 refine WL_extract rfl rfl rfl ?_
 refine WL_allocK hC47 zero26 rfl rfl (fun b9 w33 hC48 hB29 hN4 => ?_)
 refine WL_store_box_aggK (cs' := [(.int .i64 x26.1.1.1), v32, (.int .i64 x26.1.2.1), (.int .i64 x26.1.2.2)]) (new := [(.int .i64 x26.1.1.1), v32, (.int .i64 x26.1.2.1), (.int .i64 x26.1.2.2)]) hC48 0 rfl rfl (by intro v hv; simp only [List.mem_cons, List.not_mem_nil, or_false] at hv; rcases hv with rfl | rfl | rfl | rfl; exact rfl; exact (ro_one (hC48.ro 1 rfl)); exact rfl; exact rfl) rfl Tryz.sizeOf26 rfl rfl (fun w34 hC49 hKp4 => ?_)
 try dsimp only [List.set] at hC49
 have hk46 := Keep.over ((hk28.then hB28).then hB29) (Nat.le_trans (hk28.then hB28).size hN4) hKp4
 have hk47 := Keep.over ((hk29.then hB28).then hB29) (Nat.le_trans (hk29.then hB28).size hN4) hKp4
 have hk48 := Keep.over ((hk30.then hB28).then hB29) (Nat.le_trans (hk30.then hB28).size hN4) hKp4
 have hk49 := Keep.over ((hk31.then hB28).then hB29) (Nat.le_trans (hk31.then hB28).size hN4) hKp4
 have hk50 := Keep.over ((hk32.then hB28).then hB29) (Nat.le_trans (hk32.then hB28).size hN4) hKp4
 have hk51 := Keep.over ((hk33.then hB28).then hB29) (Nat.le_trans (hk33.then hB28).size hN4) hKp4
 have hk52 := Keep.over ((hk34.then hB28).then hB29) (Nat.le_trans (hk34.then hB28).size hN4) hKp4
 have hk53 := Keep.over ((hk35.then hB28).then hB29) (Nat.le_trans (hk35.then hB28).size hN4) hKp4
 have hk54 := Keep.over ((hk36.then hB28).then hB29) (Nat.le_trans (hk36.then hB28).size hN4) hKp4
 have hk55 := Keep.over ((hk37.then hB28).then hB29) (Nat.le_trans (hk37.then hB28).size hN4) hKp4
 have hk56 := Keep.over ((hk38.then hB28).then hB29) (Nat.le_trans (hk38.then hB28).size hN4) hKp4
 have hk57 := Keep.over ((hk39.then hB28).then hB29) (Nat.le_trans (hk39.then hB28).size hN4) hKp4
 have hk58 := Keep.over ((hk40.then hB28).then hB29) (Nat.le_trans (hk40.then hB28).size hN4) hKp4
 have hk59 := Keep.over ((hk41.then hB28).then hB29) (Nat.le_trans (hk41.then hB28).size hN4) hKp4
 have hk60 := Keep.over ((hk42.then hB28).then hB29) (Nat.le_trans (hk42.then hB28).size hN4) hKp4
 have hk61 := Keep.over ((hk43.then hB28).then hB29) (Nat.le_trans (hk43.then hB28).size hN4) hKp4
 have hk62 := Keep.over ((hk44.then hB28).then hB29) (Nat.le_trans (hk44.then hB28).size hN4) hKp4
 have hk63 := Keep.over ((hk45.then hB28).then hB29) (Nat.le_trans (hk45.then hB28).size hN4) hKp4
 have hk64 := Keep.over ((Keep.of hB28).then hB29) (Nat.le_trans (Keep.of hB28).size hN4) hKp4
 have hk65 := Keep.over (Keep.of hB29) hN4 hKp4
 refine WL_assign rfl rfl ?_
 refine WL_nil ?_
 obtain ⟨r4, hr22, hF⟩ := bind_some hF
 refine W_cut (fun l w => ∃ x27 : Bool, x27 = r4 ∧ l = [(2, (.bool x27))] ∧ Below w34.heap.size w34 w ∧ Ctx [] w0 w []) ?_ ?_
 ·refine W_reg ?_
  refine WL_move rfl rfl ?_
  refine WL_move rfl rfl ?_
  refine WL_bool_eql Tryz.underlying4 rfl rfl rfl ?_
  refine WL_move rfl rfl ?_
  refine WL_fork (fun hc11 => ?_) (fun hc11 => ?_)
  ·replace hr22 := ite_t hr22 hc11
   refine WL_guard rfl rfl ?_
   refine WL_move rfl rfl ?_
   refine WL_guard rfl rfl ?_
   refine WL_move rfl rfl ?_
   refine WL_guard rfl rfl ?_
   refine WL_eql rfl rfl rfl ?_
   refine WL_pick_t rfl rfl rfl ?_
   refine WL_move rfl rfl ?_
   refine WL_fork (fun hc12 => ?_) (fun hc12 => ?_)
   ·replace hr22 := ite_t hr22 hc12
    refine WL_guard rfl rfl ?_
    refine WL_move rfl rfl ?_
    refine WL_guard rfl rfl ?_
    refine WL_move rfl rfl ?_
    obtain ⟨x28, hr23, hr22⟩ := bind_some hr22
    refine WL_guard rfl rfl ?_
    refine WL_call Tryz.call14 rfl rfl (c_S_SameFacts x18.1 v14 ((hC49.ro 9 rfl).now (Keep.refl _ _)) x19.1 v17 ((hC49.ro 8 rfl).now (Keep.refl _ _)) x28 hr23) ?_
    intro _ w36 hv30
    obtain ⟨rfl, hB31⟩ := res_bool hv30
    have hC51 := hC49.grow hB31
    refine WL_pick_t rfl rfl rfl ?_
    refine WL_move rfl rfl ?_
    refine WL_fork (fun hc13 => ?_) (fun hc13 => ?_)
    ·replace hr22 := ite_t hr22 hc13
     refine WL_guard rfl rfl ?_
     refine WL_move rfl rfl ?_
     refine WL_guard rfl rfl ?_
     refine WL_move rfl rfl ?_
     obtain ⟨x29, hr24, hr22⟩ := bind_some hr22
     refine WL_guard rfl rfl ?_
     refine WL_call Tryz.call16 rfl rfl (c_M_CountPages x20.1 x20.2 x29 hr24) ?_
     intro _ w37 hv31
     obtain ⟨rfl, hB32⟩ := res_int hv31
     have hC52 := hC51.grow hB32
     refine WL_guard rfl rfl ?_
     refine WL_move rfl rfl ?_
     refine WL_guard rfl rfl ?_
     refine WL_move rfl rfl ?_
     obtain ⟨x30, hr25, hr22⟩ := bind_some hr22
     refine WL_guard rfl rfl ?_
     refine WL_call Tryz.call24 rfl rfl (c_S_CountPages x20.1 x20.2 x30 hr25) ?_
     intro _ w38 hv32
     obtain ⟨rfl, hB33⟩ := res_int hv32
     have hC53 := hC52.grow hB33
     refine WL_guard rfl rfl ?_
     refine WL_eql rfl rfl rfl ?_
     refine WL_pick_t rfl rfl rfl ?_
     refine WL_move rfl rfl ?_
     refine WL_fork (fun hc14 => ?_) (fun hc14 => ?_)
     ·replace hr22 := ite_t hr22 hc14
      refine WL_guard rfl rfl ?_
      refine WL_move rfl rfl ?_
      refine WL_guard rfl rfl ?_
      refine WL_load_box_agg [(.int .i64 x21.1.1), v23, (.int .i64 x21.2.1), (.int .i64 x21.2.2)] hC53 6 rfl rfl rfl Tryz.isAgg26 Tryz.sizeOf26 rfl rfl ?_
      obtain ⟨x31, hr26, hr22⟩ := bind_some hr22
      refine WL_guard rfl rfl ?_
      refine WL_call Tryz.call25 rfl rfl (c_S_FormatCursor ((x21.1.1, x21.1.2), x21.2.1, x21.2.2) v23 ((hC53.ro 7 rfl).now (Keep.refl _ _)) x31 hr26) ?_
      intro _ w39 hv33
      obtain ⟨rfl, hB34⟩ := res_str hv33
      have hC54 := hC53.grow hB34
      refine WL_guard rfl rfl ?_
      refine WL_str_eql rfl rfl rfl ?_
      refine WL_pick_t rfl rfl rfl ?_
      refine WL_move rfl rfl ?_
      refine WL_fork (fun hc15 => ?_) (fun hc15 => ?_)
      ·replace hr22 := ite_t hr22 hc15
       refine WL_guard rfl rfl ?_
       refine WL_move rfl rfl ?_
       refine WL_guard rfl rfl ?_
       refine WL_load_box_agg [(.int .i64 x21.1.1), v23, (.int .i64 x21.2.1), (.int .i64 x21.2.2)] hC54 6 rfl rfl rfl Tryz.isAgg26 Tryz.sizeOf26 rfl rfl ?_
       obtain ⟨x32, hr27, hr22⟩ := bind_some hr22
       refine WL_guard rfl rfl ?_
       refine WL_call Tryz.call25 rfl rfl (c_S_FormatCursor ((x21.1.1, x21.1.2), x21.2.1, x21.2.2) v23 ((hC54.ro 7 rfl).now (Keep.refl _ _)) x32 hr27) ?_
       intro _ w40 hv34
       obtain ⟨rfl, hB35⟩ := res_str hv34
       have hC55 := hC54.grow hB35
       refine WL_guard rfl rfl ?_
       refine WL_str_neq rfl rfl rfl ?_
       refine WL_guard rfl rfl ?_
       refine WL_bool_eql Tryz.underlying4 rfl rfl rfl ?_
       refine WL_pick_t rfl rfl rfl ?_
       refine WL_move rfl rfl ?_
       refine WL_fork (fun hc16 => ?_) (fun hc16 => ?_)
       ·replace hr22 := ite_t hr22 hc16
        refine WL_guard rfl rfl ?_
        refine WL_move rfl rfl ?_
        refine WL_guard rfl rfl ?_
        refine WL_not rfl rfl ?_
        refine WL_guard rfl rfl ?_
        refine WL_move rfl rfl ?_
        refine WL_fork (fun hc17 => ?_) (fun hc17 => ?_)
        ·replace hr22 := ite_t hr22 hc17
         refine WL_guard_skip rfl rfl (by simp) rfl ?_
         refine WL_guard_skip rfl rfl (by simp) rfl ?_
         refine WL_guard_skip rfl rfl (by simp) rfl ?_
         refine WL_guard_skip rfl rfl (by simp) rfl ?_
         refine WL_guard rfl rfl ?_
         refine WL_pick_t rfl rfl rfl ?_
         refine WL_pick_t rfl rfl rfl ?_
         refine WL_move rfl rfl ?_
         refine WL_guard rfl rfl ?_
         refine WL_move rfl rfl ?_
         refine WL_guard rfl rfl ?_
         refine WL_move rfl rfl ?_
         refine WL_guard rfl rfl ?_
         refine WL_bool_eql Tryz.underlying4 rfl rfl rfl ?_
         refine WL_pick_t rfl rfl rfl ?_
         refine WL_assign rfl rfl ?_
         refine WL_nil ?_
         have hq14 := Option.some.inj hr22
         subst hq14
         have hC56 := hC55.h0
         refine nrm_sub (l' := [(2, (.bool (decide (x25.2 = x26.2))))]) ⟨rfl, trivial⟩ ?_
         exact ⟨(decide (x25.2 = x26.2)), rfl, rfl, (((((Keep.of hB31).then hB32).then hB33).then hB34).then hB35).below, hC56⟩
        replace hr22 := ite_f hr22 hc17
        refine WL_guard rfl rfl ?_
        refine WL_load_box_agg [(.int .i64 x23.1.1.1), v26, (.int .i64 x23.1.2.1), (.int .i64 x23.1.2.2)] hC55 4 rfl rfl rfl Tryz.isAgg26 Tryz.sizeOf26 rfl rfl ?_
        obtain ⟨x33, hr28, hr22⟩ := bind_some hr22
        refine WL_guard rfl rfl ?_
        refine WL_call Tryz.call22 rfl rfl (c_M_FormatCursor (hT.keep hC55.keep) ((x23.1.1.1, x23.1.1.2), x23.1.2.1, x23.1.2.2) v26 ((hC55.ro 5 rfl).now (Keep.refl _ _)) x33 hr28) ?_
        intro _ w41 hv35
        obtain ⟨rfl, hB36⟩ := res_str hv35
        have hC57 := hC55.grow hB36
        refine WL_guard rfl rfl ?_
        refine WL_move rfl rfl ?_
        refine WL_guard rfl rfl ?_
        refine WL_str_eql rfl rfl rfl ?_
        refine WL_guard rfl rfl ?_
        refine WL_pick_f rfl rfl rfl ?_
        refine WL_pick_t rfl rfl rfl ?_
        refine WL_move rfl rfl ?_
        refine WL_fork (fun hc18 => ?_) (fun hc18 => ?_)
        ·replace hr22 := ite_t hr22 hc18
         refine WL_guard rfl rfl ?_
         refine WL_move rfl rfl ?_
         refine WL_guard rfl rfl ?_
         refine WL_move rfl rfl ?_
         refine WL_guard rfl rfl ?_
         refine WL_bool_eql Tryz.underlying4 rfl rfl rfl ?_
         refine WL_pick_t rfl rfl rfl ?_
         refine WL_assign rfl rfl ?_
         refine WL_nil ?_
         have hq15 := Option.some.inj hr22
         subst hq15
         have hC58 := hC57.h0
         refine nrm_sub (l' := [(2, (.bool (decide (x25.2 = x26.2))))]) ⟨rfl, trivial⟩ ?_
         exact ⟨(decide (x25.2 = x26.2)), rfl, rfl, ((((((Keep.of hB31).then hB32).then hB33).then hB34).then hB35).then hB36).below, hC58⟩
        replace hr22 := ite_f hr22 hc18
        refine WL_guard_skip rfl rfl (by simp) rfl ?_
        refine WL_guard_skip rfl rfl (by simp) rfl ?_
        refine WL_guard_skip rfl rfl (by simp) rfl ?_
        refine WL_pick_f rfl rfl rfl ?_
        refine WL_assign rfl rfl ?_
        refine WL_nil ?_
        have hq16 := Option.some.inj hr22
        subst hq16
        have hC59 := hC57.h0
        refine nrm_sub (l' := [(2, (.bool false))]) ⟨rfl, trivial⟩ ?_
        exact ⟨false, rfl, rfl, ((((((Keep.of hB31).then hB32).then hB33).then hB34).then hB35).then hB36).below, hC59⟩
       replace hr22 := ite_f hr22 hc16
       refine WL_guard_skip rfl rfl (by simp) rfl ?_
       refine WL_guard_skip rfl rfl (by simp) rfl ?_
       refine WL_guard_skip rfl rfl (by simp) rfl ?_
       refine WL_guard_skip rfl rfl (by simp [undef]) rfl ?_
       refine WL_guard_skip rfl rfl (by simp [undef]) rfl ?_
       refine WL_guard_skip rfl rfl (by simp [undef]) rfl ?_
       refine WL_guard_skip rfl rfl (by simp [undef]) rfl ?_
       refine WL_guard_skip rfl rfl (by simp) rfl ?_
       refine WL_pick_f rfl rfl rfl ?_
       refine WL_move rfl rfl ?_
       refine WL_guard_skip rfl rfl (by simp) rfl ?_
       refine WL_guard_skip rfl rfl (by simp) rfl ?_
       refine WL_guard_skip rfl rfl (by simp) rfl ?_
       refine WL_pick_f rfl rfl rfl ?_
       refine WL_assign rfl rfl ?_
       refine WL_nil ?_
       have hq17 := Option.some.inj hr22
       subst hq17
       have hC60 := hC55.h0
       refine nrm_sub (l' := [(2, (.bool false))]) ⟨rfl, trivial⟩ ?_
       exact ⟨false, rfl, rfl, (((((Keep.of hB31).then hB32).then hB33).then hB34).then hB35).below, hC60⟩
      replace hr22 := ite_f hr22 hc15
      refine WL_guard_skip rfl rfl (by simp) rfl ?_
      refine WL_guard_skip rfl rfl (by simp) rfl ?_
      refine WL_guard_skip rfl rfl (by simp) rfl ?_
      refine WL_guard_skip rfl rfl (by simp) rfl ?_
      refine WL_guard_skip rfl rfl (by simp) rfl ?_
      refine WL_pick_f rfl rfl rfl ?_
      refine WL_move rfl rfl ?_
      refine WL_guard_skip rfl rfl (by simp) rfl ?_
      refine WL_guard_skip rfl rfl (by simp) rfl ?_
      refine WL_guard_skip rfl rfl (by simp) rfl ?_
      refine WL_guard_skip rfl rfl (by simp [undef]) rfl ?_
      refine WL_guard_skip rfl rfl (by simp [undef]) rfl ?_
      refine WL_guard_skip rfl rfl (by simp [undef]) rfl ?_
      refine WL_guard_skip rfl rfl (by simp [undef]) rfl ?_
      refine WL_guard_skip rfl rfl (by simp) rfl ?_
      refine WL_pick_f rfl rfl rfl ?_
      refine WL_move rfl rfl ?_
      refine WL_guard_skip rfl rfl (by simp) rfl ?_
      refine WL_guard_skip rfl rfl (by simp) rfl ?_
      refine WL_guard_skip rfl rfl (by simp) rfl ?_
      refine WL_pick_f rfl rfl rfl ?_
      refine WL_assign rfl rfl ?_
      refine WL_nil ?_
      have hq18 := Option.some.inj hr22
      subst hq18
      have hC61 := hC54.h0
      refine nrm_sub (l' := [(2, (.bool false))]) ⟨rfl, trivial⟩ ?_
      exact ⟨false, rfl, rfl, ((((Keep.of hB31).then hB32).then hB33).then hB34).below, hC61⟩
     replace hr22 := ite_f hr22 hc14
     refine WL_guard_skip rfl rfl (by simp) rfl ?_
     refine WL_guard_skip rfl rfl (by simp) rfl ?_
     refine WL_guard_skip rfl rfl (by simp) rfl ?_
     refine WL_guard_skip rfl rfl (by simp) rfl ?_
     refine WL_pick_f rfl rfl rfl ?_
     refine WL_move rfl rfl ?_
     refine WL_guard_skip rfl rfl (by simp) rfl ?_
     refine WL_guard_skip rfl rfl (by simp) rfl ?_
     refine WL_guard_skip rfl rfl (by simp) rfl ?_
     refine WL_guard_skip rfl rfl (by simp) rfl ?_
     refine WL_guard_skip rfl rfl (by simp) rfl ?_
     refine WL_pick_f rfl rfl rfl ?_
     refine WL_move rfl rfl ?_
     refine WL_guard_skip rfl rfl (by simp) rfl ?_
     refine WL_guard_skip rfl rfl (by simp) rfl ?_
     refine WL_guard_skip rfl rfl (by simp) rfl ?_
     refine WL_guard_skip rfl rfl (by simp [undef]) rfl ?_
     refine WL_guard_skip rfl rfl (by simp [undef]) rfl ?_
     refine WL_guard_skip rfl rfl (by simp [undef]) rfl ?_
     refine WL_guard_skip rfl rfl (by simp [undef]) rfl ?_
     refine WL_guard_skip rfl rfl (by simp) rfl ?_
     refine WL_pick_f rfl rfl rfl ?_
     refine WL_move rfl rfl ?_
     refine WL_guard_skip rfl rfl (by simp) rfl ?_
     refine WL_guard_skip rfl rfl (by simp) rfl ?_
     refine WL_guard_skip rfl rfl (by simp) rfl ?_
     refine WL_pick_f rfl rfl rfl ?_
     refine WL_assign rfl rfl ?_
     refine WL_nil ?_
     have hq19 := Option.some.inj hr22
     subst hq19
     have hC62 := hC53.h0
     refine nrm_sub (l' := [(2, (.bool false))]) ⟨rfl, trivial⟩ ?_
     exact ⟨false, rfl, rfl, (((Keep.of hB31).then hB32).then hB33).below, hC62⟩
    replace hr22 := ite_f hr22 hc13
    refine WL_guard_skip rfl rfl (by simp) rfl ?_
    refine WL_guard_skip rfl rfl (by simp) rfl ?_
    refine WL_guard_skip rfl rfl (by simp) rfl ?_
    refine WL_guard_skip rfl rfl (by simp) rfl ?_
    refine WL_guard_skip rfl rfl (by simp) rfl ?_
    refine WL_guard_skip rfl rfl (by simp) rfl ?_
    refine WL_guard_skip rfl rfl (by simp) rfl ?_
    refine WL_pick_f rfl rfl rfl ?_
    refine WL_move rfl rfl ?_
    refine WL_guard_skip rfl rfl (by simp) rfl ?_
    refine WL_guard_skip rfl rfl (by simp) rfl ?_
    refine WL_guard_skip rfl rfl (by simp) rfl ?_
    refine WL_guard_skip rfl rfl (by simp) rfl ?_
    refine WL_pick_f rfl rfl rfl ?_
    refine WL_move rfl rfl ?_
    refine WL_guard_skip rfl rfl (by simp) rfl ?_
    refine WL_guard_skip rfl rfl (by simp) rfl ?_
    refine WL_guard_skip rfl rfl (by simp) rfl ?_
    refine WL_guard_skip rfl rfl (by simp) rfl ?_
    refine WL_guard_skip rfl rfl (by simp) rfl ?_
    refine WL_pick_f rfl rfl rfl ?_
    refine WL_move rfl rfl ?_
    refine WL_guard_skip rfl rfl (by simp) rfl ?_
    refine WL_guard_skip rfl rfl (by simp) rfl ?_
    refine WL_guard_skip rfl rfl (by simp) rfl ?_
    refine WL_guard_skip rfl rfl (by simp [undef]) rfl ?_
    refine WL_guard_skip rfl rfl (by simp [undef]) rfl ?_
    refine WL_guard_skip rfl rfl (by simp [undef]) rfl ?_
    refine WL_guard_skip rfl rfl (by simp [undef]) rfl ?_
    refine WL_guard_skip rfl rfl (by simp) rfl ?_
    refine WL_pick_f rfl rfl rfl ?_
    refine WL_move rfl rfl ?_
    refine WL_guard_skip rfl rfl (by simp) rfl ?_
    refine WL_guard_skip rfl rfl (by simp) rfl ?_
    refine WL_guard_skip rfl rfl (by simp) rfl ?_
    refine WL_pick_f rfl rfl rfl ?_
    refine WL_assign rfl rfl ?_
    refine WL_nil ?_
    have hq20 := Option.some.inj hr22
    subst hq20
    have hC63 := hC51.h0
    refine nrm_sub (l' := [(2, (.bool false))]) ⟨rfl, trivial⟩ ?_
    exact ⟨false, rfl, rfl, (Keep.of hB31).below, hC63⟩
   replace hr22 := ite_f hr22 hc12
   refine WL_guard_skip rfl rfl (by simp) rfl ?_
   refine WL_guard_skip rfl rfl (by simp) rfl ?_
   refine WL_guard_skip rfl rfl (by simp) rfl ?_
   refine WL_pick_f rfl rfl rfl ?_
   refine WL_move rfl rfl ?_
   refine WL_guard_skip rfl rfl (by simp) rfl ?_
   refine WL_guard_skip rfl rfl (by simp) rfl ?_
   refine WL_guard_skip rfl rfl (by simp) rfl ?_
   refine WL_guard_skip rfl rfl (by simp) rfl ?_
   refine WL_guard_skip rfl rfl (by simp) rfl ?_
   refine WL_guard_skip rfl rfl (by simp) rfl ?_
   refine WL_guard_skip rfl rfl (by simp) rfl ?_
   refine WL_pick_f rfl rfl rfl ?_
   refine WL_move rfl rfl ?_
   refine WL_guard_skip rfl rfl (by simp) rfl ?_
   refine WL_guard_skip rfl rfl (by simp) rfl ?_
   refine WL_guard_skip rfl rfl (by simp) rfl ?_
   refine WL_guard_skip rfl rfl (by simp) rfl ?_
   refine WL_pick_f rfl rfl rfl ?_
   refine WL_move rfl rfl ?_
   refine WL_guard_skip rfl rfl (by simp) rfl ?_
   refine WL_guard_skip rfl rfl (by simp) rfl ?_
   refine WL_guard_skip rfl rfl (by simp) rfl ?_
   refine WL_guard_skip rfl rfl (by simp) rfl ?_
   refine WL_guard_skip rfl rfl (by simp) rfl ?_
   refine WL_pick_f rfl rfl rfl ?_
   refine WL_move rfl rfl ?_
   refine WL_guard_skip rfl rfl (by simp) rfl ?_
   refine WL_guard_skip rfl rfl (by simp) rfl ?_
   refine WL_guard_skip rfl rfl (by simp) rfl ?_
   refine WL_guard_skip rfl rfl (by simp [undef]) rfl ?_
   refine WL_guard_skip rfl rfl (by simp [undef]) rfl ?_
   refine WL_guard_skip rfl rfl (by simp [undef]) rfl ?_
   refine WL_guard_skip rfl rfl (by simp [undef]) rfl ?_
   refine WL_guard_skip rfl rfl (by simp) rfl ?_
   refine WL_pick_f rfl rfl rfl ?_
   refine WL_move rfl rfl ?_
   refine WL_guard_skip rfl rfl (by simp) rfl ?_
   refine WL_guard_skip rfl rfl (by simp) rfl ?_
   refine WL_guard_skip rfl rfl (by simp) rfl ?_
   refine WL_pick_f rfl rfl rfl ?_
   refine WL_assign rfl rfl ?_
   refine WL_nil ?_
   have hq21 := Option.some.inj hr22
   subst hq21
   have hC64 := hC49.h0
   refine nrm_sub (l' := [(2, (.bool false))]) ⟨rfl, trivial⟩ ?_
   exact ⟨false, rfl, rfl, (Below.refl _ _), hC64⟩
  replace hr22 := ite_f hr22 hc11
  refine WL_guard_skip rfl rfl (by simp) rfl ?_
  refine WL_guard_skip rfl rfl (by simp) rfl ?_
  refine WL_guard_skip rfl rfl (by simp) rfl ?_
  refine WL_pick_f rfl rfl rfl ?_
  refine WL_move rfl rfl ?_
  refine WL_guard_skip rfl rfl (by simp) rfl ?_
  refine WL_guard_skip rfl rfl (by simp) rfl ?_
  refine WL_guard_skip rfl rfl (by simp) rfl ?_
  refine WL_pick_f rfl rfl rfl ?_
  refine WL_move rfl rfl ?_
  refine WL_guard_skip rfl rfl (by simp) rfl ?_
  refine WL_guard_skip rfl rfl (by simp) rfl ?_
  refine WL_guard_skip rfl rfl (by simp) rfl ?_
  refine WL_guard_skip rfl rfl (by simp) rfl ?_
  refine WL_guard_skip rfl rfl (by simp) rfl ?_
  refine WL_guard_skip rfl rfl (by simp) rfl ?_
  refine WL_guard_skip rfl rfl (by simp) rfl ?_
  refine WL_pick_f rfl rfl rfl ?_
  refine WL_move rfl rfl ?_
  refine WL_guard_skip rfl rfl (by simp) rfl ?_
  refine WL_guard_skip rfl rfl (by simp) rfl ?_
  refine WL_guard_skip rfl rfl (by simp) rfl ?_
  refine WL_guard_skip rfl rfl (by simp) rfl ?_
  refine WL_pick_f rfl rfl rfl ?_
  refine WL_move rfl rfl ?_
  refine WL_guard_skip rfl rfl (by simp) rfl ?_
  refine WL_guard_skip rfl rfl (by simp) rfl ?_
  refine WL_guard_skip rfl rfl (by simp) rfl ?_
  refine WL_guard_skip rfl rfl (by simp) rfl ?_
  refine WL_guard_skip rfl rfl (by simp) rfl ?_
  refine WL_pick_f rfl rfl rfl ?_
  refine WL_move rfl rfl ?_
  refine WL_guard_skip rfl rfl (by simp) rfl ?_
  refine WL_guard_skip rfl rfl (by simp) rfl ?_
  refine WL_guard_skip rfl rfl (by simp) rfl ?_
  refine WL_guard_skip rfl rfl (by simp [undef]) rfl ?_
  refine WL_guard_skip rfl rfl (by simp [undef]) rfl ?_
  refine WL_guard_skip rfl rfl (by simp [undef]) rfl ?_
  refine WL_guard_skip rfl rfl (by simp [undef]) rfl ?_
  refine WL_guard_skip rfl rfl (by simp) rfl ?_
  refine WL_pick_f rfl rfl rfl ?_
  refine WL_move rfl rfl ?_
  refine WL_guard_skip rfl rfl (by simp) rfl ?_
  refine WL_guard_skip rfl rfl (by simp) rfl ?_
  refine WL_guard_skip rfl rfl (by simp) rfl ?_
  refine WL_pick_f rfl rfl rfl ?_
  refine WL_assign rfl rfl ?_
  refine WL_nil ?_
  have hq22 := Option.some.inj hr22
  subst hq22
  have hC65 := hC49.h0
  refine nrm_sub (l' := [(2, (.bool false))]) ⟨rfl, trivial⟩ ?_
  exact ⟨false, rfl, rfl, (Below.refl _ _), hC65⟩
 rintro _ w35 ⟨x27, rfl, rfl, hB30, hC50⟩
 try dsimp only at hF
 refine W_ret ?_
 have hq23 := Option.some.inj hF
 subst hq23
 refine fn_ret1 rfl rfl ?_
 exact ⟨_, rfl, bool_res hC50 _⟩

end Go.Gx.Px
