/- The contracts of the Go functions against the pure functions, printed by program. Conditions: each says them. -/
import Derived.Test.YtbgcgjhbnclpdaaDoorC2
set_option linter.unusedVariables false
set_option linter.unusedSimpArgs false
set_option maxRecDepth 100000
set_option maxHeartbeats 4000000
namespace Go.Gx.Px
open Go.Proofs Go.RowKit

theorem c_S_l2AnyFact {w0 : World} {Fs : List (List Nat)} (pb1 : Nat) (a1 : ((List UInt8) × Int × Int)) (u1 : Value) (g1 : RO Fs.flatten w0 u1 a1.1) (a2 : (List Int)) (u2 : Value) (g2 : RO Fs.flatten w0 u2 a2) (hH : Hold [Item.box pb1 [u1, (.int .i64 a1.2.1), (.int .i64 a1.2.2)]] w0 Fs) (hn : Fs.flatten.Nodup) (rr : ((Int × (List Int)) × ((List UInt8) × Int × Int))) (hF : S.l2AnyFact a1 a2 = some rr) :
 Calls Tryd.prog 87 [(ptr pb1 0), u2].toArray w0 fun e w' => ∃ v, e = .returned v ∧ ∃ q0 : Value, v = q0 ∧ Ctx Fs.flatten w0 w' [Item.own q0 (rr.1 : (Int × (List Int))), Item.box pb1 [u1, (.int .i64 rr.2.2.1), (.int .i64 rr.2.2.2)]] := by
 refine calls_of_W Tryd.func87 rfl rfl ?_
 have hC0 := Ctx.startIn hH hn
 unfold S.l2AnyFact at hF
 refine W_seq_reg ?_
 refine WL_allocK hC0 zero72 rfl rfl (fun b1 w1 hC1 hB1 hN1 => ?_)
 refine WL_nil (W_seq_reg ?_)
 refine WL_buildSlice (vs := [(.int .i64 1)]) hC1 Tryd.underlying22 ty3 rfl rfl rfl rfl (by intro v hv; simp only [List.mem_cons, List.not_mem_nil, or_false] at hv; rcases hv with rfl <;> rfl) rfl rfl (fun b2 w2 hC2 hB2 => ?_)
 have hC3 := hC2.row0 (α := Int)
 have hC4 := hC3.triv (int_val (1))
 have hC5 := hC4.row1
 have hC6 := hC5.front 1 rfl
 dsimp only [List.eraseIdx, List.cons_append, List.nil_append, List.append_nil] at hC6
 have hC7 : Ctx Fs.flatten w0 w2 (Item.own (.slice (some ⟨b2, 0, none⟩) 1 1) ([1] : List Int) :: [Item.box b1 [(.int .i64 0), (.slice none 0 0)], Item.box pb1 [u1, (.int .i64 a1.2.1), (.int .i64 a1.2.2)]]) := hC6.rowOwn (by simp [maxLen])
 refine WL_build (vs := [(1, (.slice (some ⟨b2, 0, none⟩) 1 1))]) rfl rfl rfl (built72_1 (ro_cells (hC7.ro 0 rfl))) ?_
 refine WL_allocK hC7 zero72 rfl rfl (fun b3 w3 hC8 hB3 hN2 => ?_)
 refine WL_store_box_aggK (cs' := [(.int .i64 0), (.slice (some ⟨b2, 0, none⟩) 1 1)]) (new := [(.int .i64 0), (.slice (some ⟨b2, 0, none⟩) 1 1)]) hC8 0 rfl rfl (by intro v hv; simp only [List.mem_cons, List.not_mem_nil, or_false] at hv; rcases hv with rfl | rfl; exact rfl; exact (ro_one (hC8.ro 1 rfl))) rfl Tryd.sizeOf72 rfl rfl (fun w4 hC9 hKp1 => ?_)
 try dsimp only [List.set] at hC9
 have hk1 := Keep.over (((Keep.of hB1).then hB2).then hB3) (Nat.le_trans ((Keep.of hB1).then hB2).size hN2) hKp1
 have hk2 := Keep.over ((Keep.of hB2).then hB3) (Nat.le_trans (Keep.of hB2).size hN2) hKp1
 have hk3 := Keep.over (Keep.of hB3) hN2 hKp1
 refine WL_nil (W_seq (W_seq_reg ?_))
 refine WL_move rfl rfl ?_
 obtain ⟨x1, hr1, hF⟩ := bind_some hF
 refine WL_call Tryd.call85 rfl rfl (c_S_IsSchema a2 u2 (g2.now hC9.keep) x1 hr1) ?_
 intro _ w5 hv1
 obtain ⟨rfl, hB4⟩ := res_bool hv1
 have hC10 := hC9.grow hB4
 refine WL_nil ?_
 obtain ⟨r1, hr2, hF⟩ := bind_some hF
 refine W_norm (fun l w => ∃ x2 : Int, ∃ v1 : Value, ∃ x3 : (List Int), ∃ x4 : Int, ∃ x5 : Int, (x2, x3, x4, x5) = r1 ∧ l = [(0, (ptr pb1 0)), (4, (ptr b1 0)), (5, (ptr b3 0))] ∧ Ctx Fs.flatten w0 w [Item.box b3 [(.int .i64 x2), v1], Item.own v1 (x3 : (List Int)), Item.box b1 [(.int .i64 0), (.slice none 0 0)], Item.box pb1 [u1, (.int .i64 x4), (.int .i64 x5)]]) ?_ ?_
 ·refine W_cond rfl (fun hc1 => ?_) (fun hc1 => ?_)
  ·replace hr2 := ite_t hr2 hc1
   refine W_reg ?_
   refine WL_move rfl rfl ?_
   refine WL_move rfl rfl ?_
   obtain ⟨x6, hr3, hr2⟩ := bind_some hr2
   have hC12 := hC10.f3
   obtain ⟨Fs1, hH1, hn1, hF1, hO1, hb1⟩ := Ctx.lend2 (As := [Item.box b3 [(.int .i64 0), (.slice (some ⟨b2, 0, none⟩) 1 1)], Item.own (.slice (some ⟨b2, 0, none⟩) 1 1) ([1] : (List Int)), Item.box b1 [(.int .i64 0), (.slice none 0 0)]]) [Item.box pb1 [u1, (.int .i64 a1.2.1), (.int .i64 a1.2.2)]] hC12
   refine WL_call Tryd.call100 rfl rfl (c_S_l2Fact pb1 (a1.1, a1.2.1, a1.2.2) u1 (RO.lent g1 hC12.keep hF1) a2 u2 (RO.lent g2 hC12.keep hF1) 10 hH1 hn1 x6 hr3) ?_
   rintro v2 w7 ⟨_, rfl, hq1⟩
   have hC13 : Ctx Fs.flatten w0 w7 [Item.own v2 (x6.1 : (Int × (List Int))), Item.box pb1 [u1, (.int .i64 x6.2.2.1), (.int .i64 x6.2.2.2)], Item.box b3 [(.int .i64 0), (.slice (some ⟨b2, 0, none⟩) 1 1)], Item.own (.slice (some ⟨b2, 0, none⟩) 1 1) ([1] : (List Int)), Item.box b1 [(.int .i64 0), (.slice none 0 0)]] := hb1 _ _ hq1
   obtain ⟨v3, rfl, hC14⟩ := st72_own hC13
   refine WL_store_box_aggK (cs' := [(.int .i64 x6.1.1), v3]) (new := [(.int .i64 x6.1.1), v3]) hC14 2 rfl rfl (by intro v hv; simp only [List.mem_cons, List.not_mem_nil, or_false] at hv; rcases hv with rfl | rfl; exact rfl; exact (ro_one (hC14.ro 0 rfl))) rfl Tryd.sizeOf72 rfl rfl (fun w9 hC15 hKp2 => ?_)
   try dsimp only [List.set] at hC15
   refine WL_nil ?_
   have hq2 := Option.some.inj hr2
   subst hq2
   have hC16 := hC15.f1
   have hC17 := hC16.f4
   have hC18 := hC17.f2
   have hC19 := hC18.f3
   have hC20 := hC19.h4
   refine nrm_sub (l' := [(0, (ptr pb1 0)), (4, (ptr b1 0)), (5, (ptr b3 0))]) ⟨rfl, rfl, rfl, trivial⟩ ?_
   exact ⟨x6.1.1, v3, x6.1.2, x6.2.2.1, x6.2.2.2, rfl, rfl, hC20⟩
  replace hr2 := ite_f hr2 hc1
  refine W_skip ?_
  have hq3 := Option.some.inj hr2
  subst hq3
  refine nrm_sub (l' := [(0, (ptr pb1 0)), (4, (ptr b1 0)), (5, (ptr b3 0))]) ⟨rfl, rfl, rfl, trivial⟩ ?_
  exact ⟨0, (.slice (some ⟨b2, 0, none⟩) 1 1), [1], a1.2.1, a1.2.2, rfl, rfl, hC10⟩
 rintro l1 _ w6 hs1 ⟨x2, v1, x3, x4, x5, rfl, rfl, hC11⟩
 try dsimp only at hF
 refine nrm_sub' hs1 ?_
 clear hs1
 refine W_seq (W_seq_reg ?_)
 refine WL_move rfl rfl ?_
 obtain ⟨x7, hr4, hF⟩ := bind_some hF
 have hC21 := hC11.f3
 obtain ⟨Fs2, hH2, hn2, hF2, hO2, hb2⟩ := Ctx.lend2 (As := [Item.box b3 [(.int .i64 x2), v1], Item.own v1 (x3 : (List Int)), Item.box b1 [(.int .i64 0), (.slice none 0 0)]]) [Item.box pb1 [u1, (.int .i64 x4), (.int .i64 x5)]] hC21
 refine WL_call Tryd.call64 rfl rfl (c_S_l1Below pb1 (a1.1, x4, x5) u1 (RO.lent g1 hC21.keep hF2) 8 hH2 hn2 x7 hr4) ?_
 rintro _ w10 ⟨rfl, hq4⟩
 have hC22 : Ctx Fs.flatten w0 w10 [Item.box pb1 [u1, (.int .i64 x7.2.2.1), (.int .i64 x7.2.2.2)], Item.box b3 [(.int .i64 x2), v1], Item.own v1 (x3 : (List Int)), Item.box b1 [(.int .i64 0), (.slice none 0 0)]] := hb2 _ _ hq4
 refine WL_nil (W_block (W_seq_reg ?_))
 refine WL_eql rfl rfl rfl ?_
 refine WL_assign rfl rfl ?_
 refine WL_nil ?_
 obtain ⟨r2, hr5, hF⟩ := bind_some hF
 refine W_norm (fun l w => ∃ x8 : Int, ∃ x9 : Int, ∃ x10 : Int, ∃ v4 : Value, ∃ x11 : (List Int), (x8, x9, x10, x11) = r2 ∧ l = [(4, (ptr b1 0)), (5, (ptr b3 0))] ∧ Ctx Fs.flatten w0 w [Item.box pb1 [u1, (.int .i64 x8), (.int .i64 x9)], Item.box b3 [(.int .i64 x10), v4], Item.own v4 (x11 : (List Int)), Item.box b1 [(.int .i64 0), (.slice none 0 0)]]) ?_ ?_
 ·refine W_cond rfl (fun hc2 => ?_) (fun hc2 => ?_)
  ·replace hr5 := ite_t hr5 hc2
   refine W_reg ?_
   refine WL_move rfl rfl ?_
   obtain ⟨x12, hr6, hr5⟩ := bind_some hr5
   obtain ⟨Fs3, hH3, hn3, hF3, hO3, hb3⟩ := Ctx.lend2 (As := [Item.box b3 [(.int .i64 x2), v1], Item.own v1 (x3 : (List Int)), Item.box b1 [(.int .i64 0), (.slice none 0 0)]]) [Item.box pb1 [u1, (.int .i64 x7.2.2.1), (.int .i64 x7.2.2.2)]] hC22
   refine WL_call Tryd.call64 rfl rfl (c_S_l1Below pb1 (a1.1, x7.2.2.1, x7.2.2.2) u1 (RO.lent g1 hC22.keep hF3) 5 hH3 hn3 x12 hr6) ?_
   rintro _ w12 ⟨rfl, hq5⟩
   have hC24 : Ctx Fs.flatten w0 w12 [Item.box pb1 [u1, (.int .i64 x12.2.2.1), (.int .i64 x12.2.2.2)], Item.box b3 [(.int .i64 x2), v1], Item.own v1 (x3 : (List Int)), Item.box b1 [(.int .i64 0), (.slice none 0 0)]] := hb3 _ _ hq5
   refine WL_sub rfl rfl rfl ?_
   refine WL_field Tryd.underlying72 rfl rfl (fun w => ⟨_, Tryd.sizeOf3 w⟩) rfl rfl ?_
   refine WL_store_boxK (cs' := [(.int .i64 (w64 (x12.1 - 1))), v1]) hC24 1 rfl rfl rfl rfl Tryd.sizeOf3 rfl rfl (fun w13 hC25 hKp3 => ?_)
   try dsimp only [List.set] at hC25
   refine WL_nil ?_
   have hq6 := Option.some.inj hr5
   subst hq6
   refine nrm_sub (l' := [(4, (ptr b1 0)), (5, (ptr b3 0))]) ⟨rfl, rfl, trivial⟩ ?_
   exact ⟨x12.2.2.1, x12.2.2.2, w64 (x12.1 - 1), v1, x3, rfl, rfl, hC25⟩
  replace hr5 := ite_f hr5 hc2
  refine W_seq_reg ?_
  refine WL_eql rfl rfl rfl ?_
  refine WL_assign rfl rfl ?_
  refine WL_nil ?_
  obtain ⟨r3, hr7, hr5⟩ := bind_some hr5
  refine W_norm (fun l w => ∃ x13 : Int, ∃ x14 : Int, ∃ x15 : Int, ∃ v5 : Value, ∃ x16 : (List Int), (x13, x14, x15, x16) = r3 ∧ l = [(4, (ptr b1 0)), (5, (ptr b3 0))] ∧ Ctx Fs.flatten w0 w [Item.box pb1 [u1, (.int .i64 x13), (.int .i64 x14)], Item.box b3 [(.int .i64 x15), v5], Item.own v5 (x16 : (List Int)), Item.box b1 [(.int .i64 0), (.slice none 0 0)]]) ?_ ?_
  ·refine W_cond rfl (fun hc3 => ?_) (fun hc3 => ?_)
   ·replace hr7 := ite_t hr7 hc3
    obtain ⟨r4, hr8, hr7⟩ := bind_some hr7
    refine W_norm (fun l w => ∃ x17 : (List Int), ∃ x18 : Int, ∃ x19 : Int, (x17, x18, x19) = r4 ∧ l = [(4, (ptr b1 0)), (5, (ptr b3 0))] ∧ Ctx Fs.flatten w0 w [Item.box pb1 [u1, (.int .i64 x18), (.int .i64 x19)], Item.box b3 [(.int .i64 x2), v1], Item.own v1 (x17 : (List Int)), Item.box b1 [(.int .i64 0), (.slice none 0 0)]]) ?_ ?_
    ·refine W_drawn 7 rfl hmix (fun w16 hB9 => ?_)
     have hC28 := hC22.grow hB9
     refine WA_tk 0 (by kernel_rfl) rfl rfl (fl_field Tryd.underlying72 rfl rfl (fun w => ⟨_, Tryd.sizeOf22 w⟩) rfl) ?_
     refine WL_field Tryd.underlying72 rfl rfl (fun w => ⟨_, Tryd.sizeOf22 w⟩) rfl rfl ?_
     refine WL_nil ?_
     refine WA_tk 2 (by kernel_rfl) rfl rfl (fl_move rfl) ?_
     refine WL_move rfl rfl ?_
     refine WL_nil ?_
     refine WA_all2 (i := 1) (j := 3) (by kernel_rfl) rfl rfl ?_ ?_
     ·refine WL_load_box hC28 1 rfl rfl Tryd.isAgg22 rfl rfl ?_
      refine WL_nil ?_
      refine WA_one 3 (by kernel_rfl) rfl ?_
      refine WL_buildSlice (vs := [(.int .i64 (-1)), (.int .i64 9), (.int .i64 10)]) hC28 Tryd.underlying22 ty3 rfl rfl rfl rfl (by intro v hv; simp only [List.mem_cons, List.not_mem_nil, or_false] at hv; rcases hv with rfl | rfl | rfl <;> rfl) rfl rfl (fun b4 w17 hC29 hB10 => ?_)
      have hC30 := hC29.row0 (α := Int)
      have hC31 := hC30.triv (int_val (10))
      have hC32 := hC31.row1
      have hC33 := hC32.triv (int_val (9))
      have hC34 := hC33.row1
      have hC35 := hC34.triv (int_val ((-1)))
      have hC36 := hC35.row1
      have hC37 := hC36.front 1 rfl
      dsimp only [List.eraseIdx, List.cons_append, List.nil_append, List.append_nil] at hC37
      have hC38 : Ctx Fs.flatten w0 w17 (Item.own (.slice (some ⟨b4, 0, none⟩) 3 3) ([(-1), 9, 10] : List Int) :: [Item.box pb1 [u1, (.int .i64 x7.2.2.1), (.int .i64 x7.2.2.2)], Item.box b3 [(.int .i64 x2), v1], Item.own v1 (x3 : (List Int)), Item.box b1 [(.int .i64 0), (.slice none 0 0)]]) := hC37.rowOwn (by simp [maxLen])
      refine WL_nil ?_
      obtain ⟨x20, hr9, hr8⟩ := bind_some hr8
      refine WA_one 4 (by kernel_rfl) rfl ?_
      have hC39 := hC38.f1
      obtain ⟨Fs4, hH4, hn4, hF4, hO4, hb4⟩ := Ctx.lend2 (As := [Item.own (.slice (some ⟨b4, 0, none⟩) 3 3) ([(-1), 9, 10] : (List Int)), Item.box b3 [(.int .i64 x2), v1], Item.own v1 (x3 : (List Int)), Item.box b1 [(.int .i64 0), (.slice none 0 0)]]) [Item.box pb1 [u1, (.int .i64 x7.2.2.1), (.int .i64 x7.2.2.2)]] hC39
      refine WL_call Tryd.call98 rfl rfl (c_S_l1PickInt pb1 (a1.1, x7.2.2.1, x7.2.2.2) u1 (RO.lent g1 hC39.keep hF4) ([(-1), 9, 10]) (.slice (some ⟨b4, 0, none⟩) 3 3) (hO4 0 _ _ _ rfl) hH4 hn4 x20 hr9) ?_
      rintro _ w18 ⟨rfl, hq7⟩
      have hC40 : Ctx Fs.flatten w0 w18 [Item.box pb1 [u1, (.int .i64 x20.2.2.1), (.int .i64 x20.2.2.2)], Item.own (.slice (some ⟨b4, 0, none⟩) 3 3) ([(-1), 9, 10] : (List Int)), Item.box b3 [(.int .i64 x2), v1], Item.own v1 (x3 : (List Int)), Item.box b1 [(.int .i64 0), (.slice none 0 0)]] := hb4 _ _ hq7
      refine WL_nil ?_
      obtain ⟨x21, hx1, hr8⟩ := bind_some hr8
      refine WA_tk 5 (by kernel_rfl) rfl rfl (fl_index_own hC40 3 rfl Tryd.underlying22 ty3 hx1 rfl rfl) ?_
      refine WL_index_own hC40 3 rfl Tryd.underlying22 ty3 hx1 rfl rfl rfl (fun b5 hE1 => ?_)
      refine WL_nil ?_
      refine WA_one 6 (by kernel_rfl) rfl ?_
      have hC42 := hC40.triv (int_val (x20.1))
      refine WL_store_elem hC42 3 rfl ty3 hE1 hx1 rfl rfl rfl (fun w19 hC41 => ?_)
      try dsimp only [List.set] at hC41
      refine WL_nil ?_
      refine WA_done (by kernel_rfl) ?_
      have hq8 := Option.some.inj hr8
      subst hq8
      have hC43 := hC41.f4
      have hC44 := hC43.f4
      have hC45 := hC44.f4
      have hC46 := hC45.f3
      have hC47 := hC46.h4
      refine nrm_sub (l' := [(4, (ptr b1 0)), (5, (ptr b3 0))]) ⟨rfl, rfl, trivial⟩ ?_
      exact ⟨(List.set x3 (Int.toNat 0) x20.1), x20.2.2.1, x20.2.2.2, rfl, rfl, hC47⟩
     refine WL_buildSlice (vs := [(.int .i64 (-1)), (.int .i64 9), (.int .i64 10)]) hC28 Tryd.underlying22 ty3 rfl rfl rfl rfl (by intro v hv; simp only [List.mem_cons, List.not_mem_nil, or_false] at hv; rcases hv with rfl | rfl | rfl <;> rfl) rfl rfl (fun b4 w17 hC29 hB10 => ?_)
     have hC30 := hC29.row0 (α := Int)
     have hC31 := hC30.triv (int_val (10))
     have hC32 := hC31.row1
     have hC33 := hC32.triv (int_val (9))
     have hC34 := hC33.row1
     have hC35 := hC34.triv (int_val ((-1)))
     have hC36 := hC35.row1
     have hC37 := hC36.front 1 rfl
     dsimp only [List.eraseIdx, List.cons_append, List.nil_append, List.append_nil] at hC37
     have hC38 : Ctx Fs.flatten w0 w17 (Item.own (.slice (some ⟨b4, 0, none⟩) 3 3) ([(-1), 9, 10] : List Int) :: [Item.box pb1 [u1, (.int .i64 x7.2.2.1), (.int .i64 x7.2.2.2)], Item.box b3 [(.int .i64 x2), v1], Item.own v1 (x3 : (List Int)), Item.box b1 [(.int .i64 0), (.slice none 0 0)]]) := hC37.rowOwn (by simp [maxLen])
     refine WL_nil ?_
     refine WA_all2 (i := 1) (j := 4) (by kernel_rfl) rfl rfl ?_ ?_
     ·refine WL_load_box hC38 2 rfl rfl Tryd.isAgg22 rfl rfl ?_
      refine WL_nil ?_
      obtain ⟨x20, hr9, hr8⟩ := bind_some hr8
      refine WA_one 4 (by kernel_rfl) rfl ?_
      have hC39 := hC38.f1
      obtain ⟨Fs4, hH4, hn4, hF4, hO4, hb4⟩ := Ctx.lend2 (As := [Item.own (.slice (some ⟨b4, 0, none⟩) 3 3) ([(-1), 9, 10] : (List Int)), Item.box b3 [(.int .i64 x2), v1], Item.own v1 (x3 : (List Int)), Item.box b1 [(.int .i64 0), (.slice none 0 0)]]) [Item.box pb1 [u1, (.int .i64 x7.2.2.1), (.int .i64 x7.2.2.2)]] hC39
      refine WL_call Tryd.call98 rfl rfl (c_S_l1PickInt pb1 (a1.1, x7.2.2.1, x7.2.2.2) u1 (RO.lent g1 hC39.keep hF4) ([(-1), 9, 10]) (.slice (some ⟨b4, 0, none⟩) 3 3) (hO4 0 _ _ _ rfl) hH4 hn4 x20 hr9) ?_
      rintro _ w18 ⟨rfl, hq7⟩
      have hC40 : Ctx Fs.flatten w0 w18 [Item.box pb1 [u1, (.int .i64 x20.2.2.1), (.int .i64 x20.2.2.2)], Item.own (.slice (some ⟨b4, 0, none⟩) 3 3) ([(-1), 9, 10] : (List Int)), Item.box b3 [(.int .i64 x2), v1], Item.own v1 (x3 : (List Int)), Item.box b1 [(.int .i64 0), (.slice none 0 0)]] := hb4 _ _ hq7
      refine WL_nil ?_
      obtain ⟨x21, hx1, hr8⟩ := bind_some hr8
      refine WA_tk 5 (by kernel_rfl) rfl rfl (fl_index_own hC40 3 rfl Tryd.underlying22 ty3 hx1 rfl rfl) ?_
      refine WL_index_own hC40 3 rfl Tryd.underlying22 ty3 hx1 rfl rfl rfl (fun b5 hE1 => ?_)
      refine WL_nil ?_
      refine WA_one 6 (by kernel_rfl) rfl ?_
      have hC42 := hC40.triv (int_val (x20.1))
      refine WL_store_elem hC42 3 rfl ty3 hE1 hx1 rfl rfl rfl (fun w19 hC41 => ?_)
      try dsimp only [List.set] at hC41
      refine WL_nil ?_
      refine WA_done (by kernel_rfl) ?_
      have hq8 := Option.some.inj hr8
      subst hq8
      have hC43 := hC41.f4
      have hC44 := hC43.f4
      have hC45 := hC44.f4
      have hC46 := hC45.f3
      have hC47 := hC46.h4
      refine nrm_sub (l' := [(4, (ptr b1 0)), (5, (ptr b3 0))]) ⟨rfl, rfl, trivial⟩ ?_
      exact ⟨(List.set x3 (Int.toNat 0) x20.1), x20.2.2.1, x20.2.2.2, rfl, rfl, hC47⟩
     obtain ⟨x20, hr9, hr8⟩ := bind_some hr8
     have hC39 := hC38.f1
     obtain ⟨Fs4, hH4, hn4, hF4, hO4, hb4⟩ := Ctx.lend2 (As := [Item.own (.slice (some ⟨b4, 0, none⟩) 3 3) ([(-1), 9, 10] : (List Int)), Item.box b3 [(.int .i64 x2), v1], Item.own v1 (x3 : (List Int)), Item.box b1 [(.int .i64 0), (.slice none 0 0)]]) [Item.box pb1 [u1, (.int .i64 x7.2.2.1), (.int .i64 x7.2.2.2)]] hC39
     refine WL_call Tryd.call98 rfl rfl (c_S_l1PickInt pb1 (a1.1, x7.2.2.1, x7.2.2.2) u1 (RO.lent g1 hC39.keep hF4) ([(-1), 9, 10]) (.slice (some ⟨b4, 0, none⟩) 3 3) (hO4 0 _ _ _ rfl) hH4 hn4 x20 hr9) ?_
     rintro _ w18 ⟨rfl, hq7⟩
     have hC40 : Ctx Fs.flatten w0 w18 [Item.box pb1 [u1, (.int .i64 x20.2.2.1), (.int .i64 x20.2.2.2)], Item.own (.slice (some ⟨b4, 0, none⟩) 3 3) ([(-1), 9, 10] : (List Int)), Item.box b3 [(.int .i64 x2), v1], Item.own v1 (x3 : (List Int)), Item.box b1 [(.int .i64 0), (.slice none 0 0)]] := hb4 _ _ hq7
     refine WL_nil ?_
     refine WA_one 1 (by kernel_rfl) rfl ?_
     refine WL_load_box hC40 2 rfl rfl Tryd.isAgg22 rfl rfl ?_
     refine WL_nil ?_
     obtain ⟨x21, hx1, hr8⟩ := bind_some hr8
     refine WA_tk 5 (by kernel_rfl) rfl rfl (fl_index_own hC40 3 rfl Tryd.underlying22 ty3 hx1 rfl rfl) ?_
     refine WL_index_own hC40 3 rfl Tryd.underlying22 ty3 hx1 rfl rfl rfl (fun b5 hE1 => ?_)
     refine WL_nil ?_
     refine WA_one 6 (by kernel_rfl) rfl ?_
     have hC42 := hC40.triv (int_val (x20.1))
     refine WL_store_elem hC42 3 rfl ty3 hE1 hx1 rfl rfl rfl (fun w19 hC41 => ?_)
     try dsimp only [List.set] at hC41
     refine WL_nil ?_
     refine WA_done (by kernel_rfl) ?_
     have hq8 := Option.some.inj hr8
     subst hq8
     have hC43 := hC41.f4
     have hC44 := hC43.f4
     have hC45 := hC44.f4
     have hC46 := hC45.f3
     have hC47 := hC46.h4
     refine nrm_sub (l' := [(4, (ptr b1 0)), (5, (ptr b3 0))]) ⟨rfl, rfl, trivial⟩ ?_
     exact ⟨(List.set x3 (Int.toNat 0) x20.1), x20.2.2.1, x20.2.2.2, rfl, rfl, hC47⟩
    rintro l4 _ w15 hs4 ⟨x17, x18, x19, rfl, rfl, hC27⟩
    try dsimp only at hr7
    have hq9 := Option.some.inj hr7
    subst hq9
    refine nrm_subs (l2 := [(4, (ptr b1 0)), (5, (ptr b3 0))]) hs4 ⟨rfl, rfl, trivial⟩ ?_
    exact ⟨x18, x19, x2, v1, x17, rfl, rfl, hC27⟩
   replace hr7 := ite_f hr7 hc3
   refine W_seq_reg ?_
   refine WL_eql rfl rfl rfl ?_
   refine WL_assign rfl rfl ?_
   refine WL_nil ?_
   obtain ⟨r5, hr10, hr7⟩ := bind_some hr7
   refine W_norm (fun l w => ∃ x22 : Int, ∃ v6 : Value, ∃ x23 : (List Int), (x22, x23) = r5 ∧ l = [(4, (ptr b1 0)), (5, (ptr b3 0))] ∧ Ctx Fs.flatten w0 w [Item.box pb1 [u1, (.int .i64 x7.2.2.1), (.int .i64 x7.2.2.2)], Item.box b3 [(.int .i64 x22), v6], Item.own v6 (x23 : (List Int)), Item.box b1 [(.int .i64 0), (.slice none 0 0)]]) ?_ ?_
   ·refine W_cond rfl (fun hc4 => ?_) (fun hc4 => ?_)
    ·replace hr10 := ite_t hr10 hc4
     refine W_reg ?_
     refine WL_field Tryd.underlying72 rfl rfl (fun w => ⟨_, Tryd.sizeOf22 w⟩) rfl rfl ?_
     refine WL_load_box hC22 1 rfl rfl Tryd.isAgg22 rfl rfl ?_
     refine WL_buildSlice (vs := [(.int .i64 1)]) hC22 Tryd.underlying22 ty3 rfl rfl rfl rfl (by intro v hv; simp only [List.mem_cons, List.not_mem_nil, or_false] at hv; rcases hv with rfl <;> rfl) rfl rfl (fun b6 w21 hC49 hB12 => ?_)
     have hC50 := hC49.row0 (α := Int)
     have hC51 := hC50.triv (int_val (1))
     have hC52 := hC51.row1
     have hC53 := hC52.front 1 rfl
     dsimp only [List.eraseIdx, List.cons_append, List.nil_append, List.append_nil] at hC53
     have hC54 : Ctx Fs.flatten w0 w21 (Item.own (.slice (some ⟨b6, 0, none⟩) 1 1) ([1] : List Int) :: [Item.box pb1 [u1, (.int .i64 x7.2.2.1), (.int .i64 x7.2.2.2)], Item.box b3 [(.int .i64 x2), v1], Item.own v1 (x3 : (List Int)), Item.box b1 [(.int .i64 0), (.slice none 0 0)]]) := hC53.rowOwn (by simp [maxLen])
     obtain ⟨x24, hx2, hr10⟩ := bind_some hr10
     refine WL_append_flat (α := Int) hC54 3 rfl (hC54.ro 0 rfl) (Keep.refl _ _) Tryd.underlying22 ty3 rfl hx2 rfl rfl rfl (fun v7 w22 hC55 => ?_)
     try dsimp only [List.set] at hC55
     refine WL_field Tryd.underlying72 rfl rfl (fun w => ⟨_, Tryd.sizeOf22 w⟩) rfl rfl ?_
     refine WL_store_boxK (cs' := [(.int .i64 x2), v7]) hC55 2 rfl rfl (ro_one (hC55.ro 3 rfl)) rfl Tryd.sizeOf22 rfl rfl (fun w23 hC56 hKp5 => ?_)
     try dsimp only [List.set] at hC56
     refine WL_nil ?_
     have hq10 := Option.some.inj hr10
     subst hq10
     have hC57 := hC56.f4
     have hC58 := hC57.f4
     have hC59 := hC58.f4
     have hC60 := hC59.f4
     have hC61 := hC60.h4
     refine nrm_sub (l' := [(4, (ptr b1 0)), (5, (ptr b3 0))]) ⟨rfl, rfl, trivial⟩ ?_
     exact ⟨x2, v7, x24, rfl, rfl, hC61⟩
    replace hr10 := ite_f hr10 hc4
    refine W_skip ?_
    have hq11 := Option.some.inj hr10
    subst hq11
    refine nrm_sub (l' := [(4, (ptr b1 0)), (5, (ptr b3 0))]) ⟨rfl, rfl, trivial⟩ ?_
    exact ⟨x2, v1, x3, rfl, rfl, hC22⟩
   rintro l5 _ w20 hs5 ⟨x22, v6, x23, rfl, rfl, hC48⟩
   try dsimp only at hr7
   have hq12 := Option.some.inj hr7
   subst hq12
   refine nrm_subs (l2 := [(4, (ptr b1 0)), (5, (ptr b3 0))]) hs5 ⟨rfl, rfl, trivial⟩ ?_
   exact ⟨x7.2.2.1, x7.2.2.2, x22, v6, x23, rfl, rfl, hC48⟩
  rintro l3 _ w14 hs3 ⟨x13, x14, x15, v5, x16, rfl, rfl, hC26⟩
  try dsimp only at hr5
  have hq13 := Option.some.inj hr5
  subst hq13
  refine nrm_subs (l2 := [(4, (ptr b1 0)), (5, (ptr b3 0))]) hs3 ⟨rfl, rfl, trivial⟩ ?_
  exact ⟨x13, x14, x15, v5, x16, rfl, rfl, hC26⟩
 rintro l2 _ w11 hs2 ⟨x8, x9, x10, v4, x11, rfl, rfl, hC23⟩
 try dsimp only at hF
 refine blk_normal ?_
 refine nrm_sub' hs2 ?_
 clear hs2
 refine W_seq_reg ?_
 refine WL_load_box_agg [(.int .i64 x10), v4] hC23 1 rfl rfl rfl Tryd.isAgg72 Tryd.sizeOf72 rfl rfl ?_
 refine WL_store_box_aggK (cs' := [(.int .i64 x10), v4]) (new := [(.int .i64 x10), v4]) hC23 3 rfl rfl (by intro v hv; simp only [List.mem_cons, List.not_mem_nil, or_false] at hv; rcases hv with rfl | rfl; exact rfl; exact (ro_one (hC23.ro 2 rfl))) rfl Tryd.sizeOf72 rfl rfl (fun w24 hC62 hKp6 => ?_)
 try dsimp only [List.set] at hC62
 refine WL_nil (W_ret ?_)
 have hq14 := Option.some.inj hF
 subst hq14
 refine fn_retG1 rfl (rv_cell_agg (cs' := [(.int .i64 x10), v4]) hC62 (i := 3) rfl rfl rfl Tryd.isAgg72 Tryd.sizeOf72 rfl) ?_
 have hC64 := hC62.f2
 have hC63 := own_st72 x10 v4 x11 hC64
 have hC65 := hC63.h2
 exact ⟨_, rfl, _, rfl, hC65⟩

theorem c_S_l2AnyFacts {w0 : World} {Fs : List (List Nat)} (pb1 : Nat) (a1 : ((List UInt8) × Int × Int)) (u1 : Value) (g1 : RO Fs.flatten w0 u1 a1.1) (a2 : (List Int)) (u2 : Value) (g2 : RO Fs.flatten w0 u2 a2) (hH : Hold [Item.box pb1 [u1, (.int .i64 a1.2.1), (.int .i64 a1.2.2)]] w0 Fs) (hn : Fs.flatten.Nodup) (rr : ((List (Int × (List Int))) × ((List UInt8) × Int × Int))) (hF : S.l2AnyFacts a1 a2 = some rr) :
 Calls Tryd.prog 68 [(ptr pb1 0), u2].toArray w0 fun e w' => ∃ v, e = .returned v ∧ ∃ q0 : Value, v = q0 ∧ Ctx Fs.flatten w0 w' [Item.own q0 (rr.1 : (List (Int × (List Int)))), Item.box pb1 [u1, (.int .i64 rr.2.2.1), (.int .i64 rr.2.2.2)]] := by
 refine calls_of_W Tryd.func68 rfl rfl ?_
 have hC0 := Ctx.startIn hH hn
 unfold S.l2AnyFacts at hF
 refine W_seq_reg ?_
 refine WL_assign rfl rfl ?_
 refine WL_nil (W_seq_reg ?_)
 refine WL_buildSlice (vs := []) hC0 Tryd.underlying43 ty72 rfl rfl rfl rfl (by simp) rfl rfl (fun b1 w1 hC1 hB1 => ?_)
 have hC2 := hC1.row0 (α := (Int × (List Int)))
 have hC3 := hC2.front 1 rfl
 dsimp only [List.eraseIdx, List.cons_append, List.nil_append, List.append_nil] at hC3
 have hC4 : Ctx Fs.flatten w0 w1 (Item.own (.slice (some ⟨b1, 0, none⟩) 0 0) (([] : List (Int × (List Int))) : List (Int × (List Int))) :: [Item.box pb1 [u1, (.int .i64 a1.2.1), (.int .i64 a1.2.2)]]) := hC3.rowOwn (by simp [maxLen])
 refine WL_assign rfl rfl ?_
 refine WL_nil (W_seq (W_seq_reg ?_))
 refine WL_move rfl rfl ?_
 obtain ⟨x1, hr1, hF⟩ := bind_some hF
 refine WL_call Tryd.call85 rfl rfl (c_S_IsSchema a2 u2 (g2.now hC4.keep) x1 hr1) ?_
 intro _ w2 hv1
 obtain ⟨rfl, hB2⟩ := res_bool hv1
 have hC5 := hC4.grow hB2
 refine WL_nil ?_
 obtain ⟨r1, hr2, hF⟩ := bind_some hF
 refine W_norm (fun l w => ∃ x2 : Int, ∃ x3 : Int, ∃ v1 : Value, ∃ x4 : (List (Int × (List Int))), (x2, x3, x4) = r1 ∧ l = [(0, (ptr pb1 0)), (1, u2), (5, v1)] ∧ Ctx Fs.flatten w0 w [Item.own v1 (x4 : (List (Int × (List Int)))), Item.box pb1 [u1, (.int .i64 x2), (.int .i64 x3)]]) ?_ ?_
 ·refine W_cond rfl (fun hc1 => ?_) (fun hc1 => ?_)
  ·replace hr2 := ite_t hr2 hc1
   refine W_reg ?_
   refine WL_move rfl rfl ?_
   refine WL_move rfl rfl ?_
   obtain ⟨x5, hr3, hr2⟩ := bind_some hr2
   have hC7 := hC5.f1
   obtain ⟨Fs1, hH1, hn1, hF1, hO1, hb1⟩ := Ctx.lend2 (As := [Item.own (.slice (some ⟨b1, 0, none⟩) 0 0) (([] : List (Int × (List Int))) : (List (Int × (List Int))))]) [Item.box pb1 [u1, (.int .i64 a1.2.1), (.int .i64 a1.2.2)]] hC7
   refine WL_call Tryd.call86 rfl rfl (c_S_l2Facts pb1 (a1.1, a1.2.1, a1.2.2) u1 (RO.lent g1 hC7.keep hF1) a2 u2 (RO.lent g2 hC7.keep hF1) 8 hH1 hn1 x5 hr3) ?_
   rintro v2 w4 ⟨_, rfl, hq1⟩
   have hC8 : Ctx Fs.flatten w0 w4 [Item.own v2 (x5.1 : (List (Int × (List Int)))), Item.box pb1 [u1, (.int .i64 x5.2.2.1), (.int .i64 x5.2.2.2)], Item.own (.slice (some ⟨b1, 0, none⟩) 0 0) (([] : List (Int × (List Int))) : (List (Int × (List Int))))] := hb1 _ _ hq1
   refine WL_assign rfl rfl ?_
   refine WL_nil ?_
   have hq2 := Option.some.inj hr2
   subst hq2
   have hC9 := hC8.f1
   have hC10 := hC9.f1
   have hC11 := hC10.h2
   refine nrm_sub (l' := [(0, (ptr pb1 0)), (1, u2), (5, v2)]) ⟨rfl, rfl, rfl, trivial⟩ ?_
   exact ⟨x5.2.2.1, x5.2.2.2, v2, x5.1, rfl, rfl, hC11⟩
  replace hr2 := ite_f hr2 hc1
  refine W_skip ?_
  have hq3 := Option.some.inj hr2
  subst hq3
  refine nrm_sub (l' := [(0, (ptr pb1 0)), (1, u2), (5, (.slice (some ⟨b1, 0, none⟩) 0 0))]) ⟨rfl, rfl, rfl, trivial⟩ ?_
  exact ⟨a1.2.1, a1.2.2, (.slice (some ⟨b1, 0, none⟩) 0 0), ([] : List (Int × (List Int))), rfl, rfl, hC5⟩
 rintro l1 _ w3 hs1 ⟨x2, x3, v1, x4, rfl, rfl, hC6⟩
 try dsimp only at hF
 refine nrm_sub' hs1 ?_
 clear hs1
 refine W_seq (W_seq_reg ?_)
 refine WL_move rfl rfl ?_
 obtain ⟨x6, hr4, hF⟩ := bind_some hF
 have hC12 := hC6.f1
 obtain ⟨Fs2, hH2, hn2, hF2, hO2, hb2⟩ := Ctx.lend2 (As := [Item.own v1 (x4 : (List (Int × (List Int))))]) [Item.box pb1 [u1, (.int .i64 x2), (.int .i64 x3)]] hC12
 refine WL_call Tryd.call70 rfl rfl (c_S_l1Once pb1 (a1.1, x2, x3) u1 (RO.lent g1 hC12.keep hF2) 10 hH2 hn2 x6 hr4) ?_
 rintro _ w5 ⟨rfl, hq4⟩
 have hC13 : Ctx Fs.flatten w0 w5 [Item.box pb1 [u1, (.int .i64 x6.2.2.1), (.int .i64 x6.2.2.2)], Item.own v1 (x4 : (List (Int × (List Int))))] := hb2 _ _ hq4
 refine WL_nil ?_
 obtain ⟨r2, hr5, hF⟩ := bind_some hF
 refine W_norm (fun l w => ∃ x7 : Int, ∃ x8 : Int, ∃ v3 : Value, ∃ x9 : (List (Int × (List Int))), (x7, x8, x9) = r2 ∧ l = [(5, v3)] ∧ Ctx Fs.flatten w0 w [Item.box pb1 [u1, (.int .i64 x7), (.int .i64 x8)], Item.own v3 (x9 : (List (Int × (List Int))))]) ?_ ?_
 ·refine W_cond rfl (fun hc2 => ?_) (fun hc2 => ?_)
  ·replace hr5 := ite_t hr5 hc2
   refine W_reg ?_
   refine WL_move rfl rfl ?_
   refine WL_move rfl rfl ?_
   refine WL_move rfl rfl ?_
   obtain ⟨x10, hr6, hr5⟩ := bind_some hr5
   obtain ⟨Fs3, hH3, hn3, hF3, hO3, hb3⟩ := Ctx.lend2 (As := [Item.own v1 (x4 : (List (Int × (List Int))))]) [Item.box pb1 [u1, (.int .i64 x6.2.2.1), (.int .i64 x6.2.2.2)]] hC13
   refine WL_call Tryd.call87 rfl rfl (c_S_l2AnyFact pb1 (a1.1, x6.2.2.1, x6.2.2.2) u1 (RO.lent g1 hC13.keep hF3) a2 u2 (RO.lent g2 hC13.keep hF3) hH3 hn3 x10 hr6) ?_
   rintro v4 w7 ⟨_, rfl, hq5⟩
   have hC15 : Ctx Fs.flatten w0 w7 [Item.own v4 (x10.1 : (Int × (List Int))), Item.box pb1 [u1, (.int .i64 x10.2.2.1), (.int .i64 x10.2.2.2)], Item.own v1 (x4 : (List (Int × (List Int))))] := hb3 _ _ hq5
   obtain ⟨v5, rfl, hC16⟩ := st72_own hC15
   refine WL_buildSlice (vs := [(.agg #[(.int .i64 x10.1.1), v5])]) hC16 Tryd.underlying43 ty72 rfl rfl rfl rfl (by intro v hv; simp only [List.mem_cons, List.not_mem_nil, or_false] at hv; rcases hv with rfl <;> rfl) rfl rfl (fun b2 w9 hC17 hB5 => ?_)
   have hC18 := hC17.row0 (α := (Int × (List Int)))
   have hC20 := hC18.f2
   have hC19 := own_st72 x10.1.1 v5 x10.1.2 hC20
   have hC21 := hC19.row1
   have hC22 := hC21.front 1 rfl
   dsimp only [List.eraseIdx, List.cons_append, List.nil_append, List.append_nil] at hC22
   have hC23 : Ctx Fs.flatten w0 w9 (Item.own (.slice (some ⟨b2, 0, none⟩) 1 1) ([(x10.1.1, x10.1.2)] : List (Int × (List Int))) :: [Item.box pb1 [u1, (.int .i64 x10.2.2.1), (.int .i64 x10.2.2.2)], Item.own v1 (x4 : (List (Int × (List Int))))]) := hC22.rowOwn (by simp [maxLen])
   obtain ⟨x11, hx1, hr5⟩ := bind_some hr5
   refine WL_append_head hC23 1 rfl Tryd.underlying43 ty72 rfl hx1 rfl rfl rfl (fun v6 w10 hC24 => ?_)
   try dsimp only [List.set] at hC24
   refine WL_assign rfl rfl ?_
   refine WL_nil ?_
   have hq6 := Option.some.inj hr5
   subst hq6
   refine nrm_sub (l' := [(5, v6)]) ⟨rfl, trivial⟩ ?_
   exact ⟨x10.2.2.1, x10.2.2.2, v6, x11, rfl, rfl, hC24⟩
  replace hr5 := ite_f hr5 hc2
  refine W_skip ?_
  have hq7 := Option.some.inj hr5
  subst hq7
  refine nrm_sub (l' := [(5, v1)]) ⟨rfl, trivial⟩ ?_
  exact ⟨x6.2.2.1, x6.2.2.2, v1, x4, rfl, rfl, hC13⟩
 rintro l2 _ w6 hs2 ⟨x7, x8, v3, x9, rfl, rfl, hC14⟩
 try dsimp only at hF
 refine nrm_sub' hs2 ?_
 clear hs2
 refine W_seq_reg ?_
 refine WL_move rfl rfl ?_
 refine WL_assign rfl rfl ?_
 refine WL_nil (W_ret ?_)
 have hq8 := Option.some.inj hF
 subst hq8
 refine fn_ret1 rfl rfl ?_
 have hC26 := hC14.f1
 exact ⟨_, rfl, _, rfl, hC26⟩

theorem c_S_l5Method {w0 : World} {Fs : List (List Nat)} (pb1 : Nat) (a1 : ((List UInt8) × Int × Int)) (u1 : Value) (g1 : RO Fs.flatten w0 u1 a1.1) (a2 : (List Int)) (u2 : Value) (g2 : RO Fs.flatten w0 u2 a2) (hH : Hold [Item.box pb1 [u1, (.int .i64 a1.2.1), (.int .i64 a1.2.2)]] w0 Fs) (hn : Fs.flatten.Nodup) (rr : ((Int × (List Int) × Int × Int × Int) × ((List UInt8) × Int × Int))) (hF : S.l5Method a1 a2 = some rr) :
 Calls Tryd.prog 105 [(ptr pb1 0), u2].toArray w0 fun e w' => ∃ v, e = .returned v ∧ ∃ q0 : Value, v = q0 ∧ Ctx Fs.flatten w0 w' [Item.own q0 (rr.1 : (Int × (List Int) × Int × Int × Int)), Item.box pb1 [u1, (.int .i64 rr.2.2.1), (.int .i64 rr.2.2.2)]] := by
 refine calls_of_W Tryd.func105 rfl rfl ?_
 have hC0 := Ctx.startIn hH hn
 unfold S.l5Method at hF
 refine W_seq_reg ?_
 refine WL_allocK hC0 zero123 rfl rfl (fun b1 w1 hC1 hB1 hN1 => ?_)
 refine WL_nil (W_seq_reg ?_)
 refine WL_move rfl rfl ?_
 refine WL_move rfl rfl ?_
 refine WL_len Tryd.underlying22 g2 rfl rfl ?_
 obtain ⟨x1, hr1, hF⟩ := bind_some hF
 have hC2 := hC1.f1
 obtain ⟨Fs1, hH1, hn1, hF1, hO1, hb1⟩ := Ctx.lend2 (As := [Item.box b1 [(.int .i64 0), (.slice none 0 0), (.int .i64 0), (.int .i64 0), (.int .i64 0)]]) [Item.box pb1 [u1, (.int .i64 a1.2.1), (.int .i64 a1.2.2)]] hC2
 refine WL_call Tryd.call64 rfl rfl (c_S_l1Below pb1 (a1.1, a1.2.1, a1.2.2) u1 (RO.lent g1 hC2.keep hF1) (List.length a2 : Int) hH1 hn1 x1 hr1) ?_
 rintro _ w2 ⟨rfl, hq1⟩
 have hC3 : Ctx Fs.flatten w0 w2 [Item.box pb1 [u1, (.int .i64 x1.2.2.1), (.int .i64 x1.2.2.2)], Item.box b1 [(.int .i64 0), (.slice none 0 0), (.int .i64 0), (.int .i64 0), (.int .i64 0)]] := hb1 _ _ hq1
 refine WL_move rfl rfl ?_
 refine WL_buildSlice (vs := [(.int .i64 0), (.int .i64 0), (.int .i64 0), (.int .i64 1), (.int .i64 2)]) hC3 Tryd.underlying22 ty3 rfl rfl rfl rfl (by intro v hv; simp only [List.mem_cons, List.not_mem_nil, or_false] at hv; rcases hv with rfl | rfl | rfl | rfl | rfl <;> rfl) rfl rfl (fun b2 w3 hC4 hB2 => ?_)
 have hC5 := hC4.row0 (α := Int)
 have hC6 := hC5.triv (int_val (2))
 have hC7 := hC6.row1
 have hC8 := hC7.triv (int_val (1))
 have hC9 := hC8.row1
 have hC10 := hC9.triv (int_val (0))
 have hC11 := hC10.row1
 have hC12 := hC11.triv (int_val (0))
 have hC13 := hC12.row1
 have hC14 := hC13.triv (int_val (0))
 have hC15 := hC14.row1
 have hC16 := hC15.front 1 rfl
 dsimp only [List.eraseIdx, List.cons_append, List.nil_append, List.append_nil] at hC16
 have hC17 : Ctx Fs.flatten w0 w3 (Item.own (.slice (some ⟨b2, 0, none⟩) 5 5) ([0, 0, 0, 1, 2] : List Int) :: [Item.box pb1 [u1, (.int .i64 x1.2.2.1), (.int .i64 x1.2.2.2)], Item.box b1 [(.int .i64 0), (.slice none 0 0), (.int .i64 0), (.int .i64 0), (.int .i64 0)]]) := hC16.rowOwn (by simp [maxLen])
 obtain ⟨x2, hr2, hF⟩ := bind_some hF
 have hC18 := hC17.f1
 obtain ⟨Fs2, hH2, hn2, hF2, hO2, hb2⟩ := Ctx.lend2 (As := [Item.own (.slice (some ⟨b2, 0, none⟩) 5 5) ([0, 0, 0, 1, 2] : (List Int)), Item.box b1 [(.int .i64 0), (.slice none 0 0), (.int .i64 0), (.int .i64 0), (.int .i64 0)]]) [Item.box pb1 [u1, (.int .i64 x1.2.2.1), (.int .i64 x1.2.2.2)]] hC18
 refine WL_call Tryd.call98 rfl rfl (c_S_l1PickInt pb1 (a1.1, x1.2.2.1, x1.2.2.2) u1 (RO.lent g1 hC18.keep hF2) ([0, 0, 0, 1, 2]) (.slice (some ⟨b2, 0, none⟩) 5 5) (hO2 0 _ _ _ rfl) hH2 hn2 x2 hr2) ?_
 rintro _ w4 ⟨rfl, hq2⟩
 have hC19 : Ctx Fs.flatten w0 w4 [Item.box pb1 [u1, (.int .i64 x2.2.2.1), (.int .i64 x2.2.2.2)], Item.own (.slice (some ⟨b2, 0, none⟩) 5 5) ([0, 0, 0, 1, 2] : (List Int)), Item.box b1 [(.int .i64 0), (.slice none 0 0), (.int .i64 0), (.int .i64 0), (.int .i64 0)]] := hb2 _ _ hq2
 refine WL_move rfl rfl ?_
 obtain ⟨x3, hr3, hF⟩ := bind_some hF
 obtain ⟨Fs3, hH3, hn3, hF3, hO3, hb3⟩ := Ctx.lend2 (As := [Item.own (.slice (some ⟨b2, 0, none⟩) 5 5) ([0, 0, 0, 1, 2] : (List Int)), Item.box b1 [(.int .i64 0), (.slice none 0 0), (.int .i64 0), (.int .i64 0), (.int .i64 0)]]) [Item.box pb1 [u1, (.int .i64 x2.2.2.1), (.int .i64 x2.2.2.2)]] hC19
 refine WL_call Tryd.call64 rfl rfl (c_S_l1Below pb1 (a1.1, x2.2.2.1, x2.2.2.2) u1 (RO.lent g1 hC19.keep hF3) 5 hH3 hn3 x3 hr3) ?_
 rintro _ w5 ⟨rfl, hq3⟩
 have hC20 : Ctx Fs.flatten w0 w5 [Item.box pb1 [u1, (.int .i64 x3.2.2.1), (.int .i64 x3.2.2.2)], Item.own (.slice (some ⟨b2, 0, none⟩) 5 5) ([0, 0, 0, 1, 2] : (List Int)), Item.box b1 [(.int .i64 0), (.slice none 0 0), (.int .i64 0), (.int .i64 0), (.int .i64 0)]] := hb3 _ _ hq3
 refine WL_move rfl rfl ?_
 obtain ⟨x4, hr4, hF⟩ := bind_some hF
 obtain ⟨Fs4, hH4, hn4, hF4, hO4, hb4⟩ := Ctx.lend2 (As := [Item.own (.slice (some ⟨b2, 0, none⟩) 5 5) ([0, 0, 0, 1, 2] : (List Int)), Item.box b1 [(.int .i64 0), (.slice none 0 0), (.int .i64 0), (.int .i64 0), (.int .i64 0)]]) [Item.box pb1 [u1, (.int .i64 x3.2.2.1), (.int .i64 x3.2.2.2)]] hC20
 refine WL_call Tryd.call64 rfl rfl (c_S_l1Below pb1 (a1.1, x3.2.2.1, x3.2.2.2) u1 (RO.lent g1 hC20.keep hF4) 6 hH4 hn4 x4 hr4) ?_
 rintro _ w6 ⟨rfl, hq4⟩
 have hC21 : Ctx Fs.flatten w0 w6 [Item.box pb1 [u1, (.int .i64 x4.2.2.1), (.int .i64 x4.2.2.2)], Item.own (.slice (some ⟨b2, 0, none⟩) 5 5) ([0, 0, 0, 1, 2] : (List Int)), Item.box b1 [(.int .i64 0), (.slice none 0 0), (.int .i64 0), (.int .i64 0), (.int .i64 0)]] := hb4 _ _ hq4
 refine WL_add rfl rfl rfl ?_
 refine WL_build (vs := [(0, (.int .i64 x1.1)), (2, (.int .i64 x2.1)), (3, (.int .i64 x3.1)), (4, (.int .i64 (w64 (1 + x4.1))))]) rfl rfl rfl (built123_0_2_3_4 rfl rfl rfl rfl) ?_
 refine WL_allocK hC21 zero123 rfl rfl (fun b3 w7 hC22 hB3 hN2 => ?_)
 refine WL_store_box_aggK (cs' := [(.int .i64 x1.1), (.slice none 0 0), (.int .i64 x2.1), (.int .i64 x3.1), (.int .i64 (w64 (1 + x4.1)))]) (new := [(.int .i64 x1.1), (.slice none 0 0), (.int .i64 x2.1), (.int .i64 x3.1), (.int .i64 (w64 (1 + x4.1)))]) hC22 0 rfl rfl (by intro v hv; simp only [List.mem_cons, List.not_mem_nil, or_false] at hv; rcases hv with rfl | rfl | rfl | rfl | rfl; exact rfl; exact rfl; exact rfl; exact rfl; exact rfl) rfl Tryd.sizeOf123 rfl rfl (fun w9 hC23 hKp1 => ?_)
 try dsimp only [List.set] at hC23
 have hk1 := Keep.over (Keep.of hB3) hN2 hKp1
 refine WL_nil (W_seq (W_seq_reg ?_))
 refine WL_assign rfl rfl ?_
 refine WL_nil ?_
 obtain ⟨r1, hr5, hF⟩ := bind_some hF
 refine W_norm (fun l w => ∃ x13 : Int, ∃ v2 : Value, ∃ x14 : (List Int), ∃ x15 : Int, ∃ x16 : Int, ∃ x17 : Int, ∃ x18 : Int, ∃ x19 : Int, (x13, x14, x15, x16, x17, x18, x19) = r1 ∧ l = [(4, (ptr b1 0)), (5, (ptr b3 0))] ∧ Ctx Fs.flatten w0 w [Item.own v2 (x14 : (List Int)), Item.box b3 [(.int .i64 x13), v2, (.int .i64 x15), (.int .i64 x16), (.int .i64 x17)], Item.box pb1 [u1, (.int .i64 x18), (.int .i64 x19)], Item.box b1 [(.int .i64 0), (.slice none 0 0), (.int .i64 0), (.int .i64 0), (.int .i64 0)]]) ?_ ?_
 ·refine W_block ?_
  have hC45 := hC23.triv (nil_val (α := Int))
  have hC46 := hC45.f4
  have hC47 := hC46.f3
  have hC48 := hC47.f3
  have hC49 := hC48.f3
  have hC50 := hC49.h4
  refine W.sub (l' := [(0, (ptr pb1 0)), (1, u2), (4, (ptr b1 0)), (5, (ptr b3 0)), (6, (.int .i64 0))]) ?_ ⟨rfl, rfl, rfl, rfl, rfl, trivial⟩
  refine W_loop (fun k l w => ∃ x5 : Int, ∃ v1 : Value, ∃ x6 : (List Int), ∃ x7 : Int, ∃ x8 : Int, ∃ x9 : Int, ∃ x10 : Int, ∃ x11 : Int, ∃ x12 : Int, l = [(0, (ptr pb1 0)), (1, u2), (4, (ptr b1 0)), (5, (ptr b3 0)), (6, (.int .i64 x12))] ∧ Ctx Fs.flatten w0 w [Item.own v1 (x6 : (List Int)), Item.box b3 [(.int .i64 x5), v1, (.int .i64 x7), (.int .i64 x8), (.int .i64 x9)], Item.box pb1 [u1, (.int .i64 x10), (.int .i64 x11)], Item.box b1 [(.int .i64 0), (.slice none 0 0), (.int .i64 0), (.int .i64 0), (.int .i64 0)]] ∧ S.l5Method_l1 a2 a1 k x5 x6 x7 x8 x9 x10 x11 x12 = some r1) FUEL ⟨x1.1, (.slice none 0 0), [], x2.1, x3.1, w64 (1 + x4.1), x4.2.2.1, x4.2.2.2, 0, rfl, hC50, hr5⟩ ?_
  clear hr5
  rintro k1 _ w10 ⟨x5, v1, x6, x7, x8, x9, x10, x11, x12, rfl, hC24, hL1⟩
  cases k1 with
  | zero => rw [S.l5Method_l1] at hL1; cases hL1
  | succ k1 =>
   rw [S.l5Method_l1] at hL1
   refine W_seq (W_seq_reg ?_)
   refine WL_move rfl rfl ?_
   refine WL_move rfl rfl ?_
   refine WL_field Tryd.underlying123 rfl rfl (fun w => ⟨_, Tryd.sizeOf3 w⟩) rfl rfl ?_
   refine WL_load_box hC24 1 rfl rfl Tryd.isAgg3 rfl rfl ?_
   obtain ⟨x20, hx1, hL1⟩ := bind_some hL1
   refine WL_index Tryd.underlying22 ty3 g2 hx1 rfl rfl rfl (fun b4 o1 h1 => ?_)
   refine WL_load ty3 h1 hC24.keep rfl rfl (fun v3 h2 => ?_)
   obtain rfl := ro_int h2
   refine WL_lss rfl rfl rfl ?_
   refine WL_nil ?_
   refine W_cond rfl (fun hc1 => ?_) (fun hc1 => ?_)
   ·replace hL1 := ite_t hL1 hc1
    refine W_skip (nrm_normal (W_seq (W_block (W_seq_reg ?_))))
    refine WL_move rfl rfl ?_
    obtain ⟨x21, hr6, hL1⟩ := bind_some hL1
    have hC25 := hC24.f2
    obtain ⟨Fs5, hH5, hn5, hF5, hO5, hb5⟩ := Ctx.lend2 (As := [Item.own v1 (x6 : (List Int)), Item.box b3 [(.int .i64 x5), v1, (.int .i64 x7), (.int .i64 x8), (.int .i64 x9)], Item.box b1 [(.int .i64 0), (.slice none 0 0), (.int .i64 0), (.int .i64 0), (.int .i64 0)]]) [Item.box pb1 [u1, (.int .i64 x10), (.int .i64 x11)]] hC25
    refine WL_call Tryd.call70 rfl rfl (c_S_l1Once pb1 (a1.1, x10, x11) u1 (RO.lent g1 hC25.keep hF5) 3 hH5 hn5 x21 hr6) ?_
    rintro _ w11 ⟨rfl, hq5⟩
    have hC26 : Ctx Fs.flatten w0 w11 [Item.box pb1 [u1, (.int .i64 x21.2.2.1), (.int .i64 x21.2.2.2)], Item.own v1 (x6 : (List Int)), Item.box b3 [(.int .i64 x5), v1, (.int .i64 x7), (.int .i64 x8), (.int .i64 x9)], Item.box b1 [(.int .i64 0), (.slice none 0 0), (.int .i64 0), (.int .i64 0), (.int .i64 0)]] := hb5 _ _ hq5
    refine WL_nil ?_
    obtain ⟨r2, hr7, hL1⟩ := bind_some hL1
    refine W_norm (fun l w => ∃ x22 : Int, ∃ v4 : Value, ∃ x23 : (List Int), ∃ x24 : Int, ∃ x25 : Int, ∃ x26 : Int, (x22, x23, x24, x25, x26) = r2 ∧ l = [(0, (ptr pb1 0)), (1, u2), (4, (ptr b1 0)), (5, (ptr b3 0)), (6, (.int .i64 x12))] ∧ Ctx Fs.flatten w0 w [Item.box pb1 [u1, (.int .i64 x21.2.2.1), (.int .i64 x21.2.2.2)], Item.own v4 (x23 : (List Int)), Item.box b3 [(.int .i64 x22), v4, (.int .i64 x24), (.int .i64 x25), (.int .i64 x26)], Item.box b1 [(.int .i64 0), (.slice none 0 0), (.int .i64 0), (.int .i64 0), (.int .i64 0)]]) ?_ ?_
    ·refine W_cond rfl (fun hc2 => ?_) (fun hc2 => ?_)
     ·replace hr7 := ite_t hr7 hc2
      refine W_reg ?_
      refine WL_field Tryd.underlying123 rfl rfl (fun w => ⟨_, Tryd.sizeOf22 w⟩) rfl rfl ?_
      refine WL_load_box hC26 2 rfl rfl Tryd.isAgg22 rfl rfl ?_
      refine WL_move rfl rfl ?_
      refine WL_buildSlice (vs := [(.int .i64 x12)]) hC26 Tryd.underlying22 ty3 rfl rfl rfl rfl (by intro v hv; simp only [List.mem_cons, List.not_mem_nil, or_false] at hv; rcases hv with rfl <;> rfl) rfl rfl (fun b5 w13 hC28 hB6 => ?_)
      have hC29 := hC28.row0 (α := Int)
      have hC30 := hC29.triv (int_val (x12))
      have hC31 := hC30.row1
      have hC32 := hC31.front 1 rfl
      dsimp only [List.eraseIdx, List.cons_append, List.nil_append, List.append_nil] at hC32
      have hC33 : Ctx Fs.flatten w0 w13 (Item.own (.slice (some ⟨b5, 0, none⟩) 1 1) ([x12] : List Int) :: [Item.box pb1 [u1, (.int .i64 x21.2.2.1), (.int .i64 x21.2.2.2)], Item.own v1 (x6 : (List Int)), Item.box b3 [(.int .i64 x5), v1, (.int .i64 x7), (.int .i64 x8), (.int .i64 x9)], Item.box b1 [(.int .i64 0), (.slice none 0 0), (.int .i64 0), (.int .i64 0), (.int .i64 0)]]) := hC32.rowOwn (by simp [maxLen])
      obtain ⟨x27, hx2, hr7⟩ := bind_some hr7
      refine WL_append_flat (α := Int) hC33 2 rfl (hC33.ro 0 rfl) (Keep.refl _ _) Tryd.underlying22 ty3 rfl hx2 rfl rfl rfl (fun v5 w14 hC34 => ?_)
      try dsimp only [List.set] at hC34
      refine WL_field Tryd.underlying123 rfl rfl (fun w => ⟨_, Tryd.sizeOf22 w⟩) rfl rfl ?_
      refine WL_store_boxK (cs' := [(.int .i64 x5), v5, (.int .i64 x7), (.int .i64 x8), (.int .i64 x9)]) hC34 3 rfl rfl (ro_one (hC34.ro 2 rfl)) rfl Tryd.sizeOf22 rfl rfl (fun w15 hC35 hKp2 => ?_)
      try dsimp only [List.set] at hC35
      refine WL_nil ?_
      have hq6 := Option.some.inj hr7
      subst hq6
      have hC36 := hC35.f4
      have hC37 := hC36.f4
      have hC38 := hC37.f4
      have hC39 := hC38.f4
      have hC40 := hC39.h4
      refine nrm_sub (l' := [(0, (ptr pb1 0)), (1, u2), (4, (ptr b1 0)), (5, (ptr b3 0)), (6, (.int .i64 x12))]) ⟨rfl, rfl, rfl, rfl, rfl, trivial⟩ ?_
      exact ⟨x5, v5, x27, x7, x8, x9, rfl, rfl, hC40⟩
     replace hr7 := ite_f hr7 hc2
     refine W_skip ?_
     have hq7 := Option.some.inj hr7
     subst hq7
     refine nrm_sub (l' := [(0, (ptr pb1 0)), (1, u2), (4, (ptr b1 0)), (5, (ptr b3 0)), (6, (.int .i64 x12))]) ⟨rfl, rfl, rfl, rfl, rfl, trivial⟩ ?_
     exact ⟨x5, v1, x6, x7, x8, x9, rfl, rfl, hC26⟩
    rintro l2 _ w12 hs2 ⟨x22, v4, x23, x24, x25, x26, rfl, rfl, hC27⟩
    try dsimp only at hL1
    refine blk_normal ?_
    refine nrm_sub' hs2 ?_
    clear hs2
    refine W_reg ?_
    refine WL_move rfl rfl ?_
    refine WL_add rfl rfl rfl ?_
    refine WL_assign rfl rfl ?_
    refine WL_nil ?_
    have hC41 := hC27.f3
    have hC42 := hC41.f1
    have hC43 := hC42.f3
    have hC44 := hC43.f3
    refine nrm_sub (l' := [(0, (ptr pb1 0)), (1, u2), (4, (ptr b1 0)), (5, (ptr b3 0)), (6, (.int .i64 (w64 (x12 + 1))))]) ⟨rfl, rfl, rfl, rfl, rfl, trivial⟩ ?_
    exact ⟨k1, Nat.lt_succ_self _, x22, v4, x23, x24, x25, x26, x21.2.2.1, x21.2.2.2, w64 (x12 + 1), rfl, hC44, hL1⟩
   replace hL1 := ite_f hL1 hc1
   refine W_exit (nrm_exit (nrm_exit (blk_exit ?_)))
   have hq8 := Option.some.inj hL1
   subst hq8
   refine nrm_sub (l' := [(4, (ptr b1 0)), (5, (ptr b3 0))]) ⟨rfl, rfl, trivial⟩ ?_
   exact ⟨x5, v1, x6, x7, x8, x9, x10, x11, rfl, rfl, hC24⟩
 rintro l3 _ w16 hs3 ⟨x13, v2, x14, x15, x16, x17, x18, x19, rfl, rfl, hC51⟩
 try dsimp only at hF
 refine nrm_sub' hs3 ?_
 clear hs3
 refine W_seq_reg ?_
 refine WL_load_box_agg [(.int .i64 x13), v2, (.int .i64 x15), (.int .i64 x16), (.int .i64 x17)] hC51 1 rfl rfl rfl Tryd.isAgg123 Tryd.sizeOf123 rfl rfl ?_
 refine WL_store_box_aggK (cs' := [(.int .i64 x13), v2, (.int .i64 x15), (.int .i64 x16), (.int .i64 x17)]) (new := [(.int .i64 x13), v2, (.int .i64 x15), (.int .i64 x16), (.int .i64 x17)]) hC51 3 rfl rfl (by intro v hv; simp only [List.mem_cons, List.not_mem_nil, or_false] at hv; rcases hv with rfl | rfl | rfl | rfl | rfl; exact rfl; exact (ro_one (hC51.ro 0 rfl)); exact rfl; exact rfl; exact rfl) rfl Tryd.sizeOf123 rfl rfl (fun w17 hC52 hKp3 => ?_)
 try dsimp only [List.set] at hC52
 refine WL_nil (W_ret ?_)
 have hq9 := Option.some.inj hF
 subst hq9
 refine fn_retG1 rfl (rv_cell_agg (cs' := [(.int .i64 x13), v2, (.int .i64 x15), (.int .i64 x16), (.int .i64 x17)]) hC52 (i := 3) rfl rfl rfl Tryd.isAgg123 Tryd.sizeOf123 rfl) ?_
 have hC53 := hC52.f2
 have hC55 := hC53.f1
 have hC54 := own_st123 x13 v2 x14 x15 x16 x17 hC55
 have hC56 := hC54.h2
 exact ⟨_, rfl, _, rfl, hC56⟩

theorem c_S_l5Methods {w0 : World} {Fs : List (List Nat)} (pb1 : Nat) (a1 : ((List UInt8) × Int × Int)) (u1 : Value) (g1 : RO Fs.flatten w0 u1 a1.1) (a2 : (List Int)) (u2 : Value) (g2 : RO Fs.flatten w0 u2 a2) (hH : Hold [Item.box pb1 [u1, (.int .i64 a1.2.1), (.int .i64 a1.2.2)]] w0 Fs) (hn : Fs.flatten.Nodup) (rr : ((List (Int × (List Int) × Int × Int × Int)) × ((List UInt8) × Int × Int))) (hF : S.l5Methods a1 a2 = some rr) :
 Calls Tryd.prog 94 [(ptr pb1 0), u2].toArray w0 fun e w' => ∃ v, e = .returned v ∧ ∃ q0 : Value, v = q0 ∧ Ctx Fs.flatten w0 w' [Item.own q0 (rr.1 : (List (Int × (List Int) × Int × Int × Int))), Item.box pb1 [u1, (.int .i64 rr.2.2.1), (.int .i64 rr.2.2.2)]] := by
 refine calls_of_W Tryd.func94 rfl rfl ?_
 have hC0 := Ctx.startIn hH hn
 unfold S.l5Methods at hF
 refine W_seq_reg ?_
 refine WL_assign rfl rfl ?_
 refine WL_nil (W_seq_reg ?_)
 refine WL_buildSlice (vs := []) hC0 Tryd.underlying109 ty123 rfl rfl rfl rfl (by simp) rfl rfl (fun b1 w1 hC1 hB1 => ?_)
 have hC2 := hC1.row0 (α := (Int × (List Int) × Int × Int × Int))
 have hC3 := hC2.front 1 rfl
 dsimp only [List.eraseIdx, List.cons_append, List.nil_append, List.append_nil] at hC3
 have hC4 : Ctx Fs.flatten w0 w1 (Item.own (.slice (some ⟨b1, 0, none⟩) 0 0) (([] : List (Int × (List Int) × Int × Int × Int)) : List (Int × (List Int) × Int × Int × Int)) :: [Item.box pb1 [u1, (.int .i64 a1.2.1), (.int .i64 a1.2.2)]]) := hC3.rowOwn (by simp [maxLen])
 refine WL_assign rfl rfl ?_
 refine WL_nil (W_seq (W_seq_reg ?_))
 refine WL_move rfl rfl ?_
 obtain ⟨x1, hr1, hF⟩ := bind_some hF
 have hC5 := hC4.f1
 obtain ⟨Fs1, hH1, hn1, hF1, hO1, hb1⟩ := Ctx.lend2 (As := [Item.own (.slice (some ⟨b1, 0, none⟩) 0 0) (([] : List (Int × (List Int) × Int × Int × Int)) : (List (Int × (List Int) × Int × Int × Int)))]) [Item.box pb1 [u1, (.int .i64 a1.2.1), (.int .i64 a1.2.2)]] hC5
 refine WL_call Tryd.call64 rfl rfl (c_S_l1Below pb1 (a1.1, a1.2.1, a1.2.2) u1 (RO.lent g1 hC5.keep hF1) 4 hH1 hn1 x1 hr1) ?_
 rintro _ w2 ⟨rfl, hq1⟩
 have hC6 : Ctx Fs.flatten w0 w2 [Item.box pb1 [u1, (.int .i64 x1.2.2.1), (.int .i64 x1.2.2.2)], Item.own (.slice (some ⟨b1, 0, none⟩) 0 0) (([] : List (Int × (List Int) × Int × Int × Int)) : (List (Int × (List Int) × Int × Int × Int)))] := hb1 _ _ hq1
 refine WL_add rfl rfl rfl ?_
 refine WL_assign rfl rfl ?_
 refine WL_nil ?_
 obtain ⟨r1, hr2, hF⟩ := bind_some hF
 refine W_norm (fun l w => ∃ x6 : Int, ∃ x7 : Int, ∃ v2 : Value, ∃ x8 : (List (Int × (List Int) × Int × Int × Int)), (x6, x7, x8) = r1 ∧ l = [(5, v2)] ∧ Ctx Fs.flatten w0 w [Item.box pb1 [u1, (.int .i64 x6), (.int .i64 x7)], Item.own v2 (x8 : (List (Int × (List Int) × Int × Int × Int)))]) ?_ ?_
 ·refine W_block ?_
  refine W.sub (l' := [(0, (ptr pb1 0)), (1, u2), (5, (.slice (some ⟨b1, 0, none⟩) 0 0)), (6, (.int .i64 (w64 (1 + x1.1))))]) ?_ ⟨rfl, rfl, rfl, rfl, trivial⟩
  refine W_loop (fun k l w => ∃ x2 : Int, ∃ x3 : Int, ∃ v1 : Value, ∃ x4 : (List (Int × (List Int) × Int × Int × Int)), ∃ x5 : Int, l = [(0, (ptr pb1 0)), (1, u2), (5, v1), (6, (.int .i64 x5))] ∧ Ctx Fs.flatten w0 w [Item.box pb1 [u1, (.int .i64 x2), (.int .i64 x3)], Item.own v1 (x4 : (List (Int × (List Int) × Int × Int × Int)))] ∧ S.l5Methods_l1 a1 a2 k x2 x3 x4 x5 = some r1) FUEL ⟨x1.2.2.1, x1.2.2.2, (.slice (some ⟨b1, 0, none⟩) 0 0), ([] : List (Int × (List Int) × Int × Int × Int)), w64 (1 + x1.1), rfl, hC6, hr2⟩ ?_
  clear hr2
  rintro k1 _ w3 ⟨x2, x3, v1, x4, x5, rfl, hC7, hL1⟩
  cases k1 with
  | zero => rw [S.l5Methods_l1] at hL1; cases hL1
  | succ k1 =>
   rw [S.l5Methods_l1] at hL1
   refine W_seq (W_seq_reg ?_)
   refine WL_move rfl rfl ?_
   refine WL_gtr rfl rfl rfl ?_
   refine WL_nil ?_
   refine W_cond rfl (fun hc1 => ?_) (fun hc1 => ?_)
   ·replace hL1 := ite_t hL1 hc1
    refine W_skip (nrm_normal (W_seq (W_block (W_seq_reg ?_))))
    refine WL_move rfl rfl ?_
    refine WL_move rfl rfl ?_
    obtain ⟨x9, hr3, hL1⟩ := bind_some hL1
    obtain ⟨Fs2, hH2, hn2, hF2, hO2, hb2⟩ := Ctx.lend2 (As := [Item.own v1 (x4 : (List (Int × (List Int) × Int × Int × Int)))]) [Item.box pb1 [u1, (.int .i64 x2), (.int .i64 x3)]] hC7
    refine WL_call Tryd.call105 rfl rfl (c_S_l5Method pb1 (a1.1, x2, x3) u1 (RO.lent g1 hC7.keep hF2) a2 u2 (RO.lent g2 hC7.keep hF2) hH2 hn2 x9 hr3) ?_
    rintro v3 w4 ⟨_, rfl, hq2⟩
    have hC8 : Ctx Fs.flatten w0 w4 [Item.own v3 (x9.1 : (Int × (List Int) × Int × Int × Int)), Item.box pb1 [u1, (.int .i64 x9.2.2.1), (.int .i64 x9.2.2.2)], Item.own v1 (x4 : (List (Int × (List Int) × Int × Int × Int)))] := hb2 _ _ hq2
    obtain ⟨v4, rfl, hC9⟩ := st123_own hC8
    refine WL_allocK hC9 zero123 rfl rfl (fun b2 w5 hC10 hB3 hN1 => ?_)
    refine WL_store_box_aggK (cs' := [(.int .i64 x9.1.1), v4, (.int .i64 x9.1.2.2.1), (.int .i64 x9.1.2.2.2.1), (.int .i64 x9.1.2.2.2.2)]) (new := [(.int .i64 x9.1.1), v4, (.int .i64 x9.1.2.2.1), (.int .i64 x9.1.2.2.2.1), (.int .i64 x9.1.2.2.2.2)]) hC10 0 rfl rfl (by intro v hv; simp only [List.mem_cons, List.not_mem_nil, or_false] at hv; rcases hv with rfl | rfl | rfl | rfl | rfl; exact rfl; exact (ro_one (hC10.ro 1 rfl)); exact rfl; exact rfl; exact rfl) rfl Tryd.sizeOf123 rfl rfl (fun w6 hC11 hKp1 => ?_)
    try dsimp only [List.set] at hC11
    have hk1 := Keep.over (Keep.of hB3) hN1 hKp1
    refine WL_nil (W_reg ?_)
    refine WL_move rfl rfl ?_
    refine WL_load_box_agg [(.int .i64 x9.1.1), v4, (.int .i64 x9.1.2.2.1), (.int .i64 x9.1.2.2.2.1), (.int .i64 x9.1.2.2.2.2)] hC11 0 rfl rfl rfl Tryd.isAgg123 Tryd.sizeOf123 rfl rfl ?_
    refine WL_buildSlice (vs := [(.agg #[(.int .i64 x9.1.1), v4, (.int .i64 x9.1.2.2.1), (.int .i64 x9.1.2.2.2.1), (.int .i64 x9.1.2.2.2.2)])]) hC11 Tryd.underlying109 ty123 rfl rfl rfl rfl (by intro v hv; simp only [List.mem_cons, List.not_mem_nil, or_false] at hv; rcases hv with rfl <;> rfl) rfl rfl (fun b3 w7 hC12 hB4 => ?_)
    have hC13 := hC12.row0 (α := (Int × (List Int) × Int × Int × Int))
    have hC15 := hC13.f3
    have hC14 := own_st123 x9.1.1 v4 x9.1.2.1 x9.1.2.2.1 x9.1.2.2.2.1 x9.1.2.2.2.2 hC15
    have hC16 := hC14.row1
    have hC17 := hC16.front 1 rfl
    dsimp only [List.eraseIdx, List.cons_append, List.nil_append, List.append_nil] at hC17
    have hC18 : Ctx Fs.flatten w0 w7 (Item.own (.slice (some ⟨b3, 0, none⟩) 1 1) ([(x9.1.1, x9.1.2.1, x9.1.2.2.1, x9.1.2.2.2.1, x9.1.2.2.2.2)] : List (Int × (List Int) × Int × Int × Int)) :: [Item.box b2 [(.int .i64 x9.1.1), v4, (.int .i64 x9.1.2.2.1), (.int .i64 x9.1.2.2.2.1), (.int .i64 x9.1.2.2.2.2)], Item.box pb1 [u1, (.int .i64 x9.2.2.1), (.int .i64 x9.2.2.2)], Item.own v1 (x4 : (List (Int × (List Int) × Int × Int × Int)))]) := hC17.rowOwn (by simp [maxLen])
    obtain ⟨x10, hx1, hL1⟩ := bind_some hL1
    refine WL_append_head hC18 2 rfl Tryd.underlying109 ty123 rfl hx1 rfl rfl rfl (fun v5 w9 hC19 => ?_)
    try dsimp only [List.set] at hC19
    refine WL_assign rfl rfl ?_
    refine WL_nil (blk_normal (nrm_normal (W_reg ?_)))
    refine WL_move rfl rfl ?_
    refine WL_sub rfl rfl rfl ?_
    refine WL_assign rfl rfl ?_
    refine WL_nil ?_
    have hC21 := hC19.f2
    have hC22 := hC21.f2
    have hC23 := hC22.h2
    refine nrm_sub (l' := [(0, (ptr pb1 0)), (1, u2), (5, v5), (6, (.int .i64 (w64 (x5 - 1))))]) ⟨rfl, rfl, rfl, rfl, trivial⟩ ?_
    exact ⟨k1, Nat.lt_succ_self _, x9.2.2.1, x9.2.2.2, v5, x10, w64 (x5 - 1), rfl, hC23, hL1⟩
   replace hL1 := ite_f hL1 hc1
   refine W_exit (nrm_exit (nrm_exit (blk_exit ?_)))
   have hq3 := Option.some.inj hL1
   subst hq3
   refine nrm_sub (l' := [(5, v1)]) ⟨rfl, trivial⟩ ?_
   exact ⟨x2, x3, v1, x4, rfl, rfl, hC7⟩
 rintro l2 _ w10 hs2 ⟨x6, x7, v2, x8, rfl, rfl, hC24⟩
 try dsimp only at hF
 refine nrm_sub' hs2 ?_
 clear hs2
 refine W_seq_reg ?_
 refine WL_move rfl rfl ?_
 refine WL_assign rfl rfl ?_
 refine WL_nil (W_ret ?_)
 have hq4 := Option.some.inj hF
 subst hq4
 refine fn_ret1 rfl rfl ?_
 have hC25 := hC24.f1
 exact ⟨_, rfl, _, rfl, hC25⟩

theorem c_S_l5AnyMethod {w0 : World} {Fs : List (List Nat)} (pb1 : Nat) (a1 : ((List UInt8) × Int × Int)) (u1 : Value) (g1 : RO Fs.flatten w0 u1 a1.1) (a2 : (List Int)) (u2 : Value) (g2 : RO Fs.flatten w0 u2 a2) (hH : Hold [Item.box pb1 [u1, (.int .i64 a1.2.1), (.int .i64 a1.2.2)]] w0 Fs) (hn : Fs.flatten.Nodup) (rr : ((Int × (List Int) × Int × Int × Int) × ((List UInt8) × Int × Int))) (hF : S.l5AnyMethod a1 a2 = some rr) :
 Calls Tryd.prog 95 [(ptr pb1 0), u2].toArray w0 fun e w' => ∃ v, e = .returned v ∧ ∃ q0 : Value, v = q0 ∧ Ctx Fs.flatten w0 w' [Item.own q0 (rr.1 : (Int × (List Int) × Int × Int × Int)), Item.box pb1 [u1, (.int .i64 rr.2.2.1), (.int .i64 rr.2.2.2)]] := by
 refine calls_of_W Tryd.func95 rfl rfl ?_
 have hC0 := Ctx.startIn hH hn
 unfold S.l5AnyMethod at hF
 refine W_seq_reg ?_
 refine WL_allocK hC0 zero123 rfl rfl (fun b1 w1 hC1 hB1 hN1 => ?_)
 refine WL_nil (W_seq_reg ?_)
 refine WL_build (vs := [(4, (.int .i64 1))]) rfl rfl rfl (built123_4 rfl) ?_
 refine WL_allocK hC1 zero123 rfl rfl (fun b2 w2 hC2 hB2 hN2 => ?_)
 refine WL_store_box_aggK (cs' := [(.int .i64 0), (.slice none 0 0), (.int .i64 0), (.int .i64 0), (.int .i64 1)]) (new := [(.int .i64 0), (.slice none 0 0), (.int .i64 0), (.int .i64 0), (.int .i64 1)]) hC2 0 rfl rfl (by intro v hv; simp only [List.mem_cons, List.not_mem_nil, or_false] at hv; rcases hv with rfl | rfl | rfl | rfl | rfl; exact rfl; exact rfl; exact rfl; exact rfl; exact rfl) rfl Tryd.sizeOf123 rfl rfl (fun w3 hC3 hKp1 => ?_)
 try dsimp only [List.set] at hC3
 have hk1 := Keep.over ((Keep.of hB1).then hB2) (Nat.le_trans (Keep.of hB1).size hN2) hKp1
 have hk2 := Keep.over (Keep.of hB2) hN2 hKp1
 refine WL_nil (W_seq (W_seq_reg ?_))
 refine WL_move rfl rfl ?_
 obtain ⟨x1, hr1, hF⟩ := bind_some hF
 refine WL_call Tryd.call85 rfl rfl (c_S_IsSchema a2 u2 (g2.now hC3.keep) x1 hr1) ?_
 intro _ w4 hv1
 obtain ⟨rfl, hB3⟩ := res_bool hv1
 have hC4 := hC3.grow hB3
 refine WL_nil ?_
 obtain ⟨r1, hr2, hF⟩ := bind_some hF
 refine W_norm (fun l w => ∃ x2 : Int, ∃ v1 : Value, ∃ x3 : (List Int), ∃ x4 : Int, ∃ x5 : Int, ∃ x6 : Int, ∃ x7 : Int, ∃ x8 : Int, (x2, x3, x4, x5, x6, x7, x8) = r1 ∧ l = [(0, (ptr pb1 0)), (4, (ptr b1 0)), (5, (ptr b2 0))] ∧ Ctx Fs.flatten w0 w [Item.own v1 (x3 : (List Int)), Item.box b2 [(.int .i64 x2), v1, (.int .i64 x4), (.int .i64 x5), (.int .i64 x6)], Item.box b1 [(.int .i64 0), (.slice none 0 0), (.int .i64 0), (.int .i64 0), (.int .i64 0)], Item.box pb1 [u1, (.int .i64 x7), (.int .i64 x8)]]) ?_ ?_
 ·refine W_cond rfl (fun hc1 => ?_) (fun hc1 => ?_)
  ·replace hr2 := ite_t hr2 hc1
   refine W_reg ?_
   refine WL_move rfl rfl ?_
   refine WL_move rfl rfl ?_
   obtain ⟨x9, hr3, hr2⟩ := bind_some hr2
   have hC6 := hC4.f2
   obtain ⟨Fs1, hH1, hn1, hF1, hO1, hb1⟩ := Ctx.lend2 (As := [Item.box b2 [(.int .i64 0), (.slice none 0 0), (.int .i64 0), (.int .i64 0), (.int .i64 1)], Item.box b1 [(.int .i64 0), (.slice none 0 0), (.int .i64 0), (.int .i64 0), (.int .i64 0)]]) [Item.box pb1 [u1, (.int .i64 a1.2.1), (.int .i64 a1.2.2)]] hC6
   refine WL_call Tryd.call105 rfl rfl (c_S_l5Method pb1 (a1.1, a1.2.1, a1.2.2) u1 (RO.lent g1 hC6.keep hF1) a2 u2 (RO.lent g2 hC6.keep hF1) hH1 hn1 x9 hr3) ?_
   rintro v2 w6 ⟨_, rfl, hq1⟩
   have hC7 : Ctx Fs.flatten w0 w6 [Item.own v2 (x9.1 : (Int × (List Int) × Int × Int × Int)), Item.box pb1 [u1, (.int .i64 x9.2.2.1), (.int .i64 x9.2.2.2)], Item.box b2 [(.int .i64 0), (.slice none 0 0), (.int .i64 0), (.int .i64 0), (.int .i64 1)], Item.box b1 [(.int .i64 0), (.slice none 0 0), (.int .i64 0), (.int .i64 0), (.int .i64 0)]] := hb1 _ _ hq1
   obtain ⟨v3, rfl, hC8⟩ := st123_own hC7
   refine WL_store_box_aggK (cs' := [(.int .i64 x9.1.1), v3, (.int .i64 x9.1.2.2.1), (.int .i64 x9.1.2.2.2.1), (.int .i64 x9.1.2.2.2.2)]) (new := [(.int .i64 x9.1.1), v3, (.int .i64 x9.1.2.2.1), (.int .i64 x9.1.2.2.2.1), (.int .i64 x9.1.2.2.2.2)]) hC8 2 rfl rfl (by intro v hv; simp only [List.mem_cons, List.not_mem_nil, or_false] at hv; rcases hv with rfl | rfl | rfl | rfl | rfl; exact rfl; exact (ro_one (hC8.ro 0 rfl)); exact rfl; exact rfl; exact rfl) rfl Tryd.sizeOf123 rfl rfl (fun w7 hC9 hKp2 => ?_)
   try dsimp only [List.set] at hC9
   refine WL_nil ?_
   have hq2 := Option.some.inj hr2
   subst hq2
   have hC10 := hC9.f1
   have hC11 := hC10.f3
   have hC12 := hC11.f3
   have hC13 := hC12.f3
   refine nrm_sub (l' := [(0, (ptr pb1 0)), (4, (ptr b1 0)), (5, (ptr b2 0))]) ⟨rfl, rfl, rfl, trivial⟩ ?_
   exact ⟨x9.1.1, v3, x9.1.2.1, x9.1.2.2.1, x9.1.2.2.2.1, x9.1.2.2.2.2, x9.2.2.1, x9.2.2.2, rfl, rfl, hC13⟩
  replace hr2 := ite_f hr2 hc1
  refine W_skip ?_
  have hq3 := Option.some.inj hr2
  subst hq3
  have hC14 := hC4.triv (nil_val (α := Int))
  refine nrm_sub (l' := [(0, (ptr pb1 0)), (4, (ptr b1 0)), (5, (ptr b2 0))]) ⟨rfl, rfl, rfl, trivial⟩ ?_
  exact ⟨0, (.slice none 0 0), [], 0, 0, 1, a1.2.1, a1.2.2, rfl, rfl, hC14⟩
 rintro l1 _ w5 hs1 ⟨x2, v1, x3, x4, x5, x6, x7, x8, rfl, rfl, hC5⟩
 try dsimp only at hF
 refine nrm_sub' hs1 ?_
 clear hs1
 refine W_seq (W_seq_reg ?_)
 refine WL_move rfl rfl ?_
 obtain ⟨x10, hr4, hF⟩ := bind_some hF
 have hC15 := hC5.f3
 obtain ⟨Fs2, hH2, hn2, hF2, hO2, hb2⟩ := Ctx.lend2 (As := [Item.own v1 (x3 : (List Int)), Item.box b2 [(.int .i64 x2), v1, (.int .i64 x4), (.int .i64 x5), (.int .i64 x6)], Item.box b1 [(.int .i64 0), (.slice none 0 0), (.int .i64 0), (.int .i64 0), (.int .i64 0)]]) [Item.box pb1 [u1, (.int .i64 x7), (.int .i64 x8)]] hC15
 refine WL_call Tryd.call64 rfl rfl (c_S_l1Below pb1 (a1.1, x7, x8) u1 (RO.lent g1 hC15.keep hF2) 10 hH2 hn2 x10 hr4) ?_
 rintro _ w9 ⟨rfl, hq4⟩
 have hC16 : Ctx Fs.flatten w0 w9 [Item.box pb1 [u1, (.int .i64 x10.2.2.1), (.int .i64 x10.2.2.2)], Item.own v1 (x3 : (List Int)), Item.box b2 [(.int .i64 x2), v1, (.int .i64 x4), (.int .i64 x5), (.int .i64 x6)], Item.box b1 [(.int .i64 0), (.slice none 0 0), (.int .i64 0), (.int .i64 0), (.int .i64 0)]] := hb2 _ _ hq4
 refine WL_nil (W_block (W_seq_reg ?_))
 refine WL_eql rfl rfl rfl ?_
 refine WL_assign rfl rfl ?_
 refine WL_nil ?_
 obtain ⟨r2, hr5, hF⟩ := bind_some hF
 refine W_norm (fun l w => ∃ x11 : Int, ∃ x12 : Int, ∃ x13 : Int, ∃ v4 : Value, ∃ x14 : (List Int), ∃ x15 : Int, ∃ x16 : Int, ∃ x17 : Int, (x11, x12, x13, x14, x15, x16, x17) = r2 ∧ l = [(4, (ptr b1 0)), (5, (ptr b2 0))] ∧ Ctx Fs.flatten w0 w [Item.box pb1 [u1, (.int .i64 x11), (.int .i64 x12)], Item.own v4 (x14 : (List Int)), Item.box b2 [(.int .i64 x13), v4, (.int .i64 x15), (.int .i64 x16), (.int .i64 x17)], Item.box b1 [(.int .i64 0), (.slice none 0 0), (.int .i64 0), (.int .i64 0), (.int .i64 0)]]) ?_ ?_
 ·refine W_cond rfl (fun hc2 => ?_) (fun hc2 => ?_)
  ·replace hr5 := ite_t hr5 hc2
   refine W_reg ?_
   refine WL_move rfl rfl ?_
   refine WL_buildSlice (vs := [(.int .i64 (-1)), (.int .i64 9), (.int .i64 10)]) hC16 Tryd.underlying22 ty3 rfl rfl rfl rfl (by intro v hv; simp only [List.mem_cons, List.not_mem_nil, or_false] at hv; rcases hv with rfl | rfl | rfl <;> rfl) rfl rfl (fun b3 w11 hC18 hB6 => ?_)
   have hC19 := hC18.row0 (α := Int)
   have hC20 := hC19.triv (int_val (10))
   have hC21 := hC20.row1
   have hC22 := hC21.triv (int_val (9))
   have hC23 := hC22.row1
   have hC24 := hC23.triv (int_val ((-1)))
   have hC25 := hC24.row1
   have hC26 := hC25.front 1 rfl
   dsimp only [List.eraseIdx, List.cons_append, List.nil_append, List.append_nil] at hC26
   have hC27 : Ctx Fs.flatten w0 w11 (Item.own (.slice (some ⟨b3, 0, none⟩) 3 3) ([(-1), 9, 10] : List Int) :: [Item.box pb1 [u1, (.int .i64 x10.2.2.1), (.int .i64 x10.2.2.2)], Item.own v1 (x3 : (List Int)), Item.box b2 [(.int .i64 x2), v1, (.int .i64 x4), (.int .i64 x5), (.int .i64 x6)], Item.box b1 [(.int .i64 0), (.slice none 0 0), (.int .i64 0), (.int .i64 0), (.int .i64 0)]]) := hC26.rowOwn (by simp [maxLen])
   obtain ⟨x18, hr6, hr5⟩ := bind_some hr5
   have hC28 := hC27.f1
   obtain ⟨Fs3, hH3, hn3, hF3, hO3, hb3⟩ := Ctx.lend2 (As := [Item.own (.slice (some ⟨b3, 0, none⟩) 3 3) ([(-1), 9, 10] : (List Int)), Item.own v1 (x3 : (List Int)), Item.box b2 [(.int .i64 x2), v1, (.int .i64 x4), (.int .i64 x5), (.int .i64 x6)], Item.box b1 [(.int .i64 0), (.slice none 0 0), (.int .i64 0), (.int .i64 0), (.int .i64 0)]]) [Item.box pb1 [u1, (.int .i64 x10.2.2.1), (.int .i64 x10.2.2.2)]] hC28
   refine WL_call Tryd.call98 rfl rfl (c_S_l1PickInt pb1 (a1.1, x10.2.2.1, x10.2.2.2) u1 (RO.lent g1 hC28.keep hF3) ([(-1), 9, 10]) (.slice (some ⟨b3, 0, none⟩) 3 3) (hO3 0 _ _ _ rfl) hH3 hn3 x18 hr6) ?_
   rintro _ w12 ⟨rfl, hq5⟩
   have hC29 : Ctx Fs.flatten w0 w12 [Item.box pb1 [u1, (.int .i64 x18.2.2.1), (.int .i64 x18.2.2.2)], Item.own (.slice (some ⟨b3, 0, none⟩) 3 3) ([(-1), 9, 10] : (List Int)), Item.own v1 (x3 : (List Int)), Item.box b2 [(.int .i64 x2), v1, (.int .i64 x4), (.int .i64 x5), (.int .i64 x6)], Item.box b1 [(.int .i64 0), (.slice none 0 0), (.int .i64 0), (.int .i64 0), (.int .i64 0)]] := hb3 _ _ hq5
   refine WL_field Tryd.underlying123 rfl rfl (fun w => ⟨_, Tryd.sizeOf3 w⟩) rfl rfl ?_
   refine WL_store_boxK (cs' := [(.int .i64 x2), v1, (.int .i64 x18.1), (.int .i64 x5), (.int .i64 x6)]) hC29 3 rfl rfl rfl rfl Tryd.sizeOf3 rfl rfl (fun w13 hC30 hKp3 => ?_)
   try dsimp only [List.set] at hC30
   refine WL_nil ?_
   have hq6 := Option.some.inj hr5
   subst hq6
   have hC31 := hC30.f4
   have hC32 := hC31.f4
   have hC33 := hC32.f4
   have hC34 := hC33.f3
   have hC35 := hC34.h4
   refine nrm_sub (l' := [(4, (ptr b1 0)), (5, (ptr b2 0))]) ⟨rfl, rfl, trivial⟩ ?_
   exact ⟨x18.2.2.1, x18.2.2.2, x2, v1, x3, x18.1, x5, x6, rfl, rfl, hC35⟩
  replace hr5 := ite_f hr5 hc2
  refine W_seq_reg ?_
  refine WL_eql rfl rfl rfl ?_
  refine WL_assign rfl rfl ?_
  refine WL_nil ?_
  obtain ⟨r3, hr7, hr5⟩ := bind_some hr5
  refine W_norm (fun l w => ∃ x19 : Int, ∃ x20 : Int, ∃ x21 : Int, ∃ v5 : Value, ∃ x22 : (List Int), ∃ x23 : Int, ∃ x24 : Int, ∃ x25 : Int, (x19, x20, x21, x22, x23, x24, x25) = r3 ∧ l = [(4, (ptr b1 0)), (5, (ptr b2 0))] ∧ Ctx Fs.flatten w0 w [Item.box pb1 [u1, (.int .i64 x19), (.int .i64 x20)], Item.own v5 (x22 : (List Int)), Item.box b2 [(.int .i64 x21), v5, (.int .i64 x23), (.int .i64 x24), (.int .i64 x25)], Item.box b1 [(.int .i64 0), (.slice none 0 0), (.int .i64 0), (.int .i64 0), (.int .i64 0)]]) ?_ ?_
  ·refine W_cond rfl (fun hc3 => ?_) (fun hc3 => ?_)
   ·replace hr7 := ite_t hr7 hc3
    obtain ⟨r4, hr8, hr7⟩ := bind_some hr7
    refine W_norm (fun l w => ∃ x26 : Int, ∃ x27 : Int, ∃ x28 : Int, ∃ v6 : Value, ∃ x29 : (List Int), ∃ x30 : Int, ∃ x31 : Int, ∃ x32 : Int, (x26, x27, x28, x29, x30, x31, x32) = r4 ∧ l = [(4, (ptr b1 0)), (5, (ptr b2 0))] ∧ Ctx Fs.flatten w0 w [Item.box pb1 [u1, (.int .i64 x26), (.int .i64 x27)], Item.own v6 (x29 : (List Int)), Item.box b2 [(.int .i64 x28), v6, (.int .i64 x30), (.int .i64 x31), (.int .i64 x32)], Item.box b1 [(.int .i64 0), (.slice none 0 0), (.int .i64 0), (.int .i64 0), (.int .i64 0)]]) ?_ ?_
    ·refine W_drawn 9 rfl hmix (fun w16 hB9 => ?_)
     have hC38 := hC16.grow hB9
     refine WA_tk 0 (by kernel_rfl) rfl rfl (fl_field Tryd.underlying123 rfl rfl (fun w => ⟨_, Tryd.sizeOf22 w⟩) rfl) ?_
     refine WL_field Tryd.underlying123 rfl rfl (fun w => ⟨_, Tryd.sizeOf22 w⟩) rfl rfl ?_
     refine WL_nil ?_
     refine WA_tk 2 (by kernel_rfl) rfl rfl (fl_move rfl) ?_
     refine WL_move rfl rfl ?_
     refine WL_nil ?_
     refine WA_all2 (i := 1) (j := 3) (by kernel_rfl) rfl rfl ?_ ?_
     ·refine WL_load_box hC38 2 rfl rfl Tryd.isAgg22 rfl rfl ?_
      refine WL_nil ?_
      obtain ⟨x33, hr9, hr8⟩ := bind_some hr8
      refine WA_one 3 (by kernel_rfl) rfl ?_
      obtain ⟨Fs4, hH4, hn4, hF4, hO4, hb4⟩ := Ctx.lend2 (As := [Item.own v1 (x3 : (List Int)), Item.box b2 [(.int .i64 x2), v1, (.int .i64 x4), (.int .i64 x5), (.int .i64 x6)], Item.box b1 [(.int .i64 0), (.slice none 0 0), (.int .i64 0), (.int .i64 0), (.int .i64 0)]]) [Item.box pb1 [u1, (.int .i64 x10.2.2.1), (.int .i64 x10.2.2.2)]] hC38
      refine WL_call Tryd.call64 rfl rfl (c_S_l1Below pb1 (a1.1, x10.2.2.1, x10.2.2.2) u1 (RO.lent g1 hC38.keep hF4) 5 hH4 hn4 x33 hr9) ?_
      rintro _ w17 ⟨rfl, hq7⟩
      have hC39 : Ctx Fs.flatten w0 w17 [Item.box pb1 [u1, (.int .i64 x33.2.2.1), (.int .i64 x33.2.2.2)], Item.own v1 (x3 : (List Int)), Item.box b2 [(.int .i64 x2), v1, (.int .i64 x4), (.int .i64 x5), (.int .i64 x6)], Item.box b1 [(.int .i64 0), (.slice none 0 0), (.int .i64 0), (.int .i64 0), (.int .i64 0)]] := hb4 _ _ hq7
      refine WL_nil ?_
      refine WA_tk 4 (by kernel_rfl) rfl rfl (fl_sub rfl rfl) ?_
      refine WL_sub rfl rfl rfl ?_
      refine WL_nil ?_
      refine WA_one 5 (by kernel_rfl) rfl ?_
      refine WL_buildSlice (vs := [(.int .i64 (w64 (x33.1 - 1)))]) hC39 Tryd.underlying22 ty3 rfl rfl rfl rfl (by intro v hv; simp only [List.mem_cons, List.not_mem_nil, or_false] at hv; rcases hv with rfl <;> rfl) rfl rfl (fun b4 w18 hC40 hB10 => ?_)
      have hC41 := hC40.row0 (α := Int)
      have hC42 := hC41.triv (int_val (w64 (x33.1 - 1)))
      have hC43 := hC42.row1
      have hC44 := hC43.front 1 rfl
      dsimp only [List.eraseIdx, List.cons_append, List.nil_append, List.append_nil] at hC44
      have hC45 : Ctx Fs.flatten w0 w18 (Item.own (.slice (some ⟨b4, 0, none⟩) 1 1) ([w64 (x33.1 - 1)] : List Int) :: [Item.box pb1 [u1, (.int .i64 x33.2.2.1), (.int .i64 x33.2.2.2)], Item.own v1 (x3 : (List Int)), Item.box b2 [(.int .i64 x2), v1, (.int .i64 x4), (.int .i64 x5), (.int .i64 x6)], Item.box b1 [(.int .i64 0), (.slice none 0 0), (.int .i64 0), (.int .i64 0), (.int .i64 0)]]) := hC44.rowOwn (by simp [maxLen])
      refine WL_nil ?_
      obtain ⟨x34, hx1, hr8⟩ := bind_some hr8
      refine WA_one 6 (by kernel_rfl) rfl ?_
      refine WL_append_flat (α := Int) hC45 2 rfl (hC45.ro 0 rfl) (Keep.refl _ _) Tryd.underlying22 ty3 rfl hx1 rfl rfl rfl (fun v7 w19 hC46 => ?_)
      try dsimp only [List.set] at hC46
      refine WL_nil ?_
      refine WA_tk 7 (by kernel_rfl) rfl rfl (fl_field Tryd.underlying123 rfl rfl (fun w => ⟨_, Tryd.sizeOf22 w⟩) rfl) ?_
      refine WL_field Tryd.underlying123 rfl rfl (fun w => ⟨_, Tryd.sizeOf22 w⟩) rfl rfl ?_
      refine WL_nil ?_
      refine WA_one 8 (by kernel_rfl) rfl ?_
      refine WL_store_boxK (cs' := [(.int .i64 x2), v7, (.int .i64 x4), (.int .i64 x5), (.int .i64 x6)]) hC46 3 rfl rfl (ro_one (hC46.ro 2 rfl)) rfl Tryd.sizeOf22 rfl rfl (fun w20 hC47 hKp4 => ?_)
      try dsimp only [List.set] at hC47
      refine WL_nil ?_
      refine WA_done (by kernel_rfl) ?_
      have hq8 := Option.some.inj hr8
      subst hq8
      have hC48 := hC47.f4
      have hC49 := hC48.f4
      have hC50 := hC49.f4
      have hC51 := hC50.f4
      have hC52 := hC51.h4
      refine nrm_sub (l' := [(4, (ptr b1 0)), (5, (ptr b2 0))]) ⟨rfl, rfl, trivial⟩ ?_
      exact ⟨x33.2.2.1, x33.2.2.2, x2, v7, x34, x4, x5, x6, rfl, rfl, hC52⟩
     obtain ⟨x33, hr9, hr8⟩ := bind_some hr8
     obtain ⟨Fs4, hH4, hn4, hF4, hO4, hb4⟩ := Ctx.lend2 (As := [Item.own v1 (x3 : (List Int)), Item.box b2 [(.int .i64 x2), v1, (.int .i64 x4), (.int .i64 x5), (.int .i64 x6)], Item.box b1 [(.int .i64 0), (.slice none 0 0), (.int .i64 0), (.int .i64 0), (.int .i64 0)]]) [Item.box pb1 [u1, (.int .i64 x10.2.2.1), (.int .i64 x10.2.2.2)]] hC38
     refine WL_call Tryd.call64 rfl rfl (c_S_l1Below pb1 (a1.1, x10.2.2.1, x10.2.2.2) u1 (RO.lent g1 hC38.keep hF4) 5 hH4 hn4 x33 hr9) ?_
     rintro _ w17 ⟨rfl, hq7⟩
     have hC39 : Ctx Fs.flatten w0 w17 [Item.box pb1 [u1, (.int .i64 x33.2.2.1), (.int .i64 x33.2.2.2)], Item.own v1 (x3 : (List Int)), Item.box b2 [(.int .i64 x2), v1, (.int .i64 x4), (.int .i64 x5), (.int .i64 x6)], Item.box b1 [(.int .i64 0), (.slice none 0 0), (.int .i64 0), (.int .i64 0), (.int .i64 0)]] := hb4 _ _ hq7
     refine WL_nil ?_
     refine WA_tk 4 (by kernel_rfl) rfl rfl (fl_sub rfl rfl) ?_
     refine WL_sub rfl rfl rfl ?_
     refine WL_nil ?_
     refine WA.sub (l' := [(0, (ptr pb1 0)), (4, (ptr b1 0)), (5, (ptr b2 0)), (12, (ptr pb1 0)), (13, (.int .i64 x10.1)), (14, (.bool (decide (x10.1 = 0)))), (15, (.bool (decide (x10.1 = 0)))), (20, (.bool (decide (x10.1 = 1)))), (21, (.bool (decide (x10.1 = 1)))), (22, (ptr b2 1)), (24, (ptr pb1 0)), (25, (.int .i64 x33.1)), (26, (.int .i64 (w64 (x33.1 - 1))))]) ?_ ⟨rfl, rfl, rfl, rfl, rfl, rfl, rfl, rfl, rfl, rfl, rfl, rfl, rfl, trivial⟩
     refine WA_postsE [⟨1, [], fun vs => PW.val v1, []⟩, ⟨5, [], fun vs => PW.own ([w64 (x33.1 - 1)] : (List Int)), []⟩] [[], []] 3 rfl (by kernel_rfl) (by kernel_rfl) rfl ?_ ?_
     ·refine StepsE_cons rfl ?_ ?_
      ·intro w19 hB11
       refine DepsE_nil ?_
       refine ⟨_, rfl, ?_⟩
       refine WL_load_box (hC39.grow hB11) 2 rfl rfl Tryd.isAgg22 rfl rfl ?_
       refine WL_nil ?_
       exact FinE_val (Below.refl _ _) rfl rfl ⟨rfl, rfl⟩
      refine StepsE_cons rfl ?_ ?_
      ·intro w19 hB11
       refine DepsE_nil ?_
       refine ⟨_, rfl, ?_⟩
       refine WL_buildSlice (vs := [(.int .i64 (w64 (x33.1 - 1)))]) (Ctx.start w19) Tryd.underlying22 ty3 rfl rfl rfl rfl (by intro v hv; simp only [List.mem_cons, List.not_mem_nil, or_false] at hv; rcases hv with rfl <;> rfl) rfl rfl (fun b4 w18 hC40 hB10 => ?_)
       have hC41 := hC40.row0 (α := Int)
       have hC42 := hC41.triv (int_val (w64 (x33.1 - 1)))
       have hC43 := hC42.row1
       have hC44 := hC43.front 1 rfl
       dsimp only [List.eraseIdx, List.cons_append, List.nil_append, List.append_nil] at hC44
       have hC45 : Ctx [] w19 w18 (Item.own (.slice (some ⟨b4, 0, none⟩) 1 1) ([w64 (x33.1 - 1)] : List Int) :: []) := hC44.rowOwn (by simp [maxLen])
       refine WL_nil ?_
       exact FinE_ctx hC45 rfl rfl (fun F h => h)
      exact StepsE_nil
     intro w20 hB12
     refine AllE_cons rfl rfl rfl ?_
     rintro _ _ ⟨rfl, rfl⟩
     refine AllE_cons rfl rfl rfl ?_
     intro v7 F1 hv2
     refine AllE_nil ?_
     intro hn5 hb5
     have hC46 := hC39.pushL hB12 (Bs := [Item.own v7 ([w64 (x33.1 - 1)] : (List Int))]) (Fs := [F1]) ⟨F1, _, rfl, hv2, rfl⟩ (by simpa using hn5) (fun b h => (hb5 b (by simpa using h)).1)
     obtain ⟨x34, hx1, hr8⟩ := bind_some hr8
     refine WA_one 6 (by kernel_rfl) rfl ?_
     refine WL_append_flat (α := Int) hC46 2 rfl (hC46.ro 0 rfl) (Keep.refl _ _) Tryd.underlying22 ty3 rfl hx1 rfl rfl rfl (fun v8 w21 hC47 => ?_)
     try dsimp only [List.set] at hC47
     refine WL_nil ?_
     refine WA_tk 7 (by kernel_rfl) rfl rfl (fl_field Tryd.underlying123 rfl rfl (fun w => ⟨_, Tryd.sizeOf22 w⟩) rfl) ?_
     refine WL_field Tryd.underlying123 rfl rfl (fun w => ⟨_, Tryd.sizeOf22 w⟩) rfl rfl ?_
     refine WL_nil ?_
     refine WA_one 8 (by kernel_rfl) rfl ?_
     refine WL_store_boxK (cs' := [(.int .i64 x2), v8, (.int .i64 x4), (.int .i64 x5), (.int .i64 x6)]) hC47 3 rfl rfl (ro_one (hC47.ro 2 rfl)) rfl Tryd.sizeOf22 rfl rfl (fun w22 hC48 hKp4 => ?_)
     try dsimp only [List.set] at hC48
     refine WL_nil ?_
     refine WA_done (by kernel_rfl) ?_
     have hq8 := Option.some.inj hr8
     subst hq8
     have hC49 := hC48.f4
     have hC50 := hC49.f4
     have hC51 := hC50.f4
     have hC52 := hC51.f4
     have hC53 := hC52.h4
     refine nrm_sub (l' := [(4, (ptr b1 0)), (5, (ptr b2 0))]) ⟨rfl, rfl, trivial⟩ ?_
     exact ⟨x33.2.2.1, x33.2.2.2, x2, v8, x34, x4, x5, x6, rfl, rfl, hC53⟩
    rintro l4 _ w15 hs4 ⟨x26, x27, x28, v6, x29, x30, x31, x32, rfl, rfl, hC37⟩
    try dsimp only at hr7
    have hq9 := Option.some.inj hr7
    subst hq9
    refine nrm_subs (l2 := [(4, (ptr b1 0)), (5, (ptr b2 0))]) hs4 ⟨rfl, rfl, trivial⟩ ?_
    exact ⟨x26, x27, x28, v6, x29, x30, x31, x32, rfl, rfl, hC37⟩
   replace hr7 := ite_f hr7 hc3
   refine W_seq_reg ?_
   refine WL_eql rfl rfl rfl ?_
   refine WL_assign rfl rfl ?_
   refine WL_nil ?_
   obtain ⟨r5, hr10, hr7⟩ := bind_some hr7
   refine W_norm (fun l w => ∃ x35 : Int, ∃ x36 : Int, ∃ x37 : Int, ∃ v9 : Value, ∃ x38 : (List Int), ∃ x39 : Int, ∃ x40 : Int, ∃ x41 : Int, (x35, x36, x37, x38, x39, x40, x41) = r5 ∧ l = [(4, (ptr b1 0)), (5, (ptr b2 0))] ∧ Ctx Fs.flatten w0 w [Item.box pb1 [u1, (.int .i64 x35), (.int .i64 x36)], Item.own v9 (x38 : (List Int)), Item.box b2 [(.int .i64 x37), v9, (.int .i64 x39), (.int .i64 x40), (.int .i64 x41)], Item.box b1 [(.int .i64 0), (.slice none 0 0), (.int .i64 0), (.int .i64 0), (.int .i64 0)]]) ?_ ?_
   ·refine W_cond rfl (fun hc4 => ?_) (fun hc4 => ?_)
    ·replace hr10 := ite_t hr10 hc4
     refine W_reg ?_
     refine WL_move rfl rfl ?_
     refine WL_buildSlice (vs := [(.int .i64 0), (.int .i64 99), (.int .i64 100)]) hC16 Tryd.underlying22 ty3 rfl rfl rfl rfl (by intro v hv; simp only [List.mem_cons, List.not_mem_nil, or_false] at hv; rcases hv with rfl | rfl | rfl <;> rfl) rfl rfl (fun b5 w24 hC55 hB14 => ?_)
     have hC56 := hC55.row0 (α := Int)
     have hC57 := hC56.triv (int_val (100))
     have hC58 := hC57.row1
     have hC59 := hC58.triv (int_val (99))
     have hC60 := hC59.row1
     have hC61 := hC60.triv (int_val (0))
     have hC62 := hC61.row1
     have hC63 := hC62.front 1 rfl
     dsimp only [List.eraseIdx, List.cons_append, List.nil_append, List.append_nil] at hC63
     have hC64 : Ctx Fs.flatten w0 w24 (Item.own (.slice (some ⟨b5, 0, none⟩) 3 3) ([0, 99, 100] : List Int) :: [Item.box pb1 [u1, (.int .i64 x10.2.2.1), (.int .i64 x10.2.2.2)], Item.own v1 (x3 : (List Int)), Item.box b2 [(.int .i64 x2), v1, (.int .i64 x4), (.int .i64 x5), (.int .i64 x6)], Item.box b1 [(.int .i64 0), (.slice none 0 0), (.int .i64 0), (.int .i64 0), (.int .i64 0)]]) := hC63.rowOwn (by simp [maxLen])
     obtain ⟨x42, hr11, hr10⟩ := bind_some hr10
     have hC65 := hC64.f1
     obtain ⟨Fs5, hH5, hn6, hF5, hO5, hb6⟩ := Ctx.lend2 (As := [Item.own (.slice (some ⟨b5, 0, none⟩) 3 3) ([0, 99, 100] : (List Int)), Item.own v1 (x3 : (List Int)), Item.box b2 [(.int .i64 x2), v1, (.int .i64 x4), (.int .i64 x5), (.int .i64 x6)], Item.box b1 [(.int .i64 0), (.slice none 0 0), (.int .i64 0), (.int .i64 0), (.int .i64 0)]]) [Item.box pb1 [u1, (.int .i64 x10.2.2.1), (.int .i64 x10.2.2.2)]] hC65
     refine WL_call Tryd.call98 rfl rfl (c_S_l1PickInt pb1 (a1.1, x10.2.2.1, x10.2.2.2) u1 (RO.lent g1 hC65.keep hF5) ([0, 99, 100]) (.slice (some ⟨b5, 0, none⟩) 3 3) (hO5 0 _ _ _ rfl) hH5 hn6 x42 hr11) ?_
     rintro _ w25 ⟨rfl, hq10⟩
     have hC66 : Ctx Fs.flatten w0 w25 [Item.box pb1 [u1, (.int .i64 x42.2.2.1), (.int .i64 x42.2.2.2)], Item.own (.slice (some ⟨b5, 0, none⟩) 3 3) ([0, 99, 100] : (List Int)), Item.own v1 (x3 : (List Int)), Item.box b2 [(.int .i64 x2), v1, (.int .i64 x4), (.int .i64 x5), (.int .i64 x6)], Item.box b1 [(.int .i64 0), (.slice none 0 0), (.int .i64 0), (.int .i64 0), (.int .i64 0)]] := hb6 _ _ hq10
     refine WL_field Tryd.underlying123 rfl rfl (fun w => ⟨_, Tryd.sizeOf3 w⟩) rfl rfl ?_
     refine WL_store_boxK (cs' := [(.int .i64 x2), v1, (.int .i64 x4), (.int .i64 x5), (.int .i64 x42.1)]) hC66 3 rfl rfl rfl rfl Tryd.sizeOf3 rfl rfl (fun w26 hC67 hKp5 => ?_)
     try dsimp only [List.set] at hC67
     refine WL_nil ?_
     have hq11 := Option.some.inj hr10
     subst hq11
     have hC68 := hC67.f4
     have hC69 := hC68.f4
     have hC70 := hC69.f4
     have hC71 := hC70.f3
     have hC72 := hC71.h4
     refine nrm_sub (l' := [(4, (ptr b1 0)), (5, (ptr b2 0))]) ⟨rfl, rfl, trivial⟩ ?_
     exact ⟨x42.2.2.1, x42.2.2.2, x2, v1, x3, x4, x5, x42.1, rfl, rfl, hC72⟩
    replace hr10 := ite_f hr10 hc4
    refine W_seq_reg ?_
    refine WL_eql rfl rfl rfl ?_
    refine WL_assign rfl rfl ?_
    refine WL_nil ?_
    obtain ⟨r6, hr12, hr10⟩ := bind_some hr10
    refine W_norm (fun l w => ∃ x43 : Int, ∃ x44 : Int, ∃ x45 : Int, ∃ v10 : Value, ∃ x46 : (List Int), ∃ x47 : Int, ∃ x48 : Int, ∃ x49 : Int, (x43, x44, x45, x46, x47, x48, x49) = r6 ∧ l = [(4, (ptr b1 0)), (5, (ptr b2 0))] ∧ Ctx Fs.flatten w0 w [Item.box pb1 [u1, (.int .i64 x43), (.int .i64 x44)], Item.own v10 (x46 : (List Int)), Item.box b2 [(.int .i64 x45), v10, (.int .i64 x47), (.int .i64 x48), (.int .i64 x49)], Item.box b1 [(.int .i64 0), (.slice none 0 0), (.int .i64 0), (.int .i64 0), (.int .i64 0)]]) ?_ ?_
    ·refine W_cond rfl (fun hc5 => ?_) (fun hc5 => ?_)
     ·replace hr12 := ite_t hr12 hc5
      refine W_reg ?_
      refine WL_move rfl rfl ?_
      refine WL_buildSlice (vs := [(.int .i64 (-1)), (.int .i64 99), (.int .i64 100)]) hC16 Tryd.underlying22 ty3 rfl rfl rfl rfl (by intro v hv; simp only [List.mem_cons, List.not_mem_nil, or_false] at hv; rcases hv with rfl | rfl | rfl <;> rfl) rfl rfl (fun b6 w28 hC74 hB16 => ?_)
      have hC75 := hC74.row0 (α := Int)
      have hC76 := hC75.triv (int_val (100))
      have hC77 := hC76.row1
      have hC78 := hC77.triv (int_val (99))
      have hC79 := hC78.row1
      have hC80 := hC79.triv (int_val ((-1)))
      have hC81 := hC80.row1
      have hC82 := hC81.front 1 rfl
      dsimp only [List.eraseIdx, List.cons_append, List.nil_append, List.append_nil] at hC82
      have hC83 : Ctx Fs.flatten w0 w28 (Item.own (.slice (some ⟨b6, 0, none⟩) 3 3) ([(-1), 99, 100] : List Int) :: [Item.box pb1 [u1, (.int .i64 x10.2.2.1), (.int .i64 x10.2.2.2)], Item.own v1 (x3 : (List Int)), Item.box b2 [(.int .i64 x2), v1, (.int .i64 x4), (.int .i64 x5), (.int .i64 x6)], Item.box b1 [(.int .i64 0), (.slice none 0 0), (.int .i64 0), (.int .i64 0), (.int .i64 0)]]) := hC82.rowOwn (by simp [maxLen])
      obtain ⟨x50, hr13, hr12⟩ := bind_some hr12
      have hC84 := hC83.f1
      obtain ⟨Fs6, hH6, hn7, hF6, hO6, hb7⟩ := Ctx.lend2 (As := [Item.own (.slice (some ⟨b6, 0, none⟩) 3 3) ([(-1), 99, 100] : (List Int)), Item.own v1 (x3 : (List Int)), Item.box b2 [(.int .i64 x2), v1, (.int .i64 x4), (.int .i64 x5), (.int .i64 x6)], Item.box b1 [(.int .i64 0), (.slice none 0 0), (.int .i64 0), (.int .i64 0), (.int .i64 0)]]) [Item.box pb1 [u1, (.int .i64 x10.2.2.1), (.int .i64 x10.2.2.2)]] hC84
      refine WL_call Tryd.call98 rfl rfl (c_S_l1PickInt pb1 (a1.1, x10.2.2.1, x10.2.2.2) u1 (RO.lent g1 hC84.keep hF6) ([(-1), 99, 100]) (.slice (some ⟨b6, 0, none⟩) 3 3) (hO6 0 _ _ _ rfl) hH6 hn7 x50 hr13) ?_
      rintro _ w29 ⟨rfl, hq12⟩
      have hC85 : Ctx Fs.flatten w0 w29 [Item.box pb1 [u1, (.int .i64 x50.2.2.1), (.int .i64 x50.2.2.2)], Item.own (.slice (some ⟨b6, 0, none⟩) 3 3) ([(-1), 99, 100] : (List Int)), Item.own v1 (x3 : (List Int)), Item.box b2 [(.int .i64 x2), v1, (.int .i64 x4), (.int .i64 x5), (.int .i64 x6)], Item.box b1 [(.int .i64 0), (.slice none 0 0), (.int .i64 0), (.int .i64 0), (.int .i64 0)]] := hb7 _ _ hq12
      refine WL_field Tryd.underlying123 rfl rfl (fun w => ⟨_, Tryd.sizeOf3 w⟩) rfl rfl ?_
      refine WL_store_boxK (cs' := [(.int .i64 x2), v1, (.int .i64 x4), (.int .i64 x50.1), (.int .i64 x6)]) hC85 3 rfl rfl rfl rfl Tryd.sizeOf3 rfl rfl (fun w30 hC86 hKp6 => ?_)
      try dsimp only [List.set] at hC86
      refine WL_nil ?_
      have hq13 := Option.some.inj hr12
      subst hq13
      have hC87 := hC86.f4
      have hC88 := hC87.f4
      have hC89 := hC88.f4
      have hC90 := hC89.f3
      have hC91 := hC90.h4
      refine nrm_sub (l' := [(4, (ptr b1 0)), (5, (ptr b2 0))]) ⟨rfl, rfl, trivial⟩ ?_
      exact ⟨x50.2.2.1, x50.2.2.2, x2, v1, x3, x4, x50.1, x6, rfl, rfl, hC91⟩
     replace hr12 := ite_f hr12 hc5
     refine W_skip ?_
     have hq14 := Option.some.inj hr12
     subst hq14
     refine nrm_sub (l' := [(4, (ptr b1 0)), (5, (ptr b2 0))]) ⟨rfl, rfl, trivial⟩ ?_
     exact ⟨x10.2.2.1, x10.2.2.2, x2, v1, x3, x4, x5, x6, rfl, rfl, hC16⟩
    rintro l6 _ w27 hs6 ⟨x43, x44, x45, v10, x46, x47, x48, x49, rfl, rfl, hC73⟩
    try dsimp only at hr10
    have hq15 := Option.some.inj hr10
    subst hq15
    refine nrm_subs (l2 := [(4, (ptr b1 0)), (5, (ptr b2 0))]) hs6 ⟨rfl, rfl, trivial⟩ ?_
    exact ⟨x43, x44, x45, v10, x46, x47, x48, x49, rfl, rfl, hC73⟩
   rintro l5 _ w23 hs5 ⟨x35, x36, x37, v9, x38, x39, x40, x41, rfl, rfl, hC54⟩
   try dsimp only at hr7
   have hq16 := Option.some.inj hr7
   subst hq16
   refine nrm_subs (l2 := [(4, (ptr b1 0)), (5, (ptr b2 0))]) hs5 ⟨rfl, rfl, trivial⟩ ?_
   exact ⟨x35, x36, x37, v9, x38, x39, x40, x41, rfl, rfl, hC54⟩
  rintro l3 _ w14 hs3 ⟨x19, x20, x21, v5, x22, x23, x24, x25, rfl, rfl, hC36⟩
  try dsimp only at hr5
  have hq17 := Option.some.inj hr5
  subst hq17
  refine nrm_subs (l2 := [(4, (ptr b1 0)), (5, (ptr b2 0))]) hs3 ⟨rfl, rfl, trivial⟩ ?_
  exact ⟨x19, x20, x21, v5, x22, x23, x24, x25, rfl, rfl, hC36⟩
 rintro l2 _ w10 hs2 ⟨x11, x12, x13, v4, x14, x15, x16, x17, rfl, rfl, hC17⟩
 try dsimp only at hF
 refine blk_normal ?_
 refine nrm_sub' hs2 ?_
 clear hs2
 refine W_seq_reg ?_
 refine WL_load_box_agg [(.int .i64 x13), v4, (.int .i64 x15), (.int .i64 x16), (.int .i64 x17)] hC17 2 rfl rfl rfl Tryd.isAgg123 Tryd.sizeOf123 rfl rfl ?_
 refine WL_store_box_aggK (cs' := [(.int .i64 x13), v4, (.int .i64 x15), (.int .i64 x16), (.int .i64 x17)]) (new := [(.int .i64 x13), v4, (.int .i64 x15), (.int .i64 x16), (.int .i64 x17)]) hC17 3 rfl rfl (by intro v hv; simp only [List.mem_cons, List.not_mem_nil, or_false] at hv; rcases hv with rfl | rfl | rfl | rfl | rfl; exact rfl; exact (ro_one (hC17.ro 1 rfl)); exact rfl; exact rfl; exact rfl) rfl Tryd.sizeOf123 rfl rfl (fun w31 hC92 hKp7 => ?_)
 try dsimp only [List.set] at hC92
 refine WL_nil (W_ret ?_)
 have hq18 := Option.some.inj hF
 subst hq18
 refine fn_retG1 rfl (rv_cell_agg (cs' := [(.int .i64 x13), v4, (.int .i64 x15), (.int .i64 x16), (.int .i64 x17)]) hC92 (i := 3) rfl rfl rfl Tryd.isAgg123 Tryd.sizeOf123 rfl) ?_
 have hC94 := hC92.f1
 have hC93 := own_st123 x13 v4 x14 x15 x16 x17 hC94
 have hC95 := hC93.h2
 exact ⟨_, rfl, _, rfl, hC95⟩

theorem c_S_l2AnySchema {w0 : World} {Fs : List (List Nat)} (pb1 : Nat) (a1 : ((List UInt8) × Int × Int)) (u1 : Value) (g1 : RO Fs.flatten w0 u1 a1.1) (hH : Hold [Item.box pb1 [u1, (.int .i64 a1.2.1), (.int .i64 a1.2.2)]] w0 Fs) (hn : Fs.flatten.Nodup) (rr : ((List Int) × ((List UInt8) × Int × Int))) (hF : S.l2AnySchema a1 = some rr) :
 Calls Tryd.prog 96 [(ptr pb1 0)].toArray w0 fun e w' => ∃ v, e = .returned v ∧ ∃ q0 : Value, v = q0 ∧ Ctx Fs.flatten w0 w' [Item.own q0 (rr.1 : (List Int)), Item.box pb1 [u1, (.int .i64 rr.2.2.1), (.int .i64 rr.2.2.2)]] := by
 refine calls_of_W Tryd.func96 rfl rfl ?_
 have hC0 := Ctx.startIn hH hn
 unfold S.l2AnySchema at hF
 refine W_seq_reg ?_
 refine WL_assign rfl rfl ?_
 refine WL_nil (W_seq_reg ?_)
 refine WL_move rfl rfl ?_
 obtain ⟨x1, hr1, hF⟩ := bind_some hF
 obtain ⟨Fs1, hH1, hn1, hF1, hO1, hb1⟩ := Ctx.lend2 (As := []) [Item.box pb1 [u1, (.int .i64 a1.2.1), (.int .i64 a1.2.2)]] hC0
 refine WL_call Tryd.call67 rfl rfl (c_S_l2Schema pb1 (a1.1, a1.2.1, a1.2.2) u1 (RO.lent g1 hC0.keep hF1) hH1 hn1 x1 hr1) ?_
 rintro v1 w1 ⟨_, rfl, hq1⟩
 have hC1 : Ctx Fs.flatten w0 w1 [Item.own v1 (x1.1 : (List Int)), Item.box pb1 [u1, (.int .i64 x1.2.2.1), (.int .i64 x1.2.2.2)]] := hb1 _ _ hq1
 refine WL_assign rfl rfl ?_
 refine WL_nil (W_seq (W_seq_reg ?_))
 refine WL_move rfl rfl ?_
 obtain ⟨x2, hr2, hF⟩ := bind_some hF
 have hC2 := hC1.f1
 obtain ⟨Fs2, hH2, hn2, hF2, hO2, hb2⟩ := Ctx.lend2 (As := [Item.own v1 (x1.1 : (List Int))]) [Item.box pb1 [u1, (.int .i64 x1.2.2.1), (.int .i64 x1.2.2.2)]] hC2
 refine WL_call Tryd.call70 rfl rfl (c_S_l1Once pb1 (a1.1, x1.2.2.1, x1.2.2.2) u1 (RO.lent g1 hC2.keep hF2) 14 hH2 hn2 x2 hr2) ?_
 rintro _ w2 ⟨rfl, hq2⟩
 have hC3 : Ctx Fs.flatten w0 w2 [Item.box pb1 [u1, (.int .i64 x2.2.2.1), (.int .i64 x2.2.2.2)], Item.own v1 (x1.1 : (List Int))] := hb2 _ _ hq2
 refine WL_nil ?_
 obtain ⟨r1, hr3, hF⟩ := bind_some hF
 refine W_norm (fun l w => ∃ x3 : Int, ∃ x4 : Int, ∃ v2 : Value, ∃ x5 : (List Int), (x3, x4, x5) = r1 ∧ l = [(3, v2)] ∧ Ctx Fs.flatten w0 w [Item.box pb1 [u1, (.int .i64 x3), (.int .i64 x4)], Item.own v2 (x5 : (List Int))]) ?_ ?_
 ·refine W_cond rfl (fun hc1 => ?_) (fun hc1 => ?_)
  ·replace hr3 := ite_t hr3 hc1
   refine W_reg ?_
   refine WL_move rfl rfl ?_
   refine WL_move rfl rfl ?_
   refine WL_buildSlice (vs := [(.int .i64 0), (.int .i64 1), (.int .i64 4)]) hC3 Tryd.underlying22 ty3 rfl rfl rfl rfl (by intro v hv; simp only [List.mem_cons, List.not_mem_nil, or_false] at hv; rcases hv with rfl | rfl | rfl <;> rfl) rfl rfl (fun b1 w4 hC5 hB2 => ?_)
   have hC6 := hC5.row0 (α := Int)
   have hC7 := hC6.triv (int_val (4))
   have hC8 := hC7.row1
   have hC9 := hC8.triv (int_val (1))
   have hC10 := hC9.row1
   have hC11 := hC10.triv (int_val (0))
   have hC12 := hC11.row1
   have hC13 := hC12.front 1 rfl
   dsimp only [List.eraseIdx, List.cons_append, List.nil_append, List.append_nil] at hC13
   have hC14 : Ctx Fs.flatten w0 w4 (Item.own (.slice (some ⟨b1, 0, none⟩) 3 3) ([0, 1, 4] : List Int) :: [Item.box pb1 [u1, (.int .i64 x2.2.2.1), (.int .i64 x2.2.2.2)], Item.own v1 (x1.1 : (List Int))]) := hC13.rowOwn (by simp [maxLen])
   obtain ⟨x6, hr4, hr3⟩ := bind_some hr3
   have hC15 := hC14.f1
   obtain ⟨Fs3, hH3, hn3, hF3, hO3, hb3⟩ := Ctx.lend2 (As := [Item.own (.slice (some ⟨b1, 0, none⟩) 3 3) ([0, 1, 4] : (List Int)), Item.own v1 (x1.1 : (List Int))]) [Item.box pb1 [u1, (.int .i64 x2.2.2.1), (.int .i64 x2.2.2.2)]] hC15
   refine WL_call Tryd.call98 rfl rfl (c_S_l1PickInt pb1 (a1.1, x2.2.2.1, x2.2.2.2) u1 (RO.lent g1 hC15.keep hF3) ([0, 1, 4]) (.slice (some ⟨b1, 0, none⟩) 3 3) (hO3 0 _ _ _ rfl) hH3 hn3 x6 hr4) ?_
   rintro _ w5 ⟨rfl, hq3⟩
   have hC16 : Ctx Fs.flatten w0 w5 [Item.box pb1 [u1, (.int .i64 x6.2.2.1), (.int .i64 x6.2.2.2)], Item.own (.slice (some ⟨b1, 0, none⟩) 3 3) ([0, 1, 4] : (List Int)), Item.own v1 (x1.1 : (List Int))] := hb3 _ _ hq3
   refine WL_buildSlice (vs := [(.int .i64 x6.1)]) hC16 Tryd.underlying22 ty3 rfl rfl rfl rfl (by intro v hv; simp only [List.mem_cons, List.not_mem_nil, or_false] at hv; rcases hv with rfl <;> rfl) rfl rfl (fun b2 w6 hC17 hB3 => ?_)
   have hC18 := hC17.row0 (α := Int)
   have hC19 := hC18.triv (int_val (x6.1))
   have hC20 := hC19.row1
   have hC21 := hC20.front 1 rfl
   dsimp only [List.eraseIdx, List.cons_append, List.nil_append, List.append_nil] at hC21
   have hC22 : Ctx Fs.flatten w0 w6 (Item.own (.slice (some ⟨b2, 0, none⟩) 1 1) ([x6.1] : List Int) :: [Item.box pb1 [u1, (.int .i64 x6.2.2.1), (.int .i64 x6.2.2.2)], Item.own (.slice (some ⟨b1, 0, none⟩) 3 3) ([0, 1, 4] : (List Int)), Item.own v1 (x1.1 : (List Int))]) := hC21.rowOwn (by simp [maxLen])
   obtain ⟨x7, hx1, hr3⟩ := bind_some hr3
   refine WL_append_flat (α := Int) hC22 3 rfl (hC22.ro 0 rfl) (Keep.refl _ _) Tryd.underlying22 ty3 rfl hx1 rfl rfl rfl (fun v3 w7 hC23 => ?_)
   try dsimp only [List.set] at hC23
   refine WL_assign rfl rfl ?_
   refine WL_nil ?_
   have hq4 := Option.some.inj hr3
   subst hq4
   have hC24 := hC23.f3
   have hC25 := hC24.f2
   have hC26 := hC25.h2
   refine nrm_sub (l' := [(3, v3)]) ⟨rfl, trivial⟩ ?_
   exact ⟨x6.2.2.1, x6.2.2.2, v3, x7, rfl, rfl, hC26⟩
  replace hr3 := ite_f hr3 hc1
  refine W_skip ?_
  have hq5 := Option.some.inj hr3
  subst hq5
  refine nrm_sub (l' := [(3, v1)]) ⟨rfl, trivial⟩ ?_
  exact ⟨x2.2.2.1, x2.2.2.2, v1, x1.1, rfl, rfl, hC3⟩
 rintro l1 _ w3 hs1 ⟨x3, x4, v2, x5, rfl, rfl, hC4⟩
 try dsimp only at hF
 refine nrm_sub' hs1 ?_
 clear hs1
 refine W_seq_reg ?_
 refine WL_move rfl rfl ?_
 refine WL_assign rfl rfl ?_
 refine WL_nil (W_ret ?_)
 have hq6 := Option.some.inj hF
 subst hq6
 refine fn_ret1 rfl rfl ?_
 have hC27 := hC4.f1
 exact ⟨_, rfl, _, rfl, hC27⟩

theorem c_S_l5Draw {w0 : World} {Fs : List (List Nat)} (pb1 : Nat) (a1 : ((List UInt8) × Int × Int)) (u1 : Value) (g1 : RO Fs.flatten w0 u1 a1.1) (hH : Hold [Item.box pb1 [u1, (.int .i64 a1.2.1), (.int .i64 a1.2.2)]] w0 Fs) (hn : Fs.flatten.Nodup) (rr : ((List Int) × (List (Int × (List Int) × Int × Int × Int)) × (List (Int × (List Int))) × ((List UInt8) × Int × Int))) (hF : S.l5Draw a1 = some rr) :
 Calls Tryd.prog 81 [(ptr pb1 0)].toArray w0 fun e w' => ∃ v, e = .returned v ∧ ∃ q0 : Value, ∃ q1 : Value, ∃ q2 : Value, v = (.tuple #[q0, q1, q2]) ∧ Ctx Fs.flatten w0 w' [Item.own q0 (rr.1 : (List Int)), Item.own q1 (rr.2.1 : (List (Int × (List Int) × Int × Int × Int))), Item.own q2 (rr.2.2.1 : (List (Int × (List Int)))), Item.box pb1 [u1, (.int .i64 rr.2.2.2.2.1), (.int .i64 rr.2.2.2.2.2)]] := by
 refine calls_of_W Tryd.func81 rfl rfl ?_
 have hC0 := Ctx.startIn hH hn
 unfold S.l5Draw at hF
 refine W_seq_reg ?_
 refine WL_assign rfl rfl ?_
 refine WL_assign rfl rfl ?_
 refine WL_assign rfl rfl ?_
 refine WL_nil (W_seq_reg ?_)
 refine WL_move rfl rfl ?_
 obtain ⟨x1, hr1, hF⟩ := bind_some hF
 obtain ⟨Fs1, hH1, hn1, hF1, hO1, hb1⟩ := Ctx.lend2 (As := []) [Item.box pb1 [u1, (.int .i64 a1.2.1), (.int .i64 a1.2.2)]] hC0
 refine WL_call Tryd.call67 rfl rfl (c_S_l2Schema pb1 (a1.1, a1.2.1, a1.2.2) u1 (RO.lent g1 hC0.keep hF1) hH1 hn1 x1 hr1) ?_
 rintro v1 w1 ⟨_, rfl, hq1⟩
 have hC1 : Ctx Fs.flatten w0 w1 [Item.own v1 (x1.1 : (List Int)), Item.box pb1 [u1, (.int .i64 x1.2.2.1), (.int .i64 x1.2.2.2)]] := hb1 _ _ hq1
 refine WL_assign rfl rfl ?_
 refine WL_nil (W_seq_reg ?_)
 refine WL_move rfl rfl ?_
 refine WL_move rfl rfl ?_
 obtain ⟨x2, hr2, hF⟩ := bind_some hF
 have hC2 := hC1.f1
 obtain ⟨Fs2, hH2, hn2, hF2, hO2, hb2⟩ := Ctx.lend2 (As := [Item.own v1 (x1.1 : (List Int))]) [Item.box pb1 [u1, (.int .i64 x1.2.2.1), (.int .i64 x1.2.2.2)]] hC2
 refine WL_call Tryd.call94 rfl rfl (c_S_l5Methods pb1 (a1.1, x1.2.2.1, x1.2.2.2) u1 (RO.lent g1 hC2.keep hF2) x1.1 v1 (hO2 0 _ _ _ rfl) hH2 hn2 x2 hr2) ?_
 rintro v2 w2 ⟨_, rfl, hq2⟩
 have hC3 : Ctx Fs.flatten w0 w2 [Item.own v2 (x2.1 : (List (Int × (List Int) × Int × Int × Int))), Item.box pb1 [u1, (.int .i64 x2.2.2.1), (.int .i64 x2.2.2.2)], Item.own v1 (x1.1 : (List Int))] := hb2 _ _ hq2
 refine WL_assign rfl rfl ?_
 refine WL_nil (W_seq_reg ?_)
 refine WL_move rfl rfl ?_
 refine WL_move rfl rfl ?_
 obtain ⟨x3, hr3, hF⟩ := bind_some hF
 have hC4 := hC3.f1
 obtain ⟨Fs3, hH3, hn3, hF3, hO3, hb3⟩ := Ctx.lend2 (As := [Item.own v2 (x2.1 : (List (Int × (List Int) × Int × Int × Int))), Item.own v1 (x1.1 : (List Int))]) [Item.box pb1 [u1, (.int .i64 x2.2.2.1), (.int .i64 x2.2.2.2)]] hC4
 refine WL_call Tryd.call86 rfl rfl (c_S_l2Facts pb1 (a1.1, x2.2.2.1, x2.2.2.2) u1 (RO.lent g1 hC4.keep hF3) x1.1 v1 (hO3 1 _ _ _ rfl) 8 hH3 hn3 x3 hr3) ?_
 rintro v3 w3 ⟨_, rfl, hq3⟩
 have hC5 : Ctx Fs.flatten w0 w3 [Item.own v3 (x3.1 : (List (Int × (List Int)))), Item.box pb1 [u1, (.int .i64 x3.2.2.1), (.int .i64 x3.2.2.2)], Item.own v2 (x2.1 : (List (Int × (List Int) × Int × Int × Int))), Item.own v1 (x1.1 : (List Int))] := hb3 _ _ hq3
 refine WL_assign rfl rfl ?_
 refine WL_nil (W_seq (W_seq_reg ?_))
 refine WL_move rfl rfl ?_
 obtain ⟨x4, hr4, hF⟩ := bind_some hF
 have hC6 := hC5.f1
 obtain ⟨Fs4, hH4, hn4, hF4, hO4, hb4⟩ := Ctx.lend2 (As := [Item.own v3 (x3.1 : (List (Int × (List Int)))), Item.own v2 (x2.1 : (List (Int × (List Int) × Int × Int × Int))), Item.own v1 (x1.1 : (List Int))]) [Item.box pb1 [u1, (.int .i64 x3.2.2.1), (.int .i64 x3.2.2.2)]] hC6
 refine WL_call Tryd.call64 rfl rfl (c_S_l1Below pb1 (a1.1, x3.2.2.1, x3.2.2.2) u1 (RO.lent g1 hC6.keep hF4) 20 hH4 hn4 x4 hr4) ?_
 rintro _ w4 ⟨rfl, hq4⟩
 have hC7 : Ctx Fs.flatten w0 w4 [Item.box pb1 [u1, (.int .i64 x4.2.2.1), (.int .i64 x4.2.2.2)], Item.own v3 (x3.1 : (List (Int × (List Int)))), Item.own v2 (x2.1 : (List (Int × (List Int) × Int × Int × Int))), Item.own v1 (x1.1 : (List Int))] := hb4 _ _ hq4
 refine WL_nil (W_block (W_seq_reg ?_))
 refine WL_eql rfl rfl rfl ?_
 refine WL_assign rfl rfl ?_
 refine WL_nil ?_
 obtain ⟨r1, hr5, hF⟩ := bind_some hF
 refine W_norm (fun l w => ∃ x5 : Int, ∃ x6 : Int, ∃ v4 : Value, ∃ x7 : (List Int), ∃ v5 : Value, ∃ x8 : (List (Int × (List Int) × Int × Int × Int)), ∃ v6 : Value, ∃ x9 : (List (Int × (List Int))), (x5, x6, x7, x8, x9) = r1 ∧ l = [(5, v4), (6, v5), (7, v6)] ∧ Ctx Fs.flatten w0 w [Item.box pb1 [u1, (.int .i64 x5), (.int .i64 x6)], Item.own v6 (x9 : (List (Int × (List Int)))), Item.own v5 (x8 : (List (Int × (List Int) × Int × Int × Int))), Item.own v4 (x7 : (List Int))]) ?_ ?_
 ·refine W_cond rfl (fun hc1 => ?_) (fun hc1 => ?_)
  ·replace hr5 := ite_t hr5 hc1
   refine W_reg ?_
   refine WL_move rfl rfl ?_
   refine WL_move rfl rfl ?_
   refine WL_move rfl rfl ?_
   obtain ⟨x10, hr6, hr5⟩ := bind_some hr5
   obtain ⟨Fs5, hH5, hn5, hF5, hO5, hb5⟩ := Ctx.lend2 (As := [Item.own v3 (x3.1 : (List (Int × (List Int)))), Item.own v2 (x2.1 : (List (Int × (List Int) × Int × Int × Int))), Item.own v1 (x1.1 : (List Int))]) [Item.box pb1 [u1, (.int .i64 x4.2.2.1), (.int .i64 x4.2.2.2)]] hC7
   refine WL_call Tryd.call95 rfl rfl (c_S_l5AnyMethod pb1 (a1.1, x4.2.2.1, x4.2.2.2) u1 (RO.lent g1 hC7.keep hF5) x1.1 v1 (hO5 2 _ _ _ rfl) hH5 hn5 x10 hr6) ?_
   rintro v7 w6 ⟨_, rfl, hq5⟩
   have hC9 : Ctx Fs.flatten w0 w6 [Item.own v7 (x10.1 : (Int × (List Int) × Int × Int × Int)), Item.box pb1 [u1, (.int .i64 x10.2.2.1), (.int .i64 x10.2.2.2)], Item.own v3 (x3.1 : (List (Int × (List Int)))), Item.own v2 (x2.1 : (List (Int × (List Int) × Int × Int × Int))), Item.own v1 (x1.1 : (List Int))] := hb5 _ _ hq5
   obtain ⟨v8, rfl, hC10⟩ := st123_own hC9
   refine WL_buildSlice (vs := [(.agg #[(.int .i64 x10.1.1), v8, (.int .i64 x10.1.2.2.1), (.int .i64 x10.1.2.2.2.1), (.int .i64 x10.1.2.2.2.2)])]) hC10 Tryd.underlying109 ty123 rfl rfl rfl rfl (by intro v hv; simp only [List.mem_cons, List.not_mem_nil, or_false] at hv; rcases hv with rfl <;> rfl) rfl rfl (fun b1 w7 hC11 hB2 => ?_)
   have hC12 := hC11.row0 (α := (Int × (List Int) × Int × Int × Int))
   have hC14 := hC12.f2
   have hC13 := own_st123 x10.1.1 v8 x10.1.2.1 x10.1.2.2.1 x10.1.2.2.2.1 x10.1.2.2.2.2 hC14
   have hC15 := hC13.row1
   have hC16 := hC15.front 1 rfl
   dsimp only [List.eraseIdx, List.cons_append, List.nil_append, List.append_nil] at hC16
   have hC17 : Ctx Fs.flatten w0 w7 (Item.own (.slice (some ⟨b1, 0, none⟩) 1 1) ([(x10.1.1, x10.1.2.1, x10.1.2.2.1, x10.1.2.2.2.1, x10.1.2.2.2.2)] : List (Int × (List Int) × Int × Int × Int)) :: [Item.box pb1 [u1, (.int .i64 x10.2.2.1), (.int .i64 x10.2.2.2)], Item.own v3 (x3.1 : (List (Int × (List Int)))), Item.own v2 (x2.1 : (List (Int × (List Int) × Int × Int × Int))), Item.own v1 (x1.1 : (List Int))]) := hC16.rowOwn (by simp [maxLen])
   obtain ⟨x11, hx1, hr5⟩ := bind_some hr5
   refine WL_append_head hC17 2 rfl Tryd.underlying109 ty123 rfl hx1 rfl rfl rfl (fun v9 w9 hC18 => ?_)
   try dsimp only [List.set] at hC18
   refine WL_assign rfl rfl ?_
   refine WL_nil ?_
   have hq6 := Option.some.inj hr5
   subst hq6
   refine nrm_sub (l' := [(5, v1), (6, v9), (7, v3)]) ⟨rfl, rfl, rfl, trivial⟩ ?_
   exact ⟨x10.2.2.1, x10.2.2.2, v1, x1.1, v9, x11, v3, x3.1, rfl, rfl, hC18⟩
  replace hr5 := ite_f hr5 hc1
  refine W_seq_reg ?_
  refine WL_eql rfl rfl rfl ?_
  refine WL_assign rfl rfl ?_
  refine WL_nil ?_
  obtain ⟨r2, hr7, hr5⟩ := bind_some hr5
  refine W_norm (fun l w => ∃ x12 : Int, ∃ x13 : Int, ∃ v10 : Value, ∃ x14 : (List Int), ∃ v11 : Value, ∃ x15 : (List (Int × (List Int))), (x12, x13, x14, x15) = r2 ∧ l = [(5, v10), (6, v2), (7, v11)] ∧ Ctx Fs.flatten w0 w [Item.box pb1 [u1, (.int .i64 x12), (.int .i64 x13)], Item.own v11 (x15 : (List (Int × (List Int)))), Item.own v2 (x2.1 : (List (Int × (List Int) × Int × Int × Int))), Item.own v10 (x14 : (List Int))]) ?_ ?_
  ·refine W_cond rfl (fun hc2 => ?_) (fun hc2 => ?_)
   ·replace hr7 := ite_t hr7 hc2
    refine W_reg ?_
    refine WL_move rfl rfl ?_
    refine WL_move rfl rfl ?_
    obtain ⟨x16, hr8, hr7⟩ := bind_some hr7
    obtain ⟨Fs6, hH6, hn6, hF6, hO6, hb6⟩ := Ctx.lend2 (As := [Item.own v3 (x3.1 : (List (Int × (List Int)))), Item.own v2 (x2.1 : (List (Int × (List Int) × Int × Int × Int))), Item.own v1 (x1.1 : (List Int))]) [Item.box pb1 [u1, (.int .i64 x4.2.2.1), (.int .i64 x4.2.2.2)]] hC7
    refine WL_call Tryd.call68 rfl rfl (c_S_l2AnyFacts pb1 (a1.1, x4.2.2.1, x4.2.2.2) u1 (RO.lent g1 hC7.keep hF6) x1.1 v1 (hO6 2 _ _ _ rfl) hH6 hn6 x16 hr8) ?_
    rintro v12 w11 ⟨_, rfl, hq7⟩
    have hC21 : Ctx Fs.flatten w0 w11 [Item.own v12 (x16.1 : (List (Int × (List Int)))), Item.box pb1 [u1, (.int .i64 x16.2.2.1), (.int .i64 x16.2.2.2)], Item.own v3 (x3.1 : (List (Int × (List Int)))), Item.own v2 (x2.1 : (List (Int × (List Int) × Int × Int × Int))), Item.own v1 (x1.1 : (List Int))] := hb6 _ _ hq7
    refine WL_assign rfl rfl ?_
    refine WL_nil ?_
    have hq8 := Option.some.inj hr7
    subst hq8
    have hC22 := hC21.f4
    have hC23 := hC22.f4
    have hC24 := hC23.f2
    have hC25 := hC24.f3
    have hC26 := hC25.h4
    refine nrm_sub (l' := [(5, v1), (6, v2), (7, v12)]) ⟨rfl, rfl, rfl, trivial⟩ ?_
    exact ⟨x16.2.2.1, x16.2.2.2, v1, x1.1, v12, x16.1, rfl, rfl, hC26⟩
   replace hr7 := ite_f hr7 hc2
   refine W_seq_reg ?_
   refine WL_eql rfl rfl rfl ?_
   refine WL_assign rfl rfl ?_
   refine WL_nil ?_
   obtain ⟨r3, hr9, hr7⟩ := bind_some hr7
   refine W_norm (fun l w => ∃ x17 : Int, ∃ x18 : Int, ∃ v13 : Value, ∃ x19 : (List Int), (x17, x18, x19) = r3 ∧ l = [(5, v13), (6, v2), (7, v3)] ∧ Ctx Fs.flatten w0 w [Item.box pb1 [u1, (.int .i64 x17), (.int .i64 x18)], Item.own v3 (x3.1 : (List (Int × (List Int)))), Item.own v2 (x2.1 : (List (Int × (List Int) × Int × Int × Int))), Item.own v13 (x19 : (List Int))]) ?_ ?_
   ·refine W_cond rfl (fun hc3 => ?_) (fun hc3 => ?_)
    ·replace hr9 := ite_t hr9 hc3
     refine W_reg ?_
     refine WL_move rfl rfl ?_
     obtain ⟨x20, hr10, hr9⟩ := bind_some hr9
     obtain ⟨Fs7, hH7, hn7, hF7, hO7, hb7⟩ := Ctx.lend2 (As := [Item.own v3 (x3.1 : (List (Int × (List Int)))), Item.own v2 (x2.1 : (List (Int × (List Int) × Int × Int × Int))), Item.own v1 (x1.1 : (List Int))]) [Item.box pb1 [u1, (.int .i64 x4.2.2.1), (.int .i64 x4.2.2.2)]] hC7
     refine WL_call Tryd.call96 rfl rfl (c_S_l2AnySchema pb1 (a1.1, x4.2.2.1, x4.2.2.2) u1 (RO.lent g1 hC7.keep hF7) hH7 hn7 x20 hr10) ?_
     rintro v14 w13 ⟨_, rfl, hq9⟩
     have hC28 : Ctx Fs.flatten w0 w13 [Item.own v14 (x20.1 : (List Int)), Item.box pb1 [u1, (.int .i64 x20.2.2.1), (.int .i64 x20.2.2.2)], Item.own v3 (x3.1 : (List (Int × (List Int)))), Item.own v2 (x2.1 : (List (Int × (List Int) × Int × Int × Int))), Item.own v1 (x1.1 : (List Int))] := hb7 _ _ hq9
     refine WL_assign rfl rfl ?_
     refine WL_nil ?_
     have hq10 := Option.some.inj hr9
     subst hq10
     have hC29 := hC28.f3
     have hC30 := hC29.f3
     have hC31 := hC30.f3
     have hC32 := hC31.h4
     refine nrm_sub (l' := [(5, v14), (6, v2), (7, v3)]) ⟨rfl, rfl, rfl, trivial⟩ ?_
     exact ⟨x20.2.2.1, x20.2.2.2, v14, x20.1, rfl, rfl, hC32⟩
    replace hr9 := ite_f hr9 hc3
    refine W_skip ?_
    have hq11 := Option.some.inj hr9
    subst hq11
    refine nrm_sub (l' := [(5, v1), (6, v2), (7, v3)]) ⟨rfl, rfl, rfl, trivial⟩ ?_
    exact ⟨x4.2.2.1, x4.2.2.2, v1, x1.1, rfl, rfl, hC7⟩
   rintro l3 _ w12 hs3 ⟨x17, x18, v13, x19, rfl, rfl, hC27⟩
   try dsimp only at hr7
   have hq12 := Option.some.inj hr7
   subst hq12
   refine nrm_subs (l2 := [(5, v13), (6, v2), (7, v3)]) hs3 ⟨rfl, rfl, rfl, trivial⟩ ?_
   exact ⟨x17, x18, v13, x19, v3, x3.1, rfl, rfl, hC27⟩
  rintro l2 _ w10 hs2 ⟨x12, x13, v10, x14, v11, x15, rfl, rfl, hC20⟩
  try dsimp only at hr5
  have hq13 := Option.some.inj hr5
  subst hq13
  refine nrm_subs (l2 := [(5, v10), (6, v2), (7, v11)]) hs2 ⟨rfl, rfl, rfl, trivial⟩ ?_
  exact ⟨x12, x13, v10, x14, v2, x2.1, v11, x15, rfl, rfl, hC20⟩
 rintro l1 _ w5 hs1 ⟨x5, x6, v4, x7, v5, x8, v6, x9, rfl, rfl, hC8⟩
 try dsimp only at hF
 refine blk_normal ?_
 refine nrm_sub' hs1 ?_
 clear hs1
 refine W_seq_reg ?_
 refine WL_move rfl rfl ?_
 refine WL_move rfl rfl ?_
 refine WL_move rfl rfl ?_
 refine WL_assign rfl rfl ?_
 refine WL_assign rfl rfl ?_
 refine WL_assign rfl rfl ?_
 refine WL_nil (W_ret ?_)
 have hq14 := Option.some.inj hF
 subst hq14
 refine fn_ret3 rfl rfl rfl rfl ?_
 have hC33 := hC8.f1
 have hC34 := hC33.f2
 have hC35 := hC34.f3
 exact ⟨_, rfl, _, _, _, rfl, hC35⟩

theorem c_S_l5Access {w0 : World} {Fs : List (List Nat)} (pb1 : Nat) (a1 : ((List UInt8) × Int × Int)) (u1 : Value) (g1 : RO Fs.flatten w0 u1 a1.1) (a2 : (List (Int × (List Int) × Int × Int × Int))) (u2 : Value) (g2 : RO Fs.flatten w0 u2 a2) (hH : Hold [Item.box pb1 [u1, (.int .i64 a1.2.1), (.int .i64 a1.2.2)]] w0 Fs) (hn : Fs.flatten.Nodup) (rr : ((Int × (List Int)) × ((List UInt8) × Int × Int))) (hF : S.l5Access a1 a2 = some rr) :
 Calls Tryd.prog 97 [(ptr pb1 0), u2].toArray w0 fun e w' => ∃ v, e = .returned v ∧ ∃ q0 : Value, v = q0 ∧ Ctx Fs.flatten w0 w' [Item.own q0 (rr.1 : (Int × (List Int))), Item.box pb1 [u1, (.int .i64 rr.2.2.1), (.int .i64 rr.2.2.2)]] := by
 refine calls_of_W Tryd.func97 rfl rfl ?_
 have hC0 := Ctx.startIn hH hn
 unfold S.l5Access at hF
 refine W_seq_reg ?_
 refine WL_allocK hC0 zero29 rfl rfl (fun b1 w1 hC1 hB1 hN1 => ?_)
 refine WL_nil (W_seq (W_seq_reg ?_))
 refine WL_move rfl rfl ?_
 refine WL_len Tryd.underlying109 g2 rfl rfl ?_
 refine WL_eql rfl rfl rfl ?_
 refine WL_nil ?_
 refine W_cond rfl (fun hc1 => ?_) (fun hc1 => ?_)
 ·replace hF := ite_t hF hc1
  refine W_seq_reg ?_
  refine WL_build (vs := []) rfl rfl rfl built29 ?_
  refine WL_store_box_aggK (cs' := [(.int .i64 0), (.slice none 0 0)]) (new := [(.int .i64 0), (.slice none 0 0)]) hC1 0 rfl rfl (by intro v hv; simp only [List.mem_cons, List.not_mem_nil, or_false] at hv; rcases hv with rfl | rfl; exact rfl; exact rfl) rfl Tryd.sizeOf29 rfl rfl (fun w2 hC2 hKp1 => ?_)
  try dsimp only [List.set] at hC2
  have hk1 := Keep.over (Keep.of hB1) hN1 hKp1
  refine WL_nil (W_ret (nrm_ret ?_))
  have hq1 := Option.some.inj hF
  subst hq1
  refine fn_retG1 rfl (rv_cell_agg (cs' := [(.int .i64 0), (.slice none 0 0)]) hC2 (i := 0) rfl rfl rfl Tryd.isAgg29 Tryd.sizeOf29 rfl) ?_
  have hC3 := hC2.f1
  have hC5 := hC3.triv (nil_val (α := Int))
  have hC4 := own_st29 0 (.slice none 0 0) ([]) hC5
  have hC6 := hC4.h2
  exact ⟨_, rfl, _, rfl, hC6⟩
 replace hF := ite_f hF hc1
 refine W_skip (nrm_normal (W_seq_reg ?_))
 refine WL_move rfl rfl ?_
 refine WL_move rfl rfl ?_
 refine WL_len Tryd.underlying109 g2 rfl rfl ?_
 obtain ⟨x1, hr1, hF⟩ := bind_some hF
 have hC7 := hC1.f1
 obtain ⟨Fs1, hH1, hn1, hF1, hO1, hb1⟩ := Ctx.lend2 (As := [Item.box b1 [(.int .i64 0), (.slice none 0 0)]]) [Item.box pb1 [u1, (.int .i64 a1.2.1), (.int .i64 a1.2.2)]] hC7
 refine WL_call Tryd.call64 rfl rfl (c_S_l1Below pb1 (a1.1, a1.2.1, a1.2.2) u1 (RO.lent g1 hC7.keep hF1) (List.length a2 : Int) hH1 hn1 x1 hr1) ?_
 rintro _ w3 ⟨rfl, hq2⟩
 have hC8 : Ctx Fs.flatten w0 w3 [Item.box pb1 [u1, (.int .i64 x1.2.2.1), (.int .i64 x1.2.2.2)], Item.box b1 [(.int .i64 0), (.slice none 0 0)]] := hb1 _ _ hq2
 refine WL_build (vs := [(0, (.int .i64 x1.1))]) rfl rfl rfl (built29_0 rfl) ?_
 refine WL_allocK hC8 zero29 rfl rfl (fun b2 w4 hC9 hB2 hN2 => ?_)
 refine WL_store_box_aggK (cs' := [(.int .i64 x1.1), (.slice none 0 0)]) (new := [(.int .i64 x1.1), (.slice none 0 0)]) hC9 0 rfl rfl (by intro v hv; simp only [List.mem_cons, List.not_mem_nil, or_false] at hv; rcases hv with rfl | rfl; exact rfl; exact rfl) rfl Tryd.sizeOf29 rfl rfl (fun w5 hC10 hKp2 => ?_)
 try dsimp only [List.set] at hC10
 have hk2 := Keep.over (Keep.of hB2) hN2 hKp2
 refine WL_nil (W_seq (W_seq_reg ?_))
 refine WL_assign rfl rfl ?_
 refine WL_nil ?_
 obtain ⟨r1, hr2, hF⟩ := bind_some hF
 refine W_norm (fun l w => ∃ x7 : Int, ∃ v2 : Value, ∃ x8 : (List Int), ∃ x9 : Int, ∃ x10 : Int, (x7, x8, x9, x10) = r1 ∧ l = [(4, (ptr b1 0)), (5, (ptr b2 0))] ∧ Ctx Fs.flatten w0 w [Item.own v2 (x8 : (List Int)), Item.box b2 [(.int .i64 x7), v2], Item.box pb1 [u1, (.int .i64 x9), (.int .i64 x10)], Item.box b1 [(.int .i64 0), (.slice none 0 0)]]) ?_ ?_
 ·refine W_block ?_
  have hC27 := hC10.triv (nil_val (α := Int))
  refine W.sub (l' := [(0, (ptr pb1 0)), (1, u2), (4, (ptr b1 0)), (5, (ptr b2 0)), (6, (.int .i64 0))]) ?_ ⟨rfl, rfl, rfl, rfl, rfl, trivial⟩
  refine W_loop (fun k l w => ∃ x2 : Int, ∃ v1 : Value, ∃ x3 : (List Int), ∃ x4 : Int, ∃ x5 : Int, ∃ x6 : Int, l = [(0, (ptr pb1 0)), (1, u2), (4, (ptr b1 0)), (5, (ptr b2 0)), (6, (.int .i64 x6))] ∧ Ctx Fs.flatten w0 w [Item.own v1 (x3 : (List Int)), Item.box b2 [(.int .i64 x2), v1], Item.box pb1 [u1, (.int .i64 x4), (.int .i64 x5)], Item.box b1 [(.int .i64 0), (.slice none 0 0)]] ∧ S.l5Access_l1 a2 a1 k x2 x3 x4 x5 x6 = some r1) FUEL ⟨x1.1, (.slice none 0 0), [], x1.2.2.1, x1.2.2.2, 0, rfl, hC27, hr2⟩ ?_
  clear hr2
  rintro k1 _ w6 ⟨x2, v1, x3, x4, x5, x6, rfl, hC11, hL1⟩
  cases k1 with
  | zero => rw [S.l5Access_l1] at hL1; cases hL1
  | succ k1 =>
   rw [S.l5Access_l1] at hL1
   refine W_seq (W_seq_reg ?_)
   refine WL_move rfl rfl ?_
   refine WL_move rfl rfl ?_
   refine WL_field Tryd.underlying29 rfl rfl (fun w => ⟨_, Tryd.sizeOf3 w⟩) rfl rfl ?_
   refine WL_load_box hC11 1 rfl rfl Tryd.isAgg3 rfl rfl ?_
   obtain ⟨x11, hx1, hL1⟩ := bind_some hL1
   refine WL_index Tryd.underlying109 ty123 g2 hx1 rfl rfl rfl (fun b3 o1 h1 => ?_)
   refine WL_field Tryd.underlying123 rfl rfl (fun w => ⟨_, Tryd.sizeOf22 w⟩) rfl rfl ?_
   refine WL_load ty22 h1.snd.fst hC11.keep rfl rfl (fun v3 h2 => ?_)
   refine WL_len Tryd.underlying22 h2 rfl rfl ?_
   refine WL_lss rfl rfl rfl ?_
   refine WL_nil ?_
   refine W_cond rfl (fun hc2 => ?_) (fun hc2 => ?_)
   ·replace hL1 := ite_t hL1 hc2
    refine W_skip (nrm_normal (W_seq (W_block (W_seq_reg ?_))))
    refine WL_move rfl rfl ?_
    obtain ⟨x12, hr3, hL1⟩ := bind_some hL1
    have hC12 := hC11.f2
    obtain ⟨Fs2, hH2, hn2, hF2, hO2, hb2⟩ := Ctx.lend2 (As := [Item.own v1 (x3 : (List Int)), Item.box b2 [(.int .i64 x2), v1], Item.box b1 [(.int .i64 0), (.slice none 0 0)]]) [Item.box pb1 [u1, (.int .i64 x4), (.int .i64 x5)]] hC12
    refine WL_call Tryd.call64 rfl rfl (c_S_l1Below pb1 (a1.1, x4, x5) u1 (RO.lent g1 hC12.keep hF2) 4 hH2 hn2 x12 hr3) ?_
    rintro _ w7 ⟨rfl, hq3⟩
    have hC13 : Ctx Fs.flatten w0 w7 [Item.box pb1 [u1, (.int .i64 x12.2.2.1), (.int .i64 x12.2.2.2)], Item.own v1 (x3 : (List Int)), Item.box b2 [(.int .i64 x2), v1], Item.box b1 [(.int .i64 0), (.slice none 0 0)]] := hb2 _ _ hq3
    refine WL_assign rfl rfl ?_
    refine WL_nil (W_reg ?_)
    refine WL_field Tryd.underlying29 rfl rfl (fun w => ⟨_, Tryd.sizeOf22 w⟩) rfl rfl ?_
    refine WL_load_box hC13 2 rfl rfl Tryd.isAgg22 rfl rfl ?_
    refine WL_move rfl rfl ?_
    refine WL_buildSlice (vs := [(.int .i64 x12.1)]) hC13 Tryd.underlying22 ty3 rfl rfl rfl rfl (by intro v hv; simp only [List.mem_cons, List.not_mem_nil, or_false] at hv; rcases hv with rfl <;> rfl) rfl rfl (fun b4 w9 hC14 hB4 => ?_)
    have hC15 := hC14.row0 (α := Int)
    have hC16 := hC15.triv (int_val (x12.1))
    have hC17 := hC16.row1
    have hC18 := hC17.front 1 rfl
    dsimp only [List.eraseIdx, List.cons_append, List.nil_append, List.append_nil] at hC18
    have hC19 : Ctx Fs.flatten w0 w9 (Item.own (.slice (some ⟨b4, 0, none⟩) 1 1) ([x12.1] : List Int) :: [Item.box pb1 [u1, (.int .i64 x12.2.2.1), (.int .i64 x12.2.2.2)], Item.own v1 (x3 : (List Int)), Item.box b2 [(.int .i64 x2), v1], Item.box b1 [(.int .i64 0), (.slice none 0 0)]]) := hC18.rowOwn (by simp [maxLen])
    obtain ⟨x13, hx2, hL1⟩ := bind_some hL1
    refine WL_append_flat (α := Int) hC19 2 rfl (hC19.ro 0 rfl) (Keep.refl _ _) Tryd.underlying22 ty3 rfl hx2 rfl rfl rfl (fun v4 w10 hC20 => ?_)
    try dsimp only [List.set] at hC20
    refine WL_field Tryd.underlying29 rfl rfl (fun w => ⟨_, Tryd.sizeOf22 w⟩) rfl rfl ?_
    refine WL_store_boxK (cs' := [(.int .i64 x2), v4]) hC20 3 rfl rfl (ro_one (hC20.ro 2 rfl)) rfl Tryd.sizeOf22 rfl rfl (fun w11 hC21 hKp3 => ?_)
    try dsimp only [List.set] at hC21
    refine WL_nil (blk_normal (nrm_normal (W_reg ?_)))
    refine WL_move rfl rfl ?_
    refine WL_add rfl rfl rfl ?_
    refine WL_assign rfl rfl ?_
    refine WL_nil ?_
    have hC22 := hC21.f4
    have hC23 := hC22.f2
    have hC24 := hC23.f4
    have hC25 := hC24.f4
    have hC26 := hC25.h4
    refine nrm_sub (l' := [(0, (ptr pb1 0)), (1, u2), (4, (ptr b1 0)), (5, (ptr b2 0)), (6, (.int .i64 (w64 (x6 + 1))))]) ⟨rfl, rfl, rfl, rfl, rfl, trivial⟩ ?_
    exact ⟨k1, Nat.lt_succ_self _, x2, v4, x13, x12.2.2.1, x12.2.2.2, w64 (x6 + 1), rfl, hC26, hL1⟩
   replace hL1 := ite_f hL1 hc2
   refine W_exit (nrm_exit (nrm_exit (blk_exit ?_)))
   have hq4 := Option.some.inj hL1
   subst hq4
   refine nrm_sub (l' := [(4, (ptr b1 0)), (5, (ptr b2 0))]) ⟨rfl, rfl, trivial⟩ ?_
   exact ⟨x2, v1, x3, x4, x5, rfl, rfl, hC11⟩
 rintro l2 _ w12 hs2 ⟨x7, v2, x8, x9, x10, rfl, rfl, hC28⟩
 try dsimp only at hF
 refine nrm_sub' hs2 ?_
 clear hs2
 refine W_seq_reg ?_
 refine WL_load_box_agg [(.int .i64 x7), v2] hC28 1 rfl rfl rfl Tryd.isAgg29 Tryd.sizeOf29 rfl rfl ?_
 refine WL_store_box_aggK (cs' := [(.int .i64 x7), v2]) (new := [(.int .i64 x7), v2]) hC28 3 rfl rfl (by intro v hv; simp only [List.mem_cons, List.not_mem_nil, or_false] at hv; rcases hv with rfl | rfl; exact rfl; exact (ro_one (hC28.ro 0 rfl))) rfl Tryd.sizeOf29 rfl rfl (fun w13 hC29 hKp4 => ?_)
 try dsimp only [List.set] at hC29
 refine WL_nil (W_ret ?_)
 have hq5 := Option.some.inj hF
 subst hq5
 refine fn_retG1 rfl (rv_cell_agg (cs' := [(.int .i64 x7), v2]) hC29 (i := 3) rfl rfl rfl Tryd.isAgg29 Tryd.sizeOf29 rfl) ?_
 have hC30 := hC29.f2
 have hC32 := hC30.f1
 have hC31 := own_st29 x7 v2 x8 hC32
 have hC33 := hC31.h2
 exact ⟨_, rfl, _, rfl, hC33⟩

theorem c_S_l5AnyAccess {w0 : World} {Fs : List (List Nat)} (pb1 : Nat) (a1 : ((List UInt8) × Int × Int)) (u1 : Value) (g1 : RO Fs.flatten w0 u1 a1.1) (a2 : (List (Int × (List Int) × Int × Int × Int))) (u2 : Value) (g2 : RO Fs.flatten w0 u2 a2) (hH : Hold [Item.box pb1 [u1, (.int .i64 a1.2.1), (.int .i64 a1.2.2)]] w0 Fs) (hn : Fs.flatten.Nodup) (rr : ((Int × (List Int)) × ((List UInt8) × Int × Int))) (hF : S.l5AnyAccess a1 a2 = some rr) :
 Calls Tryd.prog 82 [(ptr pb1 0), u2].toArray w0 fun e w' => ∃ v, e = .returned v ∧ ∃ q0 : Value, v = q0 ∧ Ctx Fs.flatten w0 w' [Item.own q0 (rr.1 : (Int × (List Int))), Item.box pb1 [u1, (.int .i64 rr.2.2.1), (.int .i64 rr.2.2.2)]] := by
 refine calls_of_W Tryd.func82 rfl rfl ?_
 have hC0 := Ctx.startIn hH hn
 unfold S.l5AnyAccess at hF
 refine W_seq_reg ?_
 refine WL_allocK hC0 zero29 rfl rfl (fun b1 w1 hC1 hB1 hN1 => ?_)
 refine WL_nil (W_seq_reg ?_)
 refine WL_move rfl rfl ?_
 refine WL_move rfl rfl ?_
 obtain ⟨x1, hr1, hF⟩ := bind_some hF
 have hC2 := hC1.f1
 obtain ⟨Fs1, hH1, hn1, hF1, hO1, hb1⟩ := Ctx.lend2 (As := [Item.box b1 [(.int .i64 0), (.slice none 0 0)]]) [Item.box pb1 [u1, (.int .i64 a1.2.1), (.int .i64 a1.2.2)]] hC2
 refine WL_call Tryd.call97 rfl rfl (c_S_l5Access pb1 (a1.1, a1.2.1, a1.2.2) u1 (RO.lent g1 hC2.keep hF1) a2 u2 (RO.lent g2 hC2.keep hF1) hH1 hn1 x1 hr1) ?_
 rintro v1 w2 ⟨_, rfl, hq1⟩
 have hC3 : Ctx Fs.flatten w0 w2 [Item.own v1 (x1.1 : (Int × (List Int))), Item.box pb1 [u1, (.int .i64 x1.2.2.1), (.int .i64 x1.2.2.2)], Item.box b1 [(.int .i64 0), (.slice none 0 0)]] := hb1 _ _ hq1
 obtain ⟨v2, rfl, hC4⟩ := st29_own hC3
 refine WL_allocK hC4 zero29 rfl rfl (fun b2 w3 hC5 hB2 hN2 => ?_)
 refine WL_store_box_aggK (cs' := [(.int .i64 x1.1.1), v2]) (new := [(.int .i64 x1.1.1), v2]) hC5 0 rfl rfl (by intro v hv; simp only [List.mem_cons, List.not_mem_nil, or_false] at hv; rcases hv with rfl | rfl; exact rfl; exact (ro_one (hC5.ro 1 rfl))) rfl Tryd.sizeOf29 rfl rfl (fun w4 hC6 hKp1 => ?_)
 try dsimp only [List.set] at hC6
 have hk1 := Keep.over (Keep.of hB2) hN2 hKp1
 refine WL_nil (W_seq (W_seq_reg ?_))
 refine WL_move rfl rfl ?_
 obtain ⟨x2, hr2, hF⟩ := bind_some hF
 have hC7 := hC6.f2
 obtain ⟨Fs2, hH2, hn2, hF2, hO2, hb2⟩ := Ctx.lend2 (As := [Item.box b2 [(.int .i64 x1.1.1), v2], Item.own v2 (x1.1.2 : (List Int)), Item.box b1 [(.int .i64 0), (.slice none 0 0)]]) [Item.box pb1 [u1, (.int .i64 x1.2.2.1), (.int .i64 x1.2.2.2)]] hC7
 refine WL_call Tryd.call64 rfl rfl (c_S_l1Below pb1 (a1.1, x1.2.2.1, x1.2.2.2) u1 (RO.lent g1 hC7.keep hF2) 12 hH2 hn2 x2 hr2) ?_
 rintro _ w5 ⟨rfl, hq2⟩
 have hC8 : Ctx Fs.flatten w0 w5 [Item.box pb1 [u1, (.int .i64 x2.2.2.1), (.int .i64 x2.2.2.2)], Item.box b2 [(.int .i64 x1.1.1), v2], Item.own v2 (x1.1.2 : (List Int)), Item.box b1 [(.int .i64 0), (.slice none 0 0)]] := hb2 _ _ hq2
 refine WL_nil (W_block (W_seq_reg ?_))
 refine WL_eql rfl rfl rfl ?_
 refine WL_assign rfl rfl ?_
 refine WL_nil ?_
 obtain ⟨r1, hr3, hF⟩ := bind_some hF
 refine W_norm (fun l w => ∃ x3 : Int, ∃ x4 : Int, ∃ x5 : Int, ∃ v3 : Value, ∃ x6 : (List Int), (x3, x4, x5, x6) = r1 ∧ l = [(4, (ptr b1 0)), (5, (ptr b2 0))] ∧ Ctx Fs.flatten w0 w [Item.box pb1 [u1, (.int .i64 x3), (.int .i64 x4)], Item.box b2 [(.int .i64 x5), v3], Item.own v3 (x6 : (List Int)), Item.box b1 [(.int .i64 0), (.slice none 0 0)]]) ?_ ?_
 ·refine W_cond rfl (fun hc1 => ?_) (fun hc1 => ?_)
  ·replace hr3 := ite_t hr3 hc1
   refine W_reg ?_
   refine WL_move rfl rfl ?_
   obtain ⟨x7, hr4, hr3⟩ := bind_some hr3
   obtain ⟨Fs3, hH3, hn3, hF3, hO3, hb3⟩ := Ctx.lend2 (As := [Item.box b2 [(.int .i64 x1.1.1), v2], Item.own v2 (x1.1.2 : (List Int)), Item.box b1 [(.int .i64 0), (.slice none 0 0)]]) [Item.box pb1 [u1, (.int .i64 x2.2.2.1), (.int .i64 x2.2.2.2)]] hC8
   refine WL_call Tryd.call64 rfl rfl (c_S_l1Below pb1 (a1.1, x2.2.2.1, x2.2.2.2) u1 (RO.lent g1 hC8.keep hF3) 7 hH3 hn3 x7 hr4) ?_
   rintro _ w7 ⟨rfl, hq3⟩
   have hC10 : Ctx Fs.flatten w0 w7 [Item.box pb1 [u1, (.int .i64 x7.2.2.1), (.int .i64 x7.2.2.2)], Item.box b2 [(.int .i64 x1.1.1), v2], Item.own v2 (x1.1.2 : (List Int)), Item.box b1 [(.int .i64 0), (.slice none 0 0)]] := hb3 _ _ hq3
   refine WL_sub rfl rfl rfl ?_
   refine WL_field Tryd.underlying29 rfl rfl (fun w => ⟨_, Tryd.sizeOf3 w⟩) rfl rfl ?_
   refine WL_store_boxK (cs' := [(.int .i64 (w64 (x7.1 - 1))), v2]) hC10 1 rfl rfl rfl rfl Tryd.sizeOf3 rfl rfl (fun w9 hC11 hKp2 => ?_)
   try dsimp only [List.set] at hC11
   refine WL_nil ?_
   have hq4 := Option.some.inj hr3
   subst hq4
   refine nrm_sub (l' := [(4, (ptr b1 0)), (5, (ptr b2 0))]) ⟨rfl, rfl, trivial⟩ ?_
   exact ⟨x7.2.2.1, x7.2.2.2, w64 (x7.1 - 1), v2, x1.1.2, rfl, rfl, hC11⟩
  replace hr3 := ite_f hr3 hc1
  refine W_seq_reg ?_
  refine WL_eql rfl rfl rfl ?_
  refine WL_assign rfl rfl ?_
  refine WL_nil ?_
  obtain ⟨r2, hr5, hr3⟩ := bind_some hr3
  refine W_norm (fun l w => ∃ x8 : Int, ∃ x9 : Int, ∃ x10 : Int, ∃ v4 : Value, ∃ x11 : (List Int), (x8, x9, x10, x11) = r2 ∧ l = [(4, (ptr b1 0)), (5, (ptr b2 0))] ∧ Ctx Fs.flatten w0 w [Item.box pb1 [u1, (.int .i64 x8), (.int .i64 x9)], Item.box b2 [(.int .i64 x10), v4], Item.own v4 (x11 : (List Int)), Item.box b1 [(.int .i64 0), (.slice none 0 0)]]) ?_ ?_
  ·refine W_cond rfl (fun hc2 => ?_) (fun hc2 => ?_)
   ·replace hr5 := ite_t hr5 hc2
    obtain ⟨r3, hr6, hr5⟩ := bind_some hr5
    refine W_norm (fun l w => ∃ x12 : Int, ∃ x13 : Int, ∃ x14 : Int, ∃ v5 : Value, ∃ x15 : (List Int), (x12, x13, x14, x15) = r3 ∧ l = [(4, (ptr b1 0)), (5, (ptr b2 0))] ∧ Ctx Fs.flatten w0 w [Item.box pb1 [u1, (.int .i64 x12), (.int .i64 x13)], Item.box b2 [(.int .i64 x14), v5], Item.own v5 (x15 : (List Int)), Item.box b1 [(.int .i64 0), (.slice none 0 0)]]) ?_ ?_
    ·refine W_drawn 9 rfl hmix (fun w12 hB6 => ?_)
     have hC14 := hC8.grow hB6
     refine WA_tk 0 (by kernel_rfl) rfl rfl (fl_field Tryd.underlying29 rfl rfl (fun w => ⟨_, Tryd.sizeOf22 w⟩) rfl) ?_
     refine WL_field Tryd.underlying29 rfl rfl (fun w => ⟨_, Tryd.sizeOf22 w⟩) rfl rfl ?_
     refine WL_nil ?_
     refine WA_tk 2 (by kernel_rfl) rfl rfl (fl_move rfl) ?_
     refine WL_move rfl rfl ?_
     refine WL_nil ?_
     refine WA_all2 (i := 1) (j := 3) (by kernel_rfl) rfl rfl ?_ ?_
     ·refine WL_load_box hC14 1 rfl rfl Tryd.isAgg22 rfl rfl ?_
      refine WL_nil ?_
      refine WA_one 3 (by kernel_rfl) rfl ?_
      refine WL_buildSlice (vs := [(.int .i64 (-1)), (.int .i64 3), (.int .i64 10)]) hC14 Tryd.underlying22 ty3 rfl rfl rfl rfl (by intro v hv; simp only [List.mem_cons, List.not_mem_nil, or_false] at hv; rcases hv with rfl | rfl | rfl <;> rfl) rfl rfl (fun b3 w13 hC15 hB7 => ?_)
      have hC16 := hC15.row0 (α := Int)
      have hC17 := hC16.triv (int_val (10))
      have hC18 := hC17.row1
      have hC19 := hC18.triv (int_val (3))
      have hC20 := hC19.row1
      have hC21 := hC20.triv (int_val ((-1)))
      have hC22 := hC21.row1
      have hC23 := hC22.front 1 rfl
      dsimp only [List.eraseIdx, List.cons_append, List.nil_append, List.append_nil] at hC23
      have hC24 : Ctx Fs.flatten w0 w13 (Item.own (.slice (some ⟨b3, 0, none⟩) 3 3) ([(-1), 3, 10] : List Int) :: [Item.box pb1 [u1, (.int .i64 x2.2.2.1), (.int .i64 x2.2.2.2)], Item.box b2 [(.int .i64 x1.1.1), v2], Item.own v2 (x1.1.2 : (List Int)), Item.box b1 [(.int .i64 0), (.slice none 0 0)]]) := hC23.rowOwn (by simp [maxLen])
      refine WL_nil ?_
      obtain ⟨x16, hr7, hr6⟩ := bind_some hr6
      refine WA_one 4 (by kernel_rfl) rfl ?_
      have hC25 := hC24.f1
      obtain ⟨Fs4, hH4, hn4, hF4, hO4, hb4⟩ := Ctx.lend2 (As := [Item.own (.slice (some ⟨b3, 0, none⟩) 3 3) ([(-1), 3, 10] : (List Int)), Item.box b2 [(.int .i64 x1.1.1), v2], Item.own v2 (x1.1.2 : (List Int)), Item.box b1 [(.int .i64 0), (.slice none 0 0)]]) [Item.box pb1 [u1, (.int .i64 x2.2.2.1), (.int .i64 x2.2.2.2)]] hC25
      refine WL_call Tryd.call98 rfl rfl (c_S_l1PickInt pb1 (a1.1, x2.2.2.1, x2.2.2.2) u1 (RO.lent g1 hC25.keep hF4) ([(-1), 3, 10]) (.slice (some ⟨b3, 0, none⟩) 3 3) (hO4 0 _ _ _ rfl) hH4 hn4 x16 hr7) ?_
      rintro _ w14 ⟨rfl, hq5⟩
      have hC26 : Ctx Fs.flatten w0 w14 [Item.box pb1 [u1, (.int .i64 x16.2.2.1), (.int .i64 x16.2.2.2)], Item.own (.slice (some ⟨b3, 0, none⟩) 3 3) ([(-1), 3, 10] : (List Int)), Item.box b2 [(.int .i64 x1.1.1), v2], Item.own v2 (x1.1.2 : (List Int)), Item.box b1 [(.int .i64 0), (.slice none 0 0)]] := hb4 _ _ hq5
      refine WL_nil ?_
      refine WA_one 5 (by kernel_rfl) rfl ?_
      refine WL_buildSlice (vs := [(.int .i64 x16.1)]) hC26 Tryd.underlying22 ty3 rfl rfl rfl rfl (by intro v hv; simp only [List.mem_cons, List.not_mem_nil, or_false] at hv; rcases hv with rfl <;> rfl) rfl rfl (fun b4 w15 hC27 hB8 => ?_)
      have hC28 := hC27.row0 (α := Int)
      have hC29 := hC28.triv (int_val (x16.1))
      have hC30 := hC29.row1
      have hC31 := hC30.front 1 rfl
      dsimp only [List.eraseIdx, List.cons_append, List.nil_append, List.append_nil] at hC31
      have hC32 : Ctx Fs.flatten w0 w15 (Item.own (.slice (some ⟨b4, 0, none⟩) 1 1) ([x16.1] : List Int) :: [Item.box pb1 [u1, (.int .i64 x16.2.2.1), (.int .i64 x16.2.2.2)], Item.own (.slice (some ⟨b3, 0, none⟩) 3 3) ([(-1), 3, 10] : (List Int)), Item.box b2 [(.int .i64 x1.1.1), v2], Item.own v2 (x1.1.2 : (List Int)), Item.box b1 [(.int .i64 0), (.slice none 0 0)]]) := hC31.rowOwn (by simp [maxLen])
      refine WL_nil ?_
      obtain ⟨x17, hx1, hr6⟩ := bind_some hr6
      refine WA_one 6 (by kernel_rfl) rfl ?_
      refine WL_append_flat (α := Int) hC32 4 rfl (hC32.ro 0 rfl) (Keep.refl _ _) Tryd.underlying22 ty3 rfl hx1 rfl rfl rfl (fun v6 w16 hC33 => ?_)
      try dsimp only [List.set] at hC33
      refine WL_nil ?_
      refine WA_tk 7 (by kernel_rfl) rfl rfl (fl_field Tryd.underlying29 rfl rfl (fun w => ⟨_, Tryd.sizeOf22 w⟩) rfl) ?_
      refine WL_field Tryd.underlying29 rfl rfl (fun w => ⟨_, Tryd.sizeOf22 w⟩) rfl rfl ?_
      refine WL_nil ?_
      refine WA_one 8 (by kernel_rfl) rfl ?_
      refine WL_store_boxK (cs' := [(.int .i64 x1.1.1), v6]) hC33 3 rfl rfl (ro_one (hC33.ro 4 rfl)) rfl Tryd.sizeOf22 rfl rfl (fun w17 hC34 hKp3 => ?_)
      try dsimp only [List.set] at hC34
      refine WL_nil ?_
      refine WA_done (by kernel_rfl) ?_
      have hq6 := Option.some.inj hr6
      subst hq6
      have hC35 := hC34.f5
      have hC36 := hC35.f5
      have hC37 := hC36.f5
      have hC38 := hC37.f4
      have hC39 := hC38.h4
      refine nrm_sub (l' := [(4, (ptr b1 0)), (5, (ptr b2 0))]) ⟨rfl, rfl, trivial⟩ ?_
      exact ⟨x16.2.2.1, x16.2.2.2, x1.1.1, v6, x17, rfl, rfl, hC39⟩
     refine WL_buildSlice (vs := [(.int .i64 (-1)), (.int .i64 3), (.int .i64 10)]) hC14 Tryd.underlying22 ty3 rfl rfl rfl rfl (by intro v hv; simp only [List.mem_cons, List.not_mem_nil, or_false] at hv; rcases hv with rfl | rfl | rfl <;> rfl) rfl rfl (fun b3 w13 hC15 hB7 => ?_)
     have hC16 := hC15.row0 (α := Int)
     have hC17 := hC16.triv (int_val (10))
     have hC18 := hC17.row1
     have hC19 := hC18.triv (int_val (3))
     have hC20 := hC19.row1
     have hC21 := hC20.triv (int_val ((-1)))
     have hC22 := hC21.row1
     have hC23 := hC22.front 1 rfl
     dsimp only [List.eraseIdx, List.cons_append, List.nil_append, List.append_nil] at hC23
     have hC24 : Ctx Fs.flatten w0 w13 (Item.own (.slice (some ⟨b3, 0, none⟩) 3 3) ([(-1), 3, 10] : List Int) :: [Item.box pb1 [u1, (.int .i64 x2.2.2.1), (.int .i64 x2.2.2.2)], Item.box b2 [(.int .i64 x1.1.1), v2], Item.own v2 (x1.1.2 : (List Int)), Item.box b1 [(.int .i64 0), (.slice none 0 0)]]) := hC23.rowOwn (by simp [maxLen])
     refine WL_nil ?_
     refine WA_all2 (i := 1) (j := 4) (by kernel_rfl) rfl rfl ?_ ?_
     ·refine WL_load_box hC24 2 rfl rfl Tryd.isAgg22 rfl rfl ?_
      refine WL_nil ?_
      obtain ⟨x16, hr7, hr6⟩ := bind_some hr6
      refine WA_one 4 (by kernel_rfl) rfl ?_
      have hC25 := hC24.f1
      obtain ⟨Fs4, hH4, hn4, hF4, hO4, hb4⟩ := Ctx.lend2 (As := [Item.own (.slice (some ⟨b3, 0, none⟩) 3 3) ([(-1), 3, 10] : (List Int)), Item.box b2 [(.int .i64 x1.1.1), v2], Item.own v2 (x1.1.2 : (List Int)), Item.box b1 [(.int .i64 0), (.slice none 0 0)]]) [Item.box pb1 [u1, (.int .i64 x2.2.2.1), (.int .i64 x2.2.2.2)]] hC25
      refine WL_call Tryd.call98 rfl rfl (c_S_l1PickInt pb1 (a1.1, x2.2.2.1, x2.2.2.2) u1 (RO.lent g1 hC25.keep hF4) ([(-1), 3, 10]) (.slice (some ⟨b3, 0, none⟩) 3 3) (hO4 0 _ _ _ rfl) hH4 hn4 x16 hr7) ?_
      rintro _ w14 ⟨rfl, hq5⟩
      have hC26 : Ctx Fs.flatten w0 w14 [Item.box pb1 [u1, (.int .i64 x16.2.2.1), (.int .i64 x16.2.2.2)], Item.own (.slice (some ⟨b3, 0, none⟩) 3 3) ([(-1), 3, 10] : (List Int)), Item.box b2 [(.int .i64 x1.1.1), v2], Item.own v2 (x1.1.2 : (List Int)), Item.box b1 [(.int .i64 0), (.slice none 0 0)]] := hb4 _ _ hq5
      refine WL_nil ?_
      refine WA_one 5 (by kernel_rfl) rfl ?_
      refine WL_buildSlice (vs := [(.int .i64 x16.1)]) hC26 Tryd.underlying22 ty3 rfl rfl rfl rfl (by intro v hv; simp only [List.mem_cons, List.not_mem_nil, or_false] at hv; rcases hv with rfl <;> rfl) rfl rfl (fun b4 w15 hC27 hB8 => ?_)
      have hC28 := hC27.row0 (α := Int)
      have hC29 := hC28.triv (int_val (x16.1))
      have hC30 := hC29.row1
      have hC31 := hC30.front 1 rfl
      dsimp only [List.eraseIdx, List.cons_append, List.nil_append, List.append_nil] at hC31
      have hC32 : Ctx Fs.flatten w0 w15 (Item.own (.slice (some ⟨b4, 0, none⟩) 1 1) ([x16.1] : List Int) :: [Item.box pb1 [u1, (.int .i64 x16.2.2.1), (.int .i64 x16.2.2.2)], Item.own (.slice (some ⟨b3, 0, none⟩) 3 3) ([(-1), 3, 10] : (List Int)), Item.box b2 [(.int .i64 x1.1.1), v2], Item.own v2 (x1.1.2 : (List Int)), Item.box b1 [(.int .i64 0), (.slice none 0 0)]]) := hC31.rowOwn (by simp [maxLen])
      refine WL_nil ?_
      obtain ⟨x17, hx1, hr6⟩ := bind_some hr6
      refine WA_one 6 (by kernel_rfl) rfl ?_
      refine WL_append_flat (α := Int) hC32 4 rfl (hC32.ro 0 rfl) (Keep.refl _ _) Tryd.underlying22 ty3 rfl hx1 rfl rfl rfl (fun v6 w16 hC33 => ?_)
      try dsimp only [List.set] at hC33
      refine WL_nil ?_
      refine WA_tk 7 (by kernel_rfl) rfl rfl (fl_field Tryd.underlying29 rfl rfl (fun w => ⟨_, Tryd.sizeOf22 w⟩) rfl) ?_
      refine WL_field Tryd.underlying29 rfl rfl (fun w => ⟨_, Tryd.sizeOf22 w⟩) rfl rfl ?_
      refine WL_nil ?_
      refine WA_one 8 (by kernel_rfl) rfl ?_
      refine WL_store_boxK (cs' := [(.int .i64 x1.1.1), v6]) hC33 3 rfl rfl (ro_one (hC33.ro 4 rfl)) rfl Tryd.sizeOf22 rfl rfl (fun w17 hC34 hKp3 => ?_)
      try dsimp only [List.set] at hC34
      refine WL_nil ?_
      refine WA_done (by kernel_rfl) ?_
      have hq6 := Option.some.inj hr6
      subst hq6
      have hC35 := hC34.f5
      have hC36 := hC35.f5
      have hC37 := hC36.f5
      have hC38 := hC37.f4
      have hC39 := hC38.h4
      refine nrm_sub (l' := [(4, (ptr b1 0)), (5, (ptr b2 0))]) ⟨rfl, rfl, trivial⟩ ?_
      exact ⟨x16.2.2.1, x16.2.2.2, x1.1.1, v6, x17, rfl, rfl, hC39⟩
     obtain ⟨x16, hr7, hr6⟩ := bind_some hr6
     have hC25 := hC24.f1
     obtain ⟨Fs4, hH4, hn4, hF4, hO4, hb4⟩ := Ctx.lend2 (As := [Item.own (.slice (some ⟨b3, 0, none⟩) 3 3) ([(-1), 3, 10] : (List Int)), Item.box b2 [(.int .i64 x1.1.1), v2], Item.own v2 (x1.1.2 : (List Int)), Item.box b1 [(.int .i64 0), (.slice none 0 0)]]) [Item.box pb1 [u1, (.int .i64 x2.2.2.1), (.int .i64 x2.2.2.2)]] hC25
     refine WL_call Tryd.call98 rfl rfl (c_S_l1PickInt pb1 (a1.1, x2.2.2.1, x2.2.2.2) u1 (RO.lent g1 hC25.keep hF4) ([(-1), 3, 10]) (.slice (some ⟨b3, 0, none⟩) 3 3) (hO4 0 _ _ _ rfl) hH4 hn4 x16 hr7) ?_
     rintro _ w14 ⟨rfl, hq5⟩
     have hC26 : Ctx Fs.flatten w0 w14 [Item.box pb1 [u1, (.int .i64 x16.2.2.1), (.int .i64 x16.2.2.2)], Item.own (.slice (some ⟨b3, 0, none⟩) 3 3) ([(-1), 3, 10] : (List Int)), Item.box b2 [(.int .i64 x1.1.1), v2], Item.own v2 (x1.1.2 : (List Int)), Item.box b1 [(.int .i64 0), (.slice none 0 0)]] := hb4 _ _ hq5
     refine WL_nil ?_
     refine WA.sub (l' := [(0, (ptr pb1 0)), (1, u2), (4, (ptr b1 0)), (5, (ptr b2 0)), (6, (ptr pb1 0)), (7, u2), (8, (.agg #[(.int .i64 x1.1.1), v2])), (9, (ptr pb1 0)), (10, (.int .i64 x2.1)), (11, (.bool (decide (x2.1 = 0)))), (12, (.bool (decide (x2.1 = 0)))), (17, (.bool (decide (x2.1 = 1)))), (18, (.bool (decide (x2.1 = 1)))), (19, (ptr b2 1)), (21, (ptr pb1 0)), (22, (.slice (some ⟨b3, 0, none⟩) 3 3)), (23, (.int .i64 x16.1))]) ?_ ⟨rfl, rfl, rfl, rfl, rfl, rfl, rfl, rfl, rfl, rfl, rfl, rfl, rfl, rfl, rfl, rfl, rfl, trivial⟩
     refine WA_postsE [⟨1, [], fun vs => PW.val v2, []⟩, ⟨5, [], fun vs => PW.own ([x16.1] : (List Int)), []⟩] [[], []] 3 rfl (by kernel_rfl) (by kernel_rfl) rfl ?_ ?_
     ·refine StepsE_cons rfl ?_ ?_
      ·intro w16 hB9
       refine DepsE_nil ?_
       refine ⟨_, rfl, ?_⟩
       refine WL_load_box (hC26.grow hB9) 2 rfl rfl Tryd.isAgg22 rfl rfl ?_
       refine WL_nil ?_
       exact FinE_val (Below.refl _ _) rfl rfl ⟨rfl, rfl⟩
      refine StepsE_cons rfl ?_ ?_
      ·intro w16 hB9
       refine DepsE_nil ?_
       refine ⟨_, rfl, ?_⟩
       refine WL_buildSlice (vs := [(.int .i64 x16.1)]) (Ctx.start w16) Tryd.underlying22 ty3 rfl rfl rfl rfl (by intro v hv; simp only [List.mem_cons, List.not_mem_nil, or_false] at hv; rcases hv with rfl <;> rfl) rfl rfl (fun b4 w15 hC27 hB8 => ?_)
       have hC28 := hC27.row0 (α := Int)
       have hC29 := hC28.triv (int_val (x16.1))
       have hC30 := hC29.row1
       have hC31 := hC30.front 1 rfl
       dsimp only [List.eraseIdx, List.cons_append, List.nil_append, List.append_nil] at hC31
       have hC32 : Ctx [] w16 w15 (Item.own (.slice (some ⟨b4, 0, none⟩) 1 1) ([x16.1] : List Int) :: []) := hC31.rowOwn (by simp [maxLen])
       refine WL_nil ?_
       exact FinE_ctx hC32 rfl rfl (fun F h => h)
      exact StepsE_nil
     intro w17 hB10
     refine AllE_cons rfl rfl rfl ?_
     rintro _ _ ⟨rfl, rfl⟩
     refine AllE_cons rfl rfl rfl ?_
     intro v6 F1 hv1
     refine AllE_nil ?_
     intro hn5 hb5
     have hC33 := hC26.pushL hB10 (Bs := [Item.own v6 ([x16.1] : (List Int))]) (Fs := [F1]) ⟨F1, _, rfl, hv1, rfl⟩ (by simpa using hn5) (fun b h => (hb5 b (by simpa using h)).1)
     obtain ⟨x17, hx1, hr6⟩ := bind_some hr6
     refine WA_one 6 (by kernel_rfl) rfl ?_
     refine WL_append_flat (α := Int) hC33 4 rfl (hC33.ro 0 rfl) (Keep.refl _ _) Tryd.underlying22 ty3 rfl hx1 rfl rfl rfl (fun v7 w18 hC34 => ?_)
     try dsimp only [List.set] at hC34
     refine WL_nil ?_
     refine WA_tk 7 (by kernel_rfl) rfl rfl (fl_field Tryd.underlying29 rfl rfl (fun w => ⟨_, Tryd.sizeOf22 w⟩) rfl) ?_
     refine WL_field Tryd.underlying29 rfl rfl (fun w => ⟨_, Tryd.sizeOf22 w⟩) rfl rfl ?_
     refine WL_nil ?_
     refine WA_one 8 (by kernel_rfl) rfl ?_
     refine WL_store_boxK (cs' := [(.int .i64 x1.1.1), v7]) hC34 3 rfl rfl (ro_one (hC34.ro 4 rfl)) rfl Tryd.sizeOf22 rfl rfl (fun w19 hC35 hKp3 => ?_)
     try dsimp only [List.set] at hC35
     refine WL_nil ?_
     refine WA_done (by kernel_rfl) ?_
     have hq6 := Option.some.inj hr6
     subst hq6
     have hC36 := hC35.f5
     have hC37 := hC36.f5
     have hC38 := hC37.f5
     have hC39 := hC38.f4
     have hC40 := hC39.h4
     refine nrm_sub (l' := [(4, (ptr b1 0)), (5, (ptr b2 0))]) ⟨rfl, rfl, trivial⟩ ?_
     exact ⟨x16.2.2.1, x16.2.2.2, x1.1.1, v7, x17, rfl, rfl, hC40⟩
    rintro l3 _ w11 hs3 ⟨x12, x13, x14, v5, x15, rfl, rfl, hC13⟩
    try dsimp only at hr5
    have hq7 := Option.some.inj hr5
    subst hq7
    refine nrm_subs (l2 := [(4, (ptr b1 0)), (5, (ptr b2 0))]) hs3 ⟨rfl, rfl, trivial⟩ ?_
    exact ⟨x12, x13, x14, v5, x15, rfl, rfl, hC13⟩
   replace hr5 := ite_f hr5 hc2
   refine W_skip ?_
   have hq8 := Option.some.inj hr5
   subst hq8
   refine nrm_sub (l' := [(4, (ptr b1 0)), (5, (ptr b2 0))]) ⟨rfl, rfl, trivial⟩ ?_
   exact ⟨x2.2.2.1, x2.2.2.2, x1.1.1, v2, x1.1.2, rfl, rfl, hC8⟩
  rintro l2 _ w10 hs2 ⟨x8, x9, x10, v4, x11, rfl, rfl, hC12⟩
  try dsimp only at hr3
  have hq9 := Option.some.inj hr3
  subst hq9
  refine nrm_subs (l2 := [(4, (ptr b1 0)), (5, (ptr b2 0))]) hs2 ⟨rfl, rfl, trivial⟩ ?_
  exact ⟨x8, x9, x10, v4, x11, rfl, rfl, hC12⟩
 rintro l1 _ w6 hs1 ⟨x3, x4, x5, v3, x6, rfl, rfl, hC9⟩
 try dsimp only at hF
 refine blk_normal ?_
 refine nrm_sub' hs1 ?_
 clear hs1
 refine W_seq_reg ?_
 refine WL_load_box_agg [(.int .i64 x5), v3] hC9 1 rfl rfl rfl Tryd.isAgg29 Tryd.sizeOf29 rfl rfl ?_
 refine WL_store_box_aggK (cs' := [(.int .i64 x5), v3]) (new := [(.int .i64 x5), v3]) hC9 3 rfl rfl (by intro v hv; simp only [List.mem_cons, List.not_mem_nil, or_false] at hv; rcases hv with rfl | rfl; exact rfl; exact (ro_one (hC9.ro 2 rfl))) rfl Tryd.sizeOf29 rfl rfl (fun w20 hC41 hKp4 => ?_)
 try dsimp only [List.set] at hC41
 refine WL_nil (W_ret ?_)
 have hq10 := Option.some.inj hF
 subst hq10
 refine fn_retG1 rfl (rv_cell_agg (cs' := [(.int .i64 x5), v3]) hC41 (i := 3) rfl rfl rfl Tryd.isAgg29 Tryd.sizeOf29 rfl) ?_
 have hC43 := hC41.f2
 have hC42 := own_st29 x5 v3 x6 hC43
 have hC44 := hC42.h2
 exact ⟨_, rfl, _, rfl, hC44⟩

theorem c_S_l26Access {w0 : World} {Fs : List (List Nat)} (pb1 : Nat) (a1 : ((List UInt8) × Int × Int)) (u1 : Value) (g1 : RO Fs.flatten w0 u1 a1.1) (hH : Hold [Item.box pb1 [u1, (.int .i64 a1.2.1), (.int .i64 a1.2.2)]] w0 Fs) (hn : Fs.flatten.Nodup) (rr : ((Int × (List Int)) × ((List UInt8) × Int × Int))) (hF : S.l26Access a1 = some rr) :
 Calls Tryd.prog 63 [(ptr pb1 0)].toArray w0 fun e w' => ∃ v, e = .returned v ∧ ∃ q0 : Value, v = q0 ∧ Ctx Fs.flatten w0 w' [Item.own q0 (rr.1 : (Int × (List Int))), Item.box pb1 [u1, (.int .i64 rr.2.2.1), (.int .i64 rr.2.2.2)]] := by
 refine calls_of_W Tryd.func63 rfl rfl ?_
 have hC0 := Ctx.startIn hH hn
 unfold S.l26Access at hF
 refine W_seq_reg ?_
 refine WL_allocK hC0 zero29 rfl rfl (fun b1 w1 hC1 hB1 hN1 => ?_)
 refine WL_nil (W_seq_reg ?_)
 refine WL_move rfl rfl ?_
 obtain ⟨x1, hr1, hF⟩ := bind_some hF
 have hC2 := hC1.f1
 obtain ⟨Fs1, hH1, hn1, hF1, hO1, hb1⟩ := Ctx.lend2 (As := [Item.box b1 [(.int .i64 0), (.slice none 0 0)]]) [Item.box pb1 [u1, (.int .i64 a1.2.1), (.int .i64 a1.2.2)]] hC2
 refine WL_call Tryd.call81 rfl rfl (c_S_l5Draw pb1 (a1.1, a1.2.1, a1.2.2) u1 (RO.lent g1 hC2.keep hF1) hH1 hn1 x1 hr1) ?_
 rintro _ w2 ⟨v1, v2, v3, rfl, hq1⟩
 have hC3 : Ctx Fs.flatten w0 w2 [Item.own v1 (x1.1 : (List Int)), Item.own v2 (x1.2.1 : (List (Int × (List Int) × Int × Int × Int))), Item.own v3 (x1.2.2.1 : (List (Int × (List Int)))), Item.box pb1 [u1, (.int .i64 x1.2.2.2.2.1), (.int .i64 x1.2.2.2.2.2)], Item.box b1 [(.int .i64 0), (.slice none 0 0)]] := hb1 _ _ hq1
 refine WL_move rfl rfl ?_
 refine WL_extract rfl rfl rfl ?_
 refine WL_extract rfl rfl rfl ?_
 refine WL_extract rfl rfl rfl ?_
 refine WL_assign rfl rfl ?_
 refine WL_assign rfl rfl ?_
 refine WL_assign rfl rfl ?_
 refine WL_nil (W_seq_reg ?_)
 refine WL_move rfl rfl ?_
 refine WL_move rfl rfl ?_
 obtain ⟨x2, hr2, hF⟩ := bind_some hF
 have hC4 := hC3.f3
 obtain ⟨Fs2, hH2, hn2, hF2, hO2, hb2⟩ := Ctx.lend2 (As := [Item.own v1 (x1.1 : (List Int)), Item.own v2 (x1.2.1 : (List (Int × (List Int) × Int × Int × Int))), Item.own v3 (x1.2.2.1 : (List (Int × (List Int)))), Item.box b1 [(.int .i64 0), (.slice none 0 0)]]) [Item.box pb1 [u1, (.int .i64 x1.2.2.2.2.1), (.int .i64 x1.2.2.2.2.2)]] hC4
 refine WL_call Tryd.call82 rfl rfl (c_S_l5AnyAccess pb1 (a1.1, x1.2.2.2.2.1, x1.2.2.2.2.2) u1 (RO.lent g1 hC4.keep hF2) x1.2.1 v2 (hO2 1 _ _ _ rfl) hH2 hn2 x2 hr2) ?_
 rintro v4 w3 ⟨_, rfl, hq2⟩
 have hC5 : Ctx Fs.flatten w0 w3 [Item.own v4 (x2.1 : (Int × (List Int))), Item.box pb1 [u1, (.int .i64 x2.2.2.1), (.int .i64 x2.2.2.2)], Item.own v1 (x1.1 : (List Int)), Item.own v2 (x1.2.1 : (List (Int × (List Int) × Int × Int × Int))), Item.own v3 (x1.2.2.1 : (List (Int × (List Int)))), Item.box b1 [(.int .i64 0), (.slice none 0 0)]] := hb2 _ _ hq2
 obtain ⟨v5, rfl, hC6⟩ := st29_own hC5
 refine WL_store_box_aggK (cs' := [(.int .i64 x2.1.1), v5]) (new := [(.int .i64 x2.1.1), v5]) hC6 5 rfl rfl (by intro v hv; simp only [List.mem_cons, List.not_mem_nil, or_false] at hv; rcases hv with rfl | rfl; exact rfl; exact (ro_one (hC6.ro 0 rfl))) rfl Tryd.sizeOf29 rfl rfl (fun w4 hC7 hKp1 => ?_)
 try dsimp only [List.set] at hC7
 refine WL_nil (W_ret ?_)
 have hq3 := Option.some.inj hF
 subst hq3
 refine fn_retG1 rfl (rv_cell_agg (cs' := [(.int .i64 x2.1.1), v5]) hC7 (i := 5) rfl rfl rfl Tryd.isAgg29 Tryd.sizeOf29 rfl) ?_
 have hC8 := hC7.f1
 have hC10 := hC8.f1
 have hC9 := own_st29 x2.1.1 v5 x2.1.2 hC10
 have hC11 := hC9.h2
 exact ⟨_, rfl, _, rfl, hC11⟩

theorem c_S_DrawEncodeRequest {w0 : World} (a1 : (List UInt8)) (u1 : Value) (g1 : RO [] w0 u1 a1) (rr : ((Int × (List Int)) × Int)) (hF : S.DrawEncodeRequest a1 = some rr) :
 Calls Tryd.prog 33 [u1].toArray w0 fun e w' => ∃ v, e = .returned v ∧ Res2 w0 rr.1 rr.2 v w' := by
 refine calls_of_W Tryd.func33 rfl rfl ?_
 have hC0 := Ctx.start w0
 unfold S.DrawEncodeRequest at hF
 refine W_seq_reg ?_
 refine WL_allocK hC0 zero29 rfl rfl (fun b1 w1 hC1 hB1 hN1 => ?_)
 refine WL_assign rfl rfl ?_
 refine WL_nil (W_seq_reg ?_)
 refine WL_move rfl rfl ?_
 obtain ⟨x1, hr1, hF⟩ := bind_some hF
 refine WL_call Tryd.call62 rfl rfl (c_S_l1New a1 u1 (g1.now hC1.keep) x1 hr1) ?_
 rintro _ w2 ⟨b2, rfl, hq1⟩
 have hC2 : Ctx [] w0 w2 [Item.box b2 [u1, (.int .i64 x1.2.1), (.int .i64 x1.2.2)], Item.box b1 [(.int .i64 0), (.slice none 0 0)]] := hC1.push2 hq1
 refine WL_assign rfl rfl ?_
 refine WL_nil (W_seq_reg ?_)
 refine WL_move rfl rfl ?_
 obtain ⟨x2, hr2, hF⟩ := bind_some hF
 obtain ⟨Fs2, hH2, hn2, hF2, hO2, hb2⟩ := Ctx.lend2 (As := [Item.box b1 [(.int .i64 0), (.slice none 0 0)]]) [Item.box b2 [u1, (.int .i64 x1.2.1), (.int .i64 x1.2.2)]] hC2
 refine WL_call Tryd.call63 rfl rfl (c_S_l26Access b2 (a1, x1.2.1, x1.2.2) u1 (RO.lent g1 hC2.keep hF2) hH2 hn2 x2 hr2) ?_
 rintro v1 w3 ⟨_, rfl, hq2⟩
 have hC3 : Ctx [] w0 w3 [Item.own v1 (x2.1 : (Int × (List Int))), Item.box b2 [u1, (.int .i64 x2.2.2.1), (.int .i64 x2.2.2.2)], Item.box b1 [(.int .i64 0), (.slice none 0 0)]] := hb2 _ _ hq2
 obtain ⟨v2, rfl, hC4⟩ := st29_own hC3
 refine WL_allocK hC4 zero29 rfl rfl (fun b3 w4 hC5 hB2 hN2 => ?_)
 refine WL_store_box_aggK (cs' := [(.int .i64 x2.1.1), v2]) (new := [(.int .i64 x2.1.1), v2]) hC5 0 rfl rfl (by intro v hv; simp only [List.mem_cons, List.not_mem_nil, or_false] at hv; rcases hv with rfl | rfl; exact rfl; exact (ro_one (hC5.ro 1 rfl))) rfl Tryd.sizeOf29 rfl rfl (fun w5 hC6 hKp1 => ?_)
 try dsimp only [List.set] at hC6
 have hk1 := Keep.over (Keep.of hB2) hN2 hKp1
 refine WL_nil ?_
 obtain ⟨r1, hr3, hF⟩ := bind_some hF
 refine W_cut (fun l w => ∃ x3 : Int, ∃ x4 : Int, ∃ x5 : Int, ∃ v3 : Value, ∃ x6 : (List Int), ∃ x7 : Int, (x3, x4, x5, x6, x7) = r1 ∧ l = [(2, (ptr b1 0)), (3, (.int .i64 x7))] ∧ Ctx [] w0 w [Item.own v3 (x6 : (List Int)), Item.box b1 [(.int .i64 x5), v3]]) ?_ ?_
 ·refine W_drawn 6 rfl hmix (fun w7 hB4 => ?_)
  have hC8 := hC6.grow hB4
  refine WA_tk 1 (by kernel_rfl) rfl rfl (fl_move rfl) ?_
  refine WL_move rfl rfl ?_
  refine WL_nil ?_
  refine WA_all2 (i := 0) (j := 2) (by kernel_rfl) rfl rfl ?_ ?_
  ·refine WL_load_box_agg [(.int .i64 x2.1.1), v2] hC8 0 rfl rfl rfl Tryd.isAgg29 Tryd.sizeOf29 rfl rfl ?_
   refine WL_nil ?_
   obtain ⟨x8, hr4, hr3⟩ := bind_some hr3
   refine WA_one 2 (by kernel_rfl) rfl ?_
   have hC9 := hC8.f2
   obtain ⟨Fs3, hH3, hn3, hF3, hO3, hb3⟩ := Ctx.lend2 (As := [Item.box b3 [(.int .i64 x2.1.1), v2], Item.own v2 (x2.1.2 : (List Int)), Item.box b1 [(.int .i64 0), (.slice none 0 0)]]) [Item.box b2 [u1, (.int .i64 x2.2.2.1), (.int .i64 x2.2.2.2)]] hC9
   refine WL_call Tryd.call64 rfl rfl (c_S_l1Below b2 (a1, x2.2.2.1, x2.2.2.2) u1 (RO.lent g1 hC9.keep hF3) 12 hH3 hn3 x8 hr4) ?_
   rintro _ w9 ⟨rfl, hq3⟩
   have hC10 : Ctx [] w0 w9 [Item.box b2 [u1, (.int .i64 x8.2.2.1), (.int .i64 x8.2.2.2)], Item.box b3 [(.int .i64 x2.1.1), v2], Item.own v2 (x2.1.2 : (List Int)), Item.box b1 [(.int .i64 0), (.slice none 0 0)]] := hb3 _ _ hq3
   refine WL_nil ?_
   refine WA_tk 3 (by kernel_rfl) rfl rfl (fl_sub rfl rfl) ?_
   refine WL_sub rfl rfl rfl ?_
   refine WL_nil ?_
   refine WA_one 4 (by kernel_rfl) rfl ?_
   refine WL_store_box_aggK (cs' := [(.int .i64 x2.1.1), v2]) (new := [(.int .i64 x2.1.1), v2]) hC10 3 rfl rfl (by intro v hv; simp only [List.mem_cons, List.not_mem_nil, or_false] at hv; rcases hv with rfl | rfl; exact rfl; exact (ro_one (hC10.ro 2 rfl))) rfl Tryd.sizeOf29 rfl rfl (fun w10 hC11 hKp2 => ?_)
   try dsimp only [List.set] at hC11
   refine WL_nil ?_
   refine WA_tk 5 (by kernel_rfl) rfl rfl (fl_assign rfl) ?_
   refine WL_assign rfl rfl ?_
   refine WL_nil ?_
   refine WA_done (by kernel_rfl) ?_
   have hq4 := Option.some.inj hr3
   subst hq4
   have hC12 := hC11.f3
   have hC13 := hC12.f3
   have hC14 := hC13.h2
   refine nrm_sub (l' := [(2, (ptr b1 0)), (3, (.int .i64 (w64 (x8.1 - 1))))]) ⟨rfl, rfl, trivial⟩ ?_
   exact ⟨x8.2.2.1, x8.2.2.2, x2.1.1, v2, x2.1.2, w64 (x8.1 - 1), rfl, rfl, hC14⟩
  obtain ⟨x8, hr4, hr3⟩ := bind_some hr3
  have hC9 := hC8.f2
  obtain ⟨Fs3, hH3, hn3, hF3, hO3, hb3⟩ := Ctx.lend2 (As := [Item.box b3 [(.int .i64 x2.1.1), v2], Item.own v2 (x2.1.2 : (List Int)), Item.box b1 [(.int .i64 0), (.slice none 0 0)]]) [Item.box b2 [u1, (.int .i64 x2.2.2.1), (.int .i64 x2.2.2.2)]] hC9
  refine WL_call Tryd.call64 rfl rfl (c_S_l1Below b2 (a1, x2.2.2.1, x2.2.2.2) u1 (RO.lent g1 hC9.keep hF3) 12 hH3 hn3 x8 hr4) ?_
  rintro _ w9 ⟨rfl, hq3⟩
  have hC10 : Ctx [] w0 w9 [Item.box b2 [u1, (.int .i64 x8.2.2.1), (.int .i64 x8.2.2.2)], Item.box b3 [(.int .i64 x2.1.1), v2], Item.own v2 (x2.1.2 : (List Int)), Item.box b1 [(.int .i64 0), (.slice none 0 0)]] := hb3 _ _ hq3
  refine WL_nil ?_
  refine WA_tk 3 (by kernel_rfl) rfl rfl (fl_sub rfl rfl) ?_
  refine WL_sub rfl rfl rfl ?_
  refine WL_nil ?_
  refine WA_one 0 (by kernel_rfl) rfl ?_
  refine WL_load_box_agg [(.int .i64 x2.1.1), v2] hC10 1 rfl rfl rfl Tryd.isAgg29 Tryd.sizeOf29 rfl rfl ?_
  refine WL_nil ?_
  refine WA_one 4 (by kernel_rfl) rfl ?_
  refine WL_store_box_aggK (cs' := [(.int .i64 x2.1.1), v2]) (new := [(.int .i64 x2.1.1), v2]) hC10 3 rfl rfl (by intro v hv; simp only [List.mem_cons, List.not_mem_nil, or_false] at hv; rcases hv with rfl | rfl; exact rfl; exact (ro_one (hC10.ro 2 rfl))) rfl Tryd.sizeOf29 rfl rfl (fun w10 hC11 hKp2 => ?_)
  try dsimp only [List.set] at hC11
  refine WL_nil ?_
  refine WA_tk 5 (by kernel_rfl) rfl rfl (fl_assign rfl) ?_
  refine WL_assign rfl rfl ?_
  refine WL_nil ?_
  refine WA_done (by kernel_rfl) ?_
  have hq4 := Option.some.inj hr3
  subst hq4
  have hC12 := hC11.f3
  have hC13 := hC12.f3
  have hC14 := hC13.h2
  refine nrm_sub (l' := [(2, (ptr b1 0)), (3, (.int .i64 (w64 (x8.1 - 1))))]) ⟨rfl, rfl, trivial⟩ ?_
  exact ⟨x8.2.2.1, x8.2.2.2, x2.1.1, v2, x2.1.2, w64 (x8.1 - 1), rfl, rfl, hC14⟩
 rintro _ w6 ⟨x3, x4, x5, v3, x6, x7, rfl, rfl, hC7⟩
 try dsimp only at hF
 refine W_ret ?_
 have hq5 := Option.some.inj hF
 subst hq5
 refine fn_retG2 rfl (rv_cell_agg (cs' := [(.int .i64 x5), v3]) hC7 (i := 1) rfl rfl rfl Tryd.isAgg29 Tryd.sizeOf29 rfl) (rv_tmp rfl) ?_
 have hC15 := hC7.triv (int_val (x7))
 have hC17 := hC15.f1
 have hC16 := own_st29 x5 v3 x6 hC17
 exact ⟨_, rfl, res2_of hC16⟩

theorem c_Q_sameInts {w0 : World} (a1 : (List Int)) (u1 : Value) (g1 : RO [] w0 u1 a1) (a2 : (List Int)) (u2 : Value) (g2 : RO [] w0 u2 a2) (rr : Bool) (hF : Q.sameInts a1 a2 = some rr) :
 Calls Tryd.prog 34 [u1, u2].toArray w0 fun e w' => ∃ v, e = .returned v ∧ Res w0 rr v w' := by
 refine calls_of_W Tryd.func34 rfl rfl ?_
 have hC0 := Ctx.start w0
 unfold Q.sameInts at hF
 refine W_seq_reg ?_
 refine WL_assign rfl rfl ?_
 refine WL_nil (W_seq (W_seq_reg ?_))
 refine WL_move rfl rfl ?_
 refine WL_len Tryd.underlying22 g1 rfl rfl ?_
 refine WL_move rfl rfl ?_
 refine WL_len Tryd.underlying22 g2 rfl rfl ?_
 refine WL_neq rfl rfl rfl ?_
 refine WL_nil ?_
 refine W_cond rfl (fun hc1 => ?_) (fun hc1 => ?_)
 ·replace hF := ite_t hF hc1
  refine W_seq_reg ?_
  refine WL_assign rfl rfl ?_
  refine WL_nil (W_ret (nrm_ret ?_))
  have hq1 := Option.some.inj hF
  subst hq1
  refine fn_ret1 rfl rfl ?_
  exact ⟨_, rfl, bool_res hC0 _⟩
 replace hF := ite_f hF hc1
 refine W_skip (nrm_normal (W_seq (W_seq_reg ?_)))
 refine WL_assign rfl rfl ?_
 refine WL_nil ?_
 obtain ⟨r1, hr1, hF⟩ := bind_some hF
 refine W_norm (fun l w => .inl () = r1 ∧ l = [] ∧ Below w0.heap.size w0 w ∧ Ctx [] w0 w []) ?_ ?_
 ·refine W_block ?_
  refine W.sub (l' := [(0, u1), (1, u2), (5, (.int .i64 0))]) ?_ ⟨rfl, rfl, rfl, trivial⟩
  refine W_loop (fun k l w => ∃ x1 : Int, l = [(0, u1), (1, u2), (5, (.int .i64 x1))] ∧ Below w0.heap.size w0 w ∧ Ctx [] w0 w [] ∧ Q.sameInts_l1 a1 a2 k x1 = some r1) FUEL ⟨0, rfl, (Below.refl _ _), hC0, hr1⟩ ?_
  clear hr1
  rintro k1 _ w1 ⟨x1, rfl, hB1, hC1, hL1⟩
  cases k1 with
  | zero => rw [Q.sameInts_l1] at hL1; cases hL1
  | succ k1 =>
   rw [Q.sameInts_l1] at hL1
   refine W_seq (W_seq_reg ?_)
   refine WL_move rfl rfl ?_
   refine WL_move rfl rfl ?_
   refine WL_len Tryd.underlying22 g1 rfl rfl ?_
   refine WL_lss rfl rfl rfl ?_
   refine WL_nil ?_
   refine W_cond rfl (fun hc2 => ?_) (fun hc2 => ?_)
   ·replace hL1 := ite_t hL1 hc2
    refine W_skip (nrm_normal (W_seq (W_block (W_seq ?_))))
    refine W_drawn 9 rfl hmix (fun w2 hB2 => ?_)
    have hC2 := hC1.grow hB2
    refine WA_tk 0 (by kernel_rfl) rfl rfl (fl_move rfl) ?_
    refine WL_move rfl rfl ?_
    refine WL_nil ?_
    refine WA_tk 1 (by kernel_rfl) rfl rfl (fl_move rfl) ?_
    refine WL_move rfl rfl ?_
    refine WL_nil ?_
    obtain ⟨x2, hx1, hL1⟩ := bind_some hL1
    refine WA_tk 2 (by kernel_rfl) rfl rfl (fl_index Tryd.underlying22 ty3 g1 hx1 rfl rfl) ?_
    refine WL_index Tryd.underlying22 ty3 g1 hx1 rfl rfl rfl (fun b1 o1 h1 => ?_)
    refine WL_nil ?_
    refine WA_tk 4 (by kernel_rfl) rfl rfl (fl_move rfl) ?_
    refine WL_move rfl rfl ?_
    refine WL_nil ?_
    refine WA_tk 5 (by kernel_rfl) rfl rfl (fl_move rfl) ?_
    refine WL_move rfl rfl ?_
    refine WL_nil ?_
    obtain ⟨x3, hx2, hL1⟩ := bind_some hL1
    refine WA_tk 6 (by kernel_rfl) rfl rfl (fl_index Tryd.underlying22 ty3 g2 hx2 rfl rfl) ?_
    refine WL_index Tryd.underlying22 ty3 g2 hx2 rfl rfl rfl (fun b2 o2 h2 => ?_)
    refine WL_nil ?_
    refine WA.sub (l' := [(0, u1), (1, u2), (5, (.int .i64 x1)), (11, (.int .i64 x1)), (12, u1), (13, (.int .i64 (List.length a1 : Int))), (14, (.bool (decide (x1 < (List.length a1 : Int))))), (17, u1), (18, (.int .i64 x1)), (19, (ptr b1 o1)), (21, u2), (22, (.int .i64 x1)), (23, (ptr b2 o2))]) ?_ ⟨rfl, rfl, rfl, rfl, rfl, rfl, rfl, rfl, rfl, rfl, rfl, rfl, rfl, trivial⟩
    refine WA_postsE [⟨3, [], fun vs => PW.val (.int .i64 x2), []⟩, ⟨7, [], fun vs => PW.val (.int .i64 x3), []⟩] [[], []] 1 rfl (by kernel_rfl) (by kernel_rfl) rfl ?_ ?_
    ·refine StepsE_cons rfl ?_ ?_
     ·intro w3 hB3
      refine DepsE_nil ?_
      refine ⟨_, rfl, ?_⟩
      refine WL_load ty3 h1 (hC2.keep.then hB3) rfl rfl (fun v1 h3 => ?_)
      obtain rfl := ro_int h3
      refine WL_nil ?_
      exact FinE_val (Below.refl _ _) rfl rfl ⟨rfl, rfl⟩
     refine StepsE_cons rfl ?_ ?_
     ·intro w3 hB3
      refine DepsE_nil ?_
      refine ⟨_, rfl, ?_⟩
      refine WL_load ty3 h2 (hC2.keep.then hB3) rfl rfl (fun v2 h4 => ?_)
      obtain rfl := ro_int h4
      refine WL_nil ?_
      exact FinE_val (Below.refl _ _) rfl rfl ⟨rfl, rfl⟩
     exact StepsE_nil
    intro w4 hB4
    refine AllE_cons rfl rfl rfl ?_
    rintro _ _ ⟨rfl, rfl⟩
    refine AllE_cons rfl rfl rfl ?_
    rintro _ _ ⟨rfl, rfl⟩
    refine AllE_nil ?_
    intro hn1 hb1
    have hC3 := hC2.grow hB4
    refine WA_tk 8 (by kernel_rfl) rfl rfl (fl_neq rfl rfl) ?_
    refine WL_neq rfl rfl rfl ?_
    refine WL_nil ?_
    refine WA_done (by kernel_rfl) ?_
    refine nrm_normal ?_
    refine W_cond rfl (fun hc3 => ?_) (fun hc3 => ?_)
    ·replace hL1 := ite_t hL1 hc3
     refine W_seq_reg ?_
     refine WL_assign rfl rfl ?_
     refine WL_nil (W_ret (blk_ret (nrm_ret (nrm_ret (blk_ret (nrm_ret (nrm_ret ?_)))))))
     have hq2 := Option.some.inj hL1
     subst hq2
     dsimp only at hF
     have hq3 := Option.some.inj hF
     subst hq3
     refine fn_ret1 rfl rfl ?_
     exact ⟨_, rfl, bool_res hC3 _⟩
    replace hL1 := ite_f hL1 hc3
    refine W_skip (blk_normal (nrm_normal (W_reg ?_)))
    refine WL_move rfl rfl ?_
    refine WL_add rfl rfl rfl ?_
    refine WL_assign rfl rfl ?_
    refine WL_nil ?_
    refine nrm_sub (l' := [(0, u1), (1, u2), (5, (.int .i64 (w64 (x1 + 1))))]) ⟨rfl, rfl, rfl, trivial⟩ ?_
    exact ⟨k1, Nat.lt_succ_self _, w64 (x1 + 1), rfl, (((Keep.of hB1).then hB2).then hB4).below, hC3, hL1⟩
   replace hL1 := ite_f hL1 hc2
   refine W_exit (nrm_exit (nrm_exit (blk_exit ?_)))
   have hq4 := Option.some.inj hL1
   subst hq4
   refine nrm_sub (l' := []) trivial ?_
   exact ⟨rfl, rfl, (Keep.of hB1).below, hC1⟩
 rintro l2 _ w5 hs2 ⟨rfl, rfl, hB5, hC4⟩
 try dsimp only at hF
 refine nrm_sub' hs2 ?_
 clear hs2
 refine W_seq_reg ?_
 refine WL_assign rfl rfl ?_
 refine WL_nil (W_ret ?_)
 have hq5 := Option.some.inj hF
 subst hq5
 refine fn_ret1 rfl rfl ?_
 exact ⟨_, rfl, bool_res hC4 _⟩

theorem c_S_l1Text {w0 : World} {Fs : List (List Nat)} (pb1 : Nat) (a1 : ((List UInt8) × Int × Int)) (u1 : Value) (g1 : RO Fs.flatten w0 u1 a1.1) (a2 : Int) (hH : Hold [Item.box pb1 [u1, (.int .i64 a1.2.1), (.int .i64 a1.2.2)]] w0 Fs) (hn : Fs.flatten.Nodup) (rr : (Str × ((List UInt8) × Int × Int))) (hF : S.l1Text a1 a2 = some rr) :
 Calls Tryd.prog 84 [(ptr pb1 0), (.int .i64 a2)].toArray w0 fun e w' => ∃ v, e = .returned v ∧ v = (sv rr.1) ∧ Ctx Fs.flatten w0 w' [Item.box pb1 [u1, (.int .i64 rr.2.2.1), (.int .i64 rr.2.2.2)]] := by
 refine calls_of_W Tryd.func84 rfl rfl ?_
 have hC0 := Ctx.startIn hH hn
 unfold S.l1Text at hF
 refine W_seq_reg ?_
 refine WL_assign rfl rfl ?_
 refine WL_nil (W_seq_reg ?_)
 refine WL_buildSlice (vs := []) hC0 Tryd.underlying54 ty5 rfl rfl rfl rfl (by simp) rfl rfl (fun b1 w1 hC1 hB1 => ?_)
 have hC2 := hC1.row0 (α := UInt8)
 have hC3 := hC2.front 1 rfl
 dsimp only [List.eraseIdx, List.cons_append, List.nil_append, List.append_nil] at hC3
 have hC4 : Ctx Fs.flatten w0 w1 (Item.own (.slice (some ⟨b1, 0, none⟩) 0 0) (([] : List UInt8) : List UInt8) :: [Item.box pb1 [u1, (.int .i64 a1.2.1), (.int .i64 a1.2.2)]]) := hC3.rowOwn (by simp [maxLen])
 refine WL_assign rfl rfl ?_
 refine WL_nil (W_seq_reg ?_)
 refine WL_move rfl rfl ?_
 obtain ⟨x1, hr1, hF⟩ := bind_some hF
 have hC5 := hC4.f1
 obtain ⟨Fs1, hH1, hn1, hF1, hO1, hb1⟩ := Ctx.lend2 (As := [Item.own (.slice (some ⟨b1, 0, none⟩) 0 0) (([] : List UInt8) : (List UInt8))]) [Item.box pb1 [u1, (.int .i64 a1.2.1), (.int .i64 a1.2.2)]] hC5
 refine WL_call Tryd.call64 rfl rfl (c_S_l1Below pb1 (a1.1, a1.2.1, a1.2.2) u1 (RO.lent g1 hC5.keep hF1) 4 hH1 hn1 x1 hr1) ?_
 rintro _ w2 ⟨rfl, hq1⟩
 have hC6 : Ctx Fs.flatten w0 w2 [Item.box pb1 [u1, (.int .i64 x1.2.2.1), (.int .i64 x1.2.2.2)], Item.own (.slice (some ⟨b1, 0, none⟩) 0 0) (([] : List UInt8) : (List UInt8))] := hb1 _ _ hq1
 refine WL_assign rfl rfl ?_
 refine WL_nil (W_seq (W_seq_reg ?_))
 refine WL_move rfl rfl ?_
 refine WL_move rfl rfl ?_
 refine WL_add rfl rfl rfl ?_
 obtain ⟨x2, hr2, hF⟩ := bind_some hF
 obtain ⟨Fs2, hH2, hn2, hF2, hO2, hb2⟩ := Ctx.lend2 (As := [Item.own (.slice (some ⟨b1, 0, none⟩) 0 0) (([] : List UInt8) : (List UInt8))]) [Item.box pb1 [u1, (.int .i64 x1.2.2.1), (.int .i64 x1.2.2.2)]] hC6
 refine WL_call Tryd.call64 rfl rfl (c_S_l1Below pb1 (a1.1, x1.2.2.1, x1.2.2.2) u1 (RO.lent g1 hC6.keep hF2) (w64 (a2 + 1)) hH2 hn2 x2 hr2) ?_
 rintro _ w3 ⟨rfl, hq2⟩
 have hC7 : Ctx Fs.flatten w0 w3 [Item.box pb1 [u1, (.int .i64 x2.2.2.1), (.int .i64 x2.2.2.2)], Item.own (.slice (some ⟨b1, 0, none⟩) 0 0) (([] : List UInt8) : (List UInt8))] := hb2 _ _ hq2
 refine WL_assign rfl rfl ?_
 refine WL_nil ?_
 obtain ⟨r1, hr3, hF⟩ := bind_some hF
 refine W_norm (fun l w => ∃ x7 : Int, ∃ x8 : Int, ∃ v2 : Value, ∃ x9 : (List UInt8), (x7, x8, x9) = r1 ∧ l = [(5, v2)] ∧ Ctx Fs.flatten w0 w [Item.box pb1 [u1, (.int .i64 x7), (.int .i64 x8)], Item.own v2 (x9 : (List UInt8))]) ?_ ?_
 ·refine W_block ?_
  refine W.sub (l' := [(0, (ptr pb1 0)), (5, (.slice (some ⟨b1, 0, none⟩) 0 0)), (6, (.int .i64 x1.1)), (7, (.int .i64 x2.1))]) ?_ ⟨rfl, rfl, rfl, rfl, trivial⟩
  refine W_loop (fun k l w => ∃ x3 : Int, ∃ x4 : Int, ∃ v1 : Value, ∃ x5 : (List UInt8), ∃ x6 : Int, l = [(0, (ptr pb1 0)), (5, v1), (6, (.int .i64 x1.1)), (7, (.int .i64 x6))] ∧ Ctx Fs.flatten w0 w [Item.box pb1 [u1, (.int .i64 x3), (.int .i64 x4)], Item.own v1 (x5 : (List UInt8))] ∧ S.l1Text_l1 a1 x1 k x3 x4 x5 x6 = some r1) FUEL ⟨x2.2.2.1, x2.2.2.2, (.slice (some ⟨b1, 0, none⟩) 0 0), ([] : List UInt8), x2.1, rfl, hC7, hr3⟩ ?_
  clear hr3
  rintro k1 _ w4 ⟨x3, x4, v1, x5, x6, rfl, hC8, hL1⟩
  cases k1 with
  | zero => rw [S.l1Text_l1] at hL1; cases hL1
  | succ k1 =>
   rw [S.l1Text_l1] at hL1
   refine W_seq (W_seq_reg ?_)
   refine WL_move rfl rfl ?_
   refine WL_gtr rfl rfl rfl ?_
   refine WL_nil ?_
   refine W_cond rfl (fun hc1 => ?_) (fun hc1 => ?_)
   ·replace hL1 := ite_t hL1 hc1
    refine W_skip (nrm_normal (W_seq (W_block (W_seq_reg ?_))))
    refine WL_move rfl rfl ?_
    obtain ⟨x10, hr4, hL1⟩ := bind_some hL1
    obtain ⟨Fs3, hH3, hn3, hF3, hO3, hb3⟩ := Ctx.lend2 (As := [Item.own v1 (x5 : (List UInt8))]) [Item.box pb1 [u1, (.int .i64 x3), (.int .i64 x4)]] hC8
    refine WL_call Tryd.call83 rfl rfl (c_S_l1Byte pb1 (a1.1, x3, x4) u1 (RO.lent g1 hC8.keep hF3) hH3 hn3 x10 hr4) ?_
    rintro _ w5 ⟨rfl, hq3⟩
    have hC9 : Ctx Fs.flatten w0 w5 [Item.box pb1 [u1, (.int .i64 x10.2.2.1), (.int .i64 x10.2.2.2)], Item.own v1 (x5 : (List UInt8))] := hb3 _ _ hq3
    refine WL_assign rfl rfl ?_
    refine WL_nil (W_seq (W_seq_reg ?_))
    refine WL_move rfl rfl ?_
    refine WL_eql rfl rfl rfl ?_
    refine WL_nil ?_
    obtain ⟨r2, hr5, hL1⟩ := bind_some hL1
    refine W_norm (fun l w => ∃ x11 : Int, x11 = r2 ∧ l = [(0, (ptr pb1 0)), (5, v1), (6, (.int .i64 x1.1)), (7, (.int .i64 x6)), (8, (.int .i64 x11))] ∧ Below w5.heap.size w5 w ∧ Ctx Fs.flatten w0 w [Item.box pb1 [u1, (.int .i64 x10.2.2.1), (.int .i64 x10.2.2.2)], Item.own v1 (x5 : (List UInt8))]) ?_ ?_
    ·refine W_cond rfl (fun hc2 => ?_) (fun hc2 => ?_)
     ·replace hr5 := ite_t hr5 hc2
      refine W_reg ?_
      refine WL_move rfl rfl ?_
      refine WL_rem (by decide) rfl rfl rfl ?_
      refine WL_assign rfl rfl ?_
      refine WL_nil ?_
      have hq4 := Option.some.inj hr5
      subst hq4
      refine nrm_sub (l' := [(0, (ptr pb1 0)), (5, v1), (6, (.int .i64 x1.1)), (7, (.int .i64 x6)), (8, (.int .i64 (x10.1.tmod 2)))]) ⟨rfl, rfl, rfl, rfl, rfl, trivial⟩ ?_
      exact ⟨x10.1.tmod 2, rfl, rfl, (Below.refl _ _), hC9⟩
     replace hr5 := ite_f hr5 hc2
     refine W_skip ?_
     have hq5 := Option.some.inj hr5
     subst hq5
     refine nrm_sub (l' := [(0, (ptr pb1 0)), (5, v1), (6, (.int .i64 x1.1)), (7, (.int .i64 x6)), (8, (.int .i64 x10.1))]) ⟨rfl, rfl, rfl, rfl, rfl, trivial⟩ ?_
     exact ⟨x10.1, rfl, rfl, (Below.refl _ _), hC9⟩
    rintro l2 _ w6 hs2 ⟨x11, rfl, rfl, hB3, hC10⟩
    try dsimp only at hL1
    refine nrm_sub' hs2 ?_
    clear hs2
    refine W_seq (W_seq_reg ?_)
    refine WL_move rfl rfl ?_
    refine WL_eql rfl rfl rfl ?_
    refine WL_nil ?_
    obtain ⟨r3, hr6, hL1⟩ := bind_some hL1
    refine W_norm (fun l w => ∃ x12 : Int, x12 = r3 ∧ l = [(0, (ptr pb1 0)), (5, v1), (6, (.int .i64 x1.1)), (7, (.int .i64 x6)), (8, (.int .i64 x12))] ∧ Below w6.heap.size w6 w ∧ Ctx Fs.flatten w0 w [Item.box pb1 [u1, (.int .i64 x10.2.2.1), (.int .i64 x10.2.2.2)], Item.own v1 (x5 : (List UInt8))]) ?_ ?_
    ·refine W_cond rfl (fun hc3 => ?_) (fun hc3 => ?_)
     ·replace hr6 := ite_t hr6 hc3
      refine W_reg ?_
      refine WL_move rfl rfl ?_
      refine WL_rem (by decide) rfl rfl rfl ?_
      refine WL_add rfl rfl rfl ?_
      refine WL_assign rfl rfl ?_
      refine WL_nil ?_
      have hq6 := Option.some.inj hr6
      subst hq6
      refine nrm_sub (l' := [(0, (ptr pb1 0)), (5, v1), (6, (.int .i64 x1.1)), (7, (.int .i64 x6)), (8, (.int .i64 (w64 (97 + (x11.tmod 4)))))]) ⟨rfl, rfl, rfl, rfl, rfl, trivial⟩ ?_
      exact ⟨w64 (97 + (x11.tmod 4)), rfl, rfl, (Below.refl _ _), hC10⟩
     replace hr6 := ite_f hr6 hc3
     refine W_skip ?_
     have hq7 := Option.some.inj hr6
     subst hq7
     refine nrm_sub (l' := [(0, (ptr pb1 0)), (5, v1), (6, (.int .i64 x1.1)), (7, (.int .i64 x6)), (8, (.int .i64 x11))]) ⟨rfl, rfl, rfl, rfl, rfl, trivial⟩ ?_
     exact ⟨x11, rfl, rfl, (Below.refl _ _), hC10⟩
    rintro l3 _ w7 hs3 ⟨x12, rfl, rfl, hB4, hC11⟩
    try dsimp only at hL1
    refine nrm_sub' hs3 ?_
    clear hs3
    refine W_reg ?_
    refine WL_move rfl rfl ?_
    refine WL_move rfl rfl ?_
    refine WL_conv_u8 Tryd.underlying3 Tryd.underlying5 rfl rfl ?_
    refine WL_buildSlice (vs := [(.int .u8 (w8 x12))]) hC11 Tryd.underlying54 ty5 rfl rfl rfl rfl (by intro v hv; simp only [List.mem_cons, List.not_mem_nil, or_false] at hv; rcases hv with rfl <;> rfl) rfl rfl (fun b2 w9 hC12 hB5 => ?_)
    have hC13 := hC12.row0 (α := UInt8)
    have hC14 := hC13.triv (u8_val x12)
    have hC15 := hC14.row1
    have hC16 := hC15.front 1 rfl
    dsimp only [List.eraseIdx, List.cons_append, List.nil_append, List.append_nil] at hC16
    have hC17 : Ctx Fs.flatten w0 w9 (Item.own (.slice (some ⟨b2, 0, none⟩) 1 1) ([(u8 x12)] : List UInt8) :: [Item.box pb1 [u1, (.int .i64 x10.2.2.1), (.int .i64 x10.2.2.2)], Item.own v1 (x5 : (List UInt8))]) := hC16.rowOwn (by simp [maxLen])
    obtain ⟨x13, hx1, hL1⟩ := bind_some hL1
    refine WL_append_flat (α := UInt8) hC17 2 rfl (hC17.ro 0 rfl) (Keep.refl _ _) Tryd.underlying54 ty5 rfl hx1 rfl rfl rfl (fun v3 w10 hC18 => ?_)
    try dsimp only [List.set] at hC18
    refine WL_assign rfl rfl ?_
    refine WL_nil (blk_normal (nrm_normal (W_reg ?_)))
    refine WL_move rfl rfl ?_
    refine WL_sub rfl rfl rfl ?_
    refine WL_assign rfl rfl ?_
    refine WL_nil ?_
    have hC19 := hC18.f2
    have hC20 := hC19.f2
    have hC21 := hC20.h2
    refine nrm_sub (l' := [(0, (ptr pb1 0)), (5, v3), (6, (.int .i64 x1.1)), (7, (.int .i64 (w64 (x6 - 1))))]) ⟨rfl, rfl, rfl, rfl, trivial⟩ ?_
    exact ⟨k1, Nat.lt_succ_self _, x10.2.2.1, x10.2.2.2, v3, x13, w64 (x6 - 1), rfl, hC21, hL1⟩
   replace hL1 := ite_f hL1 hc1
   refine W_exit (nrm_exit (nrm_exit (blk_exit ?_)))
   have hq8 := Option.some.inj hL1
   subst hq8
   refine nrm_sub (l' := [(5, v1)]) ⟨rfl, trivial⟩ ?_
   exact ⟨x3, x4, v1, x5, rfl, rfl, hC8⟩
 rintro l4 _ w11 hs4 ⟨x7, x8, v2, x9, rfl, rfl, hC22⟩
 try dsimp only at hF
 refine nrm_sub' hs4 ?_
 clear hs4
 refine W_seq_reg ?_
 refine WL_move rfl rfl ?_
 refine WL_conv_bytes Tryd.underlying54 Tryd.underlying5 Tryd.underlying9 (hC22.ro 1 rfl) (Keep.refl _ _) rfl rfl ?_
 refine WL_assign rfl rfl ?_
 refine WL_nil (W_ret ?_)
 have hq9 := Option.some.inj hF
 subst hq9
 refine fn_ret1 rfl rfl ?_
 have hC23 := hC22.h1
 exact ⟨_, rfl, rfl, hC23⟩

theorem c_S_l1Spoil {w0 : World} {Fs : List (List Nat)} (pb1 : Nat) (a1 : ((List UInt8) × Int × Int)) (u1 : Value) (g1 : RO Fs.flatten w0 u1 a1.1) (a2 : Str) (hH : Hold [Item.box pb1 [u1, (.int .i64 a1.2.1), (.int .i64 a1.2.2)]] w0 Fs) (hn : Fs.flatten.Nodup) (rr : (Str × ((List UInt8) × Int × Int))) (hF : S.l1Spoil a1 a2 = some rr) :
 Calls Tryd.prog 65 [(ptr pb1 0), (sv a2)].toArray w0 fun e w' => ∃ v, e = .returned v ∧ v = (sv rr.1) ∧ Ctx Fs.flatten w0 w' [Item.box pb1 [u1, (.int .i64 rr.2.2.1), (.int .i64 rr.2.2.2)]] := by
 refine calls_of_W Tryd.func65 rfl rfl ?_
 have hC0 := Ctx.startIn hH hn
 unfold S.l1Spoil at hF
 refine W_seq_reg ?_
 refine WL_assign rfl rfl ?_
 refine WL_nil (W_seq (W_seq_reg ?_))
 refine WL_move rfl rfl ?_
 refine WL_len_str Tryd.underlying9 rfl rfl ?_
 refine WL_eql rfl rfl rfl ?_
 refine WL_nil ?_
 refine W_cond rfl (fun hc1 => ?_) (fun hc1 => ?_)
 ·replace hF := ite_t hF hc1
  refine W_seq_reg ?_
  refine WL_move rfl rfl ?_
  obtain ⟨x1, hr1, hF⟩ := bind_some hF
  obtain ⟨Fs1, hH1, hn1, hF1, hO1, hb1⟩ := Ctx.lend2 (As := []) [Item.box pb1 [u1, (.int .i64 a1.2.1), (.int .i64 a1.2.2)]] hC0
  refine WL_call Tryd.call84 rfl rfl (c_S_l1Text pb1 (a1.1, a1.2.1, a1.2.2) u1 (RO.lent g1 hC0.keep hF1) 3 hH1 hn1 x1 hr1) ?_
  rintro _ w1 ⟨rfl, hq1⟩
  have hC1 : Ctx Fs.flatten w0 w1 [Item.box pb1 [u1, (.int .i64 x1.2.2.1), (.int .i64 x1.2.2.2)]] := hb1 _ _ hq1
  refine WL_assign rfl rfl ?_
  refine WL_nil (W_ret (nrm_ret ?_))
  have hq2 := Option.some.inj hF
  subst hq2
  refine fn_ret1 rfl rfl ?_
  exact ⟨_, rfl, rfl, hC1⟩
 replace hF := ite_f hF hc1
 refine W_skip (nrm_normal (W_seq_reg ?_))
 refine WL_move rfl rfl ?_
 refine WL_move rfl rfl ?_
 refine WL_len_str Tryd.underlying9 rfl rfl ?_
 obtain ⟨x2, hr2, hF⟩ := bind_some hF
 obtain ⟨Fs2, hH2, hn2, hF2, hO2, hb2⟩ := Ctx.lend2 (As := []) [Item.box pb1 [u1, (.int .i64 a1.2.1), (.int .i64 a1.2.2)]] hC0
 refine WL_call Tryd.call64 rfl rfl (c_S_l1Below pb1 (a1.1, a1.2.1, a1.2.2) u1 (RO.lent g1 hC0.keep hF2) (List.length a2 : Int) hH2 hn2 x2 hr2) ?_
 rintro _ w2 ⟨rfl, hq3⟩
 have hC2 : Ctx Fs.flatten w0 w2 [Item.box pb1 [u1, (.int .i64 x2.2.2.1), (.int .i64 x2.2.2.2)]] := hb2 _ _ hq3
 refine WL_assign rfl rfl ?_
 refine WL_nil (W_seq (W_seq_reg ?_))
 refine WL_move rfl rfl ?_
 obtain ⟨x3, hr3, hF⟩ := bind_some hF
 obtain ⟨Fs3, hH3, hn3, hF3, hO3, hb3⟩ := Ctx.lend2 (As := []) [Item.box pb1 [u1, (.int .i64 x2.2.2.1), (.int .i64 x2.2.2.2)]] hC2
 refine WL_call Tryd.call64 rfl rfl (c_S_l1Below pb1 (a1.1, x2.2.2.1, x2.2.2.2) u1 (RO.lent g1 hC2.keep hF3) 4 hH3 hn3 x3 hr3) ?_
 rintro _ w3 ⟨rfl, hq4⟩
 have hC3 : Ctx Fs.flatten w0 w3 [Item.box pb1 [u1, (.int .i64 x3.2.2.1), (.int .i64 x3.2.2.2)]] := hb3 _ _ hq4
 refine WL_nil (W_block (W_seq_reg ?_))
 refine WL_eql rfl rfl rfl ?_
 refine WL_assign rfl rfl ?_
 refine WL_nil ?_
 refine W_cond rfl (fun hc2 => ?_) (fun hc2 => ?_)
 ·replace hF := ite_t hF hc2
  refine W_seq ?_
  refine W_drawn 9 rfl hmix (fun w4 hB1 => ?_)
  have hC4 := hC3.grow hB1
  refine WA_tk 0 (by kernel_rfl) rfl rfl (fl_move rfl) ?_
  refine WL_move rfl rfl ?_
  refine WL_nil ?_
  refine WA_tk 1 (by kernel_rfl) rfl rfl (fl_move rfl) ?_
  refine WL_move rfl rfl ?_
  refine WL_nil ?_
  obtain ⟨x4, hx1, hF⟩ := bind_some hF
  refine WA_tk 2 (by kernel_rfl) rfl rfl (fl_slice_str_h Tryd.underlying9 hx1 rfl rfl) ?_
  refine WL_slice_str_h Tryd.underlying9 hx1 rfl rfl rfl ?_
  refine WL_nil ?_
  refine WA_tk 3 (by kernel_rfl) rfl rfl (fl_move rfl) ?_
  refine WL_move rfl rfl ?_
  refine WL_nil ?_
  refine WA_tk 4 (by kernel_rfl) rfl rfl (fl_move rfl) ?_
  refine WL_move rfl rfl ?_
  refine WL_nil ?_
  refine WA_tk 5 (by kernel_rfl) rfl rfl (fl_add rfl rfl) ?_
  refine WL_add rfl rfl rfl ?_
  refine WL_nil ?_
  obtain ⟨x5, hx2, hF⟩ := bind_some hF
  refine WA_tk 6 (by kernel_rfl) rfl rfl (fl_slice_str_l Tryd.underlying9 hx2 rfl rfl) ?_
  refine WL_slice_str_l Tryd.underlying9 hx2 rfl rfl rfl ?_
  refine WL_nil ?_
  obtain ⟨x6, hx3, hF⟩ := bind_some hF
  refine WA_tk 7 (by kernel_rfl) rfl rfl (fl_str_add hx3 rfl rfl) ?_
  refine WL_str_add hx3 rfl rfl rfl ?_
  refine WL_nil ?_
  refine WA_tk 8 (by kernel_rfl) rfl rfl (fl_assign rfl) ?_
  refine WL_assign rfl rfl ?_
  refine WL_nil ?_
  refine WA_done (by kernel_rfl) ?_
  refine nrm_normal (W_ret (blk_ret (nrm_ret ?_)))
  have hq5 := Option.some.inj hF
  subst hq5
  refine fn_ret1 rfl rfl ?_
  exact ⟨_, rfl, rfl, hC4⟩
 replace hF := ite_f hF hc2
 refine W_seq_reg ?_
 refine WL_eql rfl rfl rfl ?_
 refine WL_assign rfl rfl ?_
 refine WL_nil ?_
 refine W_cond rfl (fun hc3 => ?_) (fun hc3 => ?_)
 ·replace hF := ite_t hF hc3
  refine W_seq ?_
  refine W_drawn 14 rfl hmix (fun w5 hB2 => ?_)
  have hC5 := hC3.grow hB2
  refine WA_tk 0 (by kernel_rfl) rfl rfl (fl_move rfl) ?_
  refine WL_move rfl rfl ?_
  refine WL_nil ?_
  refine WA_tk 1 (by kernel_rfl) rfl rfl (fl_move rfl) ?_
  refine WL_move rfl rfl ?_
  refine WL_nil ?_
  obtain ⟨x7, hx4, hF⟩ := bind_some hF
  refine WA_tk 2 (by kernel_rfl) rfl rfl (fl_slice_str_h Tryd.underlying9 hx4 rfl rfl) ?_
  refine WL_slice_str_h Tryd.underlying9 hx4 rfl rfl rfl ?_
  refine WL_nil ?_
  refine WA_tk 3 (by kernel_rfl) rfl rfl (fl_move rfl) ?_
  refine WL_move rfl rfl ?_
  refine WL_nil ?_
  refine WA_tk 9 (by kernel_rfl) rfl rfl (fl_move rfl) ?_
  refine WL_move rfl rfl ?_
  refine WL_nil ?_
  refine WA_tk 10 (by kernel_rfl) rfl rfl (fl_move rfl) ?_
  refine WL_move rfl rfl ?_
  refine WL_nil ?_
  obtain ⟨x8, hx5, hF⟩ := bind_some hF
  refine WA_tk 11 (by kernel_rfl) rfl rfl (fl_slice_str_l Tryd.underlying9 hx5 rfl rfl) ?_
  refine WL_slice_str_l Tryd.underlying9 hx5 rfl rfl rfl ?_
  refine WL_nil ?_
  obtain ⟨x9, hr4, hF⟩ := bind_some hF
  refine WA_one 4 (by kernel_rfl) rfl ?_
  obtain ⟨Fs4, hH4, hn4, hF4, hO4, hb4⟩ := Ctx.lend2 (As := []) [Item.box pb1 [u1, (.int .i64 x3.2.2.1), (.int .i64 x3.2.2.2)]] hC5
  refine WL_call Tryd.call83 rfl rfl (c_S_l1Byte pb1 (a1.1, x3.2.2.1, x3.2.2.2) u1 (RO.lent g1 hC5.keep hF4) hH4 hn4 x9 hr4) ?_
  rintro _ w6 ⟨rfl, hq6⟩
  have hC6 : Ctx Fs.flatten w0 w6 [Item.box pb1 [u1, (.int .i64 x9.2.2.1), (.int .i64 x9.2.2.2)]] := hb4 _ _ hq6
  refine WL_nil ?_
  refine WA_tk 5 (by kernel_rfl) rfl rfl (fl_conv_int Tryd.underlying3 Tryd.underlying5 rfl) ?_
  refine WL_conv_u8 Tryd.underlying3 Tryd.underlying5 rfl rfl ?_
  refine WL_nil ?_
  refine WA_one 6 (by kernel_rfl) rfl ?_
  refine WL_buildSlice (vs := [(.int .u8 (w8 x9.1))]) hC6 Tryd.underlying54 ty5 rfl rfl rfl rfl (by intro v hv; simp only [List.mem_cons, List.not_mem_nil, or_false] at hv; rcases hv with rfl <;> rfl) rfl rfl (fun b1 w7 hC7 hB3 => ?_)
  have hC8 := hC7.row0 (α := UInt8)
  have hC9 := hC8.triv (u8_val x9.1)
  have hC10 := hC9.row1
  have hC11 := hC10.front 1 rfl
  dsimp only [List.eraseIdx, List.cons_append, List.nil_append, List.append_nil] at hC11
  have hC12 : Ctx Fs.flatten w0 w7 (Item.own (.slice (some ⟨b1, 0, none⟩) 1 1) ([(u8 x9.1)] : List UInt8) :: [Item.box pb1 [u1, (.int .i64 x9.2.2.1), (.int .i64 x9.2.2.2)]]) := hC11.rowOwn (by simp [maxLen])
  refine WL_nil ?_
  refine WA_one 7 (by kernel_rfl) rfl ?_
  refine WL_conv_bytes Tryd.underlying54 Tryd.underlying5 Tryd.underlying9 (hC12.ro 0 rfl) (Keep.refl _ _) rfl rfl ?_
  refine WL_nil ?_
  obtain ⟨x10, hx6, hF⟩ := bind_some hF
  refine WA_tk 8 (by kernel_rfl) rfl rfl (fl_str_add hx6 rfl rfl) ?_
  refine WL_str_add hx6 rfl rfl rfl ?_
  refine WL_nil ?_
  obtain ⟨x11, hx7, hF⟩ := bind_some hF
  refine WA_tk 12 (by kernel_rfl) rfl rfl (fl_str_add hx7 rfl rfl) ?_
  refine WL_str_add hx7 rfl rfl rfl ?_
  refine WL_nil ?_
  refine WA_tk 13 (by kernel_rfl) rfl rfl (fl_assign rfl) ?_
  refine WL_assign rfl rfl ?_
  refine WL_nil ?_
  refine WA_done (by kernel_rfl) ?_
  refine nrm_normal (W_ret (blk_ret (nrm_ret ?_)))
  have hq7 := Option.some.inj hF
  subst hq7
  refine fn_ret1 rfl rfl ?_
  have hC13 := hC12.f1
  have hC14 := hC13.h1
  exact ⟨_, rfl, rfl, hC14⟩
 replace hF := ite_f hF hc3
 refine W_seq_reg ?_
 refine WL_eql rfl rfl rfl ?_
 refine WL_assign rfl rfl ?_
 refine WL_nil ?_
 refine W_cond rfl (fun hc4 => ?_) (fun hc4 => ?_)
 ·replace hF := ite_t hF hc4
  refine W_seq_reg ?_
  refine WL_move rfl rfl ?_
  refine WL_move rfl rfl ?_
  obtain ⟨x12, hx8, hF⟩ := bind_some hF
  refine WL_slice_str_h Tryd.underlying9 hx8 rfl rfl rfl ?_
  refine WL_assign rfl rfl ?_
  refine WL_nil (W_ret (blk_ret (nrm_ret ?_)))
  have hq8 := Option.some.inj hF
  subst hq8
  refine fn_ret1 rfl rfl ?_
  exact ⟨_, rfl, rfl, hC3⟩
 replace hF := ite_f hF hc4
 refine W_skip (blk_normal (nrm_normal (W_seq ?_)))
 refine W_drawn 21 rfl hmix (fun w9 hB4 => ?_)
 have hC15 := hC3.grow hB4
 refine WA_tk 0 (by kernel_rfl) rfl rfl (fl_move rfl) ?_
 refine WL_move rfl rfl ?_
 refine WL_nil ?_
 refine WA_tk 1 (by kernel_rfl) rfl rfl (fl_move rfl) ?_
 refine WL_move rfl rfl ?_
 refine WL_nil ?_
 obtain ⟨x13, hx9, hF⟩ := bind_some hF
 refine WA_tk 2 (by kernel_rfl) rfl rfl (fl_slice_str_h Tryd.underlying9 hx9 rfl rfl) ?_
 refine WL_slice_str_h Tryd.underlying9 hx9 rfl rfl rfl ?_
 refine WL_nil ?_
 refine WA_tk 3 (by kernel_rfl) rfl rfl (fl_move rfl) ?_
 refine WL_move rfl rfl ?_
 refine WL_nil ?_
 refine WA_tk 4 (by kernel_rfl) rfl rfl (fl_move rfl) ?_
 refine WL_move rfl rfl ?_
 refine WL_nil ?_
 obtain ⟨x14, hx10, hF⟩ := bind_some hF
 refine WA_tk 5 (by kernel_rfl) rfl rfl (fl_index_str Tryd.underlying9 hx10 rfl rfl) ?_
 refine WL_index_str Tryd.underlying9 hx10 rfl rfl rfl ?_
 refine WL_nil ?_
 refine WA_tk 6 (by kernel_rfl) rfl rfl (fl_conv_int Tryd.underlying5 Tryd.underlying3 rfl) ?_
 refine WL_conv_i64 Tryd.underlying5 Tryd.underlying3 rfl rfl ?_
 refine WL_nil ?_
 refine WA_tk 7 (by kernel_rfl) rfl rfl (fl_move rfl) ?_
 refine WL_move rfl rfl ?_
 refine WL_nil ?_
 refine WA_tk 15 (by kernel_rfl) rfl rfl (fl_move rfl) ?_
 refine WL_move rfl rfl ?_
 refine WL_nil ?_
 refine WA_tk 16 (by kernel_rfl) rfl rfl (fl_move rfl) ?_
 refine WL_move rfl rfl ?_
 refine WL_nil ?_
 refine WA_tk 17 (by kernel_rfl) rfl rfl (fl_add rfl rfl) ?_
 refine WL_add rfl rfl rfl ?_
 refine WL_nil ?_
 obtain ⟨x15, hx11, hF⟩ := bind_some hF
 refine WA_tk 18 (by kernel_rfl) rfl rfl (fl_slice_str_l Tryd.underlying9 hx11 rfl rfl) ?_
 refine WL_slice_str_l Tryd.underlying9 hx11 rfl rfl rfl ?_
 refine WL_nil ?_
 obtain ⟨x16, hr5, hF⟩ := bind_some hF
 refine WA_one 8 (by kernel_rfl) rfl ?_
 obtain ⟨Fs5, hH5, hn5, hF5, hO5, hb5⟩ := Ctx.lend2 (As := []) [Item.box pb1 [u1, (.int .i64 x3.2.2.1), (.int .i64 x3.2.2.2)]] hC15
 refine WL_call Tryd.call64 rfl rfl (c_S_l1Below pb1 (a1.1, x3.2.2.1, x3.2.2.2) u1 (RO.lent g1 hC15.keep hF5) 255 hH5 hn5 x16 hr5) ?_
 rintro _ w10 ⟨rfl, hq9⟩
 have hC16 : Ctx Fs.flatten w0 w10 [Item.box pb1 [u1, (.int .i64 x16.2.2.1), (.int .i64 x16.2.2.2)]] := hb5 _ _ hq9
 refine WL_nil ?_
 refine WA_tk 9 (by kernel_rfl) rfl rfl (fl_add rfl rfl) ?_
 refine WL_add rfl rfl rfl ?_
 refine WL_nil ?_
 refine WA_tk 10 (by kernel_rfl) rfl rfl (fl_bxor rfl rfl) ?_
 refine WL_bxor rfl rfl rfl ?_
 refine WL_nil ?_
 refine WA_tk 11 (by kernel_rfl) rfl rfl (fl_conv_int Tryd.underlying3 Tryd.underlying5 rfl) ?_
 refine WL_conv_u8 Tryd.underlying3 Tryd.underlying5 rfl rfl ?_
 refine WL_nil ?_
 refine WA_one 12 (by kernel_rfl) rfl ?_
 refine WL_buildSlice (vs := [(.int .u8 (w8 (bxor (w64 (UInt8.toNat x14 : Int)) (w64 (1 + x16.1)))))]) hC16 Tryd.underlying54 ty5 rfl rfl rfl rfl (by intro v hv; simp only [List.mem_cons, List.not_mem_nil, or_false] at hv; rcases hv with rfl <;> rfl) rfl rfl (fun b2 w11 hC17 hB5 => ?_)
 have hC18 := hC17.row0 (α := UInt8)
 have hC19 := hC18.triv (u8_val (bxor (w64 (UInt8.toNat x14 : Int)) (w64 (1 + x16.1))))
 have hC20 := hC19.row1
 have hC21 := hC20.front 1 rfl
 dsimp only [List.eraseIdx, List.cons_append, List.nil_append, List.append_nil] at hC21
 have hC22 : Ctx Fs.flatten w0 w11 (Item.own (.slice (some ⟨b2, 0, none⟩) 1 1) ([(u8 (bxor (w64 (UInt8.toNat x14 : Int)) (w64 (1 + x16.1))))] : List UInt8) :: [Item.box pb1 [u1, (.int .i64 x16.2.2.1), (.int .i64 x16.2.2.2)]]) := hC21.rowOwn (by simp [maxLen])
 refine WL_nil ?_
 refine WA_one 13 (by kernel_rfl) rfl ?_
 refine WL_conv_bytes Tryd.underlying54 Tryd.underlying5 Tryd.underlying9 (hC22.ro 0 rfl) (Keep.refl _ _) rfl rfl ?_
 refine WL_nil ?_
 obtain ⟨x17, hx12, hF⟩ := bind_some hF
 refine WA_tk 14 (by kernel_rfl) rfl rfl (fl_str_add hx12 rfl rfl) ?_
 refine WL_str_add hx12 rfl rfl rfl ?_
 refine WL_nil ?_
 obtain ⟨x18, hx13, hF⟩ := bind_some hF
 refine WA_tk 19 (by kernel_rfl) rfl rfl (fl_str_add hx13 rfl rfl) ?_
 refine WL_str_add hx13 rfl rfl rfl ?_
 refine WL_nil ?_
 refine WA_tk 20 (by kernel_rfl) rfl rfl (fl_assign rfl) ?_
 refine WL_assign rfl rfl ?_
 refine WL_nil ?_
 refine WA_done (by kernel_rfl) ?_
 refine nrm_normal (W_ret ?_)
 have hq10 := Option.some.inj hF
 subst hq10
 refine fn_ret1 rfl rfl ?_
 have hC23 := hC22.f1
 have hC24 := hC23.h1
 exact ⟨_, rfl, rfl, hC24⟩

theorem c_S_l1Pick {w0 : World} {Fs : List (List Nat)} (pb1 : Nat) (a1 : ((List UInt8) × Int × Int)) (u1 : Value) (g1 : RO Fs.flatten w0 u1 a1.1) (a2 : (List Str)) (u2 : Value) (g2 : RO Fs.flatten w0 u2 a2) (hH : Hold [Item.box pb1 [u1, (.int .i64 a1.2.1), (.int .i64 a1.2.2)]] w0 Fs) (hn : Fs.flatten.Nodup) (rr : (Str × ((List UInt8) × Int × Int))) (hF : S.l1Pick a1 a2 = some rr) :
 Calls Tryd.prog 66 [(ptr pb1 0), u2].toArray w0 fun e w' => ∃ v, e = .returned v ∧ v = (sv rr.1) ∧ Ctx Fs.flatten w0 w' [Item.box pb1 [u1, (.int .i64 rr.2.2.1), (.int .i64 rr.2.2.2)]] := by
 refine calls_of_W Tryd.func66 rfl rfl ?_
 have hC0 := Ctx.startIn hH hn
 unfold S.l1Pick at hF
 refine W_seq_reg ?_
 refine WL_assign rfl rfl ?_
 refine WL_nil (W_seq_reg ?_)
 refine WL_move rfl rfl ?_
 refine WL_move rfl rfl ?_
 refine WL_move rfl rfl ?_
 refine WL_len Tryd.underlying89 g2 rfl rfl ?_
 obtain ⟨x1, hr1, hF⟩ := bind_some hF
 obtain ⟨Fs1, hH1, hn1, hF1, hO1, hb1⟩ := Ctx.lend2 (As := []) [Item.box pb1 [u1, (.int .i64 a1.2.1), (.int .i64 a1.2.2)]] hC0
 refine WL_call Tryd.call64 rfl rfl (c_S_l1Below pb1 (a1.1, a1.2.1, a1.2.2) u1 (RO.lent g1 hC0.keep hF1) (List.length a2 : Int) hH1 hn1 x1 hr1) ?_
 rintro _ w1 ⟨rfl, hq1⟩
 have hC1 : Ctx Fs.flatten w0 w1 [Item.box pb1 [u1, (.int .i64 x1.2.2.1), (.int .i64 x1.2.2.2)]] := hb1 _ _ hq1
 obtain ⟨x2, hx1, hF⟩ := bind_some hF
 refine WL_index Tryd.underlying89 ty9 g2 hx1 rfl rfl rfl (fun b1 o1 h1 => ?_)
 refine WL_load ty9 h1 hC1.keep rfl rfl (fun v1 h2 => ?_)
 obtain rfl := ro_str h2
 refine WL_assign rfl rfl ?_
 refine WL_nil (W_ret ?_)
 have hq2 := Option.some.inj hF
 subst hq2
 refine fn_ret1 rfl rfl ?_
 exact ⟨_, rfl, rfl, hC1⟩

theorem c_S_DrawDecodeRequest {w0 : World} (a1 : (List UInt8)) (u1 : Value) (g1 : RO [] w0 u1 a1) (rr : Str) (hF : S.DrawDecodeRequest a1 = some rr) :
 Calls Tryd.prog 35 [u1].toArray w0 fun e w' => ∃ v, e = .returned v ∧ Res w0 rr v w' := by
 refine calls_of_W Tryd.func35 rfl rfl ?_
 have hC0 := Ctx.start w0
 unfold S.DrawDecodeRequest at hF
 refine W_seq_reg ?_
 refine WL_assign rfl rfl ?_
 refine WL_nil (W_seq_reg ?_)
 refine WL_move rfl rfl ?_
 obtain ⟨x1, hr1, hF⟩ := bind_some hF
 refine WL_call Tryd.call62 rfl rfl (c_S_l1New a1 u1 (g1.now hC0.keep) x1 hr1) ?_
 rintro _ w1 ⟨b1, rfl, hq1⟩
 have hC1 : Ctx [] w0 w1 [Item.box b1 [u1, (.int .i64 x1.2.1), (.int .i64 x1.2.2)]] := hC0.push2 hq1
 refine WL_assign rfl rfl ?_
 refine WL_nil (W_seq_reg ?_)
 refine WL_move rfl rfl ?_
 obtain ⟨x2, hr2, hF⟩ := bind_some hF
 obtain ⟨Fs2, hH2, hn2, hF2, hO2, hb2⟩ := Ctx.lend2 (As := []) [Item.box b1 [u1, (.int .i64 x1.2.1), (.int .i64 x1.2.2)]] hC1
 refine WL_call Tryd.call63 rfl rfl (c_S_l26Access b1 (a1, x1.2.1, x1.2.2) u1 (RO.lent g1 hC1.keep hF2) hH2 hn2 x2 hr2) ?_
 rintro v1 w2 ⟨_, rfl, hq2⟩
 have hC2 : Ctx [] w0 w2 [Item.own v1 (x2.1 : (Int × (List Int))), Item.box b1 [u1, (.int .i64 x2.2.2.1), (.int .i64 x2.2.2.2)]] := hb2 _ _ hq2
 obtain ⟨v2, rfl, hC3⟩ := st29_own hC2
 refine WL_move rfl rfl ?_
 obtain ⟨x3, hr3, hF⟩ := bind_some hF
 have hC4 := hC3.f1
 obtain ⟨Fs3, hH3, hn3, hF3, hO3, hb3⟩ := Ctx.lend2 (As := [Item.own v2 (x2.1.2 : (List Int))]) [Item.box b1 [u1, (.int .i64 x2.2.2.1), (.int .i64 x2.2.2.2)]] hC4
 refine WL_call Tryd.call64 rfl rfl (c_S_l1Below b1 (a1, x2.2.2.1, x2.2.2.2) u1 (RO.lent g1 hC4.keep hF3) 9 hH3 hn3 x3 hr3) ?_
 rintro _ w3 ⟨rfl, hq3⟩
 have hC5 : Ctx [] w0 w3 [Item.box b1 [u1, (.int .i64 x3.2.2.1), (.int .i64 x3.2.2.2)], Item.own v2 (x2.1.2 : (List Int))] := hb3 _ _ hq3
 refine WL_add rfl rfl rfl ?_
 obtain ⟨x4, hr4, hF⟩ := bind_some hF
 refine WL_call Tryd.call15 rfl rfl (c_S_EncodeRequest x2.1 v2 ((hC5.ro 1 rfl).now (Keep.refl _ _)) (w64 (1 + x3.1)) x4 hr4) ?_
 intro _ w4 hv1
 obtain ⟨rfl, hB1⟩ := res_str hv1
 have hC6 := hC5.grow hB1
 refine WL_assign rfl rfl ?_
 refine WL_nil (W_seq (W_seq_reg ?_))
 refine WL_move rfl rfl ?_
 obtain ⟨x5, hr5, hF⟩ := bind_some hF
 obtain ⟨Fs4, hH4, hn4, hF4, hO4, hb4⟩ := Ctx.lend2 (As := [Item.own v2 (x2.1.2 : (List Int))]) [Item.box b1 [u1, (.int .i64 x3.2.2.1), (.int .i64 x3.2.2.2)]] hC6
 refine WL_call Tryd.call64 rfl rfl (c_S_l1Below b1 (a1, x3.2.2.1, x3.2.2.2) u1 (RO.lent g1 hC6.keep hF4) 4 hH4 hn4 x5 hr5) ?_
 rintro _ w5 ⟨rfl, hq4⟩
 have hC7 : Ctx [] w0 w5 [Item.box b1 [u1, (.int .i64 x5.2.2.1), (.int .i64 x5.2.2.2)], Item.own v2 (x2.1.2 : (List Int))] := hb4 _ _ hq4
 refine WL_nil (W_block (W_seq_reg ?_))
 refine WL_eql rfl rfl rfl ?_
 refine WL_assign rfl rfl ?_
 refine WL_nil ?_
 refine W_cond rfl (fun hc1 => ?_) (fun hc1 => ?_)
 ·replace hF := ite_t hF hc1
  refine W_seq_reg ?_
  refine WL_move rfl rfl ?_
  refine WL_move rfl rfl ?_
  obtain ⟨x6, hr6, hF⟩ := bind_some hF
  obtain ⟨Fs5, hH5, hn5, hF5, hO5, hb5⟩ := Ctx.lend2 (As := [Item.own v2 (x2.1.2 : (List Int))]) [Item.box b1 [u1, (.int .i64 x5.2.2.1), (.int .i64 x5.2.2.2)]] hC7
  refine WL_call Tryd.call65 rfl rfl (c_S_l1Spoil b1 (a1, x5.2.2.1, x5.2.2.2) u1 (RO.lent g1 hC7.keep hF5) x4 hH5 hn5 x6 hr6) ?_
  rintro _ w6 ⟨rfl, hq5⟩
  have hC8 : Ctx [] w0 w6 [Item.box b1 [u1, (.int .i64 x6.2.2.1), (.int .i64 x6.2.2.2)], Item.own v2 (x2.1.2 : (List Int))] := hb5 _ _ hq5
  refine WL_assign rfl rfl ?_
  refine WL_nil (W_ret (blk_ret (nrm_ret ?_)))
  have hq6 := Option.some.inj hF
  subst hq6
  refine fn_ret1 rfl rfl ?_
  exact ⟨_, rfl, str_res hC8 _⟩
 replace hF := ite_f hF hc1
 refine W_seq_reg ?_
 refine WL_eql rfl rfl rfl ?_
 refine WL_assign rfl rfl ?_
 refine WL_nil ?_
 refine W_cond rfl (fun hc2 => ?_) (fun hc2 => ?_)
 ·replace hF := ite_t hF hc2
  refine W_seq_reg ?_
  refine WL_move rfl rfl ?_
  refine WL_move rfl rfl ?_
  refine WL_buildSlice (vs := [(sv (str [])), (sv (str [0])), (sv (str [128]))]) hC7 Tryd.underlying89 ty9 rfl rfl rfl rfl (by intro v hv; simp only [List.mem_cons, List.not_mem_nil, or_false] at hv; rcases hv with rfl | rfl | rfl <;> rfl) rfl rfl (fun b2 w7 hC9 hB2 => ?_)
  have hC10 := hC9.row0 (α := Str)
  have hC11 := hC10.triv (str_val ((str [128])))
  have hC12 := hC11.row1
  have hC13 := hC12.triv (str_val ((str [0])))
  have hC14 := hC13.row1
  have hC15 := hC14.triv (str_val ((str [])))
  have hC16 := hC15.row1
  have hC17 := hC16.front 1 rfl
  dsimp only [List.eraseIdx, List.cons_append, List.nil_append, List.append_nil] at hC17
  have hC18 : Ctx [] w0 w7 (Item.own (.slice (some ⟨b2, 0, none⟩) 3 3) ([(str []), (str [0]), (str [128])] : List Str) :: [Item.box b1 [u1, (.int .i64 x5.2.2.1), (.int .i64 x5.2.2.2)], Item.own v2 (x2.1.2 : (List Int))]) := hC17.rowOwn (by simp [maxLen])
  obtain ⟨x7, hr7, hF⟩ := bind_some hF
  have hC19 := hC18.f1
  obtain ⟨Fs6, hH6, hn6, hF6, hO6, hb6⟩ := Ctx.lend2 (As := [Item.own (.slice (some ⟨b2, 0, none⟩) 3 3) ([(str []), (str [0]), (str [128])] : (List Str)), Item.own v2 (x2.1.2 : (List Int))]) [Item.box b1 [u1, (.int .i64 x5.2.2.1), (.int .i64 x5.2.2.2)]] hC19
  refine WL_call Tryd.call66 rfl rfl (c_S_l1Pick b1 (a1, x5.2.2.1, x5.2.2.2) u1 (RO.lent g1 hC19.keep hF6) ([(str []), (str [0]), (str [128])]) (.slice (some ⟨b2, 0, none⟩) 3 3) (hO6 0 _ _ _ rfl) hH6 hn6 x7 hr7) ?_
  rintro _ w9 ⟨rfl, hq7⟩
  have hC20 : Ctx [] w0 w9 [Item.box b1 [u1, (.int .i64 x7.2.2.1), (.int .i64 x7.2.2.2)], Item.own (.slice (some ⟨b2, 0, none⟩) 3 3) ([(str []), (str [0]), (str [128])] : (List Str)), Item.own v2 (x2.1.2 : (List Int))] := hb6 _ _ hq7
  obtain ⟨x8, hx1, hF⟩ := bind_some hF
  refine WL_str_add hx1 rfl rfl rfl ?_
  refine WL_assign rfl rfl ?_
  refine WL_nil (W_ret (blk_ret (nrm_ret ?_)))
  have hq8 := Option.some.inj hF
  subst hq8
  refine fn_ret1 rfl rfl ?_
  exact ⟨_, rfl, str_res hC20 _⟩
 replace hF := ite_f hF hc2
 refine W_skip (blk_normal (nrm_normal (W_seq_reg ?_)))
 refine WL_move rfl rfl ?_
 refine WL_assign rfl rfl ?_
 refine WL_nil (W_ret ?_)
 have hq9 := Option.some.inj hF
 subst hq9
 refine fn_ret1 rfl rfl ?_
 exact ⟨_, rfl, str_res hC7 _⟩

theorem c_S_DrawEncodeReply {w0 : World} (a1 : (List UInt8)) (u1 : Value) (g1 : RO [] w0 u1 a1) (rr : (List (Int × (List Int)))) (hF : S.DrawEncodeReply a1 = some rr) :
 Calls Tryd.prog 36 [u1].toArray w0 fun e w' => ∃ v, e = .returned v ∧ Res w0 rr v w' := by
 refine calls_of_W Tryd.func36 rfl rfl ?_
 have hC0 := Ctx.start w0
 unfold S.DrawEncodeReply at hF
 refine W_seq_reg ?_
 refine WL_assign rfl rfl ?_
 refine WL_nil (W_seq_reg ?_)
 refine WL_move rfl rfl ?_
 obtain ⟨x1, hr1, hF⟩ := bind_some hF
 refine WL_call Tryd.call62 rfl rfl (c_S_l1New a1 u1 (g1.now hC0.keep) x1 hr1) ?_
 rintro _ w1 ⟨b1, rfl, hq1⟩
 have hC1 : Ctx [] w0 w1 [Item.box b1 [u1, (.int .i64 x1.2.1), (.int .i64 x1.2.2)]] := hC0.push2 hq1
 refine WL_assign rfl rfl ?_
 refine WL_nil (W_seq_reg ?_)
 refine WL_move rfl rfl ?_
 obtain ⟨x2, hr2, hF⟩ := bind_some hF
 obtain ⟨Fs2, hH2, hn2, hF2, hO2, hb2⟩ := Ctx.lend2 (As := []) [Item.box b1 [u1, (.int .i64 x1.2.1), (.int .i64 x1.2.2)]] hC1
 refine WL_call Tryd.call67 rfl rfl (c_S_l2Schema b1 (a1, x1.2.1, x1.2.2) u1 (RO.lent g1 hC1.keep hF2) hH2 hn2 x2 hr2) ?_
 rintro v1 w2 ⟨_, rfl, hq2⟩
 have hC2 : Ctx [] w0 w2 [Item.own v1 (x2.1 : (List Int)), Item.box b1 [u1, (.int .i64 x2.2.2.1), (.int .i64 x2.2.2.2)]] := hb2 _ _ hq2
 refine WL_assign rfl rfl ?_
 refine WL_nil (W_seq_reg ?_)
 refine WL_move rfl rfl ?_
 refine WL_move rfl rfl ?_
 obtain ⟨x3, hr3, hF⟩ := bind_some hF
 have hC3 := hC2.f1
 obtain ⟨Fs3, hH3, hn3, hF3, hO3, hb3⟩ := Ctx.lend2 (As := [Item.own v1 (x2.1 : (List Int))]) [Item.box b1 [u1, (.int .i64 x2.2.2.1), (.int .i64 x2.2.2.2)]] hC3
 refine WL_call Tryd.call68 rfl rfl (c_S_l2AnyFacts b1 (a1, x2.2.2.1, x2.2.2.2) u1 (RO.lent g1 hC3.keep hF3) x2.1 v1 (hO3 0 _ _ _ rfl) hH3 hn3 x3 hr3) ?_
 rintro v2 w3 ⟨_, rfl, hq3⟩
 have hC4 : Ctx [] w0 w3 [Item.own v2 (x3.1 : (List (Int × (List Int)))), Item.box b1 [u1, (.int .i64 x3.2.2.1), (.int .i64 x3.2.2.2)], Item.own v1 (x2.1 : (List Int))] := hb3 _ _ hq3
 refine WL_assign rfl rfl ?_
 refine WL_nil (W_ret ?_)
 have hq4 := Option.some.inj hF
 subst hq4
 refine fn_ret1 rfl rfl ?_
 exact ⟨_, rfl, own_res hC4 0 rfl⟩

theorem c_S_SameFacts {w0 : World} (a1 : (List (Int × (List Int)))) (u1 : Value) (g1 : RO [] w0 u1 a1) (a2 : (List (Int × (List Int)))) (u2 : Value) (g2 : RO [] w0 u2 a2) (rr : Bool) (hF : S.SameFacts a1 a2 = some rr) :
 Calls Tryd.prog 37 [u1, u2].toArray w0 fun e w' => ∃ v, e = .returned v ∧ Res w0 rr v w' := by
 refine calls_of_W Tryd.func37 rfl rfl ?_
 have hC0 := Ctx.start w0
 unfold S.SameFacts at hF
 refine W_seq_reg ?_
 refine WL_assign rfl rfl ?_
 refine WL_nil (W_seq (W_seq_reg ?_))
 refine WL_move rfl rfl ?_
 refine WL_len Tryd.underlying43 g1 rfl rfl ?_
 refine WL_move rfl rfl ?_
 refine WL_len Tryd.underlying43 g2 rfl rfl ?_
 refine WL_neq rfl rfl rfl ?_
 refine WL_nil ?_
 refine W_cond rfl (fun hc1 => ?_) (fun hc1 => ?_)
 ·replace hF := ite_t hF hc1
  refine W_seq_reg ?_
  refine WL_assign rfl rfl ?_
  refine WL_nil (W_ret (nrm_ret ?_))
  have hq1 := Option.some.inj hF
  subst hq1
  refine fn_ret1 rfl rfl ?_
  exact ⟨_, rfl, bool_res hC0 _⟩
 replace hF := ite_f hF hc1
 refine W_skip (nrm_normal (W_seq (W_seq_reg ?_)))
 refine WL_assign rfl rfl ?_
 refine WL_nil ?_
 obtain ⟨r1, hr1, hF⟩ := bind_some hF
 refine W_norm (fun l w => .inl () = r1 ∧ l = [] ∧ Below w0.heap.size w0 w ∧ Ctx [] w0 w []) ?_ ?_
 ·refine W_block ?_
  refine W.sub (l' := [(0, u1), (1, u2), (5, (.int .i64 0))]) ?_ ⟨rfl, rfl, rfl, trivial⟩
  refine W_loop (fun k l w => ∃ x1 : Int, l = [(0, u1), (1, u2), (5, (.int .i64 x1))] ∧ Below w0.heap.size w0 w ∧ Ctx [] w0 w [] ∧ S.SameFacts_l1 a1 a2 k x1 = some r1) FUEL ⟨0, rfl, (Below.refl _ _), hC0, hr1⟩ ?_
  clear hr1
  rintro k1 _ w1 ⟨x1, rfl, hB1, hC1, hL1⟩
  cases k1 with
  | zero => rw [S.SameFacts_l1] at hL1; cases hL1
  | succ k1 =>
   rw [S.SameFacts_l1] at hL1
   refine W_seq (W_seq_reg ?_)
   refine WL_move rfl rfl ?_
   refine WL_move rfl rfl ?_
   refine WL_len Tryd.underlying43 g1 rfl rfl ?_
   refine WL_lss rfl rfl rfl ?_
   refine WL_nil ?_
   refine W_cond rfl (fun hc2 => ?_) (fun hc2 => ?_)
   ·replace hL1 := ite_t hL1 hc2
    refine W_skip (nrm_normal (W_seq (W_block (W_seq ?_))))
    refine W_drawn 10 rfl hmix (fun w2 hB2 => ?_)
    have hC2 := hC1.grow hB2
    refine WA_tk 0 (by kernel_rfl) rfl rfl (fl_move rfl) ?_
    refine WL_move rfl rfl ?_
    refine WL_nil ?_
    refine WA_tk 1 (by kernel_rfl) rfl rfl (fl_move rfl) ?_
    refine WL_move rfl rfl ?_
    refine WL_nil ?_
    obtain ⟨x2, hx1, hL1⟩ := bind_some hL1
    refine WA_tk 2 (by kernel_rfl) rfl rfl (fl_index Tryd.underlying43 ty72 g1 hx1 rfl rfl) ?_
    refine WL_index Tryd.underlying43 ty72 g1 hx1 rfl rfl rfl (fun b1 o1 h1 => ?_)
    refine WL_nil ?_
    refine WA_tk 4 (by kernel_rfl) rfl rfl (fl_move rfl) ?_
    refine WL_move rfl rfl ?_
    refine WL_nil ?_
    refine WA_tk 5 (by kernel_rfl) rfl rfl (fl_move rfl) ?_
    refine WL_move rfl rfl ?_
    refine WL_nil ?_
    obtain ⟨x3, hx2, hL1⟩ := bind_some hL1
    refine WA_tk 6 (by kernel_rfl) rfl rfl (fl_index Tryd.underlying43 ty72 g2 hx2 rfl rfl) ?_
    refine WL_index Tryd.underlying43 ty72 g2 hx2 rfl rfl rfl (fun b2 o2 h2 => ?_)
    refine WL_nil ?_
    refine WA.sub (l' := [(0, u1), (1, u2), (5, (.int .i64 x1)), (11, (.int .i64 x1)), (12, u1), (13, (.int .i64 (List.length a1 : Int))), (14, (.bool (decide (x1 < (List.length a1 : Int))))), (17, u1), (18, (.int .i64 x1)), (19, (ptr b1 o1)), (21, u2), (22, (.int .i64 x1)), (23, (ptr b2 o2))]) ?_ ⟨rfl, rfl, rfl, rfl, rfl, rfl, rfl, rfl, rfl, rfl, rfl, rfl, rfl, trivial⟩
    refine WA_postsE [⟨3, [], fun vs => PW.ro [] w0 x2, []⟩, ⟨7, [], fun vs => PW.ro [] w0 x3, []⟩] [[], []] 2 rfl (by kernel_rfl) (by kernel_rfl) rfl ?_ ?_
    ·refine StepsE_cons rfl ?_ ?_
     ·intro w3 hB3
      refine DepsE_nil ?_
      refine ⟨_, rfl, ?_⟩
      refine WL_load ty72 h1 (hC2.keep.then hB3) rfl rfl (fun v3 h5 => ?_)
      refine WL_nil ?_
      exact FinE_val (Below.refl _ _) rfl rfl ⟨rfl, h5⟩
     refine StepsE_cons rfl ?_ ?_
     ·intro w3 hB3
      refine DepsE_nil ?_
      refine ⟨_, rfl, ?_⟩
      refine WL_load ty72 h2 (hC2.keep.then hB3) rfl rfl (fun v6 h8 => ?_)
      refine WL_nil ?_
      exact FinE_val (Below.refl _ _) rfl rfl ⟨rfl, h8⟩
     exact StepsE_nil
    intro w4 hB4
    refine AllE_cons rfl rfl rfl ?_
    rintro v3 _ ⟨rfl, h5⟩
    obtain ⟨v2, rfl, h4⟩ := ro_st72 h5
    refine AllE_cons rfl rfl rfl ?_
    rintro v6 _ ⟨rfl, h8⟩
    obtain ⟨v5, rfl, h7⟩ := ro_st72 h8
    refine AllE_nil ?_
    intro hn1 hb1
    have hC3 := hC2.grow hB4
    obtain ⟨x4, hr2, hL1⟩ := bind_some hL1
    refine WA_one 8 (by kernel_rfl) rfl ?_
    refine WL_call Tryd.call69 rfl rfl (c_S_CompareFacts x2 v2 (h4.now hC3.keep) x3 v5 (h7.now hC3.keep) x4 hr2) ?_
    intro _ w5 hv1
    obtain ⟨rfl, hB5⟩ := res_int hv1
    have hC4 := hC3.grow hB5
    refine WL_nil ?_
    refine WA_tk 9 (by kernel_rfl) rfl rfl (fl_neq rfl rfl) ?_
    refine WL_neq rfl rfl rfl ?_
    refine WL_nil ?_
    refine WA_done (by kernel_rfl) ?_
    refine nrm_normal ?_
    refine W_cond rfl (fun hc3 => ?_) (fun hc3 => ?_)
    ·replace hL1 := ite_t hL1 hc3
     refine W_seq_reg ?_
     refine WL_assign rfl rfl ?_
     refine WL_nil (W_ret (blk_ret (nrm_ret (nrm_ret (blk_ret (nrm_ret (nrm_ret ?_)))))))
     have hq2 := Option.some.inj hL1
     subst hq2
     dsimp only at hF
     have hq3 := Option.some.inj hF
     subst hq3
     refine fn_ret1 rfl rfl ?_
     exact ⟨_, rfl, bool_res hC4 _⟩
    replace hL1 := ite_f hL1 hc3
    refine W_skip (blk_normal (nrm_normal (W_reg ?_)))
    refine WL_move rfl rfl ?_
    refine WL_add rfl rfl rfl ?_
    refine WL_assign rfl rfl ?_
    refine WL_nil ?_
    refine nrm_sub (l' := [(0, u1), (1, u2), (5, (.int .i64 (w64 (x1 + 1))))]) ⟨rfl, rfl, rfl, trivial⟩ ?_
    exact ⟨k1, Nat.lt_succ_self _, w64 (x1 + 1), rfl, ((((Keep.of hB1).then hB2).then hB4).then hB5).below, hC4, hL1⟩
   replace hL1 := ite_f hL1 hc2
   refine W_exit (nrm_exit (nrm_exit (blk_exit ?_)))
   have hq4 := Option.some.inj hL1
   subst hq4
   refine nrm_sub (l' := []) trivial ?_
   exact ⟨rfl, rfl, (Keep.of hB1).below, hC1⟩
 rintro l2 _ w6 hs2 ⟨rfl, rfl, hB6, hC5⟩
 try dsimp only at hF
 refine nrm_sub' hs2 ?_
 clear hs2
 refine W_seq_reg ?_
 refine WL_assign rfl rfl ?_
 refine WL_nil (W_ret ?_)
 have hq5 := Option.some.inj hF
 subst hq5
 refine fn_ret1 rfl rfl ?_
 exact ⟨_, rfl, bool_res hC5 _⟩

theorem c_S_DrawDecodeReply {w0 : World} (a1 : (List UInt8)) (u1 : Value) (g1 : RO [] w0 u1 a1) (rr : Str) (hF : S.DrawDecodeReply a1 = some rr) :
 Calls Tryd.prog 38 [u1].toArray w0 fun e w' => ∃ v, e = .returned v ∧ Res w0 rr v w' := by
 refine calls_of_W Tryd.func38 rfl rfl ?_
 have hC0 := Ctx.start w0
 unfold S.DrawDecodeReply at hF
 refine W_seq_reg ?_
 refine WL_assign rfl rfl ?_
 refine WL_nil (W_seq_reg ?_)
 refine WL_move rfl rfl ?_
 obtain ⟨x1, hr1, hF⟩ := bind_some hF
 refine WL_call Tryd.call62 rfl rfl (c_S_l1New a1 u1 (g1.now hC0.keep) x1 hr1) ?_
 rintro _ w1 ⟨b1, rfl, hq1⟩
 have hC1 : Ctx [] w0 w1 [Item.box b1 [u1, (.int .i64 x1.2.1), (.int .i64 x1.2.2)]] := hC0.push2 hq1
 refine WL_assign rfl rfl ?_
 refine WL_nil (W_seq_reg ?_)
 refine WL_move rfl rfl ?_
 obtain ⟨x2, hr2, hF⟩ := bind_some hF
 obtain ⟨Fs2, hH2, hn2, hF2, hO2, hb2⟩ := Ctx.lend2 (As := []) [Item.box b1 [u1, (.int .i64 x1.2.1), (.int .i64 x1.2.2)]] hC1
 refine WL_call Tryd.call67 rfl rfl (c_S_l2Schema b1 (a1, x1.2.1, x1.2.2) u1 (RO.lent g1 hC1.keep hF2) hH2 hn2 x2 hr2) ?_
 rintro v1 w2 ⟨_, rfl, hq2⟩
 have hC2 : Ctx [] w0 w2 [Item.own v1 (x2.1 : (List Int)), Item.box b1 [u1, (.int .i64 x2.2.2.1), (.int .i64 x2.2.2.2)]] := hb2 _ _ hq2
 refine WL_assign rfl rfl ?_
 refine WL_nil (W_seq_reg ?_)
 refine WL_move rfl rfl ?_
 refine WL_move rfl rfl ?_
 obtain ⟨x3, hr3, hF⟩ := bind_some hF
 have hC3 := hC2.f1
 obtain ⟨Fs3, hH3, hn3, hF3, hO3, hb3⟩ := Ctx.lend2 (As := [Item.own v1 (x2.1 : (List Int))]) [Item.box b1 [u1, (.int .i64 x2.2.2.1), (.int .i64 x2.2.2.2)]] hC3
 refine WL_call Tryd.call68 rfl rfl (c_S_l2AnyFacts b1 (a1, x2.2.2.1, x2.2.2.2) u1 (RO.lent g1 hC3.keep hF3) x2.1 v1 (hO3 0 _ _ _ rfl) hH3 hn3 x3 hr3) ?_
 rintro v2 w3 ⟨_, rfl, hq3⟩
 have hC4 : Ctx [] w0 w3 [Item.own v2 (x3.1 : (List (Int × (List Int)))), Item.box b1 [u1, (.int .i64 x3.2.2.1), (.int .i64 x3.2.2.2)], Item.own v1 (x2.1 : (List Int))] := hb3 _ _ hq3
 obtain ⟨x4, hr4, hF⟩ := bind_some hF
 refine WL_call Tryd.call20 rfl rfl (c_S_EncodeReply x3.1 v2 ((hC4.ro 0 rfl).now (Keep.refl _ _)) x4 hr4) ?_
 intro _ w4 hv1
 obtain ⟨rfl, hB1⟩ := res_str hv1
 have hC5 := hC4.grow hB1
 refine WL_assign rfl rfl ?_
 refine WL_nil (W_seq (W_seq_reg ?_))
 refine WL_move rfl rfl ?_
 obtain ⟨x5, hr5, hF⟩ := bind_some hF
 have hC6 := hC5.f1
 obtain ⟨Fs4, hH4, hn4, hF4, hO4, hb4⟩ := Ctx.lend2 (As := [Item.own v2 (x3.1 : (List (Int × (List Int)))), Item.own v1 (x2.1 : (List Int))]) [Item.box b1 [u1, (.int .i64 x3.2.2.1), (.int .i64 x3.2.2.2)]] hC6
 refine WL_call Tryd.call70 rfl rfl (c_S_l1Once b1 (a1, x3.2.2.1, x3.2.2.2) u1 (RO.lent g1 hC6.keep hF4) 3 hH4 hn4 x5 hr5) ?_
 rintro _ w5 ⟨rfl, hq4⟩
 have hC7 : Ctx [] w0 w5 [Item.box b1 [u1, (.int .i64 x5.2.2.1), (.int .i64 x5.2.2.2)], Item.own v2 (x3.1 : (List (Int × (List Int)))), Item.own v1 (x2.1 : (List Int))] := hb4 _ _ hq4
 refine WL_nil ?_
 refine W_cond rfl (fun hc1 => ?_) (fun hc1 => ?_)
 ·replace hF := ite_t hF hc1
  refine W_seq_reg ?_
  refine WL_move rfl rfl ?_
  refine WL_move rfl rfl ?_
  obtain ⟨x6, hr6, hF⟩ := bind_some hF
  obtain ⟨Fs5, hH5, hn5, hF5, hO5, hb5⟩ := Ctx.lend2 (As := [Item.own v2 (x3.1 : (List (Int × (List Int)))), Item.own v1 (x2.1 : (List Int))]) [Item.box b1 [u1, (.int .i64 x5.2.2.1), (.int .i64 x5.2.2.2)]] hC7
  refine WL_call Tryd.call65 rfl rfl (c_S_l1Spoil b1 (a1, x5.2.2.1, x5.2.2.2) u1 (RO.lent g1 hC7.keep hF5) x4 hH5 hn5 x6 hr6) ?_
  rintro _ w6 ⟨rfl, hq5⟩
  have hC8 : Ctx [] w0 w6 [Item.box b1 [u1, (.int .i64 x6.2.2.1), (.int .i64 x6.2.2.2)], Item.own v2 (x3.1 : (List (Int × (List Int)))), Item.own v1 (x2.1 : (List Int))] := hb5 _ _ hq5
  refine WL_assign rfl rfl ?_
  refine WL_nil (W_ret (nrm_ret ?_))
  have hq6 := Option.some.inj hF
  subst hq6
  refine fn_ret1 rfl rfl ?_
  exact ⟨_, rfl, str_res hC8 _⟩
 replace hF := ite_f hF hc1
 refine W_skip (nrm_normal (W_seq_reg ?_))
 refine WL_move rfl rfl ?_
 refine WL_assign rfl rfl ?_
 refine WL_nil (W_ret ?_)
 have hq7 := Option.some.inj hF
 subst hq7
 refine fn_ret1 rfl rfl ?_
 exact ⟨_, rfl, str_res hC7 _⟩

end Go.Gx.Px
