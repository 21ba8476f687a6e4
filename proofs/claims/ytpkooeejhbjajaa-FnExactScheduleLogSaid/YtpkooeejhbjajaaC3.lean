/- The contracts of the Go functions against the pure functions, printed by program. Conditions: each says them. -/
import Derived.Test.YtpkooeejhbjajaaC2
set_option linter.unusedVariables false
set_option linter.unusedSimpArgs false
set_option maxRecDepth 100000
set_option maxHeartbeats 4000000
namespace Go.Gx.Px
open Go.Proofs Go.RowKit

theorem c_S_l2AnyFact {w0 : World} {Fs : List (List Nat)} (pb1 : Nat) (a1 : ((List UInt8) × Int × Int)) (u1 : Value) (g1 : RO Fs.flatten w0 u1 a1.1) (a2 : (List Int)) (u2 : Value) (g2 : RO Fs.flatten w0 u2 a2) (hH : Hold [Item.box pb1 [u1, (.int .i64 a1.2.1), (.int .i64 a1.2.2)]] w0 Fs) (hn : Fs.flatten.Nodup) (rr : ((Int × (List Int)) × ((List UInt8) × Int × Int))) (hF : S.l2AnyFact a1 a2 = some rr) :
 Calls Try.prog 61 [(ptr pb1 0), u2].toArray w0 fun e w' => ∃ v, e = .returned v ∧ ∃ q0 : Value, v = q0 ∧ Ctx Fs.flatten w0 w' [Item.own q0 (rr.1 : (Int × (List Int))), Item.box pb1 [u1, (.int .i64 rr.2.2.1), (.int .i64 rr.2.2.2)]] := by
 refine calls_of_W Try.func61 rfl rfl ?_
 have hC0 := Ctx.startIn hH hn
 unfold S.l2AnyFact at hF
 refine W_seq_reg ?_
 refine WL_allocK hC0 zero91 rfl rfl (fun b1 w1 hC1 hB1 hN1 => ?_)
 refine WL_nil ?_
 refine W_seq_reg ?_
 refine WL_buildSlice (vs := [(.int .i64 1)]) hC1 Try.underlying26 ty3 rfl rfl rfl rfl (by intro v hv; simp only [List.mem_cons, List.not_mem_nil, or_false] at hv; rcases hv with rfl <;> rfl) rfl rfl (fun b2 w2 hC2 hB2 => ?_)
 have hC3 := hC2.row0 (α := Int)
 have hC4 := hC3.triv (int_val (1))
 have hC5 := hC4.row1
 have hC6 := hC5.front 1 rfl
 dsimp only [List.eraseIdx, List.cons_append, List.nil_append, List.append_nil] at hC6
 have hC7 : Ctx Fs.flatten w0 w2 (Item.own (.slice (some ⟨b2, 0, none⟩) 1 1) ([1] : List Int) :: [Item.box b1 [(.int .i64 0), (.slice none 0 0)], Item.box pb1 [u1, (.int .i64 a1.2.1), (.int .i64 a1.2.2)]]) := hC6.rowOwn (by simp [maxLen])
 refine WL_build (vs := [(1, (.slice (some ⟨b2, 0, none⟩) 1 1))]) rfl rfl rfl (built91_1 (ro_cells (hC7.ro 0 rfl))) ?_
 refine WL_allocK hC7 zero91 rfl rfl (fun b3 w3 hC8 hB3 hN2 => ?_)
 refine WL_store_box_aggK (cs' := [(.int .i64 0), (.slice (some ⟨b2, 0, none⟩) 1 1)]) (new := [(.int .i64 0), (.slice (some ⟨b2, 0, none⟩) 1 1)]) hC8 0 rfl rfl (by intro v hv; simp only [List.mem_cons, List.not_mem_nil, or_false] at hv; rcases hv with rfl | rfl; exact rfl; exact (ro_one (hC8.ro 1 rfl))) rfl Try.sizeOf91 rfl rfl (fun w4 hC9 hKp1 => ?_)
 try dsimp only [List.set] at hC9
 have hk1 := Keep.over (((Keep.of hB1).then hB2).then hB3) (Nat.le_trans ((Keep.of hB1).then hB2).size hN2) hKp1
 have hk2 := Keep.over ((Keep.of hB2).then hB3) (Nat.le_trans (Keep.of hB2).size hN2) hKp1
 have hk3 := Keep.over (Keep.of hB3) hN2 hKp1
 refine WL_nil ?_
 refine W_seq ?_
 refine W_seq_reg ?_
 refine WL_move rfl rfl ?_
 obtain ⟨x1, hr1, hF⟩ := bind_some hF
 refine WL_call Try.call60 rfl rfl (c_S_IsSchema a2 u2 (g2.now hC9.keep) x1 hr1) ?_
 intro _ w5 hv1
 obtain ⟨rfl, hB4⟩ := res_bool hv1
 have hC10 := hC9.grow hB4
 refine WL_nil ?_
 obtain ⟨r1, hr2, hF⟩ := bind_some hF
 refine W_norm (fun l w => ∃ x2 : Int, ∃ v1 : Value, ∃ x3 : (List Int), ∃ x4 : Int, ∃ x5 : Int, (x2, x3, x4, x5) = r1 ∧ l = [(0, (ptr pb1 0)), (4, (ptr b1 0)), (5, (ptr b3 0))] ∧ Ctx Fs.flatten w0 w [Item.box b3 [(.int .i64 x2), v1], Item.own v1 (x3 : (List Int)), Item.box b1 [(.int .i64 0), (.slice none 0 0)], Item.box pb1 [u1, (.int .i64 x4), (.int .i64 x5)]]) ?_ ?_
 ·refine W_cond rfl (fun hc1 => ?_) (fun hc1 => ?_)
  ·replace hr2 := ite_t hr2 hc1
   refine W_reg ?_
   refine WL_move rfl rfl ?_
   refine WL_move rfl rfl ?_
   obtain ⟨x6, hr3, hr2⟩ := bind_some hr2
   have hC12 := hC10.f3
   obtain ⟨Fs1, hH1, hn1, hF1, hO1, hb1⟩ := Ctx.lend2 (As := [Item.box b3 [(.int .i64 0), (.slice (some ⟨b2, 0, none⟩) 1 1)], Item.own (.slice (some ⟨b2, 0, none⟩) 1 1) ([1] : (List Int)), Item.box b1 [(.int .i64 0), (.slice none 0 0)]]) [Item.box pb1 [u1, (.int .i64 a1.2.1), (.int .i64 a1.2.2)]] hC12
   refine WL_call Try.call59 rfl rfl (c_S_l2Fact pb1 (a1.1, a1.2.1, a1.2.2) u1 (RO.lent g1 hC12.keep hF1) a2 u2 (RO.lent g2 hC12.keep hF1) 10 hH1 hn1 x6 hr3) ?_
   rintro v2 w7 ⟨_, rfl, hq1⟩
   have hC13 : Ctx Fs.flatten w0 w7 [Item.own v2 (x6.1 : (Int × (List Int))), Item.box pb1 [u1, (.int .i64 x6.2.2.1), (.int .i64 x6.2.2.2)], Item.box b3 [(.int .i64 0), (.slice (some ⟨b2, 0, none⟩) 1 1)], Item.own (.slice (some ⟨b2, 0, none⟩) 1 1) ([1] : (List Int)), Item.box b1 [(.int .i64 0), (.slice none 0 0)]] := hb1 _ _ hq1
   obtain ⟨v3, rfl, hC14⟩ := st91_own hC13
   refine WL_store_box_aggK (cs' := [(.int .i64 x6.1.1), v3]) (new := [(.int .i64 x6.1.1), v3]) hC14 2 rfl rfl (by intro v hv; simp only [List.mem_cons, List.not_mem_nil, or_false] at hv; rcases hv with rfl | rfl; exact rfl; exact (ro_one (hC14.ro 0 rfl))) rfl Try.sizeOf91 rfl rfl (fun w9 hC15 hKp2 => ?_)
   try dsimp only [List.set] at hC15
   refine WL_nil ?_
   have hq2 := Option.some.inj hr2
   subst hq2
   have hC16 := hC15.f1
   have hC17 := hC16.f4
   have hC18 := hC17.f2
   have hC19 := hC18.f3
   have hC20 := hC19.h4
   refine nrm_sub (l' := [(0, (ptr pb1 0)), (4, (ptr b1 0)), (5, (ptr b3 0))]) ⟨rfl, rfl, rfl, trivial⟩ ?_
   exact ⟨x6.1.1, v3, x6.1.2, x6.2.2.1, x6.2.2.2, rfl, rfl, hC20⟩
  replace hr2 := ite_f hr2 hc1
  refine W_skip ?_
  have hq3 := Option.some.inj hr2
  subst hq3
  refine nrm_sub (l' := [(0, (ptr pb1 0)), (4, (ptr b1 0)), (5, (ptr b3 0))]) ⟨rfl, rfl, rfl, trivial⟩ ?_
  exact ⟨0, (.slice (some ⟨b2, 0, none⟩) 1 1), [1], a1.2.1, a1.2.2, rfl, rfl, hC10⟩
 rintro l1 _ w6 hs1 ⟨x2, v1, x3, x4, x5, rfl, rfl, hC11⟩
 try dsimp only at hF
 refine nrm_sub' hs1 ?_
 clear hs1
 refine W_seq ?_
 refine W_seq_reg ?_
 refine WL_move rfl rfl ?_
 obtain ⟨x7, hr4, hF⟩ := bind_some hF
 have hC21 := hC11.f3
 obtain ⟨Fs2, hH2, hn2, hF2, hO2, hb2⟩ := Ctx.lend2 (As := [Item.box b3 [(.int .i64 x2), v1], Item.own v1 (x3 : (List Int)), Item.box b1 [(.int .i64 0), (.slice none 0 0)]]) [Item.box pb1 [u1, (.int .i64 x4), (.int .i64 x5)]] hC21
 refine WL_call Try.call41 rfl rfl (c_S_l1Below pb1 (a1.1, x4, x5) u1 (RO.lent g1 hC21.keep hF2) 8 hH2 hn2 x7 hr4) ?_
 rintro _ w10 ⟨rfl, hq4⟩
 have hC22 : Ctx Fs.flatten w0 w10 [Item.box pb1 [u1, (.int .i64 x7.2.2.1), (.int .i64 x7.2.2.2)], Item.box b3 [(.int .i64 x2), v1], Item.own v1 (x3 : (List Int)), Item.box b1 [(.int .i64 0), (.slice none 0 0)]] := hb2 _ _ hq4
 refine WL_nil ?_
 refine W_block ?_
 refine W_seq_reg ?_
 refine WL_eql rfl rfl rfl ?_
 refine WL_assign rfl rfl ?_
 refine WL_nil ?_
 obtain ⟨r2, hr5, hF⟩ := bind_some hF
 refine W_norm (fun l w => ∃ x8 : Int, ∃ x9 : Int, ∃ x10 : Int, ∃ v4 : Value, ∃ x11 : (List Int), (x8, x9, x10, x11) = r2 ∧ l = [(4, (ptr b1 0)), (5, (ptr b3 0))] ∧ Ctx Fs.flatten w0 w [Item.box pb1 [u1, (.int .i64 x8), (.int .i64 x9)], Item.box b3 [(.int .i64 x10), v4], Item.own v4 (x11 : (List Int)), Item.box b1 [(.int .i64 0), (.slice none 0 0)]]) ?_ ?_
 ·refine W_cond rfl (fun hc2 => ?_) (fun hc2 => ?_)
  ·replace hr5 := ite_t hr5 hc2
   refine W_reg ?_
   refine WL_move rfl rfl ?_
   obtain ⟨x12, hr6, hr5⟩ := bind_some hr5
   obtain ⟨Fs3, hH3, hn3, hF3, hO3, hb3⟩ := Ctx.lend2 (As := [Item.box b3 [(.int .i64 x2), v1], Item.own v1 (x3 : (List Int)), Item.box b1 [(.int .i64 0), (.slice none 0 0)]]) [Item.box pb1 [u1, (.int .i64 x7.2.2.1), (.int .i64 x7.2.2.2)]] hC22
   refine WL_call Try.call41 rfl rfl (c_S_l1Below pb1 (a1.1, x7.2.2.1, x7.2.2.2) u1 (RO.lent g1 hC22.keep hF3) 5 hH3 hn3 x12 hr6) ?_
   rintro _ w12 ⟨rfl, hq5⟩
   have hC24 : Ctx Fs.flatten w0 w12 [Item.box pb1 [u1, (.int .i64 x12.2.2.1), (.int .i64 x12.2.2.2)], Item.box b3 [(.int .i64 x2), v1], Item.own v1 (x3 : (List Int)), Item.box b1 [(.int .i64 0), (.slice none 0 0)]] := hb3 _ _ hq5
   refine WL_sub rfl rfl rfl ?_
   refine WL_field Try.underlying91 rfl rfl (fun w => ⟨_, Try.sizeOf3 w⟩) rfl rfl ?_
   refine WL_store_boxK (cs' := [(.int .i64 (w64 (x12.1 - 1))), v1]) hC24 1 rfl rfl rfl rfl Try.sizeOf3 rfl rfl (fun w13 hC25 hKp3 => ?_)
   try dsimp only [List.set] at hC25
   refine WL_nil ?_
   have hq6 := Option.some.inj hr5
   subst hq6
   refine nrm_sub (l' := [(4, (ptr b1 0)), (5, (ptr b3 0))]) ⟨rfl, rfl, trivial⟩ ?_
   exact ⟨x12.2.2.1, x12.2.2.2, w64 (x12.1 - 1), v1, x3, rfl, rfl, hC25⟩
  replace hr5 := ite_f hr5 hc2
  refine W_seq_reg ?_
  refine WL_eql rfl rfl rfl ?_
  refine WL_assign rfl rfl ?_
  refine WL_nil ?_
  obtain ⟨r3, hr7, hr5⟩ := bind_some hr5
  refine W_norm (fun l w => ∃ x13 : Int, ∃ x14 : Int, ∃ x15 : Int, ∃ v5 : Value, ∃ x16 : (List Int), (x13, x14, x15, x16) = r3 ∧ l = [(4, (ptr b1 0)), (5, (ptr b3 0))] ∧ Ctx Fs.flatten w0 w [Item.box pb1 [u1, (.int .i64 x13), (.int .i64 x14)], Item.box b3 [(.int .i64 x15), v5], Item.own v5 (x16 : (List Int)), Item.box b1 [(.int .i64 0), (.slice none 0 0)]]) ?_ ?_
  ·refine W_cond rfl (fun hc3 => ?_) (fun hc3 => ?_)
   ·replace hr7 := ite_t hr7 hc3
    obtain ⟨r4, hr8, hr7⟩ := bind_some hr7
    refine W_norm (fun l w => ∃ x17 : (List Int), ∃ x18 : Int, ∃ x19 : Int, (x17, x18, x19) = r4 ∧ l = [(4, (ptr b1 0)), (5, (ptr b3 0))] ∧ Ctx Fs.flatten w0 w [Item.box pb1 [u1, (.int .i64 x18), (.int .i64 x19)], Item.box b3 [(.int .i64 x2), v1], Item.own v1 (x17 : (List Int)), Item.box b1 [(.int .i64 0), (.slice none 0 0)]]) ?_ ?_
    ·refine W_drawn 7 rfl hmix (fun w16 hB9 => ?_)
     have hC28 := hC22.grow hB9
     refine WA_tk 0 (by kernel_rfl) rfl rfl (fl_field Try.underlying91 rfl rfl (fun w => ⟨_, Try.sizeOf26 w⟩) rfl) ?_
     refine WL_field Try.underlying91 rfl rfl (fun w => ⟨_, Try.sizeOf26 w⟩) rfl rfl ?_
     refine WL_nil ?_
     refine WA_tk 2 (by kernel_rfl) rfl rfl (fl_move rfl) ?_
     refine WL_move rfl rfl ?_
     refine WL_nil ?_
     refine WA_all2 (i := 1) (j := 3) (by kernel_rfl) rfl rfl ?_ ?_
     ·refine WL_load_box hC28 1 rfl rfl Try.isAgg26 rfl rfl ?_
      refine WL_nil ?_
      refine WA_one 3 (by kernel_rfl) rfl ?_
      refine WL_buildSlice (vs := [(.int .i64 (-1)), (.int .i64 9), (.int .i64 10)]) hC28 Try.underlying26 ty3 rfl rfl rfl rfl (by intro v hv; simp only [List.mem_cons, List.not_mem_nil, or_false] at hv; rcases hv with rfl | rfl | rfl <;> rfl) rfl rfl (fun b4 w17 hC29 hB10 => ?_)
      have hC30 := hC29.row0 (α := Int)
      have hC31 := hC30.triv (int_val (10))
      have hC32 := hC31.row1
      have hC33 := hC32.triv (int_val (9))
      have hC34 := hC33.row1
      have hC35 := hC34.triv (int_val ((-1)))
      have hC36 := hC35.row1
      have hC37 := hC36.front 1 rfl
      dsimp only [List.eraseIdx, List.cons_append, List.nil_append, List.append_nil] at hC37
      have hC38 : Ctx Fs.flatten w0 w17 (Item.own (.slice (some ⟨b4, 0, none⟩) 3 3) ([(-1), 9, 10] : List Int) :: [Item.box pb1 [u1, (.int .i64 x7.2.2.1), (.int .i64 x7.2.2.2)], Item.box b3 [(.int .i64 x2), v1], Item.own v1 (x3 : (List Int)), Item.box b1 [(.int .i64 0), (.slice none 0 0)]]) := hC37.rowOwn (by simp [maxLen])
      refine WL_nil ?_
      obtain ⟨x20, hr9, hr8⟩ := bind_some hr8
      refine WA_one 4 (by kernel_rfl) rfl ?_
      have hC39 := hC38.f1
      obtain ⟨Fs4, hH4, hn4, hF4, hO4, hb4⟩ := Ctx.lend2 (As := [Item.own (.slice (some ⟨b4, 0, none⟩) 3 3) ([(-1), 9, 10] : (List Int)), Item.box b3 [(.int .i64 x2), v1], Item.own v1 (x3 : (List Int)), Item.box b1 [(.int .i64 0), (.slice none 0 0)]]) [Item.box pb1 [u1, (.int .i64 x7.2.2.1), (.int .i64 x7.2.2.2)]] hC39
      refine WL_call Try.call55 rfl rfl (c_S_l1PickInt pb1 (a1.1, x7.2.2.1, x7.2.2.2) u1 (RO.lent g1 hC39.keep hF4) ([(-1), 9, 10]) (.slice (some ⟨b4, 0, none⟩) 3 3) (hO4 0 _ _ _ rfl) hH4 hn4 x20 hr9) ?_
      rintro _ w18 ⟨rfl, hq7⟩
      have hC40 : Ctx Fs.flatten w0 w18 [Item.box pb1 [u1, (.int .i64 x20.2.2.1), (.int .i64 x20.2.2.2)], Item.own (.slice (some ⟨b4, 0, none⟩) 3 3) ([(-1), 9, 10] : (List Int)), Item.box b3 [(.int .i64 x2), v1], Item.own v1 (x3 : (List Int)), Item.box b1 [(.int .i64 0), (.slice none 0 0)]] := hb4 _ _ hq7
      refine WL_nil ?_
      obtain ⟨x21, hx1, hr8⟩ := bind_some hr8
      refine WA_tk 5 (by kernel_rfl) rfl rfl (fl_index_own hC40 3 rfl Try.underlying26 ty3 hx1 rfl rfl) ?_
      refine WL_index_own hC40 3 rfl Try.underlying26 ty3 hx1 rfl rfl rfl (fun b5 hE1 => ?_)
      refine WL_nil ?_
      refine WA_one 6 (by kernel_rfl) rfl ?_
      have hC42 := hC40.triv (int_val (x20.1))
      refine WL_store_elem hC42 3 rfl ty3 hE1 hx1 rfl rfl rfl (fun w19 hC41 => ?_)
      try dsimp only [List.set] at hC41
      refine WL_nil ?_
      refine WA_done (by kernel_rfl) ?_
      have hq8 := Option.some.inj hr8
      subst hq8
      have hC43 := hC41.f4
      have hC44 := hC43.f4
      have hC45 := hC44.f4
      have hC46 := hC45.f3
      have hC47 := hC46.h4
      refine nrm_sub (l' := [(4, (ptr b1 0)), (5, (ptr b3 0))]) ⟨rfl, rfl, trivial⟩ ?_
      exact ⟨(List.set x3 (Int.toNat 0) x20.1), x20.2.2.1, x20.2.2.2, rfl, rfl, hC47⟩
     refine WL_buildSlice (vs := [(.int .i64 (-1)), (.int .i64 9), (.int .i64 10)]) hC28 Try.underlying26 ty3 rfl rfl rfl rfl (by intro v hv; simp only [List.mem_cons, List.not_mem_nil, or_false] at hv; rcases hv with rfl | rfl | rfl <;> rfl) rfl rfl (fun b4 w17 hC29 hB10 => ?_)
     have hC30 := hC29.row0 (α := Int)
     have hC31 := hC30.triv (int_val (10))
     have hC32 := hC31.row1
     have hC33 := hC32.triv (int_val (9))
     have hC34 := hC33.row1
     have hC35 := hC34.triv (int_val ((-1)))
     have hC36 := hC35.row1
     have hC37 := hC36.front 1 rfl
     dsimp only [List.eraseIdx, List.cons_append, List.nil_append, List.append_nil] at hC37
     have hC38 : Ctx Fs.flatten w0 w17 (Item.own (.slice (some ⟨b4, 0, none⟩) 3 3) ([(-1), 9, 10] : List Int) :: [Item.box pb1 [u1, (.int .i64 x7.2.2.1), (.int .i64 x7.2.2.2)], Item.box b3 [(.int .i64 x2), v1], Item.own v1 (x3 : (List Int)), Item.box b1 [(.int .i64 0), (.slice none 0 0)]]) := hC37.rowOwn (by simp [maxLen])
     refine WL_nil ?_
     refine WA_all2 (i := 1) (j := 4) (by kernel_rfl) rfl rfl ?_ ?_
     ·refine WL_load_box hC38 2 rfl rfl Try.isAgg26 rfl rfl ?_
      refine WL_nil ?_
      obtain ⟨x20, hr9, hr8⟩ := bind_some hr8
      refine WA_one 4 (by kernel_rfl) rfl ?_
      have hC39 := hC38.f1
      obtain ⟨Fs4, hH4, hn4, hF4, hO4, hb4⟩ := Ctx.lend2 (As := [Item.own (.slice (some ⟨b4, 0, none⟩) 3 3) ([(-1), 9, 10] : (List Int)), Item.box b3 [(.int .i64 x2), v1], Item.own v1 (x3 : (List Int)), Item.box b1 [(.int .i64 0), (.slice none 0 0)]]) [Item.box pb1 [u1, (.int .i64 x7.2.2.1), (.int .i64 x7.2.2.2)]] hC39
      refine WL_call Try.call55 rfl rfl (c_S_l1PickInt pb1 (a1.1, x7.2.2.1, x7.2.2.2) u1 (RO.lent g1 hC39.keep hF4) ([(-1), 9, 10]) (.slice (some ⟨b4, 0, none⟩) 3 3) (hO4 0 _ _ _ rfl) hH4 hn4 x20 hr9) ?_
      rintro _ w18 ⟨rfl, hq7⟩
      have hC40 : Ctx Fs.flatten w0 w18 [Item.box pb1 [u1, (.int .i64 x20.2.2.1), (.int .i64 x20.2.2.2)], Item.own (.slice (some ⟨b4, 0, none⟩) 3 3) ([(-1), 9, 10] : (List Int)), Item.box b3 [(.int .i64 x2), v1], Item.own v1 (x3 : (List Int)), Item.box b1 [(.int .i64 0), (.slice none 0 0)]] := hb4 _ _ hq7
      refine WL_nil ?_
      obtain ⟨x21, hx1, hr8⟩ := bind_some hr8
      refine WA_tk 5 (by kernel_rfl) rfl rfl (fl_index_own hC40 3 rfl Try.underlying26 ty3 hx1 rfl rfl) ?_
      refine WL_index_own hC40 3 rfl Try.underlying26 ty3 hx1 rfl rfl rfl (fun b5 hE1 => ?_)
      refine WL_nil ?_
      refine WA_one 6 (by kernel_rfl) rfl ?_
      have hC42 := hC40.triv (int_val (x20.1))
      refine WL_store_elem hC42 3 rfl ty3 hE1 hx1 rfl rfl rfl (fun w19 hC41 => ?_)
      try dsimp only [List.set] at hC41
      refine WL_nil ?_
      refine WA_done (by kernel_rfl) ?_
      have hq8 := Option.some.inj hr8
      subst hq8
      have hC43 := hC41.f4
      have hC44 := hC43.f4
      have hC45 := hC44.f4
      have hC46 := hC45.f3
      have hC47 := hC46.h4
      refine nrm_sub (l' := [(4, (ptr b1 0)), (5, (ptr b3 0))]) ⟨rfl, rfl, trivial⟩ ?_
      exact ⟨(List.set x3 (Int.toNat 0) x20.1), x20.2.2.1, x20.2.2.2, rfl, rfl, hC47⟩
     obtain ⟨x20, hr9, hr8⟩ := bind_some hr8
     have hC39 := hC38.f1
     obtain ⟨Fs4, hH4, hn4, hF4, hO4, hb4⟩ := Ctx.lend2 (As := [Item.own (.slice (some ⟨b4, 0, none⟩) 3 3) ([(-1), 9, 10] : (List Int)), Item.box b3 [(.int .i64 x2), v1], Item.own v1 (x3 : (List Int)), Item.box b1 [(.int .i64 0), (.slice none 0 0)]]) [Item.box pb1 [u1, (.int .i64 x7.2.2.1), (.int .i64 x7.2.2.2)]] hC39
     refine WL_call Try.call55 rfl rfl (c_S_l1PickInt pb1 (a1.1, x7.2.2.1, x7.2.2.2) u1 (RO.lent g1 hC39.keep hF4) ([(-1), 9, 10]) (.slice (some ⟨b4, 0, none⟩) 3 3) (hO4 0 _ _ _ rfl) hH4 hn4 x20 hr9) ?_
     rintro _ w18 ⟨rfl, hq7⟩
     have hC40 : Ctx Fs.flatten w0 w18 [Item.box pb1 [u1, (.int .i64 x20.2.2.1), (.int .i64 x20.2.2.2)], Item.own (.slice (some ⟨b4, 0, none⟩) 3 3) ([(-1), 9, 10] : (List Int)), Item.box b3 [(.int .i64 x2), v1], Item.own v1 (x3 : (List Int)), Item.box b1 [(.int .i64 0), (.slice none 0 0)]] := hb4 _ _ hq7
     refine WL_nil ?_
     refine WA_one 1 (by kernel_rfl) rfl ?_
     refine WL_load_box hC40 2 rfl rfl Try.isAgg26 rfl rfl ?_
     refine WL_nil ?_
     obtain ⟨x21, hx1, hr8⟩ := bind_some hr8
     refine WA_tk 5 (by kernel_rfl) rfl rfl (fl_index_own hC40 3 rfl Try.underlying26 ty3 hx1 rfl rfl) ?_
     refine WL_index_own hC40 3 rfl Try.underlying26 ty3 hx1 rfl rfl rfl (fun b5 hE1 => ?_)
     refine WL_nil ?_
     refine WA_one 6 (by kernel_rfl) rfl ?_
     have hC42 := hC40.triv (int_val (x20.1))
     refine WL_store_elem hC42 3 rfl ty3 hE1 hx1 rfl rfl rfl (fun w19 hC41 => ?_)
     try dsimp only [List.set] at hC41
     refine WL_nil ?_
     refine WA_done (by kernel_rfl) ?_
     have hq8 := Option.some.inj hr8
     subst hq8
     have hC43 := hC41.f4
     have hC44 := hC43.f4
     have hC45 := hC44.f4
     have hC46 := hC45.f3
     have hC47 := hC46.h4
     refine nrm_sub (l' := [(4, (ptr b1 0)), (5, (ptr b3 0))]) ⟨rfl, rfl, trivial⟩ ?_
     exact ⟨(List.set x3 (Int.toNat 0) x20.1), x20.2.2.1, x20.2.2.2, rfl, rfl, hC47⟩
    rintro l4 _ w15 hs4 ⟨x17, x18, x19, rfl, rfl, hC27⟩
    try dsimp only at hr7
    have hq9 := Option.some.inj hr7
    subst hq9
    refine nrm_subs (l2 := [(4, (ptr b1 0)), (5, (ptr b3 0))]) hs4 ⟨rfl, rfl, trivial⟩ ?_
    exact ⟨x18, x19, x2, v1, x17, rfl, rfl, hC27⟩
   replace hr7 := ite_f hr7 hc3
   refine W_seq_reg ?_
   refine WL_eql rfl rfl rfl ?_
   refine WL_assign rfl rfl ?_
   refine WL_nil ?_
   obtain ⟨r5, hr10, hr7⟩ := bind_some hr7
   refine W_norm (fun l w => ∃ x22 : Int, ∃ v6 : Value, ∃ x23 : (List Int), (x22, x23) = r5 ∧ l = [(4, (ptr b1 0)), (5, (ptr b3 0))] ∧ Ctx Fs.flatten w0 w [Item.box pb1 [u1, (.int .i64 x7.2.2.1), (.int .i64 x7.2.2.2)], Item.box b3 [(.int .i64 x22), v6], Item.own v6 (x23 : (List Int)), Item.box b1 [(.int .i64 0), (.slice none 0 0)]]) ?_ ?_
   ·refine W_cond rfl (fun hc4 => ?_) (fun hc4 => ?_)
    ·replace hr10 := ite_t hr10 hc4
     refine W_reg ?_
     refine WL_field Try.underlying91 rfl rfl (fun w => ⟨_, Try.sizeOf26 w⟩) rfl rfl ?_
     refine WL_load_box hC22 1 rfl rfl Try.isAgg26 rfl rfl ?_
     refine WL_buildSlice (vs := [(.int .i64 1)]) hC22 Try.underlying26 ty3 rfl rfl rfl rfl (by intro v hv; simp only [List.mem_cons, List.not_mem_nil, or_false] at hv; rcases hv with rfl <;> rfl) rfl rfl (fun b6 w21 hC49 hB12 => ?_)
     have hC50 := hC49.row0 (α := Int)
     have hC51 := hC50.triv (int_val (1))
     have hC52 := hC51.row1
     have hC53 := hC52.front 1 rfl
     dsimp only [List.eraseIdx, List.cons_append, List.nil_append, List.append_nil] at hC53
     have hC54 : Ctx Fs.flatten w0 w21 (Item.own (.slice (some ⟨b6, 0, none⟩) 1 1) ([1] : List Int) :: [Item.box pb1 [u1, (.int .i64 x7.2.2.1), (.int .i64 x7.2.2.2)], Item.box b3 [(.int .i64 x2), v1], Item.own v1 (x3 : (List Int)), Item.box b1 [(.int .i64 0), (.slice none 0 0)]]) := hC53.rowOwn (by simp [maxLen])
     obtain ⟨x24, hx2, hr10⟩ := bind_some hr10
     refine WL_append_flat (α := Int) hC54 3 rfl (hC54.ro 0 rfl) (Keep.refl _ _) Try.underlying26 ty3 rfl hx2 rfl rfl rfl (fun v7 w22 hC55 => ?_)
     try dsimp only [List.set] at hC55
     refine WL_field Try.underlying91 rfl rfl (fun w => ⟨_, Try.sizeOf26 w⟩) rfl rfl ?_
     refine WL_store_boxK (cs' := [(.int .i64 x2), v7]) hC55 2 rfl rfl (ro_one (hC55.ro 3 rfl)) rfl Try.sizeOf26 rfl rfl (fun w23 hC56 hKp5 => ?_)
     try dsimp only [List.set] at hC56
     refine WL_nil ?_
     have hq10 := Option.some.inj hr10
     subst hq10
     have hC57 := hC56.f4
     have hC58 := hC57.f4
     have hC59 := hC58.f4
     have hC60 := hC59.f4
     have hC61 := hC60.h4
     refine nrm_sub (l' := [(4, (ptr b1 0)), (5, (ptr b3 0))]) ⟨rfl, rfl, trivial⟩ ?_
     exact ⟨x2, v7, x24, rfl, rfl, hC61⟩
    replace hr10 := ite_f hr10 hc4
    refine W_skip ?_
    have hq11 := Option.some.inj hr10
    subst hq11
    refine nrm_sub (l' := [(4, (ptr b1 0)), (5, (ptr b3 0))]) ⟨rfl, rfl, trivial⟩ ?_
    exact ⟨x2, v1, x3, rfl, rfl, hC22⟩
   rintro l5 _ w20 hs5 ⟨x22, v6, x23, rfl, rfl, hC48⟩
   try dsimp only at hr7
   have hq12 := Option.some.inj hr7
   subst hq12
   refine nrm_subs (l2 := [(4, (ptr b1 0)), (5, (ptr b3 0))]) hs5 ⟨rfl, rfl, trivial⟩ ?_
   exact ⟨x7.2.2.1, x7.2.2.2, x22, v6, x23, rfl, rfl, hC48⟩
  rintro l3 _ w14 hs3 ⟨x13, x14, x15, v5, x16, rfl, rfl, hC26⟩
  try dsimp only at hr5
  have hq13 := Option.some.inj hr5
  subst hq13
  refine nrm_subs (l2 := [(4, (ptr b1 0)), (5, (ptr b3 0))]) hs3 ⟨rfl, rfl, trivial⟩ ?_
  exact ⟨x13, x14, x15, v5, x16, rfl, rfl, hC26⟩
 rintro l2 _ w11 hs2 ⟨x8, x9, x10, v4, x11, rfl, rfl, hC23⟩
 try dsimp only at hF
 refine blk_normal ?_
 refine nrm_sub' hs2 ?_
 clear hs2
 refine W_seq_reg ?_
 refine WL_load_box_agg [(.int .i64 x10), v4] hC23 1 rfl rfl rfl Try.isAgg91 Try.sizeOf91 rfl rfl ?_
 refine WL_store_box_aggK (cs' := [(.int .i64 x10), v4]) (new := [(.int .i64 x10), v4]) hC23 3 rfl rfl (by intro v hv; simp only [List.mem_cons, List.not_mem_nil, or_false] at hv; rcases hv with rfl | rfl; exact rfl; exact (ro_one (hC23.ro 2 rfl))) rfl Try.sizeOf91 rfl rfl (fun w24 hC62 hKp6 => ?_)
 try dsimp only [List.set] at hC62
 refine WL_nil ?_
 refine W_ret ?_
 have hq14 := Option.some.inj hF
 subst hq14
 refine fn_retG1 rfl (rv_cell_agg (cs' := [(.int .i64 x10), v4]) hC62 (i := 3) rfl rfl rfl Try.isAgg91 Try.sizeOf91 rfl) ?_
 have hC64 := hC62.f2
 have hC63 := own_st91 x10 v4 x11 hC64
 have hC65 := hC63.h2
 exact ⟨_, rfl, _, rfl, hC65⟩

theorem c_S_l2AnyFacts {w0 : World} {Fs : List (List Nat)} (pb1 : Nat) (a1 : ((List UInt8) × Int × Int)) (u1 : Value) (g1 : RO Fs.flatten w0 u1 a1.1) (a2 : (List Int)) (u2 : Value) (g2 : RO Fs.flatten w0 u2 a2) (hH : Hold [Item.box pb1 [u1, (.int .i64 a1.2.1), (.int .i64 a1.2.2)]] w0 Fs) (hn : Fs.flatten.Nodup) (rr : ((List (Int × (List Int))) × ((List UInt8) × Int × Int))) (hF : S.l2AnyFacts a1 a2 = some rr) :
 Calls Try.prog 51 [(ptr pb1 0), u2].toArray w0 fun e w' => ∃ v, e = .returned v ∧ ∃ q0 : Value, v = q0 ∧ Ctx Fs.flatten w0 w' [Item.own q0 (rr.1 : (List (Int × (List Int)))), Item.box pb1 [u1, (.int .i64 rr.2.2.1), (.int .i64 rr.2.2.2)]] := by
 refine calls_of_W Try.func51 rfl rfl ?_
 have hC0 := Ctx.startIn hH hn
 unfold S.l2AnyFacts at hF
 refine W_seq_reg ?_
 refine WL_assign rfl rfl ?_
 refine WL_nil ?_
 refine W_seq_reg ?_
 refine WL_buildSlice (vs := []) hC0 Try.underlying72 ty91 rfl rfl rfl rfl (by simp) rfl rfl (fun b1 w1 hC1 hB1 => ?_)
 have hC2 := hC1.row0 (α := (Int × (List Int)))
 have hC3 := hC2.front 1 rfl
 dsimp only [List.eraseIdx, List.cons_append, List.nil_append, List.append_nil] at hC3
 have hC4 : Ctx Fs.flatten w0 w1 (Item.own (.slice (some ⟨b1, 0, none⟩) 0 0) (([] : List (Int × (List Int))) : List (Int × (List Int))) :: [Item.box pb1 [u1, (.int .i64 a1.2.1), (.int .i64 a1.2.2)]]) := hC3.rowOwn (by simp [maxLen])
 refine WL_assign rfl rfl ?_
 refine WL_nil ?_
 refine W_seq ?_
 refine W_seq_reg ?_
 refine WL_move rfl rfl ?_
 obtain ⟨x1, hr1, hF⟩ := bind_some hF
 refine WL_call Try.call60 rfl rfl (c_S_IsSchema a2 u2 (g2.now hC4.keep) x1 hr1) ?_
 intro _ w2 hv1
 obtain ⟨rfl, hB2⟩ := res_bool hv1
 have hC5 := hC4.grow hB2
 refine WL_nil ?_
 obtain ⟨r1, hr2, hF⟩ := bind_some hF
 refine W_norm (fun l w => ∃ x2 : Int, ∃ x3 : Int, ∃ v1 : Value, ∃ x4 : (List (Int × (List Int))), (x2, x3, x4) = r1 ∧ l = [(0, (ptr pb1 0)), (1, u2), (5, v1)] ∧ Ctx Fs.flatten w0 w [Item.own v1 (x4 : (List (Int × (List Int)))), Item.box pb1 [u1, (.int .i64 x2), (.int .i64 x3)]]) ?_ ?_
 ·refine W_cond rfl (fun hc1 => ?_) (fun hc1 => ?_)
  ·replace hr2 := ite_t hr2 hc1
   refine W_reg ?_
   refine WL_move rfl rfl ?_
   refine WL_move rfl rfl ?_
   obtain ⟨x5, hr3, hr2⟩ := bind_some hr2
   have hC7 := hC5.f1
   obtain ⟨Fs1, hH1, hn1, hF1, hO1, hb1⟩ := Ctx.lend2 (As := [Item.own (.slice (some ⟨b1, 0, none⟩) 0 0) (([] : List (Int × (List Int))) : (List (Int × (List Int))))]) [Item.box pb1 [u1, (.int .i64 a1.2.1), (.int .i64 a1.2.2)]] hC7
   refine WL_call Try.call49 rfl rfl (c_S_l2Facts pb1 (a1.1, a1.2.1, a1.2.2) u1 (RO.lent g1 hC7.keep hF1) a2 u2 (RO.lent g2 hC7.keep hF1) 8 hH1 hn1 x5 hr3) ?_
   rintro v2 w4 ⟨_, rfl, hq1⟩
   have hC8 : Ctx Fs.flatten w0 w4 [Item.own v2 (x5.1 : (List (Int × (List Int)))), Item.box pb1 [u1, (.int .i64 x5.2.2.1), (.int .i64 x5.2.2.2)], Item.own (.slice (some ⟨b1, 0, none⟩) 0 0) (([] : List (Int × (List Int))) : (List (Int × (List Int))))] := hb1 _ _ hq1
   refine WL_assign rfl rfl ?_
   refine WL_nil ?_
   have hq2 := Option.some.inj hr2
   subst hq2
   have hC9 := hC8.f1
   have hC10 := hC9.f1
   have hC11 := hC10.h2
   refine nrm_sub (l' := [(0, (ptr pb1 0)), (1, u2), (5, v2)]) ⟨rfl, rfl, rfl, trivial⟩ ?_
   exact ⟨x5.2.2.1, x5.2.2.2, v2, x5.1, rfl, rfl, hC11⟩
  replace hr2 := ite_f hr2 hc1
  refine W_skip ?_
  have hq3 := Option.some.inj hr2
  subst hq3
  refine nrm_sub (l' := [(0, (ptr pb1 0)), (1, u2), (5, (.slice (some ⟨b1, 0, none⟩) 0 0))]) ⟨rfl, rfl, rfl, trivial⟩ ?_
  exact ⟨a1.2.1, a1.2.2, (.slice (some ⟨b1, 0, none⟩) 0 0), ([] : List (Int × (List Int))), rfl, rfl, hC5⟩
 rintro l1 _ w3 hs1 ⟨x2, x3, v1, x4, rfl, rfl, hC6⟩
 try dsimp only at hF
 refine nrm_sub' hs1 ?_
 clear hs1
 refine W_seq ?_
 refine W_seq_reg ?_
 refine WL_move rfl rfl ?_
 obtain ⟨x6, hr4, hF⟩ := bind_some hF
 have hC12 := hC6.f1
 obtain ⟨Fs2, hH2, hn2, hF2, hO2, hb2⟩ := Ctx.lend2 (As := [Item.own v1 (x4 : (List (Int × (List Int))))]) [Item.box pb1 [u1, (.int .i64 x2), (.int .i64 x3)]] hC12
 refine WL_call Try.call56 rfl rfl (c_S_l1Once pb1 (a1.1, x2, x3) u1 (RO.lent g1 hC12.keep hF2) 10 hH2 hn2 x6 hr4) ?_
 rintro _ w5 ⟨rfl, hq4⟩
 have hC13 : Ctx Fs.flatten w0 w5 [Item.box pb1 [u1, (.int .i64 x6.2.2.1), (.int .i64 x6.2.2.2)], Item.own v1 (x4 : (List (Int × (List Int))))] := hb2 _ _ hq4
 refine WL_nil ?_
 obtain ⟨r2, hr5, hF⟩ := bind_some hF
 refine W_norm (fun l w => ∃ x7 : Int, ∃ x8 : Int, ∃ v3 : Value, ∃ x9 : (List (Int × (List Int))), (x7, x8, x9) = r2 ∧ l = [(5, v3)] ∧ Ctx Fs.flatten w0 w [Item.box pb1 [u1, (.int .i64 x7), (.int .i64 x8)], Item.own v3 (x9 : (List (Int × (List Int))))]) ?_ ?_
 ·refine W_cond rfl (fun hc2 => ?_) (fun hc2 => ?_)
  ·replace hr5 := ite_t hr5 hc2
   refine W_reg ?_
   refine WL_move rfl rfl ?_
   refine WL_move rfl rfl ?_
   refine WL_move rfl rfl ?_
   obtain ⟨x10, hr6, hr5⟩ := bind_some hr5
   obtain ⟨Fs3, hH3, hn3, hF3, hO3, hb3⟩ := Ctx.lend2 (As := [Item.own v1 (x4 : (List (Int × (List Int))))]) [Item.box pb1 [u1, (.int .i64 x6.2.2.1), (.int .i64 x6.2.2.2)]] hC13
   refine WL_call Try.call61 rfl rfl (c_S_l2AnyFact pb1 (a1.1, x6.2.2.1, x6.2.2.2) u1 (RO.lent g1 hC13.keep hF3) a2 u2 (RO.lent g2 hC13.keep hF3) hH3 hn3 x10 hr6) ?_
   rintro v4 w7 ⟨_, rfl, hq5⟩
   have hC15 : Ctx Fs.flatten w0 w7 [Item.own v4 (x10.1 : (Int × (List Int))), Item.box pb1 [u1, (.int .i64 x10.2.2.1), (.int .i64 x10.2.2.2)], Item.own v1 (x4 : (List (Int × (List Int))))] := hb3 _ _ hq5
   obtain ⟨v5, rfl, hC16⟩ := st91_own hC15
   refine WL_buildSlice (vs := [(.agg #[(.int .i64 x10.1.1), v5])]) hC16 Try.underlying72 ty91 rfl rfl rfl rfl (by intro v hv; simp only [List.mem_cons, List.not_mem_nil, or_false] at hv; rcases hv with rfl <;> rfl) rfl rfl (fun b2 w9 hC17 hB5 => ?_)
   have hC18 := hC17.row0 (α := (Int × (List Int)))
   have hC20 := hC18.f2
   have hC19 := own_st91 x10.1.1 v5 x10.1.2 hC20
   have hC21 := hC19.row1
   have hC22 := hC21.front 1 rfl
   dsimp only [List.eraseIdx, List.cons_append, List.nil_append, List.append_nil] at hC22
   have hC23 : Ctx Fs.flatten w0 w9 (Item.own (.slice (some ⟨b2, 0, none⟩) 1 1) ([(x10.1.1, x10.1.2)] : List (Int × (List Int))) :: [Item.box pb1 [u1, (.int .i64 x10.2.2.1), (.int .i64 x10.2.2.2)], Item.own v1 (x4 : (List (Int × (List Int))))]) := hC22.rowOwn (by simp [maxLen])
   obtain ⟨x11, hx1, hr5⟩ := bind_some hr5
   refine WL_append_head hC23 1 rfl Try.underlying72 ty91 rfl hx1 rfl rfl rfl (fun v6 w10 hC24 => ?_)
   try dsimp only [List.set] at hC24
   refine WL_assign rfl rfl ?_
   refine WL_nil ?_
   have hq6 := Option.some.inj hr5
   subst hq6
   refine nrm_sub (l' := [(5, v6)]) ⟨rfl, trivial⟩ ?_
   exact ⟨x10.2.2.1, x10.2.2.2, v6, x11, rfl, rfl, hC24⟩
  replace hr5 := ite_f hr5 hc2
  refine W_skip ?_
  have hq7 := Option.some.inj hr5
  subst hq7
  refine nrm_sub (l' := [(5, v1)]) ⟨rfl, trivial⟩ ?_
  exact ⟨x6.2.2.1, x6.2.2.2, v1, x4, rfl, rfl, hC13⟩
 rintro l2 _ w6 hs2 ⟨x7, x8, v3, x9, rfl, rfl, hC14⟩
 try dsimp only at hF
 refine nrm_sub' hs2 ?_
 clear hs2
 refine W_seq_reg ?_
 refine WL_move rfl rfl ?_
 refine WL_assign rfl rfl ?_
 refine WL_nil ?_
 refine W_ret ?_
 have hq8 := Option.some.inj hF
 subst hq8
 refine fn_ret1 rfl rfl ?_
 have hC26 := hC14.f1
 exact ⟨_, rfl, _, rfl, hC26⟩

theorem c_S_l2AnySchema {w0 : World} {Fs : List (List Nat)} (pb1 : Nat) (a1 : ((List UInt8) × Int × Int)) (u1 : Value) (g1 : RO Fs.flatten w0 u1 a1.1) (hH : Hold [Item.box pb1 [u1, (.int .i64 a1.2.1), (.int .i64 a1.2.2)]] w0 Fs) (hn : Fs.flatten.Nodup) (rr : ((List Int) × ((List UInt8) × Int × Int))) (hF : S.l2AnySchema a1 = some rr) :
 Calls Try.prog 52 [(ptr pb1 0)].toArray w0 fun e w' => ∃ v, e = .returned v ∧ ∃ q0 : Value, v = q0 ∧ Ctx Fs.flatten w0 w' [Item.own q0 (rr.1 : (List Int)), Item.box pb1 [u1, (.int .i64 rr.2.2.1), (.int .i64 rr.2.2.2)]] := by
 refine calls_of_W Try.func52 rfl rfl ?_
 have hC0 := Ctx.startIn hH hn
 unfold S.l2AnySchema at hF
 refine W_seq_reg ?_
 refine WL_assign rfl rfl ?_
 refine WL_nil ?_
 refine W_seq_reg ?_
 refine WL_move rfl rfl ?_
 obtain ⟨x1, hr1, hF⟩ := bind_some hF
 obtain ⟨Fs1, hH1, hn1, hF1, hO1, hb1⟩ := Ctx.lend2 (As := []) [Item.box pb1 [u1, (.int .i64 a1.2.1), (.int .i64 a1.2.2)]] hC0
 refine WL_call Try.call47 rfl rfl (c_S_l2Schema pb1 (a1.1, a1.2.1, a1.2.2) u1 (RO.lent g1 hC0.keep hF1) hH1 hn1 x1 hr1) ?_
 rintro v1 w1 ⟨_, rfl, hq1⟩
 have hC1 : Ctx Fs.flatten w0 w1 [Item.own v1 (x1.1 : (List Int)), Item.box pb1 [u1, (.int .i64 x1.2.2.1), (.int .i64 x1.2.2.2)]] := hb1 _ _ hq1
 refine WL_assign rfl rfl ?_
 refine WL_nil ?_
 refine W_seq ?_
 refine W_seq_reg ?_
 refine WL_move rfl rfl ?_
 obtain ⟨x2, hr2, hF⟩ := bind_some hF
 have hC2 := hC1.f1
 obtain ⟨Fs2, hH2, hn2, hF2, hO2, hb2⟩ := Ctx.lend2 (As := [Item.own v1 (x1.1 : (List Int))]) [Item.box pb1 [u1, (.int .i64 x1.2.2.1), (.int .i64 x1.2.2.2)]] hC2
 refine WL_call Try.call56 rfl rfl (c_S_l1Once pb1 (a1.1, x1.2.2.1, x1.2.2.2) u1 (RO.lent g1 hC2.keep hF2) 14 hH2 hn2 x2 hr2) ?_
 rintro _ w2 ⟨rfl, hq2⟩
 have hC3 : Ctx Fs.flatten w0 w2 [Item.box pb1 [u1, (.int .i64 x2.2.2.1), (.int .i64 x2.2.2.2)], Item.own v1 (x1.1 : (List Int))] := hb2 _ _ hq2
 refine WL_nil ?_
 obtain ⟨r1, hr3, hF⟩ := bind_some hF
 refine W_norm (fun l w => ∃ x3 : Int, ∃ x4 : Int, ∃ v2 : Value, ∃ x5 : (List Int), (x3, x4, x5) = r1 ∧ l = [(3, v2)] ∧ Ctx Fs.flatten w0 w [Item.box pb1 [u1, (.int .i64 x3), (.int .i64 x4)], Item.own v2 (x5 : (List Int))]) ?_ ?_
 ·refine W_cond rfl (fun hc1 => ?_) (fun hc1 => ?_)
  ·replace hr3 := ite_t hr3 hc1
   refine W_reg ?_
   refine WL_move rfl rfl ?_
   refine WL_move rfl rfl ?_
   refine WL_buildSlice (vs := [(.int .i64 0), (.int .i64 1), (.int .i64 4)]) hC3 Try.underlying26 ty3 rfl rfl rfl rfl (by intro v hv; simp only [List.mem_cons, List.not_mem_nil, or_false] at hv; rcases hv with rfl | rfl | rfl <;> rfl) rfl rfl (fun b1 w4 hC5 hB2 => ?_)
   have hC6 := hC5.row0 (α := Int)
   have hC7 := hC6.triv (int_val (4))
   have hC8 := hC7.row1
   have hC9 := hC8.triv (int_val (1))
   have hC10 := hC9.row1
   have hC11 := hC10.triv (int_val (0))
   have hC12 := hC11.row1
   have hC13 := hC12.front 1 rfl
   dsimp only [List.eraseIdx, List.cons_append, List.nil_append, List.append_nil] at hC13
   have hC14 : Ctx Fs.flatten w0 w4 (Item.own (.slice (some ⟨b1, 0, none⟩) 3 3) ([0, 1, 4] : List Int) :: [Item.box pb1 [u1, (.int .i64 x2.2.2.1), (.int .i64 x2.2.2.2)], Item.own v1 (x1.1 : (List Int))]) := hC13.rowOwn (by simp [maxLen])
   obtain ⟨x6, hr4, hr3⟩ := bind_some hr3
   have hC15 := hC14.f1
   obtain ⟨Fs3, hH3, hn3, hF3, hO3, hb3⟩ := Ctx.lend2 (As := [Item.own (.slice (some ⟨b1, 0, none⟩) 3 3) ([0, 1, 4] : (List Int)), Item.own v1 (x1.1 : (List Int))]) [Item.box pb1 [u1, (.int .i64 x2.2.2.1), (.int .i64 x2.2.2.2)]] hC15
   refine WL_call Try.call55 rfl rfl (c_S_l1PickInt pb1 (a1.1, x2.2.2.1, x2.2.2.2) u1 (RO.lent g1 hC15.keep hF3) ([0, 1, 4]) (.slice (some ⟨b1, 0, none⟩) 3 3) (hO3 0 _ _ _ rfl) hH3 hn3 x6 hr4) ?_
   rintro _ w5 ⟨rfl, hq3⟩
   have hC16 : Ctx Fs.flatten w0 w5 [Item.box pb1 [u1, (.int .i64 x6.2.2.1), (.int .i64 x6.2.2.2)], Item.own (.slice (some ⟨b1, 0, none⟩) 3 3) ([0, 1, 4] : (List Int)), Item.own v1 (x1.1 : (List Int))] := hb3 _ _ hq3
   refine WL_buildSlice (vs := [(.int .i64 x6.1)]) hC16 Try.underlying26 ty3 rfl rfl rfl rfl (by intro v hv; simp only [List.mem_cons, List.not_mem_nil, or_false] at hv; rcases hv with rfl <;> rfl) rfl rfl (fun b2 w6 hC17 hB3 => ?_)
   have hC18 := hC17.row0 (α := Int)
   have hC19 := hC18.triv (int_val (x6.1))
   have hC20 := hC19.row1
   have hC21 := hC20.front 1 rfl
   dsimp only [List.eraseIdx, List.cons_append, List.nil_append, List.append_nil] at hC21
   have hC22 : Ctx Fs.flatten w0 w6 (Item.own (.slice (some ⟨b2, 0, none⟩) 1 1) ([x6.1] : List Int) :: [Item.box pb1 [u1, (.int .i64 x6.2.2.1), (.int .i64 x6.2.2.2)], Item.own (.slice (some ⟨b1, 0, none⟩) 3 3) ([0, 1, 4] : (List Int)), Item.own v1 (x1.1 : (List Int))]) := hC21.rowOwn (by simp [maxLen])
   obtain ⟨x7, hx1, hr3⟩ := bind_some hr3
   refine WL_append_flat (α := Int) hC22 3 rfl (hC22.ro 0 rfl) (Keep.refl _ _) Try.underlying26 ty3 rfl hx1 rfl rfl rfl (fun v3 w7 hC23 => ?_)
   try dsimp only [List.set] at hC23
   refine WL_assign rfl rfl ?_
   refine WL_nil ?_
   have hq4 := Option.some.inj hr3
   subst hq4
   have hC24 := hC23.f3
   have hC25 := hC24.f2
   have hC26 := hC25.h2
   refine nrm_sub (l' := [(3, v3)]) ⟨rfl, trivial⟩ ?_
   exact ⟨x6.2.2.1, x6.2.2.2, v3, x7, rfl, rfl, hC26⟩
  replace hr3 := ite_f hr3 hc1
  refine W_skip ?_
  have hq5 := Option.some.inj hr3
  subst hq5
  refine nrm_sub (l' := [(3, v1)]) ⟨rfl, trivial⟩ ?_
  exact ⟨x2.2.2.1, x2.2.2.2, v1, x1.1, rfl, rfl, hC3⟩
 rintro l1 _ w3 hs1 ⟨x3, x4, v2, x5, rfl, rfl, hC4⟩
 try dsimp only at hF
 refine nrm_sub' hs1 ?_
 clear hs1
 refine W_seq_reg ?_
 refine WL_move rfl rfl ?_
 refine WL_assign rfl rfl ?_
 refine WL_nil ?_
 refine W_ret ?_
 have hq6 := Option.some.inj hF
 subst hq6
 refine fn_ret1 rfl rfl ?_
 have hC27 := hC4.f1
 exact ⟨_, rfl, _, rfl, hC27⟩

theorem c_S_l5Draw {w0 : World} {Fs : List (List Nat)} (pb1 : Nat) (a1 : ((List UInt8) × Int × Int)) (u1 : Value) (g1 : RO Fs.flatten w0 u1 a1.1) (hH : Hold [Item.box pb1 [u1, (.int .i64 a1.2.1), (.int .i64 a1.2.2)]] w0 Fs) (hn : Fs.flatten.Nodup) (rr : ((List Int) × (List (Int × (List Int) × Int × Int × Int)) × (List (Int × (List Int))) × ((List UInt8) × Int × Int))) (hF : S.l5Draw a1 = some rr) :
 Calls Try.prog 40 [(ptr pb1 0)].toArray w0 fun e w' => ∃ v, e = .returned v ∧ ∃ q0 : Value, ∃ q1 : Value, ∃ q2 : Value, v = (.tuple #[q0, q1, q2]) ∧ Ctx Fs.flatten w0 w' [Item.own q0 (rr.1 : (List Int)), Item.own q1 (rr.2.1 : (List (Int × (List Int) × Int × Int × Int))), Item.own q2 (rr.2.2.1 : (List (Int × (List Int)))), Item.box pb1 [u1, (.int .i64 rr.2.2.2.2.1), (.int .i64 rr.2.2.2.2.2)]] := by
 refine calls_of_W Try.func40 rfl rfl ?_
 have hC0 := Ctx.startIn hH hn
 unfold S.l5Draw at hF
 refine W_seq_reg ?_
 refine WL_assign rfl rfl ?_
 refine WL_assign rfl rfl ?_
 refine WL_assign rfl rfl ?_
 refine WL_nil ?_
 refine W_seq_reg ?_
 refine WL_move rfl rfl ?_
 obtain ⟨x1, hr1, hF⟩ := bind_some hF
 obtain ⟨Fs1, hH1, hn1, hF1, hO1, hb1⟩ := Ctx.lend2 (As := []) [Item.box pb1 [u1, (.int .i64 a1.2.1), (.int .i64 a1.2.2)]] hC0
 refine WL_call Try.call47 rfl rfl (c_S_l2Schema pb1 (a1.1, a1.2.1, a1.2.2) u1 (RO.lent g1 hC0.keep hF1) hH1 hn1 x1 hr1) ?_
 rintro v1 w1 ⟨_, rfl, hq1⟩
 have hC1 : Ctx Fs.flatten w0 w1 [Item.own v1 (x1.1 : (List Int)), Item.box pb1 [u1, (.int .i64 x1.2.2.1), (.int .i64 x1.2.2.2)]] := hb1 _ _ hq1
 refine WL_assign rfl rfl ?_
 refine WL_nil ?_
 refine W_seq_reg ?_
 refine WL_move rfl rfl ?_
 refine WL_move rfl rfl ?_
 obtain ⟨x2, hr2, hF⟩ := bind_some hF
 have hC2 := hC1.f1
 obtain ⟨Fs2, hH2, hn2, hF2, hO2, hb2⟩ := Ctx.lend2 (As := [Item.own v1 (x1.1 : (List Int))]) [Item.box pb1 [u1, (.int .i64 x1.2.2.1), (.int .i64 x1.2.2.2)]] hC2
 refine WL_call Try.call48 rfl rfl (c_S_l5Methods pb1 (a1.1, x1.2.2.1, x1.2.2.2) u1 (RO.lent g1 hC2.keep hF2) x1.1 v1 (hO2 0 _ _ _ rfl) hH2 hn2 x2 hr2) ?_
 rintro v2 w2 ⟨_, rfl, hq2⟩
 have hC3 : Ctx Fs.flatten w0 w2 [Item.own v2 (x2.1 : (List (Int × (List Int) × Int × Int × Int))), Item.box pb1 [u1, (.int .i64 x2.2.2.1), (.int .i64 x2.2.2.2)], Item.own v1 (x1.1 : (List Int))] := hb2 _ _ hq2
 refine WL_assign rfl rfl ?_
 refine WL_nil ?_
 refine W_seq_reg ?_
 refine WL_move rfl rfl ?_
 refine WL_move rfl rfl ?_
 obtain ⟨x3, hr3, hF⟩ := bind_some hF
 have hC4 := hC3.f1
 obtain ⟨Fs3, hH3, hn3, hF3, hO3, hb3⟩ := Ctx.lend2 (As := [Item.own v2 (x2.1 : (List (Int × (List Int) × Int × Int × Int))), Item.own v1 (x1.1 : (List Int))]) [Item.box pb1 [u1, (.int .i64 x2.2.2.1), (.int .i64 x2.2.2.2)]] hC4
 refine WL_call Try.call49 rfl rfl (c_S_l2Facts pb1 (a1.1, x2.2.2.1, x2.2.2.2) u1 (RO.lent g1 hC4.keep hF3) x1.1 v1 (hO3 1 _ _ _ rfl) 8 hH3 hn3 x3 hr3) ?_
 rintro v3 w3 ⟨_, rfl, hq3⟩
 have hC5 : Ctx Fs.flatten w0 w3 [Item.own v3 (x3.1 : (List (Int × (List Int)))), Item.box pb1 [u1, (.int .i64 x3.2.2.1), (.int .i64 x3.2.2.2)], Item.own v2 (x2.1 : (List (Int × (List Int) × Int × Int × Int))), Item.own v1 (x1.1 : (List Int))] := hb3 _ _ hq3
 refine WL_assign rfl rfl ?_
 refine WL_nil ?_
 refine W_seq ?_
 refine W_seq_reg ?_
 refine WL_move rfl rfl ?_
 obtain ⟨x4, hr4, hF⟩ := bind_some hF
 have hC6 := hC5.f1
 obtain ⟨Fs4, hH4, hn4, hF4, hO4, hb4⟩ := Ctx.lend2 (As := [Item.own v3 (x3.1 : (List (Int × (List Int)))), Item.own v2 (x2.1 : (List (Int × (List Int) × Int × Int × Int))), Item.own v1 (x1.1 : (List Int))]) [Item.box pb1 [u1, (.int .i64 x3.2.2.1), (.int .i64 x3.2.2.2)]] hC6
 refine WL_call Try.call41 rfl rfl (c_S_l1Below pb1 (a1.1, x3.2.2.1, x3.2.2.2) u1 (RO.lent g1 hC6.keep hF4) 20 hH4 hn4 x4 hr4) ?_
 rintro _ w4 ⟨rfl, hq4⟩
 have hC7 : Ctx Fs.flatten w0 w4 [Item.box pb1 [u1, (.int .i64 x4.2.2.1), (.int .i64 x4.2.2.2)], Item.own v3 (x3.1 : (List (Int × (List Int)))), Item.own v2 (x2.1 : (List (Int × (List Int) × Int × Int × Int))), Item.own v1 (x1.1 : (List Int))] := hb4 _ _ hq4
 refine WL_nil ?_
 refine W_block ?_
 refine W_seq_reg ?_
 refine WL_eql rfl rfl rfl ?_
 refine WL_assign rfl rfl ?_
 refine WL_nil ?_
 obtain ⟨r1, hr5, hF⟩ := bind_some hF
 refine W_norm (fun l w => ∃ x5 : Int, ∃ x6 : Int, ∃ v4 : Value, ∃ x7 : (List Int), ∃ v5 : Value, ∃ x8 : (List (Int × (List Int) × Int × Int × Int)), ∃ v6 : Value, ∃ x9 : (List (Int × (List Int))), (x5, x6, x7, x8, x9) = r1 ∧ l = [(5, v4), (6, v5), (7, v6)] ∧ Ctx Fs.flatten w0 w [Item.box pb1 [u1, (.int .i64 x5), (.int .i64 x6)], Item.own v6 (x9 : (List (Int × (List Int)))), Item.own v5 (x8 : (List (Int × (List Int) × Int × Int × Int))), Item.own v4 (x7 : (List Int))]) ?_ ?_
 ·refine W_cond rfl (fun hc1 => ?_) (fun hc1 => ?_)
  ·replace hr5 := ite_t hr5 hc1
   refine W_reg ?_
   refine WL_move rfl rfl ?_
   refine WL_move rfl rfl ?_
   refine WL_move rfl rfl ?_
   obtain ⟨x10, hr6, hr5⟩ := bind_some hr5
   obtain ⟨Fs5, hH5, hn5, hF5, hO5, hb5⟩ := Ctx.lend2 (As := [Item.own v3 (x3.1 : (List (Int × (List Int)))), Item.own v2 (x2.1 : (List (Int × (List Int) × Int × Int × Int))), Item.own v1 (x1.1 : (List Int))]) [Item.box pb1 [u1, (.int .i64 x4.2.2.1), (.int .i64 x4.2.2.2)]] hC7
   refine WL_call Try.call50 rfl rfl (c_S_l5AnyMethod pb1 (a1.1, x4.2.2.1, x4.2.2.2) u1 (RO.lent g1 hC7.keep hF5) x1.1 v1 (hO5 2 _ _ _ rfl) hH5 hn5 x10 hr6) ?_
   rintro v7 w6 ⟨_, rfl, hq5⟩
   have hC9 : Ctx Fs.flatten w0 w6 [Item.own v7 (x10.1 : (Int × (List Int) × Int × Int × Int)), Item.box pb1 [u1, (.int .i64 x10.2.2.1), (.int .i64 x10.2.2.2)], Item.own v3 (x3.1 : (List (Int × (List Int)))), Item.own v2 (x2.1 : (List (Int × (List Int) × Int × Int × Int))), Item.own v1 (x1.1 : (List Int))] := hb5 _ _ hq5
   obtain ⟨v8, rfl, hC10⟩ := st47_own hC9
   refine WL_buildSlice (vs := [(.agg #[(.int .i64 x10.1.1), v8, (.int .i64 x10.1.2.2.1), (.int .i64 x10.1.2.2.2.1), (.int .i64 x10.1.2.2.2.2)])]) hC10 Try.underlying29 ty47 rfl rfl rfl rfl (by intro v hv; simp only [List.mem_cons, List.not_mem_nil, or_false] at hv; rcases hv with rfl <;> rfl) rfl rfl (fun b1 w7 hC11 hB2 => ?_)
   have hC12 := hC11.row0 (α := (Int × (List Int) × Int × Int × Int))
   have hC14 := hC12.f2
   have hC13 := own_st47 x10.1.1 v8 x10.1.2.1 x10.1.2.2.1 x10.1.2.2.2.1 x10.1.2.2.2.2 hC14
   have hC15 := hC13.row1
   have hC16 := hC15.front 1 rfl
   dsimp only [List.eraseIdx, List.cons_append, List.nil_append, List.append_nil] at hC16
   have hC17 : Ctx Fs.flatten w0 w7 (Item.own (.slice (some ⟨b1, 0, none⟩) 1 1) ([(x10.1.1, x10.1.2.1, x10.1.2.2.1, x10.1.2.2.2.1, x10.1.2.2.2.2)] : List (Int × (List Int) × Int × Int × Int)) :: [Item.box pb1 [u1, (.int .i64 x10.2.2.1), (.int .i64 x10.2.2.2)], Item.own v3 (x3.1 : (List (Int × (List Int)))), Item.own v2 (x2.1 : (List (Int × (List Int) × Int × Int × Int))), Item.own v1 (x1.1 : (List Int))]) := hC16.rowOwn (by simp [maxLen])
   obtain ⟨x11, hx1, hr5⟩ := bind_some hr5
   refine WL_append_head hC17 2 rfl Try.underlying29 ty47 rfl hx1 rfl rfl rfl (fun v9 w9 hC18 => ?_)
   try dsimp only [List.set] at hC18
   refine WL_assign rfl rfl ?_
   refine WL_nil ?_
   have hq6 := Option.some.inj hr5
   subst hq6
   refine nrm_sub (l' := [(5, v1), (6, v9), (7, v3)]) ⟨rfl, rfl, rfl, trivial⟩ ?_
   exact ⟨x10.2.2.1, x10.2.2.2, v1, x1.1, v9, x11, v3, x3.1, rfl, rfl, hC18⟩
  replace hr5 := ite_f hr5 hc1
  refine W_seq_reg ?_
  refine WL_eql rfl rfl rfl ?_
  refine WL_assign rfl rfl ?_
  refine WL_nil ?_
  obtain ⟨r2, hr7, hr5⟩ := bind_some hr5
  refine W_norm (fun l w => ∃ x12 : Int, ∃ x13 : Int, ∃ v10 : Value, ∃ x14 : (List Int), ∃ v11 : Value, ∃ x15 : (List (Int × (List Int))), (x12, x13, x14, x15) = r2 ∧ l = [(5, v10), (6, v2), (7, v11)] ∧ Ctx Fs.flatten w0 w [Item.box pb1 [u1, (.int .i64 x12), (.int .i64 x13)], Item.own v11 (x15 : (List (Int × (List Int)))), Item.own v2 (x2.1 : (List (Int × (List Int) × Int × Int × Int))), Item.own v10 (x14 : (List Int))]) ?_ ?_
  ·refine W_cond rfl (fun hc2 => ?_) (fun hc2 => ?_)
   ·replace hr7 := ite_t hr7 hc2
    refine W_reg ?_
    refine WL_move rfl rfl ?_
    refine WL_move rfl rfl ?_
    obtain ⟨x16, hr8, hr7⟩ := bind_some hr7
    obtain ⟨Fs6, hH6, hn6, hF6, hO6, hb6⟩ := Ctx.lend2 (As := [Item.own v3 (x3.1 : (List (Int × (List Int)))), Item.own v2 (x2.1 : (List (Int × (List Int) × Int × Int × Int))), Item.own v1 (x1.1 : (List Int))]) [Item.box pb1 [u1, (.int .i64 x4.2.2.1), (.int .i64 x4.2.2.2)]] hC7
    refine WL_call Try.call51 rfl rfl (c_S_l2AnyFacts pb1 (a1.1, x4.2.2.1, x4.2.2.2) u1 (RO.lent g1 hC7.keep hF6) x1.1 v1 (hO6 2 _ _ _ rfl) hH6 hn6 x16 hr8) ?_
    rintro v12 w11 ⟨_, rfl, hq7⟩
    have hC21 : Ctx Fs.flatten w0 w11 [Item.own v12 (x16.1 : (List (Int × (List Int)))), Item.box pb1 [u1, (.int .i64 x16.2.2.1), (.int .i64 x16.2.2.2)], Item.own v3 (x3.1 : (List (Int × (List Int)))), Item.own v2 (x2.1 : (List (Int × (List Int) × Int × Int × Int))), Item.own v1 (x1.1 : (List Int))] := hb6 _ _ hq7
    refine WL_assign rfl rfl ?_
    refine WL_nil ?_
    have hq8 := Option.some.inj hr7
    subst hq8
    have hC22 := hC21.f4
    have hC23 := hC22.f4
    have hC24 := hC23.f2
    have hC25 := hC24.f3
    have hC26 := hC25.h4
    refine nrm_sub (l' := [(5, v1), (6, v2), (7, v12)]) ⟨rfl, rfl, rfl, trivial⟩ ?_
    exact ⟨x16.2.2.1, x16.2.2.2, v1, x1.1, v12, x16.1, rfl, rfl, hC26⟩
   replace hr7 := ite_f hr7 hc2
   refine W_seq_reg ?_
   refine WL_eql rfl rfl rfl ?_
   refine WL_assign rfl rfl ?_
   refine WL_nil ?_
   obtain ⟨r3, hr9, hr7⟩ := bind_some hr7
   refine W_norm (fun l w => ∃ x17 : Int, ∃ x18 : Int, ∃ v13 : Value, ∃ x19 : (List Int), (x17, x18, x19) = r3 ∧ l = [(5, v13), (6, v2), (7, v3)] ∧ Ctx Fs.flatten w0 w [Item.box pb1 [u1, (.int .i64 x17), (.int .i64 x18)], Item.own v3 (x3.1 : (List (Int × (List Int)))), Item.own v2 (x2.1 : (List (Int × (List Int) × Int × Int × Int))), Item.own v13 (x19 : (List Int))]) ?_ ?_
   ·refine W_cond rfl (fun hc3 => ?_) (fun hc3 => ?_)
    ·replace hr9 := ite_t hr9 hc3
     refine W_reg ?_
     refine WL_move rfl rfl ?_
     obtain ⟨x20, hr10, hr9⟩ := bind_some hr9
     obtain ⟨Fs7, hH7, hn7, hF7, hO7, hb7⟩ := Ctx.lend2 (As := [Item.own v3 (x3.1 : (List (Int × (List Int)))), Item.own v2 (x2.1 : (List (Int × (List Int) × Int × Int × Int))), Item.own v1 (x1.1 : (List Int))]) [Item.box pb1 [u1, (.int .i64 x4.2.2.1), (.int .i64 x4.2.2.2)]] hC7
     refine WL_call Try.call52 rfl rfl (c_S_l2AnySchema pb1 (a1.1, x4.2.2.1, x4.2.2.2) u1 (RO.lent g1 hC7.keep hF7) hH7 hn7 x20 hr10) ?_
     rintro v14 w13 ⟨_, rfl, hq9⟩
     have hC28 : Ctx Fs.flatten w0 w13 [Item.own v14 (x20.1 : (List Int)), Item.box pb1 [u1, (.int .i64 x20.2.2.1), (.int .i64 x20.2.2.2)], Item.own v3 (x3.1 : (List (Int × (List Int)))), Item.own v2 (x2.1 : (List (Int × (List Int) × Int × Int × Int))), Item.own v1 (x1.1 : (List Int))] := hb7 _ _ hq9
     refine WL_assign rfl rfl ?_
     refine WL_nil ?_
     have hq10 := Option.some.inj hr9
     subst hq10
     have hC29 := hC28.f3
     have hC30 := hC29.f3
     have hC31 := hC30.f3
     have hC32 := hC31.h4
     refine nrm_sub (l' := [(5, v14), (6, v2), (7, v3)]) ⟨rfl, rfl, rfl, trivial⟩ ?_
     exact ⟨x20.2.2.1, x20.2.2.2, v14, x20.1, rfl, rfl, hC32⟩
    replace hr9 := ite_f hr9 hc3
    refine W_skip ?_
    have hq11 := Option.some.inj hr9
    subst hq11
    refine nrm_sub (l' := [(5, v1), (6, v2), (7, v3)]) ⟨rfl, rfl, rfl, trivial⟩ ?_
    exact ⟨x4.2.2.1, x4.2.2.2, v1, x1.1, rfl, rfl, hC7⟩
   rintro l3 _ w12 hs3 ⟨x17, x18, v13, x19, rfl, rfl, hC27⟩
   try dsimp only at hr7
   have hq12 := Option.some.inj hr7
   subst hq12
   refine nrm_subs (l2 := [(5, v13), (6, v2), (7, v3)]) hs3 ⟨rfl, rfl, rfl, trivial⟩ ?_
   exact ⟨x17, x18, v13, x19, v3, x3.1, rfl, rfl, hC27⟩
  rintro l2 _ w10 hs2 ⟨x12, x13, v10, x14, v11, x15, rfl, rfl, hC20⟩
  try dsimp only at hr5
  have hq13 := Option.some.inj hr5
  subst hq13
  refine nrm_subs (l2 := [(5, v10), (6, v2), (7, v11)]) hs2 ⟨rfl, rfl, rfl, trivial⟩ ?_
  exact ⟨x12, x13, v10, x14, v2, x2.1, v11, x15, rfl, rfl, hC20⟩
 rintro l1 _ w5 hs1 ⟨x5, x6, v4, x7, v5, x8, v6, x9, rfl, rfl, hC8⟩
 try dsimp only at hF
 refine blk_normal ?_
 refine nrm_sub' hs1 ?_
 clear hs1
 refine W_seq_reg ?_
 refine WL_move rfl rfl ?_
 refine WL_move rfl rfl ?_
 refine WL_move rfl rfl ?_
 refine WL_assign rfl rfl ?_
 refine WL_assign rfl rfl ?_
 refine WL_assign rfl rfl ?_
 refine WL_nil ?_
 refine W_ret ?_
 have hq14 := Option.some.inj hF
 subst hq14
 refine fn_ret3 rfl rfl rfl rfl ?_
 have hC33 := hC8.f1
 have hC34 := hC33.f2
 have hC35 := hC34.f3
 exact ⟨_, rfl, _, _, _, rfl, hC35⟩

theorem c_S_l5Access {w0 : World} {Fs : List (List Nat)} (pb1 : Nat) (a1 : ((List UInt8) × Int × Int)) (u1 : Value) (g1 : RO Fs.flatten w0 u1 a1.1) (a2 : (List (Int × (List Int) × Int × Int × Int))) (u2 : Value) (g2 : RO Fs.flatten w0 u2 a2) (hH : Hold [Item.box pb1 [u1, (.int .i64 a1.2.1), (.int .i64 a1.2.2)]] w0 Fs) (hn : Fs.flatten.Nodup) (rr : ((Int × (List Int)) × ((List UInt8) × Int × Int))) (hF : S.l5Access a1 a2 = some rr) :
 Calls Try.prog 54 [(ptr pb1 0), u2].toArray w0 fun e w' => ∃ v, e = .returned v ∧ ∃ q0 : Value, v = q0 ∧ Ctx Fs.flatten w0 w' [Item.own q0 (rr.1 : (Int × (List Int))), Item.box pb1 [u1, (.int .i64 rr.2.2.1), (.int .i64 rr.2.2.2)]] := by
 refine calls_of_W Try.func54 rfl rfl ?_
 have hC0 := Ctx.startIn hH hn
 unfold S.l5Access at hF
 refine W_seq_reg ?_
 refine WL_allocK hC0 zero45 rfl rfl (fun b1 w1 hC1 hB1 hN1 => ?_)
 refine WL_nil ?_
 refine W_seq ?_
 refine W_seq_reg ?_
 refine WL_move rfl rfl ?_
 refine WL_len Try.underlying29 g2 rfl rfl ?_
 refine WL_eql rfl rfl rfl ?_
 refine WL_nil ?_
 refine W_cond rfl (fun hc1 => ?_) (fun hc1 => ?_)
 ·replace hF := ite_t hF hc1
  refine W_seq_reg ?_
  refine WL_build (vs := []) rfl rfl rfl built45 ?_
  refine WL_store_box_aggK (cs' := [(.int .i64 0), (.slice none 0 0)]) (new := [(.int .i64 0), (.slice none 0 0)]) hC1 0 rfl rfl (by intro v hv; simp only [List.mem_cons, List.not_mem_nil, or_false] at hv; rcases hv with rfl | rfl; exact rfl; exact rfl) rfl Try.sizeOf45 rfl rfl (fun w2 hC2 hKp1 => ?_)
  try dsimp only [List.set] at hC2
  have hk1 := Keep.over (Keep.of hB1) hN1 hKp1
  refine WL_nil ?_
  refine W_ret ?_
  refine nrm_ret ?_
  have hq1 := Option.some.inj hF
  subst hq1
  refine fn_retG1 rfl (rv_cell_agg (cs' := [(.int .i64 0), (.slice none 0 0)]) hC2 (i := 0) rfl rfl rfl Try.isAgg45 Try.sizeOf45 rfl) ?_
  have hC3 := hC2.f1
  have hC5 := hC3.triv (nil_val (α := Int))
  have hC4 := own_st45 0 (.slice none 0 0) ([]) hC5
  have hC6 := hC4.h2
  exact ⟨_, rfl, _, rfl, hC6⟩
 replace hF := ite_f hF hc1
 refine W_skip ?_
 refine nrm_normal ?_
 refine W_seq_reg ?_
 refine WL_move rfl rfl ?_
 refine WL_move rfl rfl ?_
 refine WL_len Try.underlying29 g2 rfl rfl ?_
 obtain ⟨x1, hr1, hF⟩ := bind_some hF
 have hC7 := hC1.f1
 obtain ⟨Fs1, hH1, hn1, hF1, hO1, hb1⟩ := Ctx.lend2 (As := [Item.box b1 [(.int .i64 0), (.slice none 0 0)]]) [Item.box pb1 [u1, (.int .i64 a1.2.1), (.int .i64 a1.2.2)]] hC7
 refine WL_call Try.call41 rfl rfl (c_S_l1Below pb1 (a1.1, a1.2.1, a1.2.2) u1 (RO.lent g1 hC7.keep hF1) (List.length a2 : Int) hH1 hn1 x1 hr1) ?_
 rintro _ w3 ⟨rfl, hq2⟩
 have hC8 : Ctx Fs.flatten w0 w3 [Item.box pb1 [u1, (.int .i64 x1.2.2.1), (.int .i64 x1.2.2.2)], Item.box b1 [(.int .i64 0), (.slice none 0 0)]] := hb1 _ _ hq2
 refine WL_build (vs := [(0, (.int .i64 x1.1))]) rfl rfl rfl (built45_0 rfl) ?_
 refine WL_allocK hC8 zero45 rfl rfl (fun b2 w4 hC9 hB2 hN2 => ?_)
 refine WL_store_box_aggK (cs' := [(.int .i64 x1.1), (.slice none 0 0)]) (new := [(.int .i64 x1.1), (.slice none 0 0)]) hC9 0 rfl rfl (by intro v hv; simp only [List.mem_cons, List.not_mem_nil, or_false] at hv; rcases hv with rfl | rfl; exact rfl; exact rfl) rfl Try.sizeOf45 rfl rfl (fun w5 hC10 hKp2 => ?_)
 try dsimp only [List.set] at hC10
 have hk2 := Keep.over (Keep.of hB2) hN2 hKp2
 refine WL_nil ?_
 refine W_seq ?_
 refine W_seq_reg ?_
 refine WL_assign rfl rfl ?_
 refine WL_nil ?_
 obtain ⟨r1, hr2, hF⟩ := bind_some hF
 refine W_norm (fun l w => ∃ x7 : Int, ∃ v2 : Value, ∃ x8 : (List Int), ∃ x9 : Int, ∃ x10 : Int, (x7, x8, x9, x10) = r1 ∧ l = [(4, (ptr b1 0)), (5, (ptr b2 0))] ∧ Ctx Fs.flatten w0 w [Item.own v2 (x8 : (List Int)), Item.box b2 [(.int .i64 x7), v2], Item.box pb1 [u1, (.int .i64 x9), (.int .i64 x10)], Item.box b1 [(.int .i64 0), (.slice none 0 0)]]) ?_ ?_
 ·refine W_block ?_
  have hC27 := hC10.triv (nil_val (α := Int))
  refine W.sub (l' := [(0, (ptr pb1 0)), (1, u2), (4, (ptr b1 0)), (5, (ptr b2 0)), (6, (.int .i64 0))]) ?_ ⟨rfl, rfl, rfl, rfl, rfl, trivial⟩
  refine W_loop (fun k l w => ∃ x2 : Int, ∃ v1 : Value, ∃ x3 : (List Int), ∃ x4 : Int, ∃ x5 : Int, ∃ x6 : Int, l = [(0, (ptr pb1 0)), (1, u2), (4, (ptr b1 0)), (5, (ptr b2 0)), (6, (.int .i64 x6))] ∧ Ctx Fs.flatten w0 w [Item.own v1 (x3 : (List Int)), Item.box b2 [(.int .i64 x2), v1], Item.box pb1 [u1, (.int .i64 x4), (.int .i64 x5)], Item.box b1 [(.int .i64 0), (.slice none 0 0)]] ∧ S.l5Access_l1 a2 a1 k x2 x3 x4 x5 x6 = some r1) FUEL ⟨x1.1, (.slice none 0 0), [], x1.2.2.1, x1.2.2.2, 0, rfl, hC27, hr2⟩ ?_
  clear hr2
  rintro k1 _ w6 ⟨x2, v1, x3, x4, x5, x6, rfl, hC11, hL1⟩
  cases k1 with
  | zero => rw [S.l5Access_l1] at hL1; cases hL1
  | succ k1 =>
   rw [S.l5Access_l1] at hL1
   refine W_seq ?_
   refine W_seq_reg ?_
   refine WL_move rfl rfl ?_
   refine WL_move rfl rfl ?_
   refine WL_field Try.underlying45 rfl rfl (fun w => ⟨_, Try.sizeOf3 w⟩) rfl rfl ?_
   refine WL_load_box hC11 1 rfl rfl Try.isAgg3 rfl rfl ?_
   obtain ⟨x11, hx1, hL1⟩ := bind_some hL1
   refine WL_index Try.underlying29 ty47 g2 hx1 rfl rfl rfl (fun b3 o1 h1 => ?_)
   refine WL_field Try.underlying47 rfl rfl (fun w => ⟨_, Try.sizeOf26 w⟩) rfl rfl ?_
   refine WL_load ty26 h1.snd.fst hC11.keep rfl rfl (fun v3 h2 => ?_)
   refine WL_len Try.underlying26 h2 rfl rfl ?_
   refine WL_lss rfl rfl rfl ?_
   refine WL_nil ?_
   refine W_cond rfl (fun hc2 => ?_) (fun hc2 => ?_)
   ·replace hL1 := ite_t hL1 hc2
    refine W_skip ?_
    refine nrm_normal ?_
    refine W_seq ?_
    refine W_block ?_
    refine W_seq_reg ?_
    refine WL_move rfl rfl ?_
    obtain ⟨x12, hr3, hL1⟩ := bind_some hL1
    have hC12 := hC11.f2
    obtain ⟨Fs2, hH2, hn2, hF2, hO2, hb2⟩ := Ctx.lend2 (As := [Item.own v1 (x3 : (List Int)), Item.box b2 [(.int .i64 x2), v1], Item.box b1 [(.int .i64 0), (.slice none 0 0)]]) [Item.box pb1 [u1, (.int .i64 x4), (.int .i64 x5)]] hC12
    refine WL_call Try.call41 rfl rfl (c_S_l1Below pb1 (a1.1, x4, x5) u1 (RO.lent g1 hC12.keep hF2) 4 hH2 hn2 x12 hr3) ?_
    rintro _ w7 ⟨rfl, hq3⟩
    have hC13 : Ctx Fs.flatten w0 w7 [Item.box pb1 [u1, (.int .i64 x12.2.2.1), (.int .i64 x12.2.2.2)], Item.own v1 (x3 : (List Int)), Item.box b2 [(.int .i64 x2), v1], Item.box b1 [(.int .i64 0), (.slice none 0 0)]] := hb2 _ _ hq3
    refine WL_assign rfl rfl ?_
    refine WL_nil ?_
    refine W_reg ?_
    refine WL_field Try.underlying45 rfl rfl (fun w => ⟨_, Try.sizeOf26 w⟩) rfl rfl ?_
    refine WL_load_box hC13 2 rfl rfl Try.isAgg26 rfl rfl ?_
    refine WL_move rfl rfl ?_
    refine WL_buildSlice (vs := [(.int .i64 x12.1)]) hC13 Try.underlying26 ty3 rfl rfl rfl rfl (by intro v hv; simp only [List.mem_cons, List.not_mem_nil, or_false] at hv; rcases hv with rfl <;> rfl) rfl rfl (fun b4 w9 hC14 hB4 => ?_)
    have hC15 := hC14.row0 (α := Int)
    have hC16 := hC15.triv (int_val (x12.1))
    have hC17 := hC16.row1
    have hC18 := hC17.front 1 rfl
    dsimp only [List.eraseIdx, List.cons_append, List.nil_append, List.append_nil] at hC18
    have hC19 : Ctx Fs.flatten w0 w9 (Item.own (.slice (some ⟨b4, 0, none⟩) 1 1) ([x12.1] : List Int) :: [Item.box pb1 [u1, (.int .i64 x12.2.2.1), (.int .i64 x12.2.2.2)], Item.own v1 (x3 : (List Int)), Item.box b2 [(.int .i64 x2), v1], Item.box b1 [(.int .i64 0), (.slice none 0 0)]]) := hC18.rowOwn (by simp [maxLen])
    obtain ⟨x13, hx2, hL1⟩ := bind_some hL1
    refine WL_append_flat (α := Int) hC19 2 rfl (hC19.ro 0 rfl) (Keep.refl _ _) Try.underlying26 ty3 rfl hx2 rfl rfl rfl (fun v4 w10 hC20 => ?_)
    try dsimp only [List.set] at hC20
    refine WL_field Try.underlying45 rfl rfl (fun w => ⟨_, Try.sizeOf26 w⟩) rfl rfl ?_
    refine WL_store_boxK (cs' := [(.int .i64 x2), v4]) hC20 3 rfl rfl (ro_one (hC20.ro 2 rfl)) rfl Try.sizeOf26 rfl rfl (fun w11 hC21 hKp3 => ?_)
    try dsimp only [List.set] at hC21
    refine WL_nil ?_
    refine blk_normal ?_
    refine nrm_normal ?_
    refine W_reg ?_
    refine WL_move rfl rfl ?_
    refine WL_add rfl rfl rfl ?_
    refine WL_assign rfl rfl ?_
    refine WL_nil ?_
    have hC22 := hC21.f4
    have hC23 := hC22.f2
    have hC24 := hC23.f4
    have hC25 := hC24.f4
    have hC26 := hC25.h4
    refine nrm_sub (l' := [(0, (ptr pb1 0)), (1, u2), (4, (ptr b1 0)), (5, (ptr b2 0)), (6, (.int .i64 (w64 (x6 + 1))))]) ⟨rfl, rfl, rfl, rfl, rfl, trivial⟩ ?_
    exact ⟨k1, Nat.lt_succ_self _, x2, v4, x13, x12.2.2.1, x12.2.2.2, w64 (x6 + 1), rfl, hC26, hL1⟩
   replace hL1 := ite_f hL1 hc2
   refine W_exit ?_
   refine nrm_exit ?_
   refine nrm_exit ?_
   refine blk_exit ?_
   have hq4 := Option.some.inj hL1
   subst hq4
   refine nrm_sub (l' := [(4, (ptr b1 0)), (5, (ptr b2 0))]) ⟨rfl, rfl, trivial⟩ ?_
   exact ⟨x2, v1, x3, x4, x5, rfl, rfl, hC11⟩
 rintro l2 _ w12 hs2 ⟨x7, v2, x8, x9, x10, rfl, rfl, hC28⟩
 try dsimp only at hF
 refine nrm_sub' hs2 ?_
 clear hs2
 refine W_seq_reg ?_
 refine WL_load_box_agg [(.int .i64 x7), v2] hC28 1 rfl rfl rfl Try.isAgg45 Try.sizeOf45 rfl rfl ?_
 refine WL_store_box_aggK (cs' := [(.int .i64 x7), v2]) (new := [(.int .i64 x7), v2]) hC28 3 rfl rfl (by intro v hv; simp only [List.mem_cons, List.not_mem_nil, or_false] at hv; rcases hv with rfl | rfl; exact rfl; exact (ro_one (hC28.ro 0 rfl))) rfl Try.sizeOf45 rfl rfl (fun w13 hC29 hKp4 => ?_)
 try dsimp only [List.set] at hC29
 refine WL_nil ?_
 refine W_ret ?_
 have hq5 := Option.some.inj hF
 subst hq5
 refine fn_retG1 rfl (rv_cell_agg (cs' := [(.int .i64 x7), v2]) hC29 (i := 3) rfl rfl rfl Try.isAgg45 Try.sizeOf45 rfl) ?_
 have hC30 := hC29.f2
 have hC32 := hC30.f1
 have hC31 := own_st45 x7 v2 x8 hC32
 have hC33 := hC31.h2
 exact ⟨_, rfl, _, rfl, hC33⟩

theorem c_S_l5AnyAccess {w0 : World} {Fs : List (List Nat)} (pb1 : Nat) (a1 : ((List UInt8) × Int × Int)) (u1 : Value) (g1 : RO Fs.flatten w0 u1 a1.1) (a2 : (List (Int × (List Int) × Int × Int × Int))) (u2 : Value) (g2 : RO Fs.flatten w0 u2 a2) (hH : Hold [Item.box pb1 [u1, (.int .i64 a1.2.1), (.int .i64 a1.2.2)]] w0 Fs) (hn : Fs.flatten.Nodup) (rr : ((Int × (List Int)) × ((List UInt8) × Int × Int))) (hF : S.l5AnyAccess a1 a2 = some rr) :
 Calls Try.prog 42 [(ptr pb1 0), u2].toArray w0 fun e w' => ∃ v, e = .returned v ∧ ∃ q0 : Value, v = q0 ∧ Ctx Fs.flatten w0 w' [Item.own q0 (rr.1 : (Int × (List Int))), Item.box pb1 [u1, (.int .i64 rr.2.2.1), (.int .i64 rr.2.2.2)]] := by
 refine calls_of_W Try.func42 rfl rfl ?_
 have hC0 := Ctx.startIn hH hn
 unfold S.l5AnyAccess at hF
 refine W_seq_reg ?_
 refine WL_allocK hC0 zero45 rfl rfl (fun b1 w1 hC1 hB1 hN1 => ?_)
 refine WL_nil ?_
 refine W_seq_reg ?_
 refine WL_move rfl rfl ?_
 refine WL_move rfl rfl ?_
 obtain ⟨x1, hr1, hF⟩ := bind_some hF
 have hC2 := hC1.f1
 obtain ⟨Fs1, hH1, hn1, hF1, hO1, hb1⟩ := Ctx.lend2 (As := [Item.box b1 [(.int .i64 0), (.slice none 0 0)]]) [Item.box pb1 [u1, (.int .i64 a1.2.1), (.int .i64 a1.2.2)]] hC2
 refine WL_call Try.call54 rfl rfl (c_S_l5Access pb1 (a1.1, a1.2.1, a1.2.2) u1 (RO.lent g1 hC2.keep hF1) a2 u2 (RO.lent g2 hC2.keep hF1) hH1 hn1 x1 hr1) ?_
 rintro v1 w2 ⟨_, rfl, hq1⟩
 have hC3 : Ctx Fs.flatten w0 w2 [Item.own v1 (x1.1 : (Int × (List Int))), Item.box pb1 [u1, (.int .i64 x1.2.2.1), (.int .i64 x1.2.2.2)], Item.box b1 [(.int .i64 0), (.slice none 0 0)]] := hb1 _ _ hq1
 obtain ⟨v2, rfl, hC4⟩ := st45_own hC3
 refine WL_allocK hC4 zero45 rfl rfl (fun b2 w3 hC5 hB2 hN2 => ?_)
 refine WL_store_box_aggK (cs' := [(.int .i64 x1.1.1), v2]) (new := [(.int .i64 x1.1.1), v2]) hC5 0 rfl rfl (by intro v hv; simp only [List.mem_cons, List.not_mem_nil, or_false] at hv; rcases hv with rfl | rfl; exact rfl; exact (ro_one (hC5.ro 1 rfl))) rfl Try.sizeOf45 rfl rfl (fun w4 hC6 hKp1 => ?_)
 try dsimp only [List.set] at hC6
 have hk1 := Keep.over (Keep.of hB2) hN2 hKp1
 refine WL_nil ?_
 refine W_seq ?_
 refine W_seq_reg ?_
 refine WL_move rfl rfl ?_
 obtain ⟨x2, hr2, hF⟩ := bind_some hF
 have hC7 := hC6.f2
 obtain ⟨Fs2, hH2, hn2, hF2, hO2, hb2⟩ := Ctx.lend2 (As := [Item.box b2 [(.int .i64 x1.1.1), v2], Item.own v2 (x1.1.2 : (List Int)), Item.box b1 [(.int .i64 0), (.slice none 0 0)]]) [Item.box pb1 [u1, (.int .i64 x1.2.2.1), (.int .i64 x1.2.2.2)]] hC7
 refine WL_call Try.call41 rfl rfl (c_S_l1Below pb1 (a1.1, x1.2.2.1, x1.2.2.2) u1 (RO.lent g1 hC7.keep hF2) 12 hH2 hn2 x2 hr2) ?_
 rintro _ w5 ⟨rfl, hq2⟩
 have hC8 : Ctx Fs.flatten w0 w5 [Item.box pb1 [u1, (.int .i64 x2.2.2.1), (.int .i64 x2.2.2.2)], Item.box b2 [(.int .i64 x1.1.1), v2], Item.own v2 (x1.1.2 : (List Int)), Item.box b1 [(.int .i64 0), (.slice none 0 0)]] := hb2 _ _ hq2
 refine WL_nil ?_
 refine W_block ?_
 refine W_seq_reg ?_
 refine WL_eql rfl rfl rfl ?_
 refine WL_assign rfl rfl ?_
 refine WL_nil ?_
 obtain ⟨r1, hr3, hF⟩ := bind_some hF
 refine W_norm (fun l w => ∃ x3 : Int, ∃ x4 : Int, ∃ x5 : Int, ∃ v3 : Value, ∃ x6 : (List Int), (x3, x4, x5, x6) = r1 ∧ l = [(4, (ptr b1 0)), (5, (ptr b2 0))] ∧ Ctx Fs.flatten w0 w [Item.box pb1 [u1, (.int .i64 x3), (.int .i64 x4)], Item.box b2 [(.int .i64 x5), v3], Item.own v3 (x6 : (List Int)), Item.box b1 [(.int .i64 0), (.slice none 0 0)]]) ?_ ?_
 ·refine W_cond rfl (fun hc1 => ?_) (fun hc1 => ?_)
  ·replace hr3 := ite_t hr3 hc1
   refine W_reg ?_
   refine WL_move rfl rfl ?_
   obtain ⟨x7, hr4, hr3⟩ := bind_some hr3
   obtain ⟨Fs3, hH3, hn3, hF3, hO3, hb3⟩ := Ctx.lend2 (As := [Item.box b2 [(.int .i64 x1.1.1), v2], Item.own v2 (x1.1.2 : (List Int)), Item.box b1 [(.int .i64 0), (.slice none 0 0)]]) [Item.box pb1 [u1, (.int .i64 x2.2.2.1), (.int .i64 x2.2.2.2)]] hC8
   refine WL_call Try.call41 rfl rfl (c_S_l1Below pb1 (a1.1, x2.2.2.1, x2.2.2.2) u1 (RO.lent g1 hC8.keep hF3) 7 hH3 hn3 x7 hr4) ?_
   rintro _ w7 ⟨rfl, hq3⟩
   have hC10 : Ctx Fs.flatten w0 w7 [Item.box pb1 [u1, (.int .i64 x7.2.2.1), (.int .i64 x7.2.2.2)], Item.box b2 [(.int .i64 x1.1.1), v2], Item.own v2 (x1.1.2 : (List Int)), Item.box b1 [(.int .i64 0), (.slice none 0 0)]] := hb3 _ _ hq3
   refine WL_sub rfl rfl rfl ?_
   refine WL_field Try.underlying45 rfl rfl (fun w => ⟨_, Try.sizeOf3 w⟩) rfl rfl ?_
   refine WL_store_boxK (cs' := [(.int .i64 (w64 (x7.1 - 1))), v2]) hC10 1 rfl rfl rfl rfl Try.sizeOf3 rfl rfl (fun w9 hC11 hKp2 => ?_)
   try dsimp only [List.set] at hC11
   refine WL_nil ?_
   have hq4 := Option.some.inj hr3
   subst hq4
   refine nrm_sub (l' := [(4, (ptr b1 0)), (5, (ptr b2 0))]) ⟨rfl, rfl, trivial⟩ ?_
   exact ⟨x7.2.2.1, x7.2.2.2, w64 (x7.1 - 1), v2, x1.1.2, rfl, rfl, hC11⟩
  replace hr3 := ite_f hr3 hc1
  refine W_seq_reg ?_
  refine WL_eql rfl rfl rfl ?_
  refine WL_assign rfl rfl ?_
  refine WL_nil ?_
  obtain ⟨r2, hr5, hr3⟩ := bind_some hr3
  refine W_norm (fun l w => ∃ x8 : Int, ∃ x9 : Int, ∃ x10 : Int, ∃ v4 : Value, ∃ x11 : (List Int), (x8, x9, x10, x11) = r2 ∧ l = [(4, (ptr b1 0)), (5, (ptr b2 0))] ∧ Ctx Fs.flatten w0 w [Item.box pb1 [u1, (.int .i64 x8), (.int .i64 x9)], Item.box b2 [(.int .i64 x10), v4], Item.own v4 (x11 : (List Int)), Item.box b1 [(.int .i64 0), (.slice none 0 0)]]) ?_ ?_
  ·refine W_cond rfl (fun hc2 => ?_) (fun hc2 => ?_)
   ·replace hr5 := ite_t hr5 hc2
    obtain ⟨r3, hr6, hr5⟩ := bind_some hr5
    refine W_norm (fun l w => ∃ x12 : Int, ∃ x13 : Int, ∃ x14 : Int, ∃ v5 : Value, ∃ x15 : (List Int), (x12, x13, x14, x15) = r3 ∧ l = [(4, (ptr b1 0)), (5, (ptr b2 0))] ∧ Ctx Fs.flatten w0 w [Item.box pb1 [u1, (.int .i64 x12), (.int .i64 x13)], Item.box b2 [(.int .i64 x14), v5], Item.own v5 (x15 : (List Int)), Item.box b1 [(.int .i64 0), (.slice none 0 0)]]) ?_ ?_
    ·refine W_drawn 9 rfl hmix (fun w12 hB6 => ?_)
     have hC14 := hC8.grow hB6
     refine WA_tk 0 (by kernel_rfl) rfl rfl (fl_field Try.underlying45 rfl rfl (fun w => ⟨_, Try.sizeOf26 w⟩) rfl) ?_
     refine WL_field Try.underlying45 rfl rfl (fun w => ⟨_, Try.sizeOf26 w⟩) rfl rfl ?_
     refine WL_nil ?_
     refine WA_tk 2 (by kernel_rfl) rfl rfl (fl_move rfl) ?_
     refine WL_move rfl rfl ?_
     refine WL_nil ?_
     refine WA_all2 (i := 1) (j := 3) (by kernel_rfl) rfl rfl ?_ ?_
     ·refine WL_load_box hC14 1 rfl rfl Try.isAgg26 rfl rfl ?_
      refine WL_nil ?_
      refine WA_one 3 (by kernel_rfl) rfl ?_
      refine WL_buildSlice (vs := [(.int .i64 (-1)), (.int .i64 3), (.int .i64 10)]) hC14 Try.underlying26 ty3 rfl rfl rfl rfl (by intro v hv; simp only [List.mem_cons, List.not_mem_nil, or_false] at hv; rcases hv with rfl | rfl | rfl <;> rfl) rfl rfl (fun b3 w13 hC15 hB7 => ?_)
      have hC16 := hC15.row0 (α := Int)
      have hC17 := hC16.triv (int_val (10))
      have hC18 := hC17.row1
      have hC19 := hC18.triv (int_val (3))
      have hC20 := hC19.row1
      have hC21 := hC20.triv (int_val ((-1)))
      have hC22 := hC21.row1
      have hC23 := hC22.front 1 rfl
      dsimp only [List.eraseIdx, List.cons_append, List.nil_append, List.append_nil] at hC23
      have hC24 : Ctx Fs.flatten w0 w13 (Item.own (.slice (some ⟨b3, 0, none⟩) 3 3) ([(-1), 3, 10] : List Int) :: [Item.box pb1 [u1, (.int .i64 x2.2.2.1), (.int .i64 x2.2.2.2)], Item.box b2 [(.int .i64 x1.1.1), v2], Item.own v2 (x1.1.2 : (List Int)), Item.box b1 [(.int .i64 0), (.slice none 0 0)]]) := hC23.rowOwn (by simp [maxLen])
      refine WL_nil ?_
      obtain ⟨x16, hr7, hr6⟩ := bind_some hr6
      refine WA_one 4 (by kernel_rfl) rfl ?_
      have hC25 := hC24.f1
      obtain ⟨Fs4, hH4, hn4, hF4, hO4, hb4⟩ := Ctx.lend2 (As := [Item.own (.slice (some ⟨b3, 0, none⟩) 3 3) ([(-1), 3, 10] : (List Int)), Item.box b2 [(.int .i64 x1.1.1), v2], Item.own v2 (x1.1.2 : (List Int)), Item.box b1 [(.int .i64 0), (.slice none 0 0)]]) [Item.box pb1 [u1, (.int .i64 x2.2.2.1), (.int .i64 x2.2.2.2)]] hC25
      refine WL_call Try.call55 rfl rfl (c_S_l1PickInt pb1 (a1.1, x2.2.2.1, x2.2.2.2) u1 (RO.lent g1 hC25.keep hF4) ([(-1), 3, 10]) (.slice (some ⟨b3, 0, none⟩) 3 3) (hO4 0 _ _ _ rfl) hH4 hn4 x16 hr7) ?_
      rintro _ w14 ⟨rfl, hq5⟩
      have hC26 : Ctx Fs.flatten w0 w14 [Item.box pb1 [u1, (.int .i64 x16.2.2.1), (.int .i64 x16.2.2.2)], Item.own (.slice (some ⟨b3, 0, none⟩) 3 3) ([(-1), 3, 10] : (List Int)), Item.box b2 [(.int .i64 x1.1.1), v2], Item.own v2 (x1.1.2 : (List Int)), Item.box b1 [(.int .i64 0), (.slice none 0 0)]] := hb4 _ _ hq5
      refine WL_nil ?_
      refine WA_one 5 (by kernel_rfl) rfl ?_
      refine WL_buildSlice (vs := [(.int .i64 x16.1)]) hC26 Try.underlying26 ty3 rfl rfl rfl rfl (by intro v hv; simp only [List.mem_cons, List.not_mem_nil, or_false] at hv; rcases hv with rfl <;> rfl) rfl rfl (fun b4 w15 hC27 hB8 => ?_)
      have hC28 := hC27.row0 (α := Int)
      have hC29 := hC28.triv (int_val (x16.1))
      have hC30 := hC29.row1
      have hC31 := hC30.front 1 rfl
      dsimp only [List.eraseIdx, List.cons_append, List.nil_append, List.append_nil] at hC31
      have hC32 : Ctx Fs.flatten w0 w15 (Item.own (.slice (some ⟨b4, 0, none⟩) 1 1) ([x16.1] : List Int) :: [Item.box pb1 [u1, (.int .i64 x16.2.2.1), (.int .i64 x16.2.2.2)], Item.own (.slice (some ⟨b3, 0, none⟩) 3 3) ([(-1), 3, 10] : (List Int)), Item.box b2 [(.int .i64 x1.1.1), v2], Item.own v2 (x1.1.2 : (List Int)), Item.box b1 [(.int .i64 0), (.slice none 0 0)]]) := hC31.rowOwn (by simp [maxLen])
      refine WL_nil ?_
      obtain ⟨x17, hx1, hr6⟩ := bind_some hr6
      refine WA_one 6 (by kernel_rfl) rfl ?_
      refine WL_append_flat (α := Int) hC32 4 rfl (hC32.ro 0 rfl) (Keep.refl _ _) Try.underlying26 ty3 rfl hx1 rfl rfl rfl (fun v6 w16 hC33 => ?_)
      try dsimp only [List.set] at hC33
      refine WL_nil ?_
      refine WA_tk 7 (by kernel_rfl) rfl rfl (fl_field Try.underlying45 rfl rfl (fun w => ⟨_, Try.sizeOf26 w⟩) rfl) ?_
      refine WL_field Try.underlying45 rfl rfl (fun w => ⟨_, Try.sizeOf26 w⟩) rfl rfl ?_
      refine WL_nil ?_
      refine WA_one 8 (by kernel_rfl) rfl ?_
      refine WL_store_boxK (cs' := [(.int .i64 x1.1.1), v6]) hC33 3 rfl rfl (ro_one (hC33.ro 4 rfl)) rfl Try.sizeOf26 rfl rfl (fun w17 hC34 hKp3 => ?_)
      try dsimp only [List.set] at hC34
      refine WL_nil ?_
      refine WA_done (by kernel_rfl) ?_
      have hq6 := Option.some.inj hr6
      subst hq6
      have hC35 := hC34.f5
      have hC36 := hC35.f5
      have hC37 := hC36.f5
      have hC38 := hC37.f4
      have hC39 := hC38.h4
      refine nrm_sub (l' := [(4, (ptr b1 0)), (5, (ptr b2 0))]) ⟨rfl, rfl, trivial⟩ ?_
      exact ⟨x16.2.2.1, x16.2.2.2, x1.1.1, v6, x17, rfl, rfl, hC39⟩
     refine WL_buildSlice (vs := [(.int .i64 (-1)), (.int .i64 3), (.int .i64 10)]) hC14 Try.underlying26 ty3 rfl rfl rfl rfl (by intro v hv; simp only [List.mem_cons, List.not_mem_nil, or_false] at hv; rcases hv with rfl | rfl | rfl <;> rfl) rfl rfl (fun b3 w13 hC15 hB7 => ?_)
     have hC16 := hC15.row0 (α := Int)
     have hC17 := hC16.triv (int_val (10))
     have hC18 := hC17.row1
     have hC19 := hC18.triv (int_val (3))
     have hC20 := hC19.row1
     have hC21 := hC20.triv (int_val ((-1)))
     have hC22 := hC21.row1
     have hC23 := hC22.front 1 rfl
     dsimp only [List.eraseIdx, List.cons_append, List.nil_append, List.append_nil] at hC23
     have hC24 : Ctx Fs.flatten w0 w13 (Item.own (.slice (some ⟨b3, 0, none⟩) 3 3) ([(-1), 3, 10] : List Int) :: [Item.box pb1 [u1, (.int .i64 x2.2.2.1), (.int .i64 x2.2.2.2)], Item.box b2 [(.int .i64 x1.1.1), v2], Item.own v2 (x1.1.2 : (List Int)), Item.box b1 [(.int .i64 0), (.slice none 0 0)]]) := hC23.rowOwn (by simp [maxLen])
     refine WL_nil ?_
     refine WA_all2 (i := 1) (j := 4) (by kernel_rfl) rfl rfl ?_ ?_
     ·refine WL_load_box hC24 2 rfl rfl Try.isAgg26 rfl rfl ?_
      refine WL_nil ?_
      obtain ⟨x16, hr7, hr6⟩ := bind_some hr6
      refine WA_one 4 (by kernel_rfl) rfl ?_
      have hC25 := hC24.f1
      obtain ⟨Fs4, hH4, hn4, hF4, hO4, hb4⟩ := Ctx.lend2 (As := [Item.own (.slice (some ⟨b3, 0, none⟩) 3 3) ([(-1), 3, 10] : (List Int)), Item.box b2 [(.int .i64 x1.1.1), v2], Item.own v2 (x1.1.2 : (List Int)), Item.box b1 [(.int .i64 0), (.slice none 0 0)]]) [Item.box pb1 [u1, (.int .i64 x2.2.2.1), (.int .i64 x2.2.2.2)]] hC25
      refine WL_call Try.call55 rfl rfl (c_S_l1PickInt pb1 (a1.1, x2.2.2.1, x2.2.2.2) u1 (RO.lent g1 hC25.keep hF4) ([(-1), 3, 10]) (.slice (some ⟨b3, 0, none⟩) 3 3) (hO4 0 _ _ _ rfl) hH4 hn4 x16 hr7) ?_
      rintro _ w14 ⟨rfl, hq5⟩
      have hC26 : Ctx Fs.flatten w0 w14 [Item.box pb1 [u1, (.int .i64 x16.2.2.1), (.int .i64 x16.2.2.2)], Item.own (.slice (some ⟨b3, 0, none⟩) 3 3) ([(-1), 3, 10] : (List Int)), Item.box b2 [(.int .i64 x1.1.1), v2], Item.own v2 (x1.1.2 : (List Int)), Item.box b1 [(.int .i64 0), (.slice none 0 0)]] := hb4 _ _ hq5
      refine WL_nil ?_
      refine WA_one 5 (by kernel_rfl) rfl ?_
      refine WL_buildSlice (vs := [(.int .i64 x16.1)]) hC26 Try.underlying26 ty3 rfl rfl rfl rfl (by intro v hv; simp only [List.mem_cons, List.not_mem_nil, or_false] at hv; rcases hv with rfl <;> rfl) rfl rfl (fun b4 w15 hC27 hB8 => ?_)
      have hC28 := hC27.row0 (α := Int)
      have hC29 := hC28.triv (int_val (x16.1))
      have hC30 := hC29.row1
      have hC31 := hC30.front 1 rfl
      dsimp only [List.eraseIdx, List.cons_append, List.nil_append, List.append_nil] at hC31
      have hC32 : Ctx Fs.flatten w0 w15 (Item.own (.slice (some ⟨b4, 0, none⟩) 1 1) ([x16.1] : List Int) :: [Item.box pb1 [u1, (.int .i64 x16.2.2.1), (.int .i64 x16.2.2.2)], Item.own (.slice (some ⟨b3, 0, none⟩) 3 3) ([(-1), 3, 10] : (List Int)), Item.box b2 [(.int .i64 x1.1.1), v2], Item.own v2 (x1.1.2 : (List Int)), Item.box b1 [(.int .i64 0), (.slice none 0 0)]]) := hC31.rowOwn (by simp [maxLen])
      refine WL_nil ?_
      obtain ⟨x17, hx1, hr6⟩ := bind_some hr6
      refine WA_one 6 (by kernel_rfl) rfl ?_
      refine WL_append_flat (α := Int) hC32 4 rfl (hC32.ro 0 rfl) (Keep.refl _ _) Try.underlying26 ty3 rfl hx1 rfl rfl rfl (fun v6 w16 hC33 => ?_)
      try dsimp only [List.set] at hC33
      refine WL_nil ?_
      refine WA_tk 7 (by kernel_rfl) rfl rfl (fl_field Try.underlying45 rfl rfl (fun w => ⟨_, Try.sizeOf26 w⟩) rfl) ?_
      refine WL_field Try.underlying45 rfl rfl (fun w => ⟨_, Try.sizeOf26 w⟩) rfl rfl ?_
      refine WL_nil ?_
      refine WA_one 8 (by kernel_rfl) rfl ?_
      refine WL_store_boxK (cs' := [(.int .i64 x1.1.1), v6]) hC33 3 rfl rfl (ro_one (hC33.ro 4 rfl)) rfl Try.sizeOf26 rfl rfl (fun w17 hC34 hKp3 => ?_)
      try dsimp only [List.set] at hC34
      refine WL_nil ?_
      refine WA_done (by kernel_rfl) ?_
      have hq6 := Option.some.inj hr6
      subst hq6
      have hC35 := hC34.f5
      have hC36 := hC35.f5
      have hC37 := hC36.f5
      have hC38 := hC37.f4
      have hC39 := hC38.h4
      refine nrm_sub (l' := [(4, (ptr b1 0)), (5, (ptr b2 0))]) ⟨rfl, rfl, trivial⟩ ?_
      exact ⟨x16.2.2.1, x16.2.2.2, x1.1.1, v6, x17, rfl, rfl, hC39⟩
     obtain ⟨x16, hr7, hr6⟩ := bind_some hr6
     have hC25 := hC24.f1
     obtain ⟨Fs4, hH4, hn4, hF4, hO4, hb4⟩ := Ctx.lend2 (As := [Item.own (.slice (some ⟨b3, 0, none⟩) 3 3) ([(-1), 3, 10] : (List Int)), Item.box b2 [(.int .i64 x1.1.1), v2], Item.own v2 (x1.1.2 : (List Int)), Item.box b1 [(.int .i64 0), (.slice none 0 0)]]) [Item.box pb1 [u1, (.int .i64 x2.2.2.1), (.int .i64 x2.2.2.2)]] hC25
     refine WL_call Try.call55 rfl rfl (c_S_l1PickInt pb1 (a1.1, x2.2.2.1, x2.2.2.2) u1 (RO.lent g1 hC25.keep hF4) ([(-1), 3, 10]) (.slice (some ⟨b3, 0, none⟩) 3 3) (hO4 0 _ _ _ rfl) hH4 hn4 x16 hr7) ?_
     rintro _ w14 ⟨rfl, hq5⟩
     have hC26 : Ctx Fs.flatten w0 w14 [Item.box pb1 [u1, (.int .i64 x16.2.2.1), (.int .i64 x16.2.2.2)], Item.own (.slice (some ⟨b3, 0, none⟩) 3 3) ([(-1), 3, 10] : (List Int)), Item.box b2 [(.int .i64 x1.1.1), v2], Item.own v2 (x1.1.2 : (List Int)), Item.box b1 [(.int .i64 0), (.slice none 0 0)]] := hb4 _ _ hq5
     refine WL_nil ?_
     refine WA.sub (l' := [(0, (ptr pb1 0)), (1, u2), (4, (ptr b1 0)), (5, (ptr b2 0)), (6, (ptr pb1 0)), (7, u2), (8, (.agg #[(.int .i64 x1.1.1), v2])), (9, (ptr pb1 0)), (10, (.int .i64 x2.1)), (11, (.bool (decide (x2.1 = 0)))), (12, (.bool (decide (x2.1 = 0)))), (17, (.bool (decide (x2.1 = 1)))), (18, (.bool (decide (x2.1 = 1)))), (19, (ptr b2 1)), (21, (ptr pb1 0)), (22, (.slice (some ⟨b3, 0, none⟩) 3 3)), (23, (.int .i64 x16.1))]) ?_ ⟨rfl, rfl, rfl, rfl, rfl, rfl, rfl, rfl, rfl, rfl, rfl, rfl, rfl, rfl, rfl, rfl, rfl, trivial⟩
     refine WA_postsE [⟨1, [], fun vs => PW.val v2, []⟩, ⟨5, [], fun vs => PW.own ([x16.1] : (List Int)), []⟩] [[], []] 3 rfl (by kernel_rfl) (by kernel_rfl) rfl ?_ ?_
     ·refine StepsE_cons rfl ?_ ?_
      ·intro w16 hB9
       refine DepsE_nil ?_
       refine ⟨_, rfl, ?_⟩
       refine WL_load_box (hC26.grow hB9) 2 rfl rfl Try.isAgg26 rfl rfl ?_
       refine WL_nil ?_
       exact FinE_val (Below.refl _ _) rfl rfl ⟨rfl, rfl⟩
      refine StepsE_cons rfl ?_ ?_
      ·intro w16 hB9
       refine DepsE_nil ?_
       refine ⟨_, rfl, ?_⟩
       refine WL_buildSlice (vs := [(.int .i64 x16.1)]) (Ctx.start w16) Try.underlying26 ty3 rfl rfl rfl rfl (by intro v hv; simp only [List.mem_cons, List.not_mem_nil, or_false] at hv; rcases hv with rfl <;> rfl) rfl rfl (fun b4 w15 hC27 hB8 => ?_)
       have hC28 := hC27.row0 (α := Int)
       have hC29 := hC28.triv (int_val (x16.1))
       have hC30 := hC29.row1
       have hC31 := hC30.front 1 rfl
       dsimp only [List.eraseIdx, List.cons_append, List.nil_append, List.append_nil] at hC31
       have hC32 : Ctx [] w16 w15 (Item.own (.slice (some ⟨b4, 0, none⟩) 1 1) ([x16.1] : List Int) :: []) := hC31.rowOwn (by simp [maxLen])
       refine WL_nil ?_
       exact FinE_ctx hC32 rfl rfl (fun F h => h)
      exact StepsE_nil
     intro w17 hB10
     refine AllE_cons rfl rfl rfl ?_
     rintro _ _ ⟨rfl, rfl⟩
     refine AllE_cons rfl rfl rfl ?_
     intro v6 F1 hv1
     refine AllE_nil ?_
     intro hn5 hb5
     have hC33 := hC26.pushL hB10 (Bs := [Item.own v6 ([x16.1] : (List Int))]) (Fs := [F1]) ⟨F1, _, rfl, hv1, rfl⟩ (by simpa using hn5) (fun b h => (hb5 b (by simpa using h)).1)
     obtain ⟨x17, hx1, hr6⟩ := bind_some hr6
     refine WA_one 6 (by kernel_rfl) rfl ?_
     refine WL_append_flat (α := Int) hC33 4 rfl (hC33.ro 0 rfl) (Keep.refl _ _) Try.underlying26 ty3 rfl hx1 rfl rfl rfl (fun v7 w18 hC34 => ?_)
     try dsimp only [List.set] at hC34
     refine WL_nil ?_
     refine WA_tk 7 (by kernel_rfl) rfl rfl (fl_field Try.underlying45 rfl rfl (fun w => ⟨_, Try.sizeOf26 w⟩) rfl) ?_
     refine WL_field Try.underlying45 rfl rfl (fun w => ⟨_, Try.sizeOf26 w⟩) rfl rfl ?_
     refine WL_nil ?_
     refine WA_one 8 (by kernel_rfl) rfl ?_
     refine WL_store_boxK (cs' := [(.int .i64 x1.1.1), v7]) hC34 3 rfl rfl (ro_one (hC34.ro 4 rfl)) rfl Try.sizeOf26 rfl rfl (fun w19 hC35 hKp3 => ?_)
     try dsimp only [List.set] at hC35
     refine WL_nil ?_
     refine WA_done (by kernel_rfl) ?_
     have hq6 := Option.some.inj hr6
     subst hq6
     have hC36 := hC35.f5
     have hC37 := hC36.f5
     have hC38 := hC37.f5
     have hC39 := hC38.f4
     have hC40 := hC39.h4
     refine nrm_sub (l' := [(4, (ptr b1 0)), (5, (ptr b2 0))]) ⟨rfl, rfl, trivial⟩ ?_
     exact ⟨x16.2.2.1, x16.2.2.2, x1.1.1, v7, x17, rfl, rfl, hC40⟩
    rintro l3 _ w11 hs3 ⟨x12, x13, x14, v5, x15, rfl, rfl, hC13⟩
    try dsimp only at hr5
    have hq7 := Option.some.inj hr5
    subst hq7
    refine nrm_subs (l2 := [(4, (ptr b1 0)), (5, (ptr b2 0))]) hs3 ⟨rfl, rfl, trivial⟩ ?_
    exact ⟨x12, x13, x14, v5, x15, rfl, rfl, hC13⟩
   replace hr5 := ite_f hr5 hc2
   refine W_skip ?_
   have hq8 := Option.some.inj hr5
   subst hq8
   refine nrm_sub (l' := [(4, (ptr b1 0)), (5, (ptr b2 0))]) ⟨rfl, rfl, trivial⟩ ?_
   exact ⟨x2.2.2.1, x2.2.2.2, x1.1.1, v2, x1.1.2, rfl, rfl, hC8⟩
  rintro l2 _ w10 hs2 ⟨x8, x9, x10, v4, x11, rfl, rfl, hC12⟩
  try dsimp only at hr3
  have hq9 := Option.some.inj hr3
  subst hq9
  refine nrm_subs (l2 := [(4, (ptr b1 0)), (5, (ptr b2 0))]) hs2 ⟨rfl, rfl, trivial⟩ ?_
  exact ⟨x8, x9, x10, v4, x11, rfl, rfl, hC12⟩
 rintro l1 _ w6 hs1 ⟨x3, x4, x5, v3, x6, rfl, rfl, hC9⟩
 try dsimp only at hF
 refine blk_normal ?_
 refine nrm_sub' hs1 ?_
 clear hs1
 refine W_seq_reg ?_
 refine WL_load_box_agg [(.int .i64 x5), v3] hC9 1 rfl rfl rfl Try.isAgg45 Try.sizeOf45 rfl rfl ?_
 refine WL_store_box_aggK (cs' := [(.int .i64 x5), v3]) (new := [(.int .i64 x5), v3]) hC9 3 rfl rfl (by intro v hv; simp only [List.mem_cons, List.not_mem_nil, or_false] at hv; rcases hv with rfl | rfl; exact rfl; exact (ro_one (hC9.ro 2 rfl))) rfl Try.sizeOf45 rfl rfl (fun w20 hC41 hKp4 => ?_)
 try dsimp only [List.set] at hC41
 refine WL_nil ?_
 refine W_ret ?_
 have hq10 := Option.some.inj hF
 subst hq10
 refine fn_retG1 rfl (rv_cell_agg (cs' := [(.int .i64 x5), v3]) hC41 (i := 3) rfl rfl rfl Try.isAgg45 Try.sizeOf45 rfl) ?_
 have hC43 := hC41.f2
 have hC42 := own_st45 x5 v3 x6 hC43
 have hC44 := hC42.h2
 exact ⟨_, rfl, _, rfl, hC44⟩

theorem c_S_l7Log {w0 : World} (a1 : (List UInt8)) (u1 : Value) (g1 : RO [] w0 u1 a1) (rr : ((List (Int × (List Int) × Int × Int × Int)) × (List (Int × (List Int))))) (hF : S.l7Log a1 = some rr) :
 Calls Try.prog 33 [u1].toArray w0 fun e w' => ∃ v, e = .returned v ∧ Res2 w0 rr.1 rr.2 v w' := by
 refine calls_of_W Try.func33 rfl rfl ?_
 have hC0 := Ctx.start w0
 unfold S.l7Log at hF
 refine W_seq_reg ?_
 refine WL_assign rfl rfl ?_
 refine WL_assign rfl rfl ?_
 refine WL_nil ?_
 refine W_seq_reg ?_
 refine WL_move rfl rfl ?_
 obtain ⟨x1, hr1, hF⟩ := bind_some hF
 refine WL_call Try.call39 rfl rfl (c_S_l1New a1 u1 (g1.now hC0.keep) x1 hr1) ?_
 rintro _ w1 ⟨b1, rfl, hq1⟩
 have hC1 : Ctx [] w0 w1 [Item.box b1 [u1, (.int .i64 x1.2.1), (.int .i64 x1.2.2)]] := hC0.push2 hq1
 refine WL_assign rfl rfl ?_
 refine WL_nil ?_
 refine W_seq_reg ?_
 refine WL_move rfl rfl ?_
 obtain ⟨x2, hr2, hF⟩ := bind_some hF
 obtain ⟨Fs2, hH2, hn2, hF2, hO2, hb2⟩ := Ctx.lend2 (As := []) [Item.box b1 [u1, (.int .i64 x1.2.1), (.int .i64 x1.2.2)]] hC1
 refine WL_call Try.call40 rfl rfl (c_S_l5Draw b1 (a1, x1.2.1, x1.2.2) u1 (RO.lent g1 hC1.keep hF2) hH2 hn2 x2 hr2) ?_
 rintro _ w2 ⟨v1, v2, v3, rfl, hq2⟩
 have hC2 : Ctx [] w0 w2 [Item.own v1 (x2.1 : (List Int)), Item.own v2 (x2.2.1 : (List (Int × (List Int) × Int × Int × Int))), Item.own v3 (x2.2.2.1 : (List (Int × (List Int)))), Item.box b1 [u1, (.int .i64 x2.2.2.2.2.1), (.int .i64 x2.2.2.2.2.2)]] := hb2 _ _ hq2
 refine WL_move rfl rfl ?_
 refine WL_extract rfl rfl rfl ?_
 refine WL_extract rfl rfl rfl ?_
 refine WL_extract rfl rfl rfl ?_
 refine WL_assign rfl rfl ?_
 refine WL_assign rfl rfl ?_
 refine WL_assign rfl rfl ?_
 refine WL_nil ?_
 refine W_seq_reg ?_
 refine WL_buildSlice (vs := []) hC2 Try.underlying31 ty45 rfl rfl rfl rfl (by simp) rfl rfl (fun b2 w3 hC3 hB1 => ?_)
 have hC4 := hC3.row0 (α := (Int × (List Int)))
 have hC5 := hC4.front 1 rfl
 dsimp only [List.eraseIdx, List.cons_append, List.nil_append, List.append_nil] at hC5
 have hC6 : Ctx [] w0 w3 (Item.own (.slice (some ⟨b2, 0, none⟩) 0 0) (([] : List (Int × (List Int))) : List (Int × (List Int))) :: [Item.own v1 (x2.1 : (List Int)), Item.own v2 (x2.2.1 : (List (Int × (List Int) × Int × Int × Int))), Item.own v3 (x2.2.2.1 : (List (Int × (List Int)))), Item.box b1 [u1, (.int .i64 x2.2.2.2.2.1), (.int .i64 x2.2.2.2.2.2)]]) := hC5.rowOwn (by simp [maxLen])
 refine WL_assign rfl rfl ?_
 refine WL_nil ?_
 refine W_seq ?_
 refine W_seq_reg ?_
 refine WL_move rfl rfl ?_
 obtain ⟨x3, hr3, hF⟩ := bind_some hF
 have hC7 := hC6.f4
 obtain ⟨Fs3, hH3, hn3, hF3, hO3, hb3⟩ := Ctx.lend2 (As := [Item.own (.slice (some ⟨b2, 0, none⟩) 0 0) (([] : List (Int × (List Int))) : (List (Int × (List Int)))), Item.own v1 (x2.1 : (List Int)), Item.own v2 (x2.2.1 : (List (Int × (List Int) × Int × Int × Int))), Item.own v3 (x2.2.2.1 : (List (Int × (List Int))))]) [Item.box b1 [u1, (.int .i64 x2.2.2.2.2.1), (.int .i64 x2.2.2.2.2.2)]] hC7
 refine WL_call Try.call41 rfl rfl (c_S_l1Below b1 (a1, x2.2.2.2.2.1, x2.2.2.2.2.2) u1 (RO.lent g1 hC7.keep hF3) 8 hH3 hn3 x3 hr3) ?_
 rintro _ w4 ⟨rfl, hq3⟩
 have hC8 : Ctx [] w0 w4 [Item.box b1 [u1, (.int .i64 x3.2.2.1), (.int .i64 x3.2.2.2)], Item.own (.slice (some ⟨b2, 0, none⟩) 0 0) (([] : List (Int × (List Int))) : (List (Int × (List Int)))), Item.own v1 (x2.1 : (List Int)), Item.own v2 (x2.2.1 : (List (Int × (List Int) × Int × Int × Int))), Item.own v3 (x2.2.2.1 : (List (Int × (List Int))))] := hb3 _ _ hq3
 refine WL_assign rfl rfl ?_
 refine WL_nil ?_
 obtain ⟨r1, hr4, hF⟩ := bind_some hF
 refine W_norm (fun l w => ∃ x8 : Int, ∃ x9 : Int, ∃ v5 : Value, ∃ x10 : (List (Int × (List Int))), (x8, x9, x10) = r1 ∧ l = [(6, v2), (8, v5)] ∧ Ctx [] w0 w [Item.own v5 (x10 : (List (Int × (List Int)))), Item.own v2 (x2.2.1 : (List (Int × (List Int) × Int × Int × Int)))]) ?_ ?_
 ·refine W_block ?_
  have hC24 := hC8.f3
  have hC25 := hC24.f2
  have hC26 := hC25.f2
  have hC27 := hC26.h3
  refine W.sub (l' := [(4, (ptr b1 0)), (6, v2), (8, (.slice (some ⟨b2, 0, none⟩) 0 0)), (9, (.int .i64 x3.1))]) ?_ ⟨rfl, rfl, rfl, rfl, trivial⟩
  refine W_loop (fun k l w => ∃ x4 : Int, ∃ x5 : Int, ∃ v4 : Value, ∃ x6 : (List (Int × (List Int))), ∃ x7 : Int, l = [(4, (ptr b1 0)), (6, v2), (8, v4), (9, (.int .i64 x7))] ∧ Ctx [] w0 w [Item.box b1 [u1, (.int .i64 x4), (.int .i64 x5)], Item.own v4 (x6 : (List (Int × (List Int)))), Item.own v2 (x2.2.1 : (List (Int × (List Int) × Int × Int × Int)))] ∧ S.l7Log_l1 a1 x2 k x4 x5 x6 x7 = some r1) FUEL ⟨x3.2.2.1, x3.2.2.2, (.slice (some ⟨b2, 0, none⟩) 0 0), ([] : List (Int × (List Int))), x3.1, rfl, hC27, hr4⟩ ?_
  clear hr4
  rintro k1 _ w5 ⟨x4, x5, v4, x6, x7, rfl, hC9, hL1⟩
  cases k1 with
  | zero => rw [S.l7Log_l1] at hL1; cases hL1
  | succ k1 =>
   rw [S.l7Log_l1] at hL1
   refine W_seq ?_
   refine W_seq_reg ?_
   refine WL_move rfl rfl ?_
   refine WL_gtr rfl rfl rfl ?_
   refine WL_nil ?_
   refine W_cond rfl (fun hc1 => ?_) (fun hc1 => ?_)
   ·replace hL1 := ite_t hL1 hc1
    refine W_skip ?_
    refine nrm_normal ?_
    refine W_seq ?_
    refine W_block ?_
    refine W_reg ?_
    refine WL_move rfl rfl ?_
    refine WL_move rfl rfl ?_
    refine WL_move rfl rfl ?_
    obtain ⟨x11, hr5, hL1⟩ := bind_some hL1
    obtain ⟨Fs4, hH4, hn4, hF4, hO4, hb4⟩ := Ctx.lend2 (As := [Item.own v4 (x6 : (List (Int × (List Int)))), Item.own v2 (x2.2.1 : (List (Int × (List Int) × Int × Int × Int)))]) [Item.box b1 [u1, (.int .i64 x4), (.int .i64 x5)]] hC9
    refine WL_call Try.call42 rfl rfl (c_S_l5AnyAccess b1 (a1, x4, x5) u1 (RO.lent g1 hC9.keep hF4) x2.2.1 v2 (hO4 1 _ _ _ rfl) hH4 hn4 x11 hr5) ?_
    rintro v6 w6 ⟨_, rfl, hq4⟩
    have hC10 : Ctx [] w0 w6 [Item.own v6 (x11.1 : (Int × (List Int))), Item.box b1 [u1, (.int .i64 x11.2.2.1), (.int .i64 x11.2.2.2)], Item.own v4 (x6 : (List (Int × (List Int)))), Item.own v2 (x2.2.1 : (List (Int × (List Int) × Int × Int × Int)))] := hb4 _ _ hq4
    obtain ⟨v7, rfl, hC11⟩ := st45_own hC10
    refine WL_buildSlice (vs := [(.agg #[(.int .i64 x11.1.1), v7])]) hC11 Try.underlying31 ty45 rfl rfl rfl rfl (by intro v hv; simp only [List.mem_cons, List.not_mem_nil, or_false] at hv; rcases hv with rfl <;> rfl) rfl rfl (fun b3 w7 hC12 hB3 => ?_)
    have hC13 := hC12.row0 (α := (Int × (List Int)))
    have hC15 := hC13.f2
    have hC14 := own_st45 x11.1.1 v7 x11.1.2 hC15
    have hC16 := hC14.row1
    have hC17 := hC16.front 1 rfl
    dsimp only [List.eraseIdx, List.cons_append, List.nil_append, List.append_nil] at hC17
    have hC18 : Ctx [] w0 w7 (Item.own (.slice (some ⟨b3, 0, none⟩) 1 1) ([(x11.1.1, x11.1.2)] : List (Int × (List Int))) :: [Item.box b1 [u1, (.int .i64 x11.2.2.1), (.int .i64 x11.2.2.2)], Item.own v4 (x6 : (List (Int × (List Int)))), Item.own v2 (x2.2.1 : (List (Int × (List Int) × Int × Int × Int)))]) := hC17.rowOwn (by simp [maxLen])
    obtain ⟨x12, hx1, hL1⟩ := bind_some hL1
    refine WL_append_head hC18 1 rfl Try.underlying31 ty45 rfl hx1 rfl rfl rfl (fun v8 w9 hC19 => ?_)
    try dsimp only [List.set] at hC19
    refine WL_assign rfl rfl ?_
    refine WL_nil ?_
    refine blk_normal ?_
    refine nrm_normal ?_
    refine W_reg ?_
    refine WL_move rfl rfl ?_
    refine WL_sub rfl rfl rfl ?_
    refine WL_assign rfl rfl ?_
    refine WL_nil ?_
    refine nrm_sub (l' := [(4, (ptr b1 0)), (6, v2), (8, v8), (9, (.int .i64 (w64 (x7 - 1))))]) ⟨rfl, rfl, rfl, rfl, trivial⟩ ?_
    exact ⟨k1, Nat.lt_succ_self _, x11.2.2.1, x11.2.2.2, v8, x12, w64 (x7 - 1), rfl, hC19, hL1⟩
   replace hL1 := ite_f hL1 hc1
   refine W_exit ?_
   refine nrm_exit ?_
   refine nrm_exit ?_
   refine blk_exit ?_
   have hq5 := Option.some.inj hL1
   subst hq5
   have hC21 := hC9.f2
   have hC22 := hC21.f2
   have hC23 := hC22.h2
   refine nrm_sub (l' := [(6, v2), (8, v4)]) ⟨rfl, rfl, trivial⟩ ?_
   exact ⟨x4, x5, v4, x6, rfl, rfl, hC23⟩
 rintro l2 _ w10 hs2 ⟨x8, x9, v5, x10, rfl, rfl, hC28⟩
 try dsimp only at hF
 refine nrm_sub' hs2 ?_
 clear hs2
 refine W_seq_reg ?_
 refine WL_move rfl rfl ?_
 refine WL_move rfl rfl ?_
 refine WL_assign rfl rfl ?_
 refine WL_assign rfl rfl ?_
 refine WL_nil ?_
 refine W_ret ?_
 have hq6 := Option.some.inj hF
 subst hq6
 refine fn_ret2 rfl rfl rfl ?_
 have hC30 := hC28.f1
 exact ⟨_, rfl, res2_of hC30⟩

theorem c_S_DrawScheduleLog {w0 : World} (a1 : (List UInt8)) (u1 : Value) (g1 : RO [] w0 u1 a1) (rr : ((List (Int × (List Int) × Int × Int × Int)) × (List (Int × (List Int))) × Int × Int)) (hF : S.DrawScheduleLog a1 = some rr) :
 Calls Try.prog 19 [u1].toArray w0 fun e w' => ∃ v, e = .returned v ∧ ∃ q0 : Value, ∃ q1 : Value, v = (.tuple #[q0, q1, (.int .i64 rr.2.2.1), (.int .i64 rr.2.2.2)]) ∧ Ctx [] w0 w' [Item.own q0 (rr.1 : (List (Int × (List Int) × Int × Int × Int))), Item.own q1 (rr.2.1 : (List (Int × (List Int))))] := by
 refine calls_of_W Try.func19 rfl rfl ?_
 have hC0 := Ctx.start w0
 unfold S.DrawScheduleLog at hF
 refine W_seq_reg ?_
 refine WL_assign rfl rfl ?_
 refine WL_assign rfl rfl ?_
 refine WL_assign rfl rfl ?_
 refine WL_assign rfl rfl ?_
 refine WL_nil ?_
 refine W_seq_reg ?_
 refine WL_move rfl rfl ?_
 obtain ⟨x1, hr1, hF⟩ := bind_some hF
 refine WL_call Try.call33 rfl rfl (c_S_l7Log a1 u1 (g1.now hC0.keep) x1 hr1) ?_
 rintro _ w1 ⟨hB1, v1, v2, F1, F2, rfl, hv1, hv2, hn1, hb1⟩
 have hC1 := hC0.pushL hB1 (Bs := [Item.own v1 x1.1, Item.own v2 x1.2]) (Fs := [F1, F2]) ⟨F1, _, rfl, hv1, F2, _, rfl, hv2, rfl⟩ (by simpa using hn1) (fun b h => hb1 b (by simpa using h))
 refine WL_move rfl rfl ?_
 refine WL_extract rfl rfl rfl ?_
 refine WL_extract rfl rfl rfl ?_
 refine WL_assign rfl rfl ?_
 refine WL_assign rfl rfl ?_
 refine WL_nil ?_
 refine W_seq_reg ?_
 refine WL_move rfl rfl ?_
 refine WL_move rfl rfl ?_
 refine WL_move rfl rfl ?_
 refine WL_len Try.underlying40 g1 rfl rfl ?_
 refine WL_rem (by decide) rfl rfl rfl ?_
 refine WL_add rfl rfl rfl ?_
 refine WL_move rfl rfl ?_
 refine WL_len Try.underlying40 g1 rfl rfl ?_
 refine WL_rem (by decide) rfl rfl rfl ?_
 refine WL_assign rfl rfl ?_
 refine WL_assign rfl rfl ?_
 refine WL_assign rfl rfl ?_
 refine WL_assign rfl rfl ?_
 refine WL_nil ?_
 refine W_ret ?_
 have hq1 := Option.some.inj hF
 subst hq1
 refine fn_ret4 rfl rfl rfl rfl rfl ?_
 have hC2 := hC1.f1
 have hC3 := hC2.f1
 exact ⟨_, rfl, _, _, rfl, hC3⟩

theorem c_Q_sameInts {w0 : World} (a1 : (List Int)) (u1 : Value) (g1 : RO [] w0 u1 a1) (a2 : (List Int)) (u2 : Value) (g2 : RO [] w0 u2 a2) (rr : Bool) (hF : Q.sameInts a1 a2 = some rr) :
 Calls Try.prog 20 [u1, u2].toArray w0 fun e w' => ∃ v, e = .returned v ∧ Res w0 rr v w' := by
 refine calls_of_W Try.func20 rfl rfl ?_
 have hC0 := Ctx.start w0
 unfold Q.sameInts at hF
 refine W_seq_reg ?_
 refine WL_assign rfl rfl ?_
 refine WL_nil ?_
 refine W_seq ?_
 refine W_seq_reg ?_
 refine WL_move rfl rfl ?_
 refine WL_len Try.underlying26 g1 rfl rfl ?_
 refine WL_move rfl rfl ?_
 refine WL_len Try.underlying26 g2 rfl rfl ?_
 refine WL_neq rfl rfl rfl ?_
 refine WL_nil ?_
 refine W_cond rfl (fun hc1 => ?_) (fun hc1 => ?_)
 ·replace hF := ite_t hF hc1
  refine W_seq_reg ?_
  refine WL_assign rfl rfl ?_
  refine WL_nil ?_
  refine W_ret ?_
  refine nrm_ret ?_
  have hq1 := Option.some.inj hF
  subst hq1
  refine fn_ret1 rfl rfl ?_
  exact ⟨_, rfl, bool_res hC0 _⟩
 replace hF := ite_f hF hc1
 refine W_skip ?_
 refine nrm_normal ?_
 refine W_seq ?_
 refine W_seq_reg ?_
 refine WL_assign rfl rfl ?_
 refine WL_nil ?_
 obtain ⟨r1, hr1, hF⟩ := bind_some hF
 refine W_norm (fun l w => .inl () = r1 ∧ l = [] ∧ Below w0.heap.size w0 w ∧ Ctx [] w0 w []) ?_ ?_
 ·refine W_block ?_
  refine W.sub (l' := [(0, u1), (1, u2), (5, (.int .i64 0))]) ?_ ⟨rfl, rfl, rfl, trivial⟩
  refine W_loop (fun k l w => ∃ x1 : Int, l = [(0, u1), (1, u2), (5, (.int .i64 x1))] ∧ Below w0.heap.size w0 w ∧ Ctx [] w0 w [] ∧ Q.sameInts_l1 a1 a2 k x1 = some r1) FUEL ⟨0, rfl, (Below.refl _ _), hC0, hr1⟩ ?_
  clear hr1
  rintro k1 _ w1 ⟨x1, rfl, hB1, hC1, hL1⟩
  cases k1 with
  | zero => rw [Q.sameInts_l1] at hL1; cases hL1
  | succ k1 =>
   rw [Q.sameInts_l1] at hL1
   refine W_seq ?_
   refine W_seq_reg ?_
   refine WL_move rfl rfl ?_
   refine WL_move rfl rfl ?_
   refine WL_len Try.underlying26 g1 rfl rfl ?_
   refine WL_lss rfl rfl rfl ?_
   refine WL_nil ?_
   refine W_cond rfl (fun hc2 => ?_) (fun hc2 => ?_)
   ·replace hL1 := ite_t hL1 hc2
    refine W_skip ?_
    refine nrm_normal ?_
    refine W_seq ?_
    refine W_block ?_
    refine W_seq ?_
    refine W_drawn 9 rfl hmix (fun w2 hB2 => ?_)
    have hC2 := hC1.grow hB2
    refine WA_tk 0 (by kernel_rfl) rfl rfl (fl_move rfl) ?_
    refine WL_move rfl rfl ?_
    refine WL_nil ?_
    refine WA_tk 1 (by kernel_rfl) rfl rfl (fl_move rfl) ?_
    refine WL_move rfl rfl ?_
    refine WL_nil ?_
    obtain ⟨x2, hx1, hL1⟩ := bind_some hL1
    refine WA_tk 2 (by kernel_rfl) rfl rfl (fl_index Try.underlying26 ty3 g1 hx1 rfl rfl) ?_
    refine WL_index Try.underlying26 ty3 g1 hx1 rfl rfl rfl (fun b1 o1 h1 => ?_)
    refine WL_nil ?_
    refine WA_tk 4 (by kernel_rfl) rfl rfl (fl_move rfl) ?_
    refine WL_move rfl rfl ?_
    refine WL_nil ?_
    refine WA_tk 5 (by kernel_rfl) rfl rfl (fl_move rfl) ?_
    refine WL_move rfl rfl ?_
    refine WL_nil ?_
    obtain ⟨x3, hx2, hL1⟩ := bind_some hL1
    refine WA_tk 6 (by kernel_rfl) rfl rfl (fl_index Try.underlying26 ty3 g2 hx2 rfl rfl) ?_
    refine WL_index Try.underlying26 ty3 g2 hx2 rfl rfl rfl (fun b2 o2 h2 => ?_)
    refine WL_nil ?_
    refine WA.sub (l' := [(0, u1), (1, u2), (5, (.int .i64 x1)), (11, (.int .i64 x1)), (12, u1), (13, (.int .i64 (List.length a1 : Int))), (14, (.bool (decide (x1 < (List.length a1 : Int))))), (17, u1), (18, (.int .i64 x1)), (19, (ptr b1 o1)), (21, u2), (22, (.int .i64 x1)), (23, (ptr b2 o2))]) ?_ ⟨rfl, rfl, rfl, rfl, rfl, rfl, rfl, rfl, rfl, rfl, rfl, rfl, rfl, trivial⟩
    refine WA_postsE [⟨3, [], fun vs => PW.val (.int .i64 x2), []⟩, ⟨7, [], fun vs => PW.val (.int .i64 x3), []⟩] [[], []] 1 rfl (by kernel_rfl) (by kernel_rfl) rfl ?_ ?_
    ·refine StepsE_cons rfl ?_ ?_
     ·intro w3 hB3
      refine DepsE_nil ?_
      refine ⟨_, rfl, ?_⟩
      refine WL_load ty3 h1 (hC2.keep.then hB3) rfl rfl (fun v1 h3 => ?_)
      obtain rfl := ro_int h3
      refine WL_nil ?_
      exact FinE_val (Below.refl _ _) rfl rfl ⟨rfl, rfl⟩
     refine StepsE_cons rfl ?_ ?_
     ·intro w3 hB3
      refine DepsE_nil ?_
      refine ⟨_, rfl, ?_⟩
      refine WL_load ty3 h2 (hC2.keep.then hB3) rfl rfl (fun v2 h4 => ?_)
      obtain rfl := ro_int h4
      refine WL_nil ?_
      exact FinE_val (Below.refl _ _) rfl rfl ⟨rfl, rfl⟩
     exact StepsE_nil
    intro w4 hB4
    refine AllE_cons rfl rfl rfl ?_
    rintro _ _ ⟨rfl, rfl⟩
    refine AllE_cons rfl rfl rfl ?_
    rintro _ _ ⟨rfl, rfl⟩
    refine AllE_nil ?_
    intro hn1 hb1
    have hC3 := hC2.grow hB4
    refine WA_tk 8 (by kernel_rfl) rfl rfl (fl_neq rfl rfl) ?_
    refine WL_neq rfl rfl rfl ?_
    refine WL_nil ?_
    refine WA_done (by kernel_rfl) ?_
    refine nrm_normal ?_
    refine W_cond rfl (fun hc3 => ?_) (fun hc3 => ?_)
    ·replace hL1 := ite_t hL1 hc3
     refine W_seq_reg ?_
     refine WL_assign rfl rfl ?_
     refine WL_nil ?_
     refine W_ret ?_
     refine blk_ret ?_
     refine nrm_ret ?_
     refine nrm_ret ?_
     refine blk_ret ?_
     refine nrm_ret ?_
     refine nrm_ret ?_
     have hq2 := Option.some.inj hL1
     subst hq2
     dsimp only at hF
     have hq3 := Option.some.inj hF
     subst hq3
     refine fn_ret1 rfl rfl ?_
     exact ⟨_, rfl, bool_res hC3 _⟩
    replace hL1 := ite_f hL1 hc3
    refine W_skip ?_
    refine blk_normal ?_
    refine nrm_normal ?_
    refine W_reg ?_
    refine WL_move rfl rfl ?_
    refine WL_add rfl rfl rfl ?_
    refine WL_assign rfl rfl ?_
    refine WL_nil ?_
    refine nrm_sub (l' := [(0, u1), (1, u2), (5, (.int .i64 (w64 (x1 + 1))))]) ⟨rfl, rfl, rfl, trivial⟩ ?_
    exact ⟨k1, Nat.lt_succ_self _, w64 (x1 + 1), rfl, (((Keep.of hB1).then hB2).then hB4).below, hC3, hL1⟩
   replace hL1 := ite_f hL1 hc2
   refine W_exit ?_
   refine nrm_exit ?_
   refine nrm_exit ?_
   refine blk_exit ?_
   have hq4 := Option.some.inj hL1
   subst hq4
   refine nrm_sub (l' := []) trivial ?_
   exact ⟨rfl, rfl, (Keep.of hB1).below, hC1⟩
 rintro l2 _ w5 hs2 ⟨rfl, rfl, hB5, hC4⟩
 try dsimp only at hF
 refine nrm_sub' hs2 ?_
 clear hs2
 refine W_seq_reg ?_
 refine WL_assign rfl rfl ?_
 refine WL_nil ?_
 refine W_ret ?_
 have hq5 := Option.some.inj hF
 subst hq5
 refine fn_ret1 rfl rfl ?_
 exact ⟨_, rfl, bool_res hC4 _⟩

theorem c_M_IsWindow {w0 : World} (a1 : (Int × Int)) (rr : Bool) (hF : M.IsWindow a1 = some rr) :
 Calls Try.prog 34 [(.agg #[(.int .i64 a1.1), (.int .i64 a1.2)])].toArray w0 fun e w' => ∃ v, e = .returned v ∧ Res w0 rr v w' := by
 refine calls_of_W Try.func34 rfl rfl ?_
 have hC0 := Ctx.start w0
 unfold M.IsWindow at hF
 refine W_seq_reg ?_
 refine WL_boxK (cs := [(.int .i64 a1.1), (.int .i64 a1.2)]) hC0 rfl rfl rfl (fun b1 w1 hC1 hB1 hN1 => ?_)
 refine WL_assign rfl rfl ?_
 refine WL_nil ?_
 obtain ⟨r1, hr1, hF⟩ := bind_some hF
 refine W_cut (fun l w => ∃ x1 : Bool, x1 = r1 ∧ l = [(2, (.bool x1))] ∧ Below w1.heap.size w1 w ∧ Ctx [] w0 w []) ?_ ?_
 ·refine W_reg ?_
  refine WL_field Try.underlying49 rfl rfl (fun w => ⟨_, Try.sizeOf3 w⟩) rfl rfl ?_
  refine WL_load_box hC1 0 rfl rfl Try.isAgg3 rfl rfl ?_
  obtain ⟨x2, hr2, hr1⟩ := bind_some hr1
  refine WL_call Try.call28 rfl rfl (c_M_within a1.1 1 100 x2 hr2) ?_
  intro _ w3 hv1
  obtain ⟨rfl, hB3⟩ := res_bool hv1
  have hC3 := hC1.grow hB3
  refine WL_move rfl rfl ?_
  refine WL_fork (fun hc1 => ?_) (fun hc1 => ?_)
  ·replace hr1 := ite_t hr1 hc1
   refine WL_guard rfl rfl ?_
   refine WL_field Try.underlying49 rfl rfl (fun w => ⟨_, Try.sizeOf3 w⟩) rfl rfl ?_
   refine WL_guard rfl rfl ?_
   refine WL_load_box hC3 0 rfl rfl Try.isAgg3 rfl rfl ?_
   obtain ⟨x3, hr3, hr1⟩ := bind_some hr1
   refine WL_guard rfl rfl ?_
   refine WL_call Try.call28 rfl rfl (c_M_within a1.2 1 99 x3 hr3) ?_
   intro _ w4 hv2
   obtain ⟨rfl, hB4⟩ := res_bool hv2
   have hC4 := hC3.grow hB4
   refine WL_pick_t rfl rfl rfl ?_
   refine WL_assign rfl rfl ?_
   refine WL_nil ?_
   have hq1 := Option.some.inj hr1
   subst hq1
   have hC5 := hC4.h0
   refine nrm_sub (l' := [(2, (.bool x3))]) ⟨rfl, trivial⟩ ?_
   exact ⟨x3, rfl, rfl, ((Keep.of hB3).then hB4).below, hC5⟩
  replace hr1 := ite_f hr1 hc1
  refine WL_guard_skip rfl rfl (by simp) rfl ?_
  refine WL_guard_skip rfl rfl (by simp) rfl ?_
  refine WL_guard_skip rfl rfl (by simp) rfl ?_
  refine WL_pick_f rfl rfl rfl ?_
  refine WL_assign rfl rfl ?_
  refine WL_nil ?_
  have hq2 := Option.some.inj hr1
  subst hq2
  have hC6 := hC3.h0
  refine nrm_sub (l' := [(2, (.bool false))]) ⟨rfl, trivial⟩ ?_
  exact ⟨false, rfl, rfl, (Keep.of hB3).below, hC6⟩
 rintro _ w2 ⟨x1, rfl, rfl, hB2, hC2⟩
 try dsimp only at hF
 refine W_ret ?_
 have hq3 := Option.some.inj hF
 subst hq3
 refine fn_ret1 rfl rfl ?_
 exact ⟨_, rfl, bool_res hC2 _⟩

theorem c_M_bit {w0 : World} (a1 : Bool) (rr : Int) (hF : M.bit a1 = some rr) :
 Calls Try.prog 43 [(.bool a1)].toArray w0 fun e w' => ∃ v, e = .returned v ∧ Res w0 rr v w' := by
 refine calls_of_W Try.func43 rfl rfl ?_
 have hC0 := Ctx.start w0
 unfold M.bit at hF
 refine W_seq_reg ?_
 refine WL_assign rfl rfl ?_
 refine WL_nil ?_
 refine W_seq ?_
 refine W_seq_reg ?_
 refine WL_move rfl rfl ?_
 refine WL_nil ?_
 refine W_cond rfl (fun hc1 => ?_) (fun hc1 => ?_)
 ·replace hF := ite_t hF hc1
  refine W_seq_reg ?_
  refine WL_assign rfl rfl ?_
  refine WL_nil ?_
  refine W_ret ?_
  refine nrm_ret ?_
  have hq1 := Option.some.inj hF
  subst hq1
  refine fn_ret1 rfl rfl ?_
  exact ⟨_, rfl, int_res hC0 _⟩
 replace hF := ite_f hF hc1
 refine W_skip ?_
 refine nrm_normal ?_
 refine W_seq_reg ?_
 refine WL_assign rfl rfl ?_
 refine WL_nil ?_
 refine W_ret ?_
 have hq2 := Option.some.inj hF
 subst hq2
 refine fn_ret1 rfl rfl ?_
 exact ⟨_, rfl, int_res hC0 _⟩

theorem c_M_CallsIn {w0 : World} (a1 : (List Int)) (u1 : Value) (g1 : RO [] w0 u1 a1) (a2 : Int) (a3 : Int) (rr : Int) (hF : M.CallsIn a1 a2 a3 = some rr) :
 Calls Try.prog 35 [u1, (.int .i64 a2), (.int .i64 a3)].toArray w0 fun e w' => ∃ v, e = .returned v ∧ Res w0 rr v w' := by
 refine calls_of_W Try.func35 rfl rfl ?_
 have hC0 := Ctx.start w0
 unfold M.CallsIn at hF
 refine W_seq_reg ?_
 refine WL_assign rfl rfl ?_
 refine WL_nil ?_
 refine W_seq_reg ?_
 refine WL_assign rfl rfl ?_
 refine WL_nil ?_
 refine W_seq ?_
 refine W_seq_reg ?_
 refine WL_move rfl rfl ?_
 refine WL_len Try.underlying26 g1 rfl rfl ?_
 refine WL_move rfl rfl ?_
 refine WL_nil ?_
 obtain ⟨r1, hr1, hF⟩ := bind_some hF
 refine W_norm (fun l w => ∃ x3 : Int, x3 = r1 ∧ l = [(7, (.int .i64 x3))] ∧ Below w0.heap.size w0 w ∧ Ctx [] w0 w []) ?_ ?_
 ·refine W_block ?_
  refine W.sub (l' := [(1, (.int .i64 a2)), (2, (.int .i64 a3)), (7, (.int .i64 0)), (10, u1), (11, (.int .i64 (List.length a1 : Int))), (12, (.int .i64 0))]) ?_ ⟨rfl, rfl, rfl, rfl, rfl, rfl, trivial⟩
  refine W_loop (fun k l w => ∃ x1 : Int, ∃ x2 : Int, l = [(1, (.int .i64 a2)), (2, (.int .i64 a3)), (7, (.int .i64 x1)), (10, u1), (11, (.int .i64 (List.length a1 : Int))), (12, (.int .i64 x2))] ∧ Below w0.heap.size w0 w ∧ Ctx [] w0 w [] ∧ M.CallsIn_l1 a1 a2 a3 k x1 x2 = some r1) FUEL ⟨0, 0, rfl, (Below.refl _ _), hC0, hr1⟩ ?_
  clear hr1
  rintro k1 _ w1 ⟨x1, x2, rfl, hB1, hC1, hL1⟩
  cases k1 with
  | zero => rw [M.CallsIn_l1] at hL1; cases hL1
  | succ k1 =>
   rw [M.CallsIn_l1] at hL1
   refine W_seq_reg ?_
   refine WL_lss rfl rfl rfl ?_
   refine WL_nil ?_
   refine W_seq ?_
   refine W_cond rfl (fun hc1 => ?_) (fun hc1 => ?_)
   ·replace hL1 := ite_t hL1 hc1
    refine W_skip ?_
    refine nrm_normal ?_
    refine W_seq ?_
    refine W_block ?_
    refine W_seq_reg ?_
    obtain ⟨x4, hx1, hL1⟩ := bind_some hL1
    refine WL_index Try.underlying26 ty3 g1 hx1 rfl rfl rfl (fun b1 o1 h1 => ?_)
    refine WL_load ty3 h1 hC1.keep rfl rfl (fun v1 h2 => ?_)
    obtain rfl := ro_int h2
    refine WL_assign rfl rfl ?_
    refine WL_nil ?_
    obtain ⟨r2, hr2, hL1⟩ := bind_some hL1
    refine W_norm (fun l w => ∃ x5 : Int, x5 = r2 ∧ l = [(1, (.int .i64 a2)), (2, (.int .i64 a3)), (7, (.int .i64 x5)), (10, u1), (11, (.int .i64 (List.length a1 : Int))), (12, (.int .i64 x2))] ∧ Below w1.heap.size w1 w ∧ Ctx [] w0 w []) ?_ ?_
    ·refine W_reg ?_
     refine WL_move rfl rfl ?_
     refine WL_move rfl rfl ?_
     refine WL_geq rfl rfl rfl ?_
     refine WL_move rfl rfl ?_
     refine WL_fork (fun hc2 => ?_) (fun hc2 => ?_)
     ·replace hr2 := ite_t hr2 hc2
      refine WL_guard rfl rfl ?_
      refine WL_move rfl rfl ?_
      refine WL_guard rfl rfl ?_
      refine WL_move rfl rfl ?_
      refine WL_guard rfl rfl ?_
      refine WL_geq rfl rfl rfl ?_
      refine WL_pick_t rfl rfl rfl ?_
      refine WL_move rfl rfl ?_
      refine WL_fork (fun hc3 => ?_) (fun hc3 => ?_)
      ·replace hr2 := ite_t hr2 hc3
       refine WL_guard rfl rfl ?_
       refine WL_move rfl rfl ?_
       refine WL_guard rfl rfl ?_
       refine WL_move rfl rfl ?_
       refine WL_guard rfl rfl ?_
       refine WL_sub rfl rfl rfl ?_
       refine WL_guard rfl rfl ?_
       refine WL_move rfl rfl ?_
       refine WL_guard rfl rfl ?_
       refine WL_lss rfl rfl rfl ?_
       refine WL_pick_t rfl rfl rfl ?_
       obtain ⟨x6, hr3, hr2⟩ := bind_some hr2
       refine WL_call Try.call43 rfl rfl (c_M_bit (decide ((w64 (x4 - a2)) < a3)) x6 hr3) ?_
       intro _ w3 hv1
       obtain ⟨rfl, hB3⟩ := res_int hv1
       have hC3 := hC1.grow hB3
       refine WL_add rfl rfl rfl ?_
       refine WL_assign rfl rfl ?_
       refine WL_nil ?_
       have hq1 := Option.some.inj hr2
       subst hq1
       refine nrm_sub (l' := [(1, (.int .i64 a2)), (2, (.int .i64 a3)), (7, (.int .i64 (w64 (x1 + x6)))), (10, u1), (11, (.int .i64 (List.length a1 : Int))), (12, (.int .i64 x2))]) ⟨rfl, rfl, rfl, rfl, rfl, rfl, trivial⟩ ?_
       exact ⟨w64 (x1 + x6), rfl, rfl, (Keep.of hB3).below, hC3⟩
      replace hr2 := ite_f hr2 hc3
      refine WL_guard_skip rfl rfl (by simp) rfl ?_
      refine WL_guard_skip rfl rfl (by simp) rfl ?_
      refine WL_guard_skip rfl rfl (by simp) rfl ?_
      refine WL_guard_skip rfl rfl (by simp) rfl ?_
      refine WL_guard_skip rfl rfl (by simp) rfl ?_
      refine WL_pick_f rfl rfl rfl ?_
      obtain ⟨x7, hr4, hr2⟩ := bind_some hr2
      refine WL_call Try.call43 rfl rfl (c_M_bit false x7 hr4) ?_
      intro _ w4 hv2
      obtain ⟨rfl, hB4⟩ := res_int hv2
      have hC4 := hC1.grow hB4
      refine WL_add rfl rfl rfl ?_
      refine WL_assign rfl rfl ?_
      refine WL_nil ?_
      have hq2 := Option.some.inj hr2
      subst hq2
      refine nrm_sub (l' := [(1, (.int .i64 a2)), (2, (.int .i64 a3)), (7, (.int .i64 (w64 (x1 + x7)))), (10, u1), (11, (.int .i64 (List.length a1 : Int))), (12, (.int .i64 x2))]) ⟨rfl, rfl, rfl, rfl, rfl, rfl, trivial⟩ ?_
      exact ⟨w64 (x1 + x7), rfl, rfl, (Keep.of hB4).below, hC4⟩
     replace hr2 := ite_f hr2 hc2
     refine WL_guard_skip rfl rfl (by simp) rfl ?_
     refine WL_guard_skip rfl rfl (by simp) rfl ?_
     refine WL_guard_skip rfl rfl (by simp) rfl ?_
     refine WL_pick_f rfl rfl rfl ?_
     refine WL_move rfl rfl ?_
     refine WL_guard_skip rfl rfl (by simp) rfl ?_
     refine WL_guard_skip rfl rfl (by simp) rfl ?_
     refine WL_guard_skip rfl rfl (by simp) rfl ?_
     refine WL_guard_skip rfl rfl (by simp) rfl ?_
     refine WL_guard_skip rfl rfl (by simp) rfl ?_
     refine WL_pick_f rfl rfl rfl ?_
     obtain ⟨x8, hr5, hr2⟩ := bind_some hr2
     refine WL_call Try.call43 rfl rfl (c_M_bit false x8 hr5) ?_
     intro _ w5 hv3
     obtain ⟨rfl, hB5⟩ := res_int hv3
     have hC5 := hC1.grow hB5
     refine WL_add rfl rfl rfl ?_
     refine WL_assign rfl rfl ?_
     refine WL_nil ?_
     have hq3 := Option.some.inj hr2
     subst hq3
     refine nrm_sub (l' := [(1, (.int .i64 a2)), (2, (.int .i64 a3)), (7, (.int .i64 (w64 (x1 + x8)))), (10, u1), (11, (.int .i64 (List.length a1 : Int))), (12, (.int .i64 x2))]) ⟨rfl, rfl, rfl, rfl, rfl, rfl, trivial⟩ ?_
     exact ⟨w64 (x1 + x8), rfl, rfl, (Keep.of hB5).below, hC5⟩
    rintro l2 _ w2 hs2 ⟨x5, rfl, rfl, hB2, hC2⟩
    try dsimp only at hL1
    refine blk_normal ?_
    refine nrm_sub' hs2 ?_
    clear hs2
    refine W_reg ?_
    refine WL_add rfl rfl rfl ?_
    refine WL_move rfl rfl ?_
    refine WL_nil ?_
    refine nrm_sub (l' := [(1, (.int .i64 a2)), (2, (.int .i64 a3)), (7, (.int .i64 x5)), (10, u1), (11, (.int .i64 (List.length a1 : Int))), (12, (.int .i64 (w64 (x2 + 1))))]) ⟨rfl, rfl, rfl, rfl, rfl, rfl, trivial⟩ ?_
    exact ⟨k1, Nat.lt_succ_self _, x5, w64 (x2 + 1), rfl, ((Keep.of hB1).then hB2).below, hC2, hL1⟩
   replace hL1 := ite_f hL1 hc1
   refine W_exit ?_
   refine nrm_exit ?_
   refine nrm_exit ?_
   refine blk_exit ?_
   have hq4 := Option.some.inj hL1
   subst hq4
   refine nrm_sub (l' := [(7, (.int .i64 x1))]) ⟨rfl, trivial⟩ ?_
   exact ⟨x1, rfl, rfl, (Keep.of hB1).below, hC1⟩
 rintro l3 _ w6 hs3 ⟨x3, rfl, rfl, hB6, hC6⟩
 try dsimp only at hF
 refine nrm_sub' hs3 ?_
 clear hs3
 refine W_seq_reg ?_
 refine WL_move rfl rfl ?_
 refine WL_assign rfl rfl ?_
 refine WL_nil ?_
 refine W_ret ?_
 have hq5 := Option.some.inj hF
 subst hq5
 refine fn_ret1 rfl rfl ?_
 exact ⟨_, rfl, int_res hC6 _⟩

theorem c_M_IsKept {w0 : World} (a1 : (List Int)) (u1 : Value) (g1 : RO [] w0 u1 a1) (a2 : (Int × Int)) (rr : Bool) (hF : M.IsKept a1 a2 = some rr) :
 Calls Try.prog 21 [u1, (.agg #[(.int .i64 a2.1), (.int .i64 a2.2)])].toArray w0 fun e w' => ∃ v, e = .returned v ∧ Res w0 rr v w' := by
 refine calls_of_W Try.func21 rfl rfl ?_
 have hC0 := Ctx.start w0
 unfold M.IsKept at hF
 refine W_seq_reg ?_
 refine WL_boxK (cs := [(.int .i64 a2.1), (.int .i64 a2.2)]) hC0 rfl rfl rfl (fun b1 w1 hC1 hB1 hN1 => ?_)
 refine WL_assign rfl rfl ?_
 refine WL_nil ?_
 refine W_seq ?_
 obtain ⟨r1, hr1, hF⟩ := bind_some hF
 refine W_cut (fun l w => ∃ x1 : Bool, x1 = r1 ∧ l = [(0, u1), (3, (ptr b1 0)), (14, (.bool x1))] ∧ Below w1.heap.size w1 w ∧ Ctx [] w0 w [Item.box b1 [(.int .i64 a2.1), (.int .i64 a2.2)]]) ?_ ?_
 ·refine W_reg ?_
  refine WL_move rfl rfl ?_
  refine WL_len Try.underlying26 g1 rfl rfl ?_
  refine WL_gtr rfl rfl rfl ?_
  refine WL_move rfl rfl ?_
  refine WL_fork (fun hc1 => ?_) (fun hc1 => ?_)
  ·replace hr1 := ite_t hr1 hc1
   refine WL_guard_skip rfl rfl (by simp) rfl ?_
   refine WL_guard_skip rfl rfl (by simp) rfl ?_
   refine WL_guard_skip rfl rfl (by simp) rfl ?_
   refine WL_pick_t rfl rfl rfl ?_
   refine WL_nil ?_
   have hq1 := Option.some.inj hr1
   subst hq1
   refine nrm_sub (l' := [(0, u1), (3, (ptr b1 0)), (14, (.bool true))]) ⟨rfl, rfl, rfl, trivial⟩ ?_
   exact ⟨true, rfl, rfl, (Below.refl _ _), hC1⟩
  replace hr1 := ite_f hr1 hc1
  refine WL_guard rfl rfl ?_
  refine WL_load_box_agg [(.int .i64 a2.1), (.int .i64 a2.2)] hC1 0 rfl rfl rfl Try.isAgg49 Try.sizeOf49 rfl rfl ?_
  obtain ⟨x2, hr2, hr1⟩ := bind_some hr1
  refine WL_guard rfl rfl ?_
  refine WL_call Try.call34 rfl rfl (c_M_IsWindow (a2.1, a2.2) x2 hr2) ?_
  intro _ w3 hv1
  obtain ⟨rfl, hB3⟩ := res_bool hv1
  have hC3 := hC1.grow hB3
  refine WL_guard rfl rfl ?_
  refine WL_not rfl rfl ?_
  refine WL_pick_f rfl rfl rfl ?_
  refine WL_nil ?_
  have hq2 := Option.some.inj hr1
  subst hq2
  refine nrm_sub (l' := [(0, u1), (3, (ptr b1 0)), (14, (.bool (!x2)))]) ⟨rfl, rfl, rfl, trivial⟩ ?_
  exact ⟨(!x2), rfl, rfl, (Keep.of hB3).below, hC3⟩
 rintro _ w2 ⟨x1, rfl, rfl, hB2, hC2⟩
 try dsimp only at hF
 refine W_cond rfl (fun hc2 => ?_) (fun hc2 => ?_)
 ·replace hF := ite_t hF hc2
  refine W_seq_reg ?_
  refine WL_assign rfl rfl ?_
  refine WL_nil ?_
  refine W_ret ?_
  refine nrm_ret ?_
  have hq3 := Option.some.inj hF
  subst hq3
  refine fn_ret1 rfl rfl ?_
  exact ⟨_, rfl, bool_res hC2 _⟩
 replace hF := ite_f hF hc2
 refine W_skip ?_
 refine nrm_normal ?_
 refine W_seq ?_
 refine W_seq_reg ?_
 refine WL_move rfl rfl ?_
 refine WL_len Try.underlying26 g1 rfl rfl ?_
 refine WL_move rfl rfl ?_
 refine WL_nil ?_
 obtain ⟨r2, hr3, hF⟩ := bind_some hF
 refine W_norm (fun l w => .inl () = r2 ∧ l = [] ∧ Below w2.heap.size w2 w ∧ Ctx [] w0 w []) ?_ ?_
 ·refine W_block ?_
  refine W.sub (l' := [(0, u1), (3, (ptr b1 0)), (15, u1), (16, (.int .i64 (List.length a1 : Int))), (17, (.int .i64 0))]) ?_ ⟨rfl, rfl, rfl, rfl, rfl, trivial⟩
  refine W_loop (fun k l w => ∃ x3 : Int, l = [(0, u1), (3, (ptr b1 0)), (15, u1), (16, (.int .i64 (List.length a1 : Int))), (17, (.int .i64 x3))] ∧ Below w2.heap.size w2 w ∧ Ctx [] w0 w [Item.box b1 [(.int .i64 a2.1), (.int .i64 a2.2)]] ∧ M.IsKept_l1 a1 a2 k x3 = some r2) FUEL ⟨0, rfl, (Below.refl _ _), hC2, hr3⟩ ?_
  clear hr3
  rintro k1 _ w4 ⟨x3, rfl, hB4, hC4, hL1⟩
  cases k1 with
  | zero => rw [M.IsKept_l1] at hL1; cases hL1
  | succ k1 =>
   rw [M.IsKept_l1] at hL1
   refine W_seq_reg ?_
   refine WL_lss rfl rfl rfl ?_
   refine WL_nil ?_
   refine W_seq ?_
   refine W_cond rfl (fun hc3 => ?_) (fun hc3 => ?_)
   ·replace hL1 := ite_t hL1 hc3
    refine W_skip ?_
    refine nrm_normal ?_
    refine W_seq ?_
    refine W_block ?_
    refine W_seq_reg ?_
    refine WL_move rfl rfl ?_
    obtain ⟨x4, hx1, hL1⟩ := bind_some hL1
    refine WL_index Try.underlying26 ty3 g1 hx1 rfl rfl rfl (fun b2 o1 h1 => ?_)
    refine WL_load ty3 h1 hC4.keep rfl rfl (fun v1 h2 => ?_)
    obtain rfl := ro_int h2
    refine WL_assign rfl rfl ?_
    refine WL_assign rfl rfl ?_
    refine WL_nil ?_
    obtain ⟨r3, hr4, hL1⟩ := bind_some hL1
    refine W_cut (fun l w => ∃ x5 : Bool, x5 = r3 ∧ l = [(0, u1), (3, (ptr b1 0)), (15, u1), (16, (.int .i64 (List.length a1 : Int))), (17, (.int .i64 x3)), (47, (.bool x5))] ∧ Below w4.heap.size w4 w ∧ Ctx [] w0 w [Item.box b1 [(.int .i64 a2.1), (.int .i64 a2.2)]]) ?_ ?_
    ·refine W_drawn 26 rfl hmix (fun w6 hB6 => ?_)
     have hC6 := hC4.grow hB6
     refine WA_tk 0 (by kernel_rfl) rfl rfl (fl_move rfl) ?_
     refine WL_move rfl rfl ?_
     refine WL_nil ?_
     obtain ⟨x6, hr5, hr4⟩ := bind_some hr4
     refine WA_one 1 (by kernel_rfl) rfl ?_
     refine WL_call Try.call29 rfl rfl (c_M_isTime x4 x6 hr5) ?_
     intro _ w7 hv2
     obtain ⟨rfl, hB7⟩ := res_bool hv2
     have hC7 := hC6.grow hB7
     refine WL_nil ?_
     refine WA_tk 2 (by kernel_rfl) rfl rfl (fl_not rfl) ?_
     refine WL_not rfl rfl ?_
     refine WL_nil ?_
     refine WA_tk 3 (by kernel_rfl) rfl rfl (fl_move rfl) ?_
     refine WL_move rfl rfl ?_
     refine WL_nil ?_
     refine WA_fork (fun hc4 => ?_) (fun hc4 => ?_)
     ·replace hr4 := ite_t hr4 hc4
      refine WA_sk 4 (by kernel_rfl) rfl rfl rfl rfl (by simp) rfl rfl ?_
      refine WA_sk 5 (by kernel_rfl) rfl rfl rfl rfl (by simp) rfl rfl ?_
      refine WA_sk 6 (by kernel_rfl) rfl rfl rfl rfl (by simp) rfl rfl ?_
      refine WA_sk 7 (by kernel_rfl) rfl rfl rfl rfl (by simp [undef]) rfl rfl ?_
      refine WA_sk 8 (by kernel_rfl) rfl rfl rfl rfl (by simp [undef]) rfl rfl ?_
      refine WA_sk 9 (by kernel_rfl) rfl rfl rfl rfl (by simp [undef]) rfl rfl ?_
      refine WA_sk 10 (by kernel_rfl) rfl rfl rfl rfl (by simp [undef]) rfl rfl ?_
      refine WA_sk 11 (by kernel_rfl) rfl rfl rfl rfl (by simp [undef]) rfl rfl ?_
      refine WA_sk 12 (by kernel_rfl) rfl rfl rfl rfl (by simp [undef]) rfl rfl ?_
      refine WA_sk 13 (by kernel_rfl) rfl rfl rfl rfl (by simp [undef]) rfl rfl ?_
      refine WA_sk 14 (by kernel_rfl) rfl rfl rfl rfl (by simp) rfl rfl ?_
      refine WA_tk 15 (by kernel_rfl) rfl rfl (fl_pick_t rfl rfl) ?_
      refine WL_pick_t rfl rfl rfl ?_
      refine WL_nil ?_
      refine WA_tk 16 (by kernel_rfl) rfl rfl (fl_move rfl) ?_
      refine WL_move rfl rfl ?_
      refine WL_nil ?_
      refine WA_sk 17 (by kernel_rfl) rfl rfl rfl rfl (by simp) rfl rfl ?_
      refine WA_sk 18 (by kernel_rfl) rfl rfl rfl rfl (by simp) rfl rfl ?_
      refine WA_sk 19 (by kernel_rfl) rfl rfl rfl rfl (by simp) rfl rfl ?_
      refine WA_sk 20 (by kernel_rfl) rfl rfl rfl rfl (by simp) rfl rfl ?_
      refine WA_sk 21 (by kernel_rfl) rfl rfl rfl rfl (by simp) rfl rfl ?_
      refine WA_sk 22 (by kernel_rfl) rfl rfl rfl rfl (by simp) rfl rfl ?_
      refine WA_sk 23 (by kernel_rfl) rfl rfl rfl rfl (by simp) rfl rfl ?_
      refine WA_sk 24 (by kernel_rfl) rfl rfl rfl rfl (by simp) rfl rfl ?_
      refine WA_tk 25 (by kernel_rfl) rfl rfl (fl_pick_t rfl rfl) ?_
      refine WL_pick_t rfl rfl rfl ?_
      refine WL_nil ?_
      refine WA_done (by kernel_rfl) ?_
      have hq4 := Option.some.inj hr4
      subst hq4
      refine nrm_sub (l' := [(0, u1), (3, (ptr b1 0)), (15, u1), (16, (.int .i64 (List.length a1 : Int))), (17, (.int .i64 x3)), (47, (.bool true))]) ⟨rfl, rfl, rfl, rfl, rfl, rfl, trivial⟩ ?_
      exact ⟨true, rfl, rfl, ((Keep.of hB6).then hB7).below, hC7⟩
     replace hr4 := ite_f hr4 hc4
     refine WA_takeG 4 rfl (by kernel_rfl) (by kernel_rfl) (by kernel_rfl) rfl rfl rfl (fl_move rfl) ?_
     refine WL_guard rfl rfl ?_
     refine WL_move rfl rfl ?_
     refine WL_nil ?_
     refine WA_takeG 5 rfl (by kernel_rfl) (by kernel_rfl) (by kernel_rfl) rfl rfl rfl (fl_gtr rfl rfl) ?_
     refine WL_guard rfl rfl ?_
     refine WL_gtr rfl rfl rfl ?_
     refine WL_nil ?_
     refine WA_takeG 6 rfl (by kernel_rfl) (by kernel_rfl) (by kernel_rfl) rfl rfl rfl (fl_move rfl) ?_
     refine WL_guard rfl rfl ?_
     refine WL_move rfl rfl ?_
     refine WL_nil ?_
     refine WA_fork (fun hc5 => ?_) (fun hc5 => ?_)
     ·replace hr4 := ite_t hr4 hc5
      refine WA_takeG 7 rfl (by kernel_rfl) (by kernel_rfl) (by kernel_rfl) rfl rfl rfl (fl_move rfl) ?_
      refine WL_guard rfl rfl ?_
      refine WL_move rfl rfl ?_
      refine WL_nil ?_
      refine WA_takeG 8 rfl (by kernel_rfl) (by kernel_rfl) (by kernel_rfl) rfl rfl rfl (fl_move rfl) ?_
      refine WL_guard rfl rfl ?_
      refine WL_move rfl rfl ?_
      refine WL_nil ?_
      refine WA_takeG 9 rfl (by kernel_rfl) (by kernel_rfl) (by kernel_rfl) rfl rfl rfl (fl_move rfl) ?_
      refine WL_guard rfl rfl ?_
      refine WL_move rfl rfl ?_
      refine WL_nil ?_
      refine WA_takeG 10 rfl (by kernel_rfl) (by kernel_rfl) (by kernel_rfl) rfl rfl rfl (fl_sub rfl rfl) ?_
      refine WL_guard rfl rfl ?_
      refine WL_sub rfl rfl rfl ?_
      refine WL_nil ?_
      obtain ⟨x7, hx2, hr4⟩ := bind_some hr4
      refine WA_takeG 11 rfl (by kernel_rfl) (by kernel_rfl) (by kernel_rfl) rfl rfl rfl (fl_index Try.underlying26 ty3 g1 hx2 rfl rfl) ?_
      refine WL_guard rfl rfl ?_
      refine WL_index Try.underlying26 ty3 g1 hx2 rfl rfl rfl (fun b3 o2 h3 => ?_)
      refine WL_nil ?_
      refine WA_one 12 (by kernel_rfl) rfl ?_
      refine WL_guard rfl rfl ?_
      refine WL_load ty3 h3 hC7.keep rfl rfl (fun v2 h4 => ?_)
      obtain rfl := ro_int h4
      refine WL_nil ?_
      refine WA_takeG 13 rfl (by kernel_rfl) (by kernel_rfl) (by kernel_rfl) rfl rfl rfl (fl_lss rfl rfl) ?_
      refine WL_guard rfl rfl ?_
      refine WL_lss rfl rfl rfl ?_
      refine WL_nil ?_
      refine WA_takeG 14 rfl (by kernel_rfl) (by kernel_rfl) (by kernel_rfl) rfl rfl rfl (fl_pick_t rfl rfl) ?_
      refine WL_guard rfl rfl ?_
      refine WL_pick_t rfl rfl rfl ?_
      refine WL_nil ?_
      refine WA_tk 15 (by kernel_rfl) rfl rfl (fl_pick_f rfl rfl) ?_
      refine WL_pick_f rfl rfl rfl ?_
      refine WL_nil ?_
      refine WA_tk 16 (by kernel_rfl) rfl rfl (fl_move rfl) ?_
      refine WL_move rfl rfl ?_
      refine WL_nil ?_
      refine WA_fork (fun hc6 => ?_) (fun hc6 => ?_)
      ·replace hr4 := ite_t hr4 hc6
       refine WA_sk 17 (by kernel_rfl) rfl rfl rfl rfl (by simp) rfl rfl ?_
       refine WA_sk 18 (by kernel_rfl) rfl rfl rfl rfl (by simp) rfl rfl ?_
       refine WA_sk 19 (by kernel_rfl) rfl rfl rfl rfl (by simp) rfl rfl ?_
       refine WA_sk 20 (by kernel_rfl) rfl rfl rfl rfl (by simp) rfl rfl ?_
       refine WA_sk 21 (by kernel_rfl) rfl rfl rfl rfl (by simp) rfl rfl ?_
       refine WA_sk 22 (by kernel_rfl) rfl rfl rfl rfl (by simp) rfl rfl ?_
       refine WA_sk 23 (by kernel_rfl) rfl rfl rfl rfl (by simp) rfl rfl ?_
       refine WA_sk 24 (by kernel_rfl) rfl rfl rfl rfl (by simp) rfl rfl ?_
       refine WA_tk 25 (by kernel_rfl) rfl rfl (fl_pick_t rfl rfl) ?_
       refine WL_pick_t rfl rfl rfl ?_
       refine WL_nil ?_
       refine WA_done (by kernel_rfl) ?_
       have hq5 := Option.some.inj hr4
       subst hq5
       refine nrm_sub (l' := [(0, u1), (3, (ptr b1 0)), (15, u1), (16, (.int .i64 (List.length a1 : Int))), (17, (.int .i64 x3)), (47, (.bool true))]) ⟨rfl, rfl, rfl, rfl, rfl, rfl, trivial⟩ ?_
       exact ⟨true, rfl, rfl, ((Keep.of hB6).then hB7).below, hC7⟩
      replace hr4 := ite_f hr4 hc6
      refine WA_takeG 17 rfl (by kernel_rfl) (by kernel_rfl) (by kernel_rfl) rfl rfl rfl (fl_move rfl) ?_
      refine WL_guard rfl rfl ?_
      refine WL_move rfl rfl ?_
      refine WL_nil ?_
      refine WA_takeG 18 rfl (by kernel_rfl) (by kernel_rfl) (by kernel_rfl) rfl rfl rfl (fl_move rfl) ?_
      refine WL_guard rfl rfl ?_
      refine WL_move rfl rfl ?_
      refine WL_nil ?_
      refine WA_takeG 19 rfl (by kernel_rfl) (by kernel_rfl) (by kernel_rfl) rfl rfl rfl (fl_field Try.underlying49 rfl rfl (fun w => ⟨_, Try.sizeOf3 w⟩) rfl) ?_
      refine WL_guard rfl rfl ?_
      refine WL_field Try.underlying49 rfl rfl (fun w => ⟨_, Try.sizeOf3 w⟩) rfl rfl ?_
      refine WL_nil ?_
      refine WA_takeG 22 rfl (by kernel_rfl) (by kernel_rfl) (by kernel_rfl) rfl rfl rfl (fl_field Try.underlying49 rfl rfl (fun w => ⟨_, Try.sizeOf3 w⟩) rfl) ?_
      refine WL_guard rfl rfl ?_
      refine WL_field Try.underlying49 rfl rfl (fun w => ⟨_, Try.sizeOf3 w⟩) rfl rfl ?_
      refine WL_nil ?_
      obtain ⟨x8, hr6, hr4⟩ := bind_some hr4
      refine WA.sub (l' := [(0, u1), (3, (ptr b1 0)), (5, (.int .i64 x3)), (6, (.int .i64 x4)), (15, u1), (16, (.int .i64 (List.length a1 : Int))), (17, (.int .i64 x3)), (18, (.bool (decide (x3 < (List.length a1 : Int))))), (19, (.int .i64 x3)), (20, (ptr b2 o1)), (21, (.int .i64 x4)), (22, (.int .i64 x4)), (23, (.bool x6)), (24, (.bool (!x6))), (25, (.bool false)), (26, (.int .i64 x3)), (27, (.bool (decide (0 < x3)))), (28, (.bool true)), (29, (.int .i64 x4)), (30, u1), (31, (.int .i64 x3)), (32, (.int .i64 (w64 (x3 - 1)))), (33, (ptr b3 o2)), (34, (.int .i64 x7)), (35, (.bool (decide (x4 < x7)))), (36, (.bool (decide (x4 < x7)))), (37, (.bool (decide (x4 < x7)))), (38, (.bool false)), (39, u1), (40, (.int .i64 x4)), (41, (ptr b1 0)), (44, (ptr b1 1))]) ?_ ⟨rfl, rfl, rfl, rfl, rfl, rfl, rfl, rfl, rfl, rfl, rfl, rfl, rfl, rfl, rfl, rfl, rfl, rfl, rfl, rfl, rfl, rfl, rfl, rfl, rfl, rfl, rfl, rfl, rfl, rfl, rfl, rfl, trivial⟩
      refine WA_postsE [⟨20, [], fun vs => PW.val (.int .i64 a2.1), []⟩, ⟨21, [], fun vs => PW.val (.int .i64 x8), []⟩, ⟨23, [], fun vs => PW.val (.int .i64 a2.2), []⟩] [[], [20], []] 2 rfl (by kernel_rfl) (by kernel_rfl) rfl ?_ ?_
      ·refine StepsE_cons rfl ?_ ?_
       ·intro w10 hB9
        refine DepsE_nil ?_
        refine ⟨_, rfl, ?_⟩
        refine WL_guard rfl rfl ?_
        refine WL_load_box (hC7.grow hB9) 0 rfl rfl Try.isAgg3 rfl rfl ?_
        refine WL_nil ?_
        exact FinE_val (Below.refl _ _) rfl rfl ⟨rfl, rfl⟩
       refine StepsE_cons rfl ?_ ?_
       ·intro w10 hB9
        refine DepsE_cons rfl rfl rfl ?_
        rintro _ _ ⟨rfl, rfl⟩ _
        refine DepsE_nil ?_
        refine ⟨_, rfl, ?_⟩
        refine WL_guard rfl rfl ?_
        refine WL_call Try.call35 rfl rfl (c_M_CallsIn a1 u1 (g1.now (hC7.keep.then hB9)) x4 a2.1 x8 hr6) ?_
        intro _ w9 hv3
        obtain ⟨rfl, hB8⟩ := res_int hv3
        refine WL_nil ?_
        exact FinE_val hB8 rfl rfl ⟨rfl, rfl⟩
       refine StepsE_cons rfl ?_ ?_
       ·intro w10 hB9
        refine DepsE_nil ?_
        refine ⟨_, rfl, ?_⟩
        refine WL_guard rfl rfl ?_
        refine WL_load_box (hC7.grow hB9) 0 rfl rfl Try.isAgg3 rfl rfl ?_
        refine WL_nil ?_
        exact FinE_val (Below.refl _ _) rfl rfl ⟨rfl, rfl⟩
       exact StepsE_nil
      intro w11 hB10
      refine AllE_cons rfl rfl rfl ?_
      rintro _ _ ⟨rfl, rfl⟩
      refine AllE_cons rfl rfl rfl ?_
      rintro _ _ ⟨rfl, rfl⟩
      refine AllE_cons rfl rfl rfl ?_
      rintro _ _ ⟨rfl, rfl⟩
      refine AllE_nil ?_
      intro hn1 hb1
      have hC8 := hC7.grow hB10
      refine WA_takeG 24 rfl (by kernel_rfl) (by kernel_rfl) (by kernel_rfl) rfl rfl rfl (fl_gtr rfl rfl) ?_
      refine WL_guard rfl rfl ?_
      refine WL_gtr rfl rfl rfl ?_
      refine WL_nil ?_
      refine WA_tk 25 (by kernel_rfl) rfl rfl (fl_pick_f rfl rfl) ?_
      refine WL_pick_f rfl rfl rfl ?_
      refine WL_nil ?_
      refine WA_done (by kernel_rfl) ?_
      have hq6 := Option.some.inj hr4
      subst hq6
      refine nrm_sub (l' := [(0, u1), (3, (ptr b1 0)), (15, u1), (16, (.int .i64 (List.length a1 : Int))), (17, (.int .i64 x3)), (47, (.bool (decide (a2.2 < x8))))]) ⟨rfl, rfl, rfl, rfl, rfl, rfl, trivial⟩ ?_
      exact ⟨(decide (a2.2 < x8)), rfl, rfl, (((Keep.of hB6).then hB7).then hB10).below, hC8⟩
     replace hr4 := ite_f hr4 hc5
     refine WA_sk 7 (by kernel_rfl) rfl rfl rfl rfl (by simp) rfl rfl ?_
     refine WA_sk 8 (by kernel_rfl) rfl rfl rfl rfl (by simp) rfl rfl ?_
     refine WA_sk 9 (by kernel_rfl) rfl rfl rfl rfl (by simp) rfl rfl ?_
     refine WA_sk 10 (by kernel_rfl) rfl rfl rfl rfl (by simp) rfl rfl ?_
     refine WA_sk 11 (by kernel_rfl) rfl rfl rfl rfl (by simp) rfl rfl ?_
     refine WA_sk 12 (by kernel_rfl) rfl rfl rfl rfl (by simp) rfl rfl ?_
     refine WA_sk 13 (by kernel_rfl) rfl rfl rfl rfl (by simp) rfl rfl ?_
     refine WA_takeG 14 rfl (by kernel_rfl) (by kernel_rfl) (by kernel_rfl) rfl rfl rfl (fl_pick_f rfl rfl) ?_
     refine WL_guard rfl rfl ?_
     refine WL_pick_f rfl rfl rfl ?_
     refine WL_nil ?_
     refine WA_tk 15 (by kernel_rfl) rfl rfl (fl_pick_f rfl rfl) ?_
     refine WL_pick_f rfl rfl rfl ?_
     refine WL_nil ?_
     refine WA_tk 16 (by kernel_rfl) rfl rfl (fl_move rfl) ?_
     refine WL_move rfl rfl ?_
     refine WL_nil ?_
     refine WA_takeG 17 rfl (by kernel_rfl) (by kernel_rfl) (by kernel_rfl) rfl rfl rfl (fl_move rfl) ?_
     refine WL_guard rfl rfl ?_
     refine WL_move rfl rfl ?_
     refine WL_nil ?_
     refine WA_takeG 18 rfl (by kernel_rfl) (by kernel_rfl) (by kernel_rfl) rfl rfl rfl (fl_move rfl) ?_
     refine WL_guard rfl rfl ?_
     refine WL_move rfl rfl ?_
     refine WL_nil ?_
     refine WA_takeG 19 rfl (by kernel_rfl) (by kernel_rfl) (by kernel_rfl) rfl rfl rfl (fl_field Try.underlying49 rfl rfl (fun w => ⟨_, Try.sizeOf3 w⟩) rfl) ?_
     refine WL_guard rfl rfl ?_
     refine WL_field Try.underlying49 rfl rfl (fun w => ⟨_, Try.sizeOf3 w⟩) rfl rfl ?_
     refine WL_nil ?_
     refine WA_takeG 22 rfl (by kernel_rfl) (by kernel_rfl) (by kernel_rfl) rfl rfl rfl (fl_field Try.underlying49 rfl rfl (fun w => ⟨_, Try.sizeOf3 w⟩) rfl) ?_
     refine WL_guard rfl rfl ?_
     refine WL_field Try.underlying49 rfl rfl (fun w => ⟨_, Try.sizeOf3 w⟩) rfl rfl ?_
     refine WL_nil ?_
     obtain ⟨x9, hr7, hr4⟩ := bind_some hr4
     refine WA.sub (l' := [(0, u1), (3, (ptr b1 0)), (5, (.int .i64 x3)), (6, (.int .i64 x4)), (15, u1), (16, (.int .i64 (List.length a1 : Int))), (17, (.int .i64 x3)), (18, (.bool (decide (x3 < (List.length a1 : Int))))), (19, (.int .i64 x3)), (20, (ptr b2 o1)), (21, (.int .i64 x4)), (22, (.int .i64 x4)), (23, (.bool x6)), (24, (.bool (!x6))), (25, (.bool false)), (26, (.int .i64 x3)), (27, (.bool (decide (0 < x3)))), (28, (.bool false)), (36, (.bool false)), (37, (.bool false)), (38, (.bool false)), (39, u1), (40, (.int .i64 x4)), (41, (ptr b1 0)), (44, (ptr b1 1))]) ?_ ⟨rfl, rfl, rfl, rfl, rfl, rfl, rfl, rfl, rfl, rfl, rfl, rfl, rfl, rfl, rfl, rfl, rfl, rfl, rfl, rfl, rfl, rfl, rfl, rfl, rfl, trivial⟩
     refine WA_postsE [⟨20, [], fun vs => PW.val (.int .i64 a2.1), []⟩, ⟨21, [], fun vs => PW.val (.int .i64 x9), []⟩, ⟨23, [], fun vs => PW.val (.int .i64 a2.2), []⟩] [[], [20], []] 2 rfl (by kernel_rfl) (by kernel_rfl) rfl ?_ ?_
     ·refine StepsE_cons rfl ?_ ?_
      ·intro w13 hB12
       refine DepsE_nil ?_
       refine ⟨_, rfl, ?_⟩
       refine WL_guard rfl rfl ?_
       refine WL_load_box (hC7.grow hB12) 0 rfl rfl Try.isAgg3 rfl rfl ?_
       refine WL_nil ?_
       exact FinE_val (Below.refl _ _) rfl rfl ⟨rfl, rfl⟩
      refine StepsE_cons rfl ?_ ?_
      ·intro w13 hB12
       refine DepsE_cons rfl rfl rfl ?_
       rintro _ _ ⟨rfl, rfl⟩ _
       refine DepsE_nil ?_
       refine ⟨_, rfl, ?_⟩
       refine WL_guard rfl rfl ?_
       refine WL_call Try.call35 rfl rfl (c_M_CallsIn a1 u1 (g1.now (hC7.keep.then hB12)) x4 a2.1 x9 hr7) ?_
       intro _ w12 hv4
       obtain ⟨rfl, hB11⟩ := res_int hv4
       refine WL_nil ?_
       exact FinE_val hB11 rfl rfl ⟨rfl, rfl⟩
      refine StepsE_cons rfl ?_ ?_
      ·intro w13 hB12
       refine DepsE_nil ?_
       refine ⟨_, rfl, ?_⟩
       refine WL_guard rfl rfl ?_
       refine WL_load_box (hC7.grow hB12) 0 rfl rfl Try.isAgg3 rfl rfl ?_
       refine WL_nil ?_
       exact FinE_val (Below.refl _ _) rfl rfl ⟨rfl, rfl⟩
      exact StepsE_nil
     intro w14 hB13
     refine AllE_cons rfl rfl rfl ?_
     rintro _ _ ⟨rfl, rfl⟩
     refine AllE_cons rfl rfl rfl ?_
     rintro _ _ ⟨rfl, rfl⟩
     refine AllE_cons rfl rfl rfl ?_
     rintro _ _ ⟨rfl, rfl⟩
     refine AllE_nil ?_
     intro hn2 hb2
     have hC9 := hC7.grow hB13
     refine WA_takeG 24 rfl (by kernel_rfl) (by kernel_rfl) (by kernel_rfl) rfl rfl rfl (fl_gtr rfl rfl) ?_
     refine WL_guard rfl rfl ?_
     refine WL_gtr rfl rfl rfl ?_
     refine WL_nil ?_
     refine WA_tk 25 (by kernel_rfl) rfl rfl (fl_pick_f rfl rfl) ?_
     refine WL_pick_f rfl rfl rfl ?_
     refine WL_nil ?_
     refine WA_done (by kernel_rfl) ?_
     have hq7 := Option.some.inj hr4
     subst hq7
     refine nrm_sub (l' := [(0, u1), (3, (ptr b1 0)), (15, u1), (16, (.int .i64 (List.length a1 : Int))), (17, (.int .i64 x3)), (47, (.bool (decide (a2.2 < x9))))]) ⟨rfl, rfl, rfl, rfl, rfl, rfl, trivial⟩ ?_
     exact ⟨(decide (a2.2 < x9)), rfl, rfl, (((Keep.of hB6).then hB7).then hB13).below, hC9⟩
    rintro _ w5 ⟨x5, rfl, rfl, hB5, hC5⟩
    try dsimp only at hL1
    refine W_cond rfl (fun hc7 => ?_) (fun hc7 => ?_)
    ·replace hL1 := ite_t hL1 hc7
     refine W_seq_reg ?_
     refine WL_assign rfl rfl ?_
     refine WL_nil ?_
     refine W_ret ?_
     refine blk_ret ?_
     refine nrm_ret ?_
     refine nrm_ret ?_
     refine blk_ret ?_
     refine nrm_ret ?_
     refine nrm_ret ?_
     have hq8 := Option.some.inj hL1
     subst hq8
     dsimp only at hF
     have hq9 := Option.some.inj hF
     subst hq9
     refine fn_ret1 rfl rfl ?_
     exact ⟨_, rfl, bool_res hC5 _⟩
    replace hL1 := ite_f hL1 hc7
    refine W_skip ?_
    refine blk_normal ?_
    refine nrm_normal ?_
    refine W_reg ?_
    refine WL_add rfl rfl rfl ?_
    refine WL_move rfl rfl ?_
    refine WL_nil ?_
    refine nrm_sub (l' := [(0, u1), (3, (ptr b1 0)), (15, u1), (16, (.int .i64 (List.length a1 : Int))), (17, (.int .i64 (w64 (x3 + 1))))]) ⟨rfl, rfl, rfl, rfl, rfl, trivial⟩ ?_
    exact ⟨k1, Nat.lt_succ_self _, w64 (x3 + 1), rfl, ((Keep.of hB4).then hB5).below, hC5, hL1⟩
   replace hL1 := ite_f hL1 hc3
   refine W_exit ?_
   refine nrm_exit ?_
   refine nrm_exit ?_
   refine blk_exit ?_
   have hq10 := Option.some.inj hL1
   subst hq10
   have hC10 := hC4.h0
   refine nrm_sub (l' := []) trivial ?_
   exact ⟨rfl, rfl, (Keep.of hB4).below, hC10⟩
 rintro l4 _ w15 hs4 ⟨rfl, rfl, hB14, hC11⟩
 try dsimp only at hF
 refine nrm_sub' hs4 ?_
 clear hs4
 refine W_seq_reg ?_
 refine WL_assign rfl rfl ?_
 refine WL_nil ?_
 refine W_ret ?_
 have hq11 := Option.some.inj hF
 subst hq11
 refine fn_ret1 rfl rfl ?_
 exact ⟨_, rfl, bool_res hC11 _⟩

theorem c_Q_FnSchedules {w0 : World} (a1 : (List UInt8)) (u1 : Value) (g1 : RO [] w0 u1 a1) (rr : Bool) (hF : Q.FnSchedules a1 = some rr) :
 Calls Try.prog 4 [u1].toArray w0 fun e w' => ∃ v, e = .returned v ∧ Res w0 rr v w' := by
 refine calls_of_W Try.func4 rfl rfl ?_
 have hC0 := Ctx.start w0
 unfold Q.FnSchedules at hF
 refine W_seq_reg ?_
 refine WL_assign rfl rfl ?_
 refine WL_nil ?_
 refine W_seq ?_
 refine W_seq_reg ?_
 refine WL_move rfl rfl ?_
 obtain ⟨x1, hr1, hF⟩ := bind_some hF
 refine WL_call Try.call18 rfl rfl (c_Q_big a1 u1 (g1.now hC0.keep) x1 hr1) ?_
 intro _ w1 hv1
 obtain ⟨rfl, hB1⟩ := res_bool hv1
 have hC1 := hC0.grow hB1
 refine WL_nil ?_
 refine W_cond rfl (fun hc1 => ?_) (fun hc1 => ?_)
 ·replace hF := ite_t hF hc1
  refine W_seq_reg ?_
  refine WL_assign rfl rfl ?_
  refine WL_nil ?_
  refine W_ret ?_
  refine nrm_ret ?_
  have hq1 := Option.some.inj hF
  subst hq1
  refine fn_ret1 rfl rfl ?_
  exact ⟨_, rfl, bool_res hC1 _⟩
 replace hF := ite_f hF hc1
 refine W_skip ?_
 refine nrm_normal ?_
 refine W_seq_reg ?_
 refine WL_move rfl rfl ?_
 obtain ⟨x2, hr2, hF⟩ := bind_some hF
 refine WL_call Try.call19 rfl rfl (c_S_DrawScheduleLog a1 u1 (g1.now hC1.keep) x2 hr2) ?_
 rintro _ w2 ⟨v1, v2, rfl, hq2⟩
 have hC2 : Ctx [] w0 w2 [Item.own v1 (x2.1 : (List (Int × (List Int) × Int × Int × Int))), Item.own v2 (x2.2.1 : (List (Int × (List Int))))] := hC1.push2 hq2
 refine WL_move rfl rfl ?_
 refine WL_extract rfl rfl rfl ?_
 refine WL_extract rfl rfl rfl ?_
 refine WL_extract rfl rfl rfl ?_
 refine WL_extract rfl rfl rfl ?_
 refine WL_assign rfl rfl ?_
 refine WL_assign rfl rfl ?_
 refine WL_assign rfl rfl ?_
 refine WL_assign rfl rfl ?_
 refine WL_nil ?_
 refine W_seq_reg ?_
 refine WL_move rfl rfl ?_
 refine WL_move rfl rfl ?_
 refine WL_move rfl rfl ?_
 refine WL_move rfl rfl ?_
 obtain ⟨x3, hr3, hF⟩ := bind_some hF
 refine WL_call Try.call10 rfl rfl (c_M_ScheduleLog x2.1 v1 ((hC2.ro 0 rfl).now (Keep.refl _ _)) x2.2.1 v2 ((hC2.ro 1 rfl).now (Keep.refl _ _)) x2.2.2.1 x2.2.2.2 x3 hr3) ?_
 rintro _ w3 ⟨hB2, v3, v4, F1, F2, rfl, hv2, hv3, hn2, hb2⟩
 obtain ⟨rfl, rfl⟩ := val_bool hv3
 have hC3 := hC2.pushL hB2 (Bs := [Item.own v3 x3.1]) (Fs := [F1]) ⟨F1, _, rfl, hv2, rfl⟩ (by simpa using hn2) (fun b h => hb2 b (by simpa using h))
 refine WL_move rfl rfl ?_
 refine WL_extract rfl rfl rfl ?_
 refine WL_extract rfl rfl rfl ?_
 refine WL_assign rfl rfl ?_
 refine WL_assign rfl rfl ?_
 refine WL_nil ?_
 refine W_seq_reg ?_
 refine WL_move rfl rfl ?_
 refine WL_move rfl rfl ?_
 refine WL_move rfl rfl ?_
 refine WL_move rfl rfl ?_
 obtain ⟨x4, hr4, hF⟩ := bind_some hF
 refine WL_call Try.call7 rfl rfl (c_S_ScheduleLog x2.1 v1 ((hC3.ro 1 rfl).now (Keep.refl _ _)) x2.2.1 v2 ((hC3.ro 2 rfl).now (Keep.refl _ _)) x2.2.2.1 x2.2.2.2 x4 hr4) ?_
 rintro _ w4 ⟨hB3, v5, v6, F3, F4, rfl, hv4, hv5, hn3, hb3⟩
 obtain ⟨rfl, rfl⟩ := val_bool hv5
 have hC4 := hC3.pushL hB3 (Bs := [Item.own v5 x4.1]) (Fs := [F3]) ⟨F3, _, rfl, hv4, rfl⟩ (by simpa using hn3) (fun b h => hb3 b (by simpa using h))
 refine WL_move rfl rfl ?_
 refine WL_extract rfl rfl rfl ?_
 refine WL_extract rfl rfl rfl ?_
 refine WL_assign rfl rfl ?_
 refine WL_assign rfl rfl ?_
 refine WL_nil ?_
 refine W_seq ?_
 obtain ⟨r1, hr5, hF⟩ := bind_some hF
 refine W_cut (fun l w => ∃ x5 : Bool, x5 = r1 ∧ l = [(3, v1), (4, v2), (5, (.int .i64 x2.2.2.1)), (6, (.int .i64 x2.2.2.2)), (8, (.bool x3.2)), (9, v5), (49, (.bool x5))] ∧ Below w4.heap.size w4 w ∧ Ctx [] w0 w [Item.own v5 (x4.1 : (List Int)), Item.own v1 (x2.1 : (List (Int × (List Int) × Int × Int × Int))), Item.own v2 (x2.2.1 : (List (Int × (List Int))))]) ?_ ?_
 ·refine W_reg ?_
  refine WL_move rfl rfl ?_
  refine WL_move rfl rfl ?_
  refine WL_bool_neq Try.underlying4 rfl rfl rfl ?_
  refine WL_move rfl rfl ?_
  refine WL_fork (fun hc2 => ?_) (fun hc2 => ?_)
  ·replace hr5 := ite_t hr5 hc2
   refine WL_guard_skip rfl rfl (by simp) rfl ?_
   refine WL_guard_skip rfl rfl (by simp) rfl ?_
   refine WL_guard_skip rfl rfl (by simp) rfl ?_
   refine WL_guard_skip rfl rfl (by simp) rfl ?_
   refine WL_pick_t rfl rfl rfl ?_
   refine WL_nil ?_
   have hq3 := Option.some.inj hr5
   subst hq3
   have hC6 := hC4.f3
   have hC7 := hC6.f3
   have hC8 := hC7.f2
   have hC9 := hC8.h3
   refine nrm_sub (l' := [(3, v1), (4, v2), (5, (.int .i64 x2.2.2.1)), (6, (.int .i64 x2.2.2.2)), (8, (.bool x3.2)), (9, v5), (49, (.bool true))]) ⟨rfl, rfl, rfl, rfl, rfl, rfl, rfl, trivial⟩ ?_
   exact ⟨true, rfl, rfl, (Below.refl _ _), hC9⟩
  replace hr5 := ite_f hr5 hc2
  refine WL_guard rfl rfl ?_
  refine WL_move rfl rfl ?_
  refine WL_guard rfl rfl ?_
  refine WL_move rfl rfl ?_
  obtain ⟨x6, hr6, hr5⟩ := bind_some hr5
  refine WL_guard rfl rfl ?_
  refine WL_call Try.call20 rfl rfl (c_Q_sameInts x3.1 v3 ((hC4.ro 1 rfl).now (Keep.refl _ _)) x4.1 v5 ((hC4.ro 0 rfl).now (Keep.refl _ _)) x6 hr6) ?_
  intro _ w6 hv6
  obtain ⟨rfl, hB5⟩ := res_bool hv6
  have hC10 := hC4.grow hB5
  refine WL_guard rfl rfl ?_
  refine WL_not rfl rfl ?_
  refine WL_pick_f rfl rfl rfl ?_
  refine WL_nil ?_
  have hq4 := Option.some.inj hr5
  subst hq4
  have hC11 := hC10.f3
  have hC12 := hC11.f3
  have hC13 := hC12.f2
  have hC14 := hC13.h3
  refine nrm_sub (l' := [(3, v1), (4, v2), (5, (.int .i64 x2.2.2.1)), (6, (.int .i64 x2.2.2.2)), (8, (.bool x3.2)), (9, v5), (49, (.bool (!x6)))]) ⟨rfl, rfl, rfl, rfl, rfl, rfl, rfl, trivial⟩ ?_
  exact ⟨(!x6), rfl, rfl, (Keep.of hB5).below, hC14⟩
 rintro _ w5 ⟨x5, rfl, rfl, hB4, hC5⟩
 try dsimp only at hF
 refine W_cond rfl (fun hc3 => ?_) (fun hc3 => ?_)
 ·replace hF := ite_t hF hc3
  refine W_seq_reg ?_
  refine WL_assign rfl rfl ?_
  refine WL_nil ?_
  refine W_ret ?_
  refine nrm_ret ?_
  have hq5 := Option.some.inj hF
  subst hq5
  refine fn_ret1 rfl rfl ?_
  exact ⟨_, rfl, bool_res hC5 _⟩
 replace hF := ite_f hF hc3
 refine W_skip ?_
 refine nrm_normal ?_
 refine W_seq ?_
 refine W_seq_reg ?_
 refine WL_assign rfl rfl ?_
 refine WL_nil ?_
 obtain ⟨r2, hr7, hF⟩ := bind_some hF
 refine W_norm (fun l w => .inl () = r2 ∧ l = [(3, v1), (4, v2), (5, (.int .i64 x2.2.2.1)), (8, (.bool x3.2)), (9, v5)] ∧ Below w5.heap.size w5 w ∧ Ctx [] w0 w [Item.own v5 (x4.1 : (List Int)), Item.own v1 (x2.1 : (List (Int × (List Int) × Int × Int × Int))), Item.own v2 (x2.2.1 : (List (Int × (List Int))))]) ?_ ?_
 ·refine W_block ?_
  refine W.sub (l' := [(3, v1), (4, v2), (5, (.int .i64 x2.2.2.1)), (6, (.int .i64 x2.2.2.2)), (8, (.bool x3.2)), (9, v5), (11, (.int .i64 0))]) ?_ ⟨rfl, rfl, rfl, rfl, rfl, rfl, rfl, trivial⟩
  refine W_loop (fun k l w => ∃ x7 : Int, l = [(3, v1), (4, v2), (5, (.int .i64 x2.2.2.1)), (6, (.int .i64 x2.2.2.2)), (8, (.bool x3.2)), (9, v5), (11, (.int .i64 x7))] ∧ Below w5.heap.size w5 w ∧ Ctx [] w0 w [Item.own v5 (x4.1 : (List Int)), Item.own v1 (x2.1 : (List (Int × (List Int) × Int × Int × Int))), Item.own v2 (x2.2.1 : (List (Int × (List Int))))] ∧ Q.FnSchedules_l1 x4 x2 k x7 = some r2) FUEL ⟨0, rfl, (Below.refl _ _), hC5, hr7⟩ ?_
  clear hr7
  rintro k1 _ w7 ⟨x7, rfl, hB6, hC15, hL1⟩
  cases k1 with
  | zero => rw [Q.FnSchedules_l1] at hL1; cases hL1
  | succ k1 =>
   rw [Q.FnSchedules_l1] at hL1
   refine W_seq ?_
   refine W_seq_reg ?_
   refine WL_move rfl rfl ?_
   refine WL_move rfl rfl ?_
   refine WL_len Try.underlying26 (hC15.ro 0 rfl) rfl rfl ?_
   refine WL_lss rfl rfl rfl ?_
   refine WL_nil ?_
   refine W_cond rfl (fun hc4 => ?_) (fun hc4 => ?_)
   ·replace hL1 := ite_t hL1 hc4
    refine W_skip ?_
    refine nrm_normal ?_
    refine W_seq ?_
    refine W_block ?_
    obtain ⟨r3, hr8, hL1⟩ := bind_some hL1
    refine W_cut (fun l w => ∃ x8 : Bool, x8 = r3 ∧ l = [(3, v1), (4, v2), (5, (.int .i64 x2.2.2.1)), (6, (.int .i64 x2.2.2.2)), (8, (.bool x3.2)), (9, v5), (11, (.int .i64 x7)), (77, (.bool x8))] ∧ Below w7.heap.size w7 w ∧ Ctx [] w0 w [Item.own v5 (x4.1 : (List Int)), Item.own v1 (x2.1 : (List (Int × (List Int) × Int × Int × Int))), Item.own v2 (x2.2.1 : (List (Int × (List Int))))]) ?_ ?_
    ·refine W_drawn 22 rfl hmix (fun w10 hB8 => ?_)
     have hC17 := hC15.grow hB8
     refine WA_tk 0 (by kernel_rfl) rfl rfl (fl_move rfl) ?_
     refine WL_move rfl rfl ?_
     refine WL_nil ?_
     refine WA_tk 1 (by kernel_rfl) rfl rfl (fl_move rfl) ?_
     refine WL_move rfl rfl ?_
     refine WL_nil ?_
     obtain ⟨x9, hx1, hr8⟩ := bind_some hr8
     refine WA_tk 2 (by kernel_rfl) rfl rfl (fl_index Try.underlying26 ty3 (hC17.ro 0 rfl) hx1 rfl rfl) ?_
     refine WL_index Try.underlying26 ty3 (hC17.ro 0 rfl) hx1 rfl rfl rfl (fun b1 o1 h1 => ?_)
     refine WL_nil ?_
     refine WA_tk 4 (by kernel_rfl) rfl rfl (fl_move rfl) ?_
     refine WL_move rfl rfl ?_
     refine WL_nil ?_
     refine WA_one 3 (by kernel_rfl) rfl ?_
     refine WL_load ty3 h1 (Keep.refl _ _) rfl rfl (fun v7 h2 => ?_)
     obtain rfl := ro_int h2
     refine WL_nil ?_
     refine WA_tk 5 (by kernel_rfl) rfl rfl (fl_lss rfl rfl) ?_
     refine WL_lss rfl rfl rfl ?_
     refine WL_nil ?_
     refine WA_tk 6 (by kernel_rfl) rfl rfl (fl_move rfl) ?_
     refine WL_move rfl rfl ?_
     refine WL_nil ?_
     refine WA_fork (fun hc5 => ?_) (fun hc5 => ?_)
     ·replace hr8 := ite_t hr8 hc5
      refine WA_sk 7 (by kernel_rfl) rfl rfl rfl rfl (by simp) rfl rfl ?_
      refine WA_sk 8 (by kernel_rfl) rfl rfl rfl rfl (by simp) rfl rfl ?_
      refine WA_sk 9 (by kernel_rfl) rfl rfl rfl rfl (by simp) rfl rfl ?_
      refine WA_sk 10 (by kernel_rfl) rfl rfl rfl rfl (by simp [undef]) rfl rfl ?_
      refine WA_sk 11 (by kernel_rfl) rfl rfl rfl rfl (by simp [undef]) rfl rfl ?_
      refine WA_sk 12 (by kernel_rfl) rfl rfl rfl rfl (by simp [undef]) rfl rfl ?_
      refine WA_sk 13 (by kernel_rfl) rfl rfl rfl rfl (by simp [undef]) rfl rfl ?_
      refine WA_sk 14 (by kernel_rfl) rfl rfl rfl rfl (by simp [undef]) rfl rfl ?_
      refine WA_sk 15 (by kernel_rfl) rfl rfl rfl rfl (by simp [undef]) rfl rfl ?_
      refine WA_sk 16 (by kernel_rfl) rfl rfl rfl rfl (by simp [undef]) rfl rfl ?_
      refine WA_sk 17 (by kernel_rfl) rfl rfl rfl rfl (by simp [undef]) rfl rfl ?_
      refine WA_sk 18 (by kernel_rfl) rfl rfl rfl rfl (by simp [undef]) rfl rfl ?_
      refine WA_sk 19 (by kernel_rfl) rfl rfl rfl rfl (by simp [undef]) rfl rfl ?_
      refine WA_sk 20 (by kernel_rfl) rfl rfl rfl rfl (by simp) rfl rfl ?_
      refine WA_tk 21 (by kernel_rfl) rfl rfl (fl_pick_t rfl rfl) ?_
      refine WL_pick_t rfl rfl rfl ?_
      refine WL_nil ?_
      refine WA_done (by kernel_rfl) ?_
      have hq6 := Option.some.inj hr8
      subst hq6
      refine nrm_sub (l' := [(3, v1), (4, v2), (5, (.int .i64 x2.2.2.1)), (6, (.int .i64 x2.2.2.2)), (8, (.bool x3.2)), (9, v5), (11, (.int .i64 x7)), (77, (.bool true))]) ⟨rfl, rfl, rfl, rfl, rfl, rfl, rfl, rfl, trivial⟩ ?_
      exact ⟨true, rfl, rfl, (Keep.of hB8).below, hC17⟩
     replace hr8 := ite_f hr8 hc5
     refine WA_takeG 7 rfl (by kernel_rfl) (by kernel_rfl) (by kernel_rfl) rfl rfl rfl (fl_move rfl) ?_
     refine WL_guard rfl rfl ?_
     refine WL_move rfl rfl ?_
     refine WL_nil ?_
     refine WA_takeG 8 rfl (by kernel_rfl) (by kernel_rfl) (by kernel_rfl) rfl rfl rfl (fl_gtr rfl rfl) ?_
     refine WL_guard rfl rfl ?_
     refine WL_gtr rfl rfl rfl ?_
     refine WL_nil ?_
     refine WA_takeG 9 rfl (by kernel_rfl) (by kernel_rfl) (by kernel_rfl) rfl rfl rfl (fl_move rfl) ?_
     refine WL_guard rfl rfl ?_
     refine WL_move rfl rfl ?_
     refine WL_nil ?_
     refine WA_fork (fun hc6 => ?_) (fun hc6 => ?_)
     ·replace hr8 := ite_t hr8 hc6
      refine WA_takeG 10 rfl (by kernel_rfl) (by kernel_rfl) (by kernel_rfl) rfl rfl rfl (fl_move rfl) ?_
      refine WL_guard rfl rfl ?_
      refine WL_move rfl rfl ?_
      refine WL_nil ?_
      refine WA_takeG 11 rfl (by kernel_rfl) (by kernel_rfl) (by kernel_rfl) rfl rfl rfl (fl_move rfl) ?_
      refine WL_guard rfl rfl ?_
      refine WL_move rfl rfl ?_
      refine WL_nil ?_
      obtain ⟨x10, hx2, hr8⟩ := bind_some hr8
      refine WA_takeG 12 rfl (by kernel_rfl) (by kernel_rfl) (by kernel_rfl) rfl rfl rfl (fl_index Try.underlying26 ty3 (hC17.ro 0 rfl) hx2 rfl rfl) ?_
      refine WL_guard rfl rfl ?_
      refine WL_index Try.underlying26 ty3 (hC17.ro 0 rfl) hx2 rfl rfl rfl (fun b2 o2 h3 => ?_)
      refine WL_nil ?_
      refine WA_takeG 14 rfl (by kernel_rfl) (by kernel_rfl) (by kernel_rfl) rfl rfl rfl (fl_move rfl) ?_
      refine WL_guard rfl rfl ?_
      refine WL_move rfl rfl ?_
      refine WL_nil ?_
      refine WA_takeG 15 rfl (by kernel_rfl) (by kernel_rfl) (by kernel_rfl) rfl rfl rfl (fl_move rfl) ?_
      refine WL_guard rfl rfl ?_
      refine WL_move rfl rfl ?_
      refine WL_nil ?_
      refine WA_takeG 16 rfl (by kernel_rfl) (by kernel_rfl) (by kernel_rfl) rfl rfl rfl (fl_sub rfl rfl) ?_
      refine WL_guard rfl rfl ?_
      refine WL_sub rfl rfl rfl ?_
      refine WL_nil ?_
      obtain ⟨x11, hx3, hr8⟩ := bind_some hr8
      refine WA_takeG 17 rfl (by kernel_rfl) (by kernel_rfl) (by kernel_rfl) rfl rfl rfl (fl_index Try.underlying26 ty3 (hC17.ro 0 rfl) hx3 rfl rfl) ?_
      refine WL_guard rfl rfl ?_
      refine WL_index Try.underlying26 ty3 (hC17.ro 0 rfl) hx3 rfl rfl rfl (fun b3 o3 h4 => ?_)
      refine WL_nil ?_
      refine WA.sub (l' := [(3, v1), (4, v2), (5, (.int .i64 x2.2.2.1)), (6, (.int .i64 x2.2.2.2)), (8, (.bool x3.2)), (9, v5), (11, (.int .i64 x7)), (50, (.int .i64 x7)), (51, v5), (52, (.int .i64 (List.length x4.1 : Int))), (53, (.bool (decide (x7 < (List.length x4.1 : Int))))), (56, v5), (57, (.int .i64 x7)), (58, (ptr b1 o1)), (59, (.int .i64 x9)), (60, (.int .i64 x2.2.2.2)), (61, (.bool (decide (x9 < x2.2.2.2)))), (62, (.bool false)), (63, (.int .i64 x7)), (64, (.bool (decide (0 < x7)))), (65, (.bool true)), (66, v5), (67, (.int .i64 x7)), (68, (ptr b2 o2)), (70, v5), (71, (.int .i64 x7)), (72, (.int .i64 (w64 (x7 - 1)))), (73, (ptr b3 o3))]) ?_ ⟨rfl, rfl, rfl, rfl, rfl, rfl, rfl, rfl, rfl, rfl, rfl, rfl, rfl, rfl, rfl, rfl, rfl, rfl, rfl, rfl, rfl, rfl, rfl, rfl, rfl, rfl, rfl, rfl, trivial⟩
      refine WA_postsE [⟨13, [], fun vs => PW.val (.int .i64 x10), []⟩, ⟨18, [], fun vs => PW.val (.int .i64 x11), []⟩] [[], []] 3 rfl (by kernel_rfl) (by kernel_rfl) rfl ?_ ?_
      ·refine StepsE_cons rfl ?_ ?_
       ·intro w11 hB9
        refine DepsE_nil ?_
        refine ⟨_, rfl, ?_⟩
        refine WL_guard rfl rfl ?_
        refine WL_load ty3 h3 (Keep.of hB9) rfl rfl (fun v8 h5 => ?_)
        obtain rfl := ro_int h5
        refine WL_nil ?_
        exact FinE_val (Below.refl _ _) rfl rfl ⟨rfl, rfl⟩
       refine StepsE_cons rfl ?_ ?_
       ·intro w11 hB9
        refine DepsE_nil ?_
        refine ⟨_, rfl, ?_⟩
        refine WL_guard rfl rfl ?_
        refine WL_load ty3 h4 (Keep.of hB9) rfl rfl (fun v9 h6 => ?_)
        obtain rfl := ro_int h6
        refine WL_nil ?_
        exact FinE_val (Below.refl _ _) rfl rfl ⟨rfl, rfl⟩
       exact StepsE_nil
      intro w12 hB10
      refine AllE_cons rfl rfl rfl ?_
      rintro _ _ ⟨rfl, rfl⟩
      refine AllE_cons rfl rfl rfl ?_
      rintro _ _ ⟨rfl, rfl⟩
      refine AllE_nil ?_
      intro hn4 hb4
      have hC18 := hC17.grow hB10
      refine WA_takeG 19 rfl (by kernel_rfl) (by kernel_rfl) (by kernel_rfl) rfl rfl rfl (fl_lss rfl rfl) ?_
      refine WL_guard rfl rfl ?_
      refine WL_lss rfl rfl rfl ?_
      refine WL_nil ?_
      refine WA_takeG 20 rfl (by kernel_rfl) (by kernel_rfl) (by kernel_rfl) rfl rfl rfl (fl_pick_t rfl rfl) ?_
      refine WL_guard rfl rfl ?_
      refine WL_pick_t rfl rfl rfl ?_
      refine WL_nil ?_
      refine WA_tk 21 (by kernel_rfl) rfl rfl (fl_pick_f rfl rfl) ?_
      refine WL_pick_f rfl rfl rfl ?_
      refine WL_nil ?_
      refine WA_done (by kernel_rfl) ?_
      have hq7 := Option.some.inj hr8
      subst hq7
      refine nrm_sub (l' := [(3, v1), (4, v2), (5, (.int .i64 x2.2.2.1)), (6, (.int .i64 x2.2.2.2)), (8, (.bool x3.2)), (9, v5), (11, (.int .i64 x7)), (77, (.bool (decide (x10 < x11))))]) ⟨rfl, rfl, rfl, rfl, rfl, rfl, rfl, rfl, trivial⟩ ?_
      exact ⟨(decide (x10 < x11)), rfl, rfl, ((Keep.of hB8).then hB10).below, hC18⟩
     replace hr8 := ite_f hr8 hc6
     refine WA_sk 10 (by kernel_rfl) rfl rfl rfl rfl (by simp) rfl rfl ?_
     refine WA_sk 11 (by kernel_rfl) rfl rfl rfl rfl (by simp) rfl rfl ?_
     refine WA_sk 12 (by kernel_rfl) rfl rfl rfl rfl (by simp) rfl rfl ?_
     refine WA_sk 13 (by kernel_rfl) rfl rfl rfl rfl (by simp) rfl rfl ?_
     refine WA_sk 14 (by kernel_rfl) rfl rfl rfl rfl (by simp) rfl rfl ?_
     refine WA_sk 15 (by kernel_rfl) rfl rfl rfl rfl (by simp) rfl rfl ?_
     refine WA_sk 16 (by kernel_rfl) rfl rfl rfl rfl (by simp) rfl rfl ?_
     refine WA_sk 17 (by kernel_rfl) rfl rfl rfl rfl (by simp) rfl rfl ?_
     refine WA_sk 18 (by kernel_rfl) rfl rfl rfl rfl (by simp) rfl rfl ?_
     refine WA_sk 19 (by kernel_rfl) rfl rfl rfl rfl (by simp) rfl rfl ?_
     refine WA_takeG 20 rfl (by kernel_rfl) (by kernel_rfl) (by kernel_rfl) rfl rfl rfl (fl_pick_f rfl rfl) ?_
     refine WL_guard rfl rfl ?_
     refine WL_pick_f rfl rfl rfl ?_
     refine WL_nil ?_
     refine WA_tk 21 (by kernel_rfl) rfl rfl (fl_pick_f rfl rfl) ?_
     refine WL_pick_f rfl rfl rfl ?_
     refine WL_nil ?_
     refine WA_done (by kernel_rfl) ?_
     have hq8 := Option.some.inj hr8
     subst hq8
     refine nrm_sub (l' := [(3, v1), (4, v2), (5, (.int .i64 x2.2.2.1)), (6, (.int .i64 x2.2.2.2)), (8, (.bool x3.2)), (9, v5), (11, (.int .i64 x7)), (77, (.bool false))]) ⟨rfl, rfl, rfl, rfl, rfl, rfl, rfl, rfl, trivial⟩ ?_
     exact ⟨false, rfl, rfl, (Keep.of hB8).below, hC17⟩
    rintro _ w9 ⟨x8, rfl, rfl, hB7, hC16⟩
    try dsimp only at hL1
    refine W_cond rfl (fun hc7 => ?_) (fun hc7 => ?_)
    ·replace hL1 := ite_t hL1 hc7
     refine W_seq_reg ?_
     refine WL_assign rfl rfl ?_
     refine WL_nil ?_
     refine W_ret ?_
     refine blk_ret ?_
     refine nrm_ret ?_
     refine nrm_ret ?_
     refine blk_ret ?_
     refine nrm_ret ?_
     refine nrm_ret ?_
     have hq9 := Option.some.inj hL1
     subst hq9
     dsimp only at hF
     have hq10 := Option.some.inj hF
     subst hq10
     refine fn_ret1 rfl rfl ?_
     exact ⟨_, rfl, bool_res hC16 _⟩
    replace hL1 := ite_f hL1 hc7
    refine W_skip ?_
    refine blk_normal ?_
    refine nrm_normal ?_
    refine W_reg ?_
    refine WL_move rfl rfl ?_
    refine WL_add rfl rfl rfl ?_
    refine WL_assign rfl rfl ?_
    refine WL_nil ?_
    refine nrm_sub (l' := [(3, v1), (4, v2), (5, (.int .i64 x2.2.2.1)), (6, (.int .i64 x2.2.2.2)), (8, (.bool x3.2)), (9, v5), (11, (.int .i64 (w64 (x7 + 1))))]) ⟨rfl, rfl, rfl, rfl, rfl, rfl, rfl, trivial⟩ ?_
    exact ⟨k1, Nat.lt_succ_self _, w64 (x7 + 1), rfl, ((Keep.of hB6).then hB7).below, hC16, hL1⟩
   replace hL1 := ite_f hL1 hc4
   refine W_exit ?_
   refine nrm_exit ?_
   refine nrm_exit ?_
   refine blk_exit ?_
   have hq11 := Option.some.inj hL1
   subst hq11
   refine nrm_sub (l' := [(3, v1), (4, v2), (5, (.int .i64 x2.2.2.1)), (8, (.bool x3.2)), (9, v5)]) ⟨rfl, rfl, rfl, rfl, rfl, trivial⟩ ?_
   exact ⟨rfl, rfl, (Keep.of hB6).below, hC15⟩
 rintro l4 _ w13 hs4 ⟨rfl, rfl, hB11, hC19⟩
 try dsimp only at hF
 refine nrm_sub' hs4 ?_
 clear hs4
 refine W_seq ?_
 refine W_seq_reg ?_
 refine WL_assign rfl rfl ?_
 refine WL_nil ?_
 obtain ⟨r4, hr9, hF⟩ := bind_some hF
 refine W_norm (fun l w => .inl () = r4 ∧ l = [(4, v2), (8, (.bool x3.2)), (9, v5)] ∧ Ctx [] w0 w [Item.own v5 (x4.1 : (List Int)), Item.own v2 (x2.2.1 : (List (Int × (List Int))))]) ?_ ?_
 ·refine W_block ?_
  refine W.sub (l' := [(3, v1), (4, v2), (5, (.int .i64 x2.2.2.1)), (8, (.bool x3.2)), (9, v5), (12, (.int .i64 0))]) ?_ ⟨rfl, rfl, rfl, rfl, rfl, rfl, trivial⟩
  refine W_loop (fun k l w => ∃ x12 : Int, l = [(3, v1), (4, v2), (5, (.int .i64 x2.2.2.1)), (8, (.bool x3.2)), (9, v5), (12, (.int .i64 x12))] ∧ Ctx [] w0 w [Item.own v5 (x4.1 : (List Int)), Item.own v1 (x2.1 : (List (Int × (List Int) × Int × Int × Int))), Item.own v2 (x2.2.1 : (List (Int × (List Int))))] ∧ Q.FnSchedules_l2 x2 x3 x4 k x12 = some r4) FUEL ⟨0, rfl, hC19, hr9⟩ ?_
  clear hr9
  rintro k2 _ w14 ⟨x12, rfl, hC20, hL2⟩
  cases k2 with
  | zero => rw [Q.FnSchedules_l2] at hL2; cases hL2
  | succ k2 =>
   rw [Q.FnSchedules_l2] at hL2
   refine W_seq ?_
   obtain ⟨r5, hr10, hL2⟩ := bind_some hL2
   refine W_cut (fun l w => ∃ x13 : Bool, x13 = r5 ∧ l = [(3, v1), (4, v2), (5, (.int .i64 x2.2.2.1)), (8, (.bool x3.2)), (9, v5), (12, (.int .i64 x12)), (84, (.bool x13))] ∧ Below w14.heap.size w14 w ∧ Ctx [] w0 w [Item.own v5 (x4.1 : (List Int)), Item.own v1 (x2.1 : (List (Int × (List Int) × Int × Int × Int))), Item.own v2 (x2.2.1 : (List (Int × (List Int))))]) ?_ ?_
   ·refine W_reg ?_
    refine WL_move rfl rfl ?_
    refine WL_move rfl rfl ?_
    refine WL_len Try.underlying29 (hC20.ro 1 rfl) rfl rfl ?_
    refine WL_lss rfl rfl rfl ?_
    refine WL_move rfl rfl ?_
    refine WL_fork (fun hc8 => ?_) (fun hc8 => ?_)
    ·replace hr10 := ite_t hr10 hc8
     refine WL_guard rfl rfl ?_
     refine WL_move rfl rfl ?_
     refine WL_pick_t rfl rfl rfl ?_
     refine WL_nil ?_
     have hq12 := Option.some.inj hr10
     subst hq12
     refine nrm_sub (l' := [(3, v1), (4, v2), (5, (.int .i64 x2.2.2.1)), (8, (.bool x3.2)), (9, v5), (12, (.int .i64 x12)), (84, (.bool x3.2))]) ⟨rfl, rfl, rfl, rfl, rfl, rfl, rfl, trivial⟩ ?_
     exact ⟨x3.2, rfl, rfl, (Below.refl _ _), hC20⟩
    replace hr10 := ite_f hr10 hc8
    refine WL_guard_skip rfl rfl (by simp) rfl ?_
    refine WL_pick_f rfl rfl rfl ?_
    refine WL_nil ?_
    have hq13 := Option.some.inj hr10
    subst hq13
    refine nrm_sub (l' := [(3, v1), (4, v2), (5, (.int .i64 x2.2.2.1)), (8, (.bool x3.2)), (9, v5), (12, (.int .i64 x12)), (84, (.bool false))]) ⟨rfl, rfl, rfl, rfl, rfl, rfl, rfl, trivial⟩ ?_
    exact ⟨false, rfl, rfl, (Below.refl _ _), hC20⟩
   rintro _ w15 ⟨x13, rfl, rfl, hB13, hC21⟩
   try dsimp only at hL2
   refine W_cond rfl (fun hc9 => ?_) (fun hc9 => ?_)
   ·replace hL2 := ite_t hL2 hc9
    refine W_skip ?_
    refine nrm_normal ?_
    refine W_seq ?_
    refine W_block ?_
    refine W_seq_reg ?_
    refine WL_buildSlice (vs := []) hC21 Try.underlying26 ty3 rfl rfl rfl rfl (by simp) rfl rfl (fun b4 w16 hC22 hB14 => ?_)
    have hC23 := hC22.row0 (α := Int)
    have hC24 := hC23.front 1 rfl
    dsimp only [List.eraseIdx, List.cons_append, List.nil_append, List.append_nil] at hC24
    have hC25 : Ctx [] w0 w16 (Item.own (.slice (some ⟨b4, 0, none⟩) 0 0) (([] : List Int) : List Int) :: [Item.own v5 (x4.1 : (List Int)), Item.own v1 (x2.1 : (List (Int × (List Int) × Int × Int × Int))), Item.own v2 (x2.2.1 : (List (Int × (List Int))))]) := hC24.rowOwn (by simp [maxLen])
    refine WL_assign rfl rfl ?_
    refine WL_nil ?_
    refine W_seq ?_
    refine W_seq_reg ?_
    refine WL_assign rfl rfl ?_
    refine WL_nil ?_
    obtain ⟨r6, hr11, hL2⟩ := bind_some hL2
    refine W_norm (fun l w => ∃ v11 : Value, ∃ x16 : (List Int), x16 = r6 ∧ l = [(3, v1), (4, v2), (5, (.int .i64 x2.2.2.1)), (8, (.bool x3.2)), (9, v5), (12, (.int .i64 x12)), (13, v11)] ∧ Ctx [] w0 w [Item.own v11 (x16 : (List Int)), Item.own v5 (x4.1 : (List Int)), Item.own v1 (x2.1 : (List (Int × (List Int) × Int × Int × Int))), Item.own v2 (x2.2.1 : (List (Int × (List Int))))]) ?_ ?_
    ·refine W_block ?_
     refine W.sub (l' := [(3, v1), (4, v2), (5, (.int .i64 x2.2.2.1)), (8, (.bool x3.2)), (9, v5), (12, (.int .i64 x12)), (13, (.slice (some ⟨b4, 0, none⟩) 0 0)), (14, (.int .i64 0))]) ?_ ⟨rfl, rfl, rfl, rfl, rfl, rfl, rfl, rfl, trivial⟩
     refine W_loop (fun k l w => ∃ v10 : Value, ∃ x14 : (List Int), ∃ x15 : Int, l = [(3, v1), (4, v2), (5, (.int .i64 x2.2.2.1)), (8, (.bool x3.2)), (9, v5), (12, (.int .i64 x12)), (13, v10), (14, (.int .i64 x15))] ∧ Ctx [] w0 w [Item.own v10 (x14 : (List Int)), Item.own v5 (x4.1 : (List Int)), Item.own v1 (x2.1 : (List (Int × (List Int) × Int × Int × Int))), Item.own v2 (x2.2.1 : (List (Int × (List Int))))] ∧ Q.FnSchedules_l3 x2 x12 x4 k x14 x15 = some r6) FUEL ⟨(.slice (some ⟨b4, 0, none⟩) 0 0), ([] : List Int), 0, rfl, hC25, hr11⟩ ?_
     clear hr11
     rintro k3 _ w17 ⟨v10, x14, x15, rfl, hC26, hL3⟩
     cases k3 with
     | zero => rw [Q.FnSchedules_l3] at hL3; cases hL3
     | succ k3 =>
      rw [Q.FnSchedules_l3] at hL3
      refine W_seq ?_
      refine W_seq_reg ?_
      refine WL_move rfl rfl ?_
      refine WL_move rfl rfl ?_
      refine WL_len Try.underlying31 (hC26.ro 3 rfl) rfl rfl ?_
      refine WL_lss rfl rfl rfl ?_
      refine WL_nil ?_
      refine W_cond rfl (fun hc10 => ?_) (fun hc10 => ?_)
      ·replace hL3 := ite_t hL3 hc10
       refine W_skip ?_
       refine nrm_normal ?_
       refine W_seq ?_
       refine W_block ?_
       refine W_seq_reg ?_
       refine WL_move rfl rfl ?_
       refine WL_move rfl rfl ?_
       obtain ⟨x17, hx4, hL3⟩ := bind_some hL3
       refine WL_index Try.underlying31 ty45 (hC26.ro 3 rfl) hx4 rfl rfl rfl (fun b5 o4 h7 => ?_)
       refine WL_field Try.underlying45 rfl rfl (fun w => ⟨_, Try.sizeOf3 w⟩) rfl rfl ?_
       refine WL_load ty3 h7.fst (Keep.refl _ _) rfl rfl (fun v12 h8 => ?_)
       obtain rfl := ro_int h8
       refine WL_move rfl rfl ?_
       refine WL_eql rfl rfl rfl ?_
       refine WL_nil ?_
       obtain ⟨r7, hr12, hL3⟩ := bind_some hL3
       refine W_norm (fun l w => ∃ v13 : Value, ∃ x18 : (List Int), x18 = r7 ∧ l = [(3, v1), (4, v2), (5, (.int .i64 x2.2.2.1)), (8, (.bool x3.2)), (9, v5), (12, (.int .i64 x12)), (13, v13), (14, (.int .i64 x15))] ∧ Ctx [] w0 w [Item.own v13 (x18 : (List Int)), Item.own v5 (x4.1 : (List Int)), Item.own v1 (x2.1 : (List (Int × (List Int) × Int × Int × Int))), Item.own v2 (x2.2.1 : (List (Int × (List Int))))]) ?_ ?_
       ·refine W_cond rfl (fun hc11 => ?_) (fun hc11 => ?_)
        ·replace hr12 := ite_t hr12 hc11
         refine W_reg ?_
         refine WL_move rfl rfl ?_
         refine WL_move rfl rfl ?_
         refine WL_move rfl rfl ?_
         obtain ⟨x19, hx5, hr12⟩ := bind_some hr12
         refine WL_index Try.underlying26 ty3 (hC26.ro 1 rfl) hx5 rfl rfl rfl (fun b6 o5 h9 => ?_)
         refine WL_load ty3 h9 (Keep.refl _ _) rfl rfl (fun v14 h10 => ?_)
         obtain rfl := ro_int h10
         refine WL_buildSlice (vs := [(.int .i64 x19)]) hC26 Try.underlying26 ty3 rfl rfl rfl rfl (by intro v hv; simp only [List.mem_cons, List.not_mem_nil, or_false] at hv; rcases hv with rfl <;> rfl) rfl rfl (fun b7 w19 hC28 hB17 => ?_)
         have hC29 := hC28.row0 (α := Int)
         have hC30 := hC29.triv (int_val (x19))
         have hC31 := hC30.row1
         have hC32 := hC31.front 1 rfl
         dsimp only [List.eraseIdx, List.cons_append, List.nil_append, List.append_nil] at hC32
         have hC33 : Ctx [] w0 w19 (Item.own (.slice (some ⟨b7, 0, none⟩) 1 1) ([x19] : List Int) :: [Item.own v10 (x14 : (List Int)), Item.own v5 (x4.1 : (List Int)), Item.own v1 (x2.1 : (List (Int × (List Int) × Int × Int × Int))), Item.own v2 (x2.2.1 : (List (Int × (List Int))))]) := hC32.rowOwn (by simp [maxLen])
         obtain ⟨x20, hx6, hr12⟩ := bind_some hr12
         refine WL_append_flat (α := Int) hC33 1 rfl (hC33.ro 0 rfl) (Keep.refl _ _) Try.underlying26 ty3 rfl hx6 rfl rfl rfl (fun v15 w20 hC34 => ?_)
         try dsimp only [List.set] at hC34
         refine WL_assign rfl rfl ?_
         refine WL_nil ?_
         have hq14 := Option.some.inj hr12
         subst hq14
         have hC35 := hC34.f4
         have hC36 := hC35.f4
         have hC37 := hC36.f4
         have hC38 := hC37.f4
         have hC39 := hC38.h4
         refine nrm_sub (l' := [(3, v1), (4, v2), (5, (.int .i64 x2.2.2.1)), (8, (.bool x3.2)), (9, v5), (12, (.int .i64 x12)), (13, v15), (14, (.int .i64 x15))]) ⟨rfl, rfl, rfl, rfl, rfl, rfl, rfl, rfl, trivial⟩ ?_
         exact ⟨v15, x20, rfl, rfl, hC39⟩
        replace hr12 := ite_f hr12 hc11
        refine W_skip ?_
        have hq15 := Option.some.inj hr12
        subst hq15
        refine nrm_sub (l' := [(3, v1), (4, v2), (5, (.int .i64 x2.2.2.1)), (8, (.bool x3.2)), (9, v5), (12, (.int .i64 x12)), (13, v10), (14, (.int .i64 x15))]) ⟨rfl, rfl, rfl, rfl, rfl, rfl, rfl, rfl, trivial⟩ ?_
        exact ⟨v10, x14, rfl, rfl, hC26⟩
       rintro l8 _ w18 hs8 ⟨v13, x18, rfl, rfl, hC27⟩
       try dsimp only at hL3
       refine blk_normal ?_
       refine nrm_sub' hs8 ?_
       clear hs8
       refine W_reg ?_
       refine WL_move rfl rfl ?_
       refine WL_add rfl rfl rfl ?_
       refine WL_assign rfl rfl ?_
       refine WL_nil ?_
       refine nrm_sub (l' := [(3, v1), (4, v2), (5, (.int .i64 x2.2.2.1)), (8, (.bool x3.2)), (9, v5), (12, (.int .i64 x12)), (13, v13), (14, (.int .i64 (w64 (x15 + 1))))]) ⟨rfl, rfl, rfl, rfl, rfl, rfl, rfl, rfl, trivial⟩ ?_
       exact ⟨k3, Nat.lt_succ_self _, v13, x18, w64 (x15 + 1), rfl, hC27, hL3⟩
      replace hL3 := ite_f hL3 hc10
      refine W_exit ?_
      refine nrm_exit ?_
      refine nrm_exit ?_
      refine blk_exit ?_
      have hq16 := Option.some.inj hL3
      subst hq16
      refine nrm_sub (l' := [(3, v1), (4, v2), (5, (.int .i64 x2.2.2.1)), (8, (.bool x3.2)), (9, v5), (12, (.int .i64 x12)), (13, v10)]) ⟨rfl, rfl, rfl, rfl, rfl, rfl, rfl, trivial⟩ ?_
      exact ⟨v10, x14, rfl, rfl, hC26⟩
    rintro l9 _ w21 hs9 ⟨v11, x16, rfl, rfl, hC40⟩
    try dsimp only at hL2
    refine nrm_sub' hs9 ?_
    clear hs9
    refine W_seq_reg ?_
    refine WL_move rfl rfl ?_
    refine WL_move rfl rfl ?_
    refine WL_move rfl rfl ?_
    obtain ⟨x21, hx7, hL2⟩ := bind_some hL2
    refine WL_index Try.underlying29 ty47 (hC40.ro 2 rfl) hx7 rfl rfl rfl (fun b8 o6 h11 => ?_)
    refine WL_field Try.underlying47 rfl rfl (fun w => ⟨_, Try.sizeOf3 w⟩) rfl rfl ?_
    refine WL_load ty3 h11.snd.snd.snd.snd (Keep.refl _ _) rfl rfl (fun v16 h12 => ?_)
    obtain rfl := ro_int h12
    refine WL_build (vs := [(0, (.int .i64 x2.2.2.1)), (1, (.int .i64 x21.2.2.2.2))]) rfl rfl rfl (built49_0_1 rfl rfl) ?_
    refine WL_allocK hC40 zero49 rfl rfl (fun b9 w22 hC41 hB19 hN1 => ?_)
    refine WL_store_box_aggK (cs' := [(.int .i64 x2.2.2.1), (.int .i64 x21.2.2.2.2)]) (new := [(.int .i64 x2.2.2.1), (.int .i64 x21.2.2.2.2)]) hC41 0 rfl rfl (by intro v hv; simp only [List.mem_cons, List.not_mem_nil, or_false] at hv; rcases hv with rfl | rfl; exact rfl; exact rfl) rfl Try.sizeOf49 rfl rfl (fun w23 hC42 hKp1 => ?_)
    try dsimp only [List.set] at hC42
    have hk1 := Keep.over (Keep.of hB19) hN1 hKp1
    refine WL_nil ?_
    obtain ⟨r8, hr13, hL2⟩ := bind_some hL2
    refine W_cut (fun l w => ∃ x22 : Bool, x22 = r8 ∧ l = [(3, v1), (4, v2), (5, (.int .i64 x2.2.2.1)), (8, (.bool x3.2)), (9, v5), (12, (.int .i64 x12)), (123, (.bool x22))] ∧ Below w23.heap.size w23 w ∧ Ctx [] w0 w [Item.own v5 (x4.1 : (List Int)), Item.own v1 (x2.1 : (List (Int × (List Int) × Int × Int × Int))), Item.own v2 (x2.2.1 : (List (Int × (List Int))))]) ?_ ?_
    ·refine W_reg ?_
     refine WL_move rfl rfl ?_
     refine WL_len Try.underlying26 (hC42.ro 1 rfl) rfl rfl ?_
     refine WL_gtr rfl rfl rfl ?_
     refine WL_move rfl rfl ?_
     refine WL_fork (fun hc12 => ?_) (fun hc12 => ?_)
     ·replace hr13 := ite_t hr13 hc12
      refine WL_guard rfl rfl ?_
      refine WL_move rfl rfl ?_
      refine WL_guard rfl rfl ?_
      refine WL_load_box_agg [(.int .i64 x2.2.2.1), (.int .i64 x21.2.2.2.2)] hC42 0 rfl rfl rfl Try.isAgg49 Try.sizeOf49 rfl rfl ?_
      obtain ⟨x23, hr14, hr13⟩ := bind_some hr13
      refine WL_guard rfl rfl ?_
      refine WL_call Try.call21 rfl rfl (c_M_IsKept x16 v11 ((hC42.ro 1 rfl).now (Keep.refl _ _)) (x2.2.2.1, x21.2.2.2.2) x23 hr14) ?_
      intro _ w25 hv7
      obtain ⟨rfl, hB21⟩ := res_bool hv7
      have hC44 := hC42.grow hB21
      refine WL_guard rfl rfl ?_
      refine WL_not rfl rfl ?_
      refine WL_pick_t rfl rfl rfl ?_
      refine WL_nil ?_
      have hq17 := Option.some.inj hr13
      subst hq17
      have hC45 := hC44.f4
      have hC46 := hC45.f4
      have hC47 := hC46.f4
      have hC48 := hC47.h3
      refine nrm_sub (l' := [(3, v1), (4, v2), (5, (.int .i64 x2.2.2.1)), (8, (.bool x3.2)), (9, v5), (12, (.int .i64 x12)), (123, (.bool (!x23)))]) ⟨rfl, rfl, rfl, rfl, rfl, rfl, rfl, trivial⟩ ?_
      exact ⟨(!x23), rfl, rfl, (Keep.of hB21).below, hC48⟩
     replace hr13 := ite_f hr13 hc12
     refine WL_guard_skip rfl rfl (by simp) rfl ?_
     refine WL_guard_skip rfl rfl (by simp) rfl ?_
     refine WL_guard_skip rfl rfl (by simp) rfl ?_
     refine WL_guard_skip rfl rfl (by simp) rfl ?_
     refine WL_pick_f rfl rfl rfl ?_
     refine WL_nil ?_
     have hq18 := Option.some.inj hr13
     subst hq18
     have hC49 := hC42.f4
     have hC50 := hC49.f4
     have hC51 := hC50.f4
     have hC52 := hC51.h3
     refine nrm_sub (l' := [(3, v1), (4, v2), (5, (.int .i64 x2.2.2.1)), (8, (.bool x3.2)), (9, v5), (12, (.int .i64 x12)), (123, (.bool false))]) ⟨rfl, rfl, rfl, rfl, rfl, rfl, rfl, trivial⟩ ?_
     exact ⟨false, rfl, rfl, (Below.refl _ _), hC52⟩
    rintro _ w24 ⟨x22, rfl, rfl, hB20, hC43⟩
    try dsimp only at hL2
    refine W_cond rfl (fun hc13 => ?_) (fun hc13 => ?_)
    ·replace hL2 := ite_t hL2 hc13
     refine W_seq_reg ?_
     refine WL_assign rfl rfl ?_
     refine WL_nil ?_
     refine W_ret ?_
     refine blk_ret ?_
     refine nrm_ret ?_
     refine nrm_ret ?_
     refine blk_ret ?_
     refine nrm_ret ?_
     refine nrm_ret ?_
     have hq19 := Option.some.inj hL2
     subst hq19
     dsimp only at hF
     have hq20 := Option.some.inj hF
     subst hq20
     refine fn_ret1 rfl rfl ?_
     exact ⟨_, rfl, bool_res hC43 _⟩
    replace hL2 := ite_f hL2 hc13
    refine W_skip ?_
    refine blk_normal ?_
    refine nrm_normal ?_
    refine W_reg ?_
    refine WL_move rfl rfl ?_
    refine WL_add rfl rfl rfl ?_
    refine WL_assign rfl rfl ?_
    refine WL_nil ?_
    refine nrm_sub (l' := [(3, v1), (4, v2), (5, (.int .i64 x2.2.2.1)), (8, (.bool x3.2)), (9, v5), (12, (.int .i64 (w64 (x12 + 1))))]) ⟨rfl, rfl, rfl, rfl, rfl, rfl, trivial⟩ ?_
    exact ⟨k2, Nat.lt_succ_self _, w64 (x12 + 1), rfl, hC43, hL2⟩
   replace hL2 := ite_f hL2 hc9
   refine W_exit ?_
   refine nrm_exit ?_
   refine nrm_exit ?_
   refine blk_exit ?_
   have hq21 := Option.some.inj hL2
   subst hq21
   have hC53 := hC21.f2
   have hC54 := hC53.f1
   have hC55 := hC54.h2
   refine nrm_sub (l' := [(4, v2), (8, (.bool x3.2)), (9, v5)]) ⟨rfl, rfl, rfl, trivial⟩ ?_
   exact ⟨rfl, rfl, hC55⟩
 rintro l11 _ w26 hs11 ⟨rfl, rfl, hC56⟩
 try dsimp only at hF
 refine nrm_sub' hs11 ?_
 clear hs11
 obtain ⟨r9, hr15, hF⟩ := bind_some hF
 refine W_cut (fun l w => ∃ x24 : Bool, x24 = r9 ∧ l = [(2, (.bool x24))] ∧ Below w26.heap.size w26 w ∧ Ctx [] w0 w []) ?_ ?_
 ·refine W_reg ?_
  refine WL_move rfl rfl ?_
  refine WL_not rfl rfl ?_
  refine WL_move rfl rfl ?_
  refine WL_fork (fun hc14 => ?_) (fun hc14 => ?_)
  ·replace hr15 := ite_t hr15 hc14
   refine WL_guard_skip rfl rfl (by simp) rfl ?_
   refine WL_guard_skip rfl rfl (by simp) rfl ?_
   refine WL_guard_skip rfl rfl (by simp) rfl ?_
   refine WL_guard_skip rfl rfl (by simp) rfl ?_
   refine WL_guard_skip rfl rfl (by simp) rfl ?_
   refine WL_pick_t rfl rfl rfl ?_
   refine WL_assign rfl rfl ?_
   refine WL_nil ?_
   have hq22 := Option.some.inj hr15
   subst hq22
   have hC58 := hC56.h0
   refine nrm_sub (l' := [(2, (.bool true))]) ⟨rfl, trivial⟩ ?_
   exact ⟨true, rfl, rfl, (Below.refl _ _), hC58⟩
  replace hr15 := ite_f hr15 hc14
  refine WL_guard rfl rfl ?_
  refine WL_move rfl rfl ?_
  refine WL_guard rfl rfl ?_
  refine WL_len Try.underlying26 (hC56.ro 0 rfl) rfl rfl ?_
  refine WL_guard rfl rfl ?_
  refine WL_move rfl rfl ?_
  refine WL_guard rfl rfl ?_
  refine WL_len Try.underlying31 (hC56.ro 1 rfl) rfl rfl ?_
  refine WL_guard rfl rfl ?_
  refine WL_eql rfl rfl rfl ?_
  refine WL_pick_f rfl rfl rfl ?_
  refine WL_assign rfl rfl ?_
  refine WL_nil ?_
  have hq23 := Option.some.inj hr15
  subst hq23
  have hC59 := hC56.h0
  refine nrm_sub (l' := [(2, (.bool (decide ((List.length x4.1 : Int) = (List.length x2.2.1 : Int)))))]) ⟨rfl, trivial⟩ ?_
  exact ⟨(decide ((List.length x4.1 : Int) = (List.length x2.2.1 : Int))), rfl, rfl, (Below.refl _ _), hC59⟩
 rintro _ w27 ⟨x24, rfl, rfl, hB23, hC57⟩
 try dsimp only at hF
 refine W_ret ?_
 have hq24 := Option.some.inj hF
 subst hq24
 refine fn_ret1 rfl rfl ?_
 exact ⟨_, rfl, bool_res hC57 _⟩

end Go.Gx.Px
