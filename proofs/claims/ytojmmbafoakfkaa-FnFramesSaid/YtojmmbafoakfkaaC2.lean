/- The contracts of the Go functions against the pure functions, printed by program. Conditions: each says them. -/
import Derived.Test.YtojmmbafoakfkaaC1
set_option linter.unusedVariables false
set_option linter.unusedSimpArgs false
set_option maxRecDepth 100000
set_option maxHeartbeats 4000000
namespace Go.Gx.Px
open Go.Proofs Go.RowKit

theorem c_S_l5AnyMethod {w0 : World} {Fs : List (List Nat)} (pb1 : Nat) (a1 : ((List UInt8) × Int × Int)) (u1 : Value) (g1 : RO Fs.flatten w0 u1 a1.1) (a2 : (List Int)) (u2 : Value) (g2 : RO Fs.flatten w0 u2 a2) (hH : Hold [Item.box pb1 [u1, (.int .i64 a1.2.1), (.int .i64 a1.2.2)]] w0 Fs) (hn : Fs.flatten.Nodup) (rr : ((Int × (List Int) × Int × Int × Int) × ((List UInt8) × Int × Int))) (hF : S.l5AnyMethod a1 a2 = some rr) :
 Calls Try.prog 42 [(ptr pb1 0), u2].toArray w0 fun e w' => ∃ v, e = .returned v ∧ ∃ q0 : Value, v = q0 ∧ Ctx Fs.flatten w0 w' [Item.own q0 (rr.1 : (Int × (List Int) × Int × Int × Int)), Item.box pb1 [u1, (.int .i64 rr.2.2.1), (.int .i64 rr.2.2.2)]] := by
 refine calls_of_W Try.func42 rfl rfl ?_
 have hC0 := Ctx.startIn hH hn
 unfold S.l5AnyMethod at hF
 refine W_seq_reg ?_
 refine WL_alloc hC0 zero65 rfl rfl (fun b1 w1 hC1 hB1 => ?_)
 refine WL_nil ?_
 refine W_seq_reg ?_
 refine WL_build (vs := [(4, (.int .i64 1))]) rfl rfl rfl (built65_4 rfl) ?_
 refine WL_alloc hC1 zero65 rfl rfl (fun b2 w2 hC2 hB2 => ?_)
 refine WL_store_box_agg (cs' := [(.int .i64 0), (.slice none 0 0), (.int .i64 0), (.int .i64 0), (.int .i64 1)]) (new := [(.int .i64 0), (.slice none 0 0), (.int .i64 0), (.int .i64 0), (.int .i64 1)]) hC2 0 rfl rfl (by intro v hv; simp only [List.mem_cons, List.not_mem_nil, or_false] at hv; rcases hv with rfl | rfl | rfl | rfl | rfl; exact rfl; exact rfl; exact rfl; exact rfl; exact rfl) rfl Try.sizeOf65 rfl rfl (fun w3 hC3 => ?_)
 try dsimp only [List.set] at hC3
 refine WL_nil ?_
 refine W_seq ?_
 refine W_seq_reg ?_
 refine WL_move rfl rfl ?_
 obtain ⟨x1, hr1, hF⟩ := bind_some hF
 refine WL_call Try.call47 rfl rfl (c_S_IsSchema a2 u2 (g2.now hC3.keep) x1 hr1) ?_
 intro _ w4 hv1
 obtain ⟨rfl, hB3⟩ := res_bool hv1
 have hC4 := hC3.grow hB3
 refine WL_nil ?_
 obtain ⟨r1, hr2, hF⟩ := bind_some hF
 refine W_norm (fun l w => ∃ x2 : Int, ∃ v1 : Value, ∃ x3 : (List Int), ∃ x4 : Int, ∃ x5 : Int, ∃ x6 : Int, ∃ x7 : Int, ∃ x8 : Int, (x2, x3, x4, x5, x6, x7, x8) = r1 ∧ l = [(0, (ptr pb1 0)), (4, (ptr b1 0)), (5, (ptr b2 0))] ∧ Ctx Fs.flatten w0 w [Item.own v1 (x3 : (List Int)), Item.box b2 [(.int .i64 x2), v1, (.int .i64 x4), (.int .i64 x5), (.int .i64 x6)], Item.box b1 [(.int .i64 0), (.slice none 0 0), (.int .i64 0), (.int .i64 0), (.int .i64 0)], Item.box pb1 [u1, (.int .i64 x7), (.int .i64 x8)]]) ?_ ?_
 ·refine W_cond rfl (fun hc1 => ?_) (fun hc1 => ?_)
  ·replace hr2 := ite_t hr2 hc1
   refine W_reg ?_
   refine WL_move rfl rfl ?_
   refine WL_move rfl rfl ?_
   obtain ⟨x9, hr3, hr2⟩ := bind_some hr2
   have hC6 := hC4.f2
   obtain ⟨Fs1, hH1, hn1, hF1, hO1, hb1⟩ := Ctx.lend2 (As := [Item.box b2 [(.int .i64 0), (.slice none 0 0), (.int .i64 0), (.int .i64 0), (.int .i64 1)], Item.box b1 [(.int .i64 0), (.slice none 0 0), (.int .i64 0), (.int .i64 0), (.int .i64 0)]]) [Item.box pb1 [u1, (.int .i64 a1.2.1), (.int .i64 a1.2.2)]] hC6
   refine WL_call Try.call49 rfl rfl (c_S_l5Method pb1 (a1.1, a1.2.1, a1.2.2) u1 (RO.lent g1 hC6.keep hF1) a2 u2 (RO.lent g2 hC6.keep hF1) hH1 hn1 x9 hr3) ?_
   rintro v2 w6 ⟨_, rfl, hq1⟩
   have hC7 : Ctx Fs.flatten w0 w6 [Item.own v2 (x9.1 : (Int × (List Int) × Int × Int × Int)), Item.box pb1 [u1, (.int .i64 x9.2.2.1), (.int .i64 x9.2.2.2)], Item.box b2 [(.int .i64 0), (.slice none 0 0), (.int .i64 0), (.int .i64 0), (.int .i64 1)], Item.box b1 [(.int .i64 0), (.slice none 0 0), (.int .i64 0), (.int .i64 0), (.int .i64 0)]] := hb1 _ _ hq1
   obtain ⟨v3, rfl, hC8⟩ := st65_own hC7
   refine WL_store_box_agg (cs' := [(.int .i64 x9.1.1), v3, (.int .i64 x9.1.2.2.1), (.int .i64 x9.1.2.2.2.1), (.int .i64 x9.1.2.2.2.2)]) (new := [(.int .i64 x9.1.1), v3, (.int .i64 x9.1.2.2.1), (.int .i64 x9.1.2.2.2.1), (.int .i64 x9.1.2.2.2.2)]) hC8 2 rfl rfl (by intro v hv; simp only [List.mem_cons, List.not_mem_nil, or_false] at hv; rcases hv with rfl | rfl | rfl | rfl | rfl; exact rfl; exact (ro_one (hC8.ro 0 rfl)); exact rfl; exact rfl; exact rfl) rfl Try.sizeOf65 rfl rfl (fun w7 hC9 => ?_)
   try dsimp only [List.set] at hC9
   refine WL_nil ?_
   have hq2 := Option.some.inj hr2
   subst hq2
   have hC10 := hC9.f1
   have hC11 := hC10.f3
   have hC12 := hC11.f3
   have hC13 := hC12.f3
   refine nrm_sub (l' := [(0, (ptr pb1 0)), (4, (ptr b1 0)), (5, (ptr b2 0))]) ⟨rfl, rfl, rfl, trivial⟩ ?_
   exact ⟨x9.1.1, v3, x9.1.2.1, x9.1.2.2.1, x9.1.2.2.2.1, x9.1.2.2.2.2, x9.2.2.1, x9.2.2.2, rfl, rfl, hC13⟩
  replace hr2 := ite_f hr2 hc1
  refine W_skip ?_
  have hq3 := Option.some.inj hr2
  subst hq3
  have hC14 := hC4.triv (nil_val (α := Int))
  refine nrm_sub (l' := [(0, (ptr pb1 0)), (4, (ptr b1 0)), (5, (ptr b2 0))]) ⟨rfl, rfl, rfl, trivial⟩ ?_
  exact ⟨0, (.slice none 0 0), [], 0, 0, 1, a1.2.1, a1.2.2, rfl, rfl, hC14⟩
 rintro l1 _ w5 hs1 ⟨x2, v1, x3, x4, x5, x6, x7, x8, rfl, rfl, hC5⟩
 try dsimp only at hF
 refine nrm_sub' hs1 ?_
 clear hs1
 refine W_seq ?_
 refine W_seq_reg ?_
 refine WL_move rfl rfl ?_
 obtain ⟨x10, hr4, hF⟩ := bind_some hF
 have hC15 := hC5.f3
 obtain ⟨Fs2, hH2, hn2, hF2, hO2, hb2⟩ := Ctx.lend2 (As := [Item.own v1 (x3 : (List Int)), Item.box b2 [(.int .i64 x2), v1, (.int .i64 x4), (.int .i64 x5), (.int .i64 x6)], Item.box b1 [(.int .i64 0), (.slice none 0 0), (.int .i64 0), (.int .i64 0), (.int .i64 0)]]) [Item.box pb1 [u1, (.int .i64 x7), (.int .i64 x8)]] hC15
 refine WL_call Try.call15 rfl rfl (c_S_l1Below pb1 (a1.1, x7, x8) u1 (RO.lent g1 hC15.keep hF2) 10 hH2 hn2 x10 hr4) ?_
 rintro _ w9 ⟨rfl, hq4⟩
 have hC16 : Ctx Fs.flatten w0 w9 [Item.box pb1 [u1, (.int .i64 x10.2.2.1), (.int .i64 x10.2.2.2)], Item.own v1 (x3 : (List Int)), Item.box b2 [(.int .i64 x2), v1, (.int .i64 x4), (.int .i64 x5), (.int .i64 x6)], Item.box b1 [(.int .i64 0), (.slice none 0 0), (.int .i64 0), (.int .i64 0), (.int .i64 0)]] := hb2 _ _ hq4
 refine WL_nil ?_
 refine W_block ?_
 refine W_seq_reg ?_
 refine WL_eql rfl rfl rfl ?_
 refine WL_assign rfl rfl ?_
 refine WL_nil ?_
 obtain ⟨r2, hr5, hF⟩ := bind_some hF
 refine W_norm (fun l w => ∃ x11 : Int, ∃ x12 : Int, ∃ x13 : Int, ∃ v4 : Value, ∃ x14 : (List Int), ∃ x15 : Int, ∃ x16 : Int, ∃ x17 : Int, (x11, x12, x13, x14, x15, x16, x17) = r2 ∧ l = [(4, (ptr b1 0)), (5, (ptr b2 0))] ∧ Ctx Fs.flatten w0 w [Item.box pb1 [u1, (.int .i64 x11), (.int .i64 x12)], Item.own v4 (x14 : (List Int)), Item.box b2 [(.int .i64 x13), v4, (.int .i64 x15), (.int .i64 x16), (.int .i64 x17)], Item.box b1 [(.int .i64 0), (.slice none 0 0), (.int .i64 0), (.int .i64 0), (.int .i64 0)]]) ?_ ?_
 ·refine W_cond rfl (fun hc2 => ?_) (fun hc2 => ?_)
  ·replace hr5 := ite_t hr5 hc2
   refine W_reg ?_
   refine WL_move rfl rfl ?_
   refine WL_buildSlice (vs := [(.int .i64 (-1)), (.int .i64 9), (.int .i64 10)]) hC16 Try.underlying35 ty3 rfl rfl rfl rfl (by intro v hv; simp only [List.mem_cons, List.not_mem_nil, or_false] at hv; rcases hv with rfl | rfl | rfl <;> rfl) rfl rfl (fun b3 w11 hC18 hB6 => ?_)
   have hC19 := hC18.row0 (α := Int)
   have hC20 := hC19.triv (int_val (10))
   have hC21 := hC20.row1
   have hC22 := hC21.triv (int_val (9))
   have hC23 := hC22.row1
   have hC24 := hC23.triv (int_val ((-1)))
   have hC25 := hC24.row1
   have hC26 := hC25.front 1 rfl
   dsimp only [List.eraseIdx, List.cons_append, List.nil_append, List.append_nil] at hC26
   have hC27 : Ctx Fs.flatten w0 w11 (Item.own (.slice (some ⟨b3, 0, none⟩) 3 3) ([(-1), 9, 10] : List Int) :: [Item.box pb1 [u1, (.int .i64 x10.2.2.1), (.int .i64 x10.2.2.2)], Item.own v1 (x3 : (List Int)), Item.box b2 [(.int .i64 x2), v1, (.int .i64 x4), (.int .i64 x5), (.int .i64 x6)], Item.box b1 [(.int .i64 0), (.slice none 0 0), (.int .i64 0), (.int .i64 0), (.int .i64 0)]]) := hC26.rowOwn (by simp [maxLen])
   obtain ⟨x18, hr6, hr5⟩ := bind_some hr5
   have hC28 := hC27.f1
   obtain ⟨Fs3, hH3, hn3, hF3, hO3, hb3⟩ := Ctx.lend2 (As := [Item.own (.slice (some ⟨b3, 0, none⟩) 3 3) ([(-1), 9, 10] : (List Int)), Item.own v1 (x3 : (List Int)), Item.box b2 [(.int .i64 x2), v1, (.int .i64 x4), (.int .i64 x5), (.int .i64 x6)], Item.box b1 [(.int .i64 0), (.slice none 0 0), (.int .i64 0), (.int .i64 0), (.int .i64 0)]]) [Item.box pb1 [u1, (.int .i64 x10.2.2.1), (.int .i64 x10.2.2.2)]] hC28
   refine WL_call Try.call45 rfl rfl (c_S_l1PickInt pb1 (a1.1, x10.2.2.1, x10.2.2.2) u1 (RO.lent g1 hC28.keep hF3) ([(-1), 9, 10]) (.slice (some ⟨b3, 0, none⟩) 3 3) (hO3 0 _ _ _ rfl) hH3 hn3 x18 hr6) ?_
   rintro _ w12 ⟨rfl, hq5⟩
   have hC29 : Ctx Fs.flatten w0 w12 [Item.box pb1 [u1, (.int .i64 x18.2.2.1), (.int .i64 x18.2.2.2)], Item.own (.slice (some ⟨b3, 0, none⟩) 3 3) ([(-1), 9, 10] : (List Int)), Item.own v1 (x3 : (List Int)), Item.box b2 [(.int .i64 x2), v1, (.int .i64 x4), (.int .i64 x5), (.int .i64 x6)], Item.box b1 [(.int .i64 0), (.slice none 0 0), (.int .i64 0), (.int .i64 0), (.int .i64 0)]] := hb3 _ _ hq5
   refine WL_field Try.underlying65 rfl rfl (fun w => ⟨_, Try.sizeOf3 w⟩) rfl rfl ?_
   refine WL_store_box (cs' := [(.int .i64 x2), v1, (.int .i64 x18.1), (.int .i64 x5), (.int .i64 x6)]) hC29 3 rfl rfl rfl rfl Try.sizeOf3 rfl rfl (fun w13 hC30 => ?_)
   try dsimp only [List.set] at hC30
   refine WL_nil ?_
   have hq6 := Option.some.inj hr5
   subst hq6
   have hC31 := hC30.f4
   have hC32 := hC31.f4
   have hC33 := hC32.f4
   have hC34 := hC33.f3
   have hC35 := hC34.h4
   refine nrm_sub (l' := [(4, (ptr b1 0)), (5, (ptr b2 0))]) ⟨rfl, rfl, trivial⟩ ?_
   exact ⟨x18.2.2.1, x18.2.2.2, x2, v1, x3, x18.1, x5, x6, rfl, rfl, hC35⟩
  replace hr5 := ite_f hr5 hc2
  refine W_seq_reg ?_
  refine WL_eql rfl rfl rfl ?_
  refine WL_assign rfl rfl ?_
  refine WL_nil ?_
  obtain ⟨r3, hr7, hr5⟩ := bind_some hr5
  refine W_norm (fun l w => ∃ x19 : Int, ∃ x20 : Int, ∃ x21 : Int, ∃ v5 : Value, ∃ x22 : (List Int), ∃ x23 : Int, ∃ x24 : Int, ∃ x25 : Int, (x19, x20, x21, x22, x23, x24, x25) = r3 ∧ l = [(4, (ptr b1 0)), (5, (ptr b2 0))] ∧ Ctx Fs.flatten w0 w [Item.box pb1 [u1, (.int .i64 x19), (.int .i64 x20)], Item.own v5 (x22 : (List Int)), Item.box b2 [(.int .i64 x21), v5, (.int .i64 x23), (.int .i64 x24), (.int .i64 x25)], Item.box b1 [(.int .i64 0), (.slice none 0 0), (.int .i64 0), (.int .i64 0), (.int .i64 0)]]) ?_ ?_
  ·refine W_cond rfl (fun hc3 => ?_) (fun hc3 => ?_)
   ·replace hr7 := ite_t hr7 hc3
    obtain ⟨r4, hr8, hr7⟩ := bind_some hr7
    refine W_norm (fun l w => ∃ x26 : Int, ∃ x27 : Int, ∃ x28 : Int, ∃ v6 : Value, ∃ x29 : (List Int), ∃ x30 : Int, ∃ x31 : Int, ∃ x32 : Int, (x26, x27, x28, x29, x30, x31, x32) = r4 ∧ l = [(4, (ptr b1 0)), (5, (ptr b2 0))] ∧ Ctx Fs.flatten w0 w [Item.box pb1 [u1, (.int .i64 x26), (.int .i64 x27)], Item.own v6 (x29 : (List Int)), Item.box b2 [(.int .i64 x28), v6, (.int .i64 x30), (.int .i64 x31), (.int .i64 x32)], Item.box b1 [(.int .i64 0), (.slice none 0 0), (.int .i64 0), (.int .i64 0), (.int .i64 0)]]) ?_ ?_
    ·refine W_drawn 9 rfl hmix (fun w16 hB9 => ?_)
     have hC38 := hC16.grow hB9
     refine WA_tk 0 (by kernel_rfl) rfl rfl (fl_field Try.underlying65 rfl rfl (fun w => ⟨_, Try.sizeOf35 w⟩) rfl) ?_
     refine WL_field Try.underlying65 rfl rfl (fun w => ⟨_, Try.sizeOf35 w⟩) rfl rfl ?_
     refine WL_nil ?_
     refine WA_tk 2 (by kernel_rfl) rfl rfl (fl_move rfl) ?_
     refine WL_move rfl rfl ?_
     refine WL_nil ?_
     refine WA_all2 (i := 1) (j := 3) (by kernel_rfl) rfl rfl ?_ ?_
     ·refine WL_load_box hC38 2 rfl rfl Try.isAgg35 rfl rfl ?_
      refine WL_nil ?_
      obtain ⟨x33, hr9, hr8⟩ := bind_some hr8
      refine WA_one 3 (by kernel_rfl) rfl ?_
      obtain ⟨Fs4, hH4, hn4, hF4, hO4, hb4⟩ := Ctx.lend2 (As := [Item.own v1 (x3 : (List Int)), Item.box b2 [(.int .i64 x2), v1, (.int .i64 x4), (.int .i64 x5), (.int .i64 x6)], Item.box b1 [(.int .i64 0), (.slice none 0 0), (.int .i64 0), (.int .i64 0), (.int .i64 0)]]) [Item.box pb1 [u1, (.int .i64 x10.2.2.1), (.int .i64 x10.2.2.2)]] hC38
      refine WL_call Try.call15 rfl rfl (c_S_l1Below pb1 (a1.1, x10.2.2.1, x10.2.2.2) u1 (RO.lent g1 hC38.keep hF4) 5 hH4 hn4 x33 hr9) ?_
      rintro _ w17 ⟨rfl, hq7⟩
      have hC39 : Ctx Fs.flatten w0 w17 [Item.box pb1 [u1, (.int .i64 x33.2.2.1), (.int .i64 x33.2.2.2)], Item.own v1 (x3 : (List Int)), Item.box b2 [(.int .i64 x2), v1, (.int .i64 x4), (.int .i64 x5), (.int .i64 x6)], Item.box b1 [(.int .i64 0), (.slice none 0 0), (.int .i64 0), (.int .i64 0), (.int .i64 0)]] := hb4 _ _ hq7
      refine WL_nil ?_
      refine WA_tk 4 (by kernel_rfl) rfl rfl (fl_sub rfl rfl) ?_
      refine WL_sub rfl rfl rfl ?_
      refine WL_nil ?_
      refine WA_one 5 (by kernel_rfl) rfl ?_
      refine WL_buildSlice (vs := [(.int .i64 (w64 (x33.1 - 1)))]) hC39 Try.underlying35 ty3 rfl rfl rfl rfl (by intro v hv; simp only [List.mem_cons, List.not_mem_nil, or_false] at hv; rcases hv with rfl <;> rfl) rfl rfl (fun b4 w18 hC40 hB10 => ?_)
      have hC41 := hC40.row0 (α := Int)
      have hC42 := hC41.triv (int_val (w64 (x33.1 - 1)))
      have hC43 := hC42.row1
      have hC44 := hC43.front 1 rfl
      dsimp only [List.eraseIdx, List.cons_append, List.nil_append, List.append_nil] at hC44
      have hC45 : Ctx Fs.flatten w0 w18 (Item.own (.slice (some ⟨b4, 0, none⟩) 1 1) ([w64 (x33.1 - 1)] : List Int) :: [Item.box pb1 [u1, (.int .i64 x33.2.2.1), (.int .i64 x33.2.2.2)], Item.own v1 (x3 : (List Int)), Item.box b2 [(.int .i64 x2), v1, (.int .i64 x4), (.int .i64 x5), (.int .i64 x6)], Item.box b1 [(.int .i64 0), (.slice none 0 0), (.int .i64 0), (.int .i64 0), (.int .i64 0)]]) := hC44.rowOwn (by simp [maxLen])
      refine WL_nil ?_
      obtain ⟨x34, hx1, hr8⟩ := bind_some hr8
      refine WA_one 6 (by kernel_rfl) rfl ?_
      refine WL_append_flat (α := Int) hC45 2 rfl (hC45.ro 0 rfl) (Keep.refl _ _) Try.underlying35 ty3 rfl hx1 rfl rfl rfl (fun v7 w19 hC46 => ?_)
      try dsimp only [List.set] at hC46
      refine WL_nil ?_
      refine WA_tk 7 (by kernel_rfl) rfl rfl (fl_field Try.underlying65 rfl rfl (fun w => ⟨_, Try.sizeOf35 w⟩) rfl) ?_
      refine WL_field Try.underlying65 rfl rfl (fun w => ⟨_, Try.sizeOf35 w⟩) rfl rfl ?_
      refine WL_nil ?_
      refine WA_one 8 (by kernel_rfl) rfl ?_
      refine WL_store_box (cs' := [(.int .i64 x2), v7, (.int .i64 x4), (.int .i64 x5), (.int .i64 x6)]) hC46 3 rfl rfl (ro_one (hC46.ro 2 rfl)) rfl Try.sizeOf35 rfl rfl (fun w20 hC47 => ?_)
      try dsimp only [List.set] at hC47
      refine WL_nil ?_
      refine WA_done (by kernel_rfl) ?_
      have hq8 := Option.some.inj hr8
      subst hq8
      have hC48 := hC47.f4
      have hC49 := hC48.f4
      have hC50 := hC49.f4
      have hC51 := hC50.f4
      have hC52 := hC51.h4
      refine nrm_sub (l' := [(4, (ptr b1 0)), (5, (ptr b2 0))]) ⟨rfl, rfl, trivial⟩ ?_
      exact ⟨x33.2.2.1, x33.2.2.2, x2, v7, x34, x4, x5, x6, rfl, rfl, hC52⟩
     obtain ⟨x33, hr9, hr8⟩ := bind_some hr8
     obtain ⟨Fs4, hH4, hn4, hF4, hO4, hb4⟩ := Ctx.lend2 (As := [Item.own v1 (x3 : (List Int)), Item.box b2 [(.int .i64 x2), v1, (.int .i64 x4), (.int .i64 x5), (.int .i64 x6)], Item.box b1 [(.int .i64 0), (.slice none 0 0), (.int .i64 0), (.int .i64 0), (.int .i64 0)]]) [Item.box pb1 [u1, (.int .i64 x10.2.2.1), (.int .i64 x10.2.2.2)]] hC38
     refine WL_call Try.call15 rfl rfl (c_S_l1Below pb1 (a1.1, x10.2.2.1, x10.2.2.2) u1 (RO.lent g1 hC38.keep hF4) 5 hH4 hn4 x33 hr9) ?_
     rintro _ w17 ⟨rfl, hq7⟩
     have hC39 : Ctx Fs.flatten w0 w17 [Item.box pb1 [u1, (.int .i64 x33.2.2.1), (.int .i64 x33.2.2.2)], Item.own v1 (x3 : (List Int)), Item.box b2 [(.int .i64 x2), v1, (.int .i64 x4), (.int .i64 x5), (.int .i64 x6)], Item.box b1 [(.int .i64 0), (.slice none 0 0), (.int .i64 0), (.int .i64 0), (.int .i64 0)]] := hb4 _ _ hq7
     refine WL_nil ?_
     refine WA_tk 4 (by kernel_rfl) rfl rfl (fl_sub rfl rfl) ?_
     refine WL_sub rfl rfl rfl ?_
     refine WL_nil ?_
     refine WA.sub (l' := [(0, (ptr pb1 0)), (4, (ptr b1 0)), (5, (ptr b2 0)), (12, (ptr pb1 0)), (13, (.int .i64 x10.1)), (14, (.bool (decide (x10.1 = 0)))), (15, (.bool (decide (x10.1 = 0)))), (20, (.bool (decide (x10.1 = 1)))), (21, (.bool (decide (x10.1 = 1)))), (22, (ptr b2 1)), (24, (ptr pb1 0)), (25, (.int .i64 x33.1)), (26, (.int .i64 (w64 (x33.1 - 1))))]) ?_ ⟨rfl, rfl, rfl, rfl, rfl, rfl, rfl, rfl, rfl, rfl, rfl, rfl, rfl, trivial⟩
     refine WA_postsE [⟨1, [], fun vs => PW.val v1, []⟩, ⟨5, [], fun vs => PW.own ([w64 (x33.1 - 1)] : (List Int)), []⟩] [[], []] 3 rfl (by kernel_rfl) (by kernel_rfl) rfl ?_ ?_
     ·refine StepsE_cons rfl ?_ ?_
      ·intro w19 hB11
       refine DepsE_nil ?_
       refine ⟨_, rfl, ?_⟩
       refine WL_load_box (hC39.grow hB11) 2 rfl rfl Try.isAgg35 rfl rfl ?_
       refine WL_nil ?_
       exact FinE_val (Below.refl _ _) rfl rfl ⟨rfl, rfl⟩
      refine StepsE_cons rfl ?_ ?_
      ·intro w19 hB11
       refine DepsE_nil ?_
       refine ⟨_, rfl, ?_⟩
       refine WL_buildSlice (vs := [(.int .i64 (w64 (x33.1 - 1)))]) (Ctx.start w19) Try.underlying35 ty3 rfl rfl rfl rfl (by intro v hv; simp only [List.mem_cons, List.not_mem_nil, or_false] at hv; rcases hv with rfl <;> rfl) rfl rfl (fun b4 w18 hC40 hB10 => ?_)
       have hC41 := hC40.row0 (α := Int)
       have hC42 := hC41.triv (int_val (w64 (x33.1 - 1)))
       have hC43 := hC42.row1
       have hC44 := hC43.front 1 rfl
       dsimp only [List.eraseIdx, List.cons_append, List.nil_append, List.append_nil] at hC44
       have hC45 : Ctx [] w19 w18 (Item.own (.slice (some ⟨b4, 0, none⟩) 1 1) ([w64 (x33.1 - 1)] : List Int) :: []) := hC44.rowOwn (by simp [maxLen])
       refine WL_nil ?_
       exact FinE_ctx hC45 rfl rfl (fun F h => h)
      exact StepsE_nil
     intro w20 hB12
     refine AllE_cons rfl rfl rfl ?_
     rintro _ _ ⟨rfl, rfl⟩
     refine AllE_cons rfl rfl rfl ?_
     intro v7 F1 hv2
     refine AllE_nil ?_
     intro hn5 hb5
     have hC46 := hC39.pushL hB12 (Bs := [Item.own v7 ([w64 (x33.1 - 1)] : (List Int))]) (Fs := [F1]) ⟨F1, _, rfl, hv2, rfl⟩ (by simpa using hn5) (fun b h => (hb5 b (by simpa using h)).1)
     obtain ⟨x34, hx1, hr8⟩ := bind_some hr8
     refine WA_one 6 (by kernel_rfl) rfl ?_
     refine WL_append_flat (α := Int) hC46 2 rfl (hC46.ro 0 rfl) (Keep.refl _ _) Try.underlying35 ty3 rfl hx1 rfl rfl rfl (fun v8 w21 hC47 => ?_)
     try dsimp only [List.set] at hC47
     refine WL_nil ?_
     refine WA_tk 7 (by kernel_rfl) rfl rfl (fl_field Try.underlying65 rfl rfl (fun w => ⟨_, Try.sizeOf35 w⟩) rfl) ?_
     refine WL_field Try.underlying65 rfl rfl (fun w => ⟨_, Try.sizeOf35 w⟩) rfl rfl ?_
     refine WL_nil ?_
     refine WA_one 8 (by kernel_rfl) rfl ?_
     refine WL_store_box (cs' := [(.int .i64 x2), v8, (.int .i64 x4), (.int .i64 x5), (.int .i64 x6)]) hC47 3 rfl rfl (ro_one (hC47.ro 2 rfl)) rfl Try.sizeOf35 rfl rfl (fun w22 hC48 => ?_)
     try dsimp only [List.set] at hC48
     refine WL_nil ?_
     refine WA_done (by kernel_rfl) ?_
     have hq8 := Option.some.inj hr8
     subst hq8
     have hC49 := hC48.f4
     have hC50 := hC49.f4
     have hC51 := hC50.f4
     have hC52 := hC51.f4
     have hC53 := hC52.h4
     refine nrm_sub (l' := [(4, (ptr b1 0)), (5, (ptr b2 0))]) ⟨rfl, rfl, trivial⟩ ?_
     exact ⟨x33.2.2.1, x33.2.2.2, x2, v8, x34, x4, x5, x6, rfl, rfl, hC53⟩
    rintro l4 _ w15 hs4 ⟨x26, x27, x28, v6, x29, x30, x31, x32, rfl, rfl, hC37⟩
    try dsimp only at hr7
    have hq9 := Option.some.inj hr7
    subst hq9
    refine nrm_subs (l2 := [(4, (ptr b1 0)), (5, (ptr b2 0))]) hs4 ⟨rfl, rfl, trivial⟩ ?_
    exact ⟨x26, x27, x28, v6, x29, x30, x31, x32, rfl, rfl, hC37⟩
   replace hr7 := ite_f hr7 hc3
   refine W_seq_reg ?_
   refine WL_eql rfl rfl rfl ?_
   refine WL_assign rfl rfl ?_
   refine WL_nil ?_
   obtain ⟨r5, hr10, hr7⟩ := bind_some hr7
   refine W_norm (fun l w => ∃ x35 : Int, ∃ x36 : Int, ∃ x37 : Int, ∃ v9 : Value, ∃ x38 : (List Int), ∃ x39 : Int, ∃ x40 : Int, ∃ x41 : Int, (x35, x36, x37, x38, x39, x40, x41) = r5 ∧ l = [(4, (ptr b1 0)), (5, (ptr b2 0))] ∧ Ctx Fs.flatten w0 w [Item.box pb1 [u1, (.int .i64 x35), (.int .i64 x36)], Item.own v9 (x38 : (List Int)), Item.box b2 [(.int .i64 x37), v9, (.int .i64 x39), (.int .i64 x40), (.int .i64 x41)], Item.box b1 [(.int .i64 0), (.slice none 0 0), (.int .i64 0), (.int .i64 0), (.int .i64 0)]]) ?_ ?_
   ·refine W_cond rfl (fun hc4 => ?_) (fun hc4 => ?_)
    ·replace hr10 := ite_t hr10 hc4
     refine W_reg ?_
     refine WL_move rfl rfl ?_
     refine WL_buildSlice (vs := [(.int .i64 0), (.int .i64 99), (.int .i64 100)]) hC16 Try.underlying35 ty3 rfl rfl rfl rfl (by intro v hv; simp only [List.mem_cons, List.not_mem_nil, or_false] at hv; rcases hv with rfl | rfl | rfl <;> rfl) rfl rfl (fun b5 w24 hC55 hB14 => ?_)
     have hC56 := hC55.row0 (α := Int)
     have hC57 := hC56.triv (int_val (100))
     have hC58 := hC57.row1
     have hC59 := hC58.triv (int_val (99))
     have hC60 := hC59.row1
     have hC61 := hC60.triv (int_val (0))
     have hC62 := hC61.row1
     have hC63 := hC62.front 1 rfl
     dsimp only [List.eraseIdx, List.cons_append, List.nil_append, List.append_nil] at hC63
     have hC64 : Ctx Fs.flatten w0 w24 (Item.own (.slice (some ⟨b5, 0, none⟩) 3 3) ([0, 99, 100] : List Int) :: [Item.box pb1 [u1, (.int .i64 x10.2.2.1), (.int .i64 x10.2.2.2)], Item.own v1 (x3 : (List Int)), Item.box b2 [(.int .i64 x2), v1, (.int .i64 x4), (.int .i64 x5), (.int .i64 x6)], Item.box b1 [(.int .i64 0), (.slice none 0 0), (.int .i64 0), (.int .i64 0), (.int .i64 0)]]) := hC63.rowOwn (by simp [maxLen])
     obtain ⟨x42, hr11, hr10⟩ := bind_some hr10
     have hC65 := hC64.f1
     obtain ⟨Fs5, hH5, hn6, hF5, hO5, hb6⟩ := Ctx.lend2 (As := [Item.own (.slice (some ⟨b5, 0, none⟩) 3 3) ([0, 99, 100] : (List Int)), Item.own v1 (x3 : (List Int)), Item.box b2 [(.int .i64 x2), v1, (.int .i64 x4), (.int .i64 x5), (.int .i64 x6)], Item.box b1 [(.int .i64 0), (.slice none 0 0), (.int .i64 0), (.int .i64 0), (.int .i64 0)]]) [Item.box pb1 [u1, (.int .i64 x10.2.2.1), (.int .i64 x10.2.2.2)]] hC65
     refine WL_call Try.call45 rfl rfl (c_S_l1PickInt pb1 (a1.1, x10.2.2.1, x10.2.2.2) u1 (RO.lent g1 hC65.keep hF5) ([0, 99, 100]) (.slice (some ⟨b5, 0, none⟩) 3 3) (hO5 0 _ _ _ rfl) hH5 hn6 x42 hr11) ?_
     rintro _ w25 ⟨rfl, hq10⟩
     have hC66 : Ctx Fs.flatten w0 w25 [Item.box pb1 [u1, (.int .i64 x42.2.2.1), (.int .i64 x42.2.2.2)], Item.own (.slice (some ⟨b5, 0, none⟩) 3 3) ([0, 99, 100] : (List Int)), Item.own v1 (x3 : (List Int)), Item.box b2 [(.int .i64 x2), v1, (.int .i64 x4), (.int .i64 x5), (.int .i64 x6)], Item.box b1 [(.int .i64 0), (.slice none 0 0), (.int .i64 0), (.int .i64 0), (.int .i64 0)]] := hb6 _ _ hq10
     refine WL_field Try.underlying65 rfl rfl (fun w => ⟨_, Try.sizeOf3 w⟩) rfl rfl ?_
     refine WL_store_box (cs' := [(.int .i64 x2), v1, (.int .i64 x4), (.int .i64 x5), (.int .i64 x42.1)]) hC66 3 rfl rfl rfl rfl Try.sizeOf3 rfl rfl (fun w26 hC67 => ?_)
     try dsimp only [List.set] at hC67
     refine WL_nil ?_
     have hq11 := Option.some.inj hr10
     subst hq11
     have hC68 := hC67.f4
     have hC69 := hC68.f4
     have hC70 := hC69.f4
     have hC71 := hC70.f3
     have hC72 := hC71.h4
     refine nrm_sub (l' := [(4, (ptr b1 0)), (5, (ptr b2 0))]) ⟨rfl, rfl, trivial⟩ ?_
     exact ⟨x42.2.2.1, x42.2.2.2, x2, v1, x3, x4, x5, x42.1, rfl, rfl, hC72⟩
    replace hr10 := ite_f hr10 hc4
    refine W_seq_reg ?_
    refine WL_eql rfl rfl rfl ?_
    refine WL_assign rfl rfl ?_
    refine WL_nil ?_
    obtain ⟨r6, hr12, hr10⟩ := bind_some hr10
    refine W_norm (fun l w => ∃ x43 : Int, ∃ x44 : Int, ∃ x45 : Int, ∃ v10 : Value, ∃ x46 : (List Int), ∃ x47 : Int, ∃ x48 : Int, ∃ x49 : Int, (x43, x44, x45, x46, x47, x48, x49) = r6 ∧ l = [(4, (ptr b1 0)), (5, (ptr b2 0))] ∧ Ctx Fs.flatten w0 w [Item.box pb1 [u1, (.int .i64 x43), (.int .i64 x44)], Item.own v10 (x46 : (List Int)), Item.box b2 [(.int .i64 x45), v10, (.int .i64 x47), (.int .i64 x48), (.int .i64 x49)], Item.box b1 [(.int .i64 0), (.slice none 0 0), (.int .i64 0), (.int .i64 0), (.int .i64 0)]]) ?_ ?_
    ·refine W_cond rfl (fun hc5 => ?_) (fun hc5 => ?_)
     ·replace hr12 := ite_t hr12 hc5
      refine W_reg ?_
      refine WL_move rfl rfl ?_
      refine WL_buildSlice (vs := [(.int .i64 (-1)), (.int .i64 99), (.int .i64 100)]) hC16 Try.underlying35 ty3 rfl rfl rfl rfl (by intro v hv; simp only [List.mem_cons, List.not_mem_nil, or_false] at hv; rcases hv with rfl | rfl | rfl <;> rfl) rfl rfl (fun b6 w28 hC74 hB16 => ?_)
      have hC75 := hC74.row0 (α := Int)
      have hC76 := hC75.triv (int_val (100))
      have hC77 := hC76.row1
      have hC78 := hC77.triv (int_val (99))
      have hC79 := hC78.row1
      have hC80 := hC79.triv (int_val ((-1)))
      have hC81 := hC80.row1
      have hC82 := hC81.front 1 rfl
      dsimp only [List.eraseIdx, List.cons_append, List.nil_append, List.append_nil] at hC82
      have hC83 : Ctx Fs.flatten w0 w28 (Item.own (.slice (some ⟨b6, 0, none⟩) 3 3) ([(-1), 99, 100] : List Int) :: [Item.box pb1 [u1, (.int .i64 x10.2.2.1), (.int .i64 x10.2.2.2)], Item.own v1 (x3 : (List Int)), Item.box b2 [(.int .i64 x2), v1, (.int .i64 x4), (.int .i64 x5), (.int .i64 x6)], Item.box b1 [(.int .i64 0), (.slice none 0 0), (.int .i64 0), (.int .i64 0), (.int .i64 0)]]) := hC82.rowOwn (by simp [maxLen])
      obtain ⟨x50, hr13, hr12⟩ := bind_some hr12
      have hC84 := hC83.f1
      obtain ⟨Fs6, hH6, hn7, hF6, hO6, hb7⟩ := Ctx.lend2 (As := [Item.own (.slice (some ⟨b6, 0, none⟩) 3 3) ([(-1), 99, 100] : (List Int)), Item.own v1 (x3 : (List Int)), Item.box b2 [(.int .i64 x2), v1, (.int .i64 x4), (.int .i64 x5), (.int .i64 x6)], Item.box b1 [(.int .i64 0), (.slice none 0 0), (.int .i64 0), (.int .i64 0), (.int .i64 0)]]) [Item.box pb1 [u1, (.int .i64 x10.2.2.1), (.int .i64 x10.2.2.2)]] hC84
      refine WL_call Try.call45 rfl rfl (c_S_l1PickInt pb1 (a1.1, x10.2.2.1, x10.2.2.2) u1 (RO.lent g1 hC84.keep hF6) ([(-1), 99, 100]) (.slice (some ⟨b6, 0, none⟩) 3 3) (hO6 0 _ _ _ rfl) hH6 hn7 x50 hr13) ?_
      rintro _ w29 ⟨rfl, hq12⟩
      have hC85 : Ctx Fs.flatten w0 w29 [Item.box pb1 [u1, (.int .i64 x50.2.2.1), (.int .i64 x50.2.2.2)], Item.own (.slice (some ⟨b6, 0, none⟩) 3 3) ([(-1), 99, 100] : (List Int)), Item.own v1 (x3 : (List Int)), Item.box b2 [(.int .i64 x2), v1, (.int .i64 x4), (.int .i64 x5), (.int .i64 x6)], Item.box b1 [(.int .i64 0), (.slice none 0 0), (.int .i64 0), (.int .i64 0), (.int .i64 0)]] := hb7 _ _ hq12
      refine WL_field Try.underlying65 rfl rfl (fun w => ⟨_, Try.sizeOf3 w⟩) rfl rfl ?_
      refine WL_store_box (cs' := [(.int .i64 x2), v1, (.int .i64 x4), (.int .i64 x50.1), (.int .i64 x6)]) hC85 3 rfl rfl rfl rfl Try.sizeOf3 rfl rfl (fun w30 hC86 => ?_)
      try dsimp only [List.set] at hC86
      refine WL_nil ?_
      have hq13 := Option.some.inj hr12
      subst hq13
      have hC87 := hC86.f4
      have hC88 := hC87.f4
      have hC89 := hC88.f4
      have hC90 := hC89.f3
      have hC91 := hC90.h4
      refine nrm_sub (l' := [(4, (ptr b1 0)), (5, (ptr b2 0))]) ⟨rfl, rfl, trivial⟩ ?_
      exact ⟨x50.2.2.1, x50.2.2.2, x2, v1, x3, x4, x50.1, x6, rfl, rfl, hC91⟩
     replace hr12 := ite_f hr12 hc5
     refine W_skip ?_
     have hq14 := Option.some.inj hr12
     subst hq14
     refine nrm_sub (l' := [(4, (ptr b1 0)), (5, (ptr b2 0))]) ⟨rfl, rfl, trivial⟩ ?_
     exact ⟨x10.2.2.1, x10.2.2.2, x2, v1, x3, x4, x5, x6, rfl, rfl, hC16⟩
    rintro l6 _ w27 hs6 ⟨x43, x44, x45, v10, x46, x47, x48, x49, rfl, rfl, hC73⟩
    try dsimp only at hr10
    have hq15 := Option.some.inj hr10
    subst hq15
    refine nrm_subs (l2 := [(4, (ptr b1 0)), (5, (ptr b2 0))]) hs6 ⟨rfl, rfl, trivial⟩ ?_
    exact ⟨x43, x44, x45, v10, x46, x47, x48, x49, rfl, rfl, hC73⟩
   rintro l5 _ w23 hs5 ⟨x35, x36, x37, v9, x38, x39, x40, x41, rfl, rfl, hC54⟩
   try dsimp only at hr7
   have hq16 := Option.some.inj hr7
   subst hq16
   refine nrm_subs (l2 := [(4, (ptr b1 0)), (5, (ptr b2 0))]) hs5 ⟨rfl, rfl, trivial⟩ ?_
   exact ⟨x35, x36, x37, v9, x38, x39, x40, x41, rfl, rfl, hC54⟩
  rintro l3 _ w14 hs3 ⟨x19, x20, x21, v5, x22, x23, x24, x25, rfl, rfl, hC36⟩
  try dsimp only at hr5
  have hq17 := Option.some.inj hr5
  subst hq17
  refine nrm_subs (l2 := [(4, (ptr b1 0)), (5, (ptr b2 0))]) hs3 ⟨rfl, rfl, trivial⟩ ?_
  exact ⟨x19, x20, x21, v5, x22, x23, x24, x25, rfl, rfl, hC36⟩
 rintro l2 _ w10 hs2 ⟨x11, x12, x13, v4, x14, x15, x16, x17, rfl, rfl, hC17⟩
 try dsimp only at hF
 refine blk_normal ?_
 refine nrm_sub' hs2 ?_
 clear hs2
 refine W_seq_reg ?_
 refine WL_load_box_agg [(.int .i64 x13), v4, (.int .i64 x15), (.int .i64 x16), (.int .i64 x17)] hC17 2 rfl rfl rfl Try.isAgg65 Try.sizeOf65 rfl rfl ?_
 refine WL_store_box_agg (cs' := [(.int .i64 x13), v4, (.int .i64 x15), (.int .i64 x16), (.int .i64 x17)]) (new := [(.int .i64 x13), v4, (.int .i64 x15), (.int .i64 x16), (.int .i64 x17)]) hC17 3 rfl rfl (by intro v hv; simp only [List.mem_cons, List.not_mem_nil, or_false] at hv; rcases hv with rfl | rfl | rfl | rfl | rfl; exact rfl; exact (ro_one (hC17.ro 1 rfl)); exact rfl; exact rfl; exact rfl) rfl Try.sizeOf65 rfl rfl (fun w31 hC92 => ?_)
 try dsimp only [List.set] at hC92
 refine WL_nil ?_
 refine W_ret ?_
 have hq18 := Option.some.inj hF
 subst hq18
 refine fn_retG1 rfl (rv_cell_agg (cs' := [(.int .i64 x13), v4, (.int .i64 x15), (.int .i64 x16), (.int .i64 x17)]) hC92 (i := 3) rfl rfl rfl Try.isAgg65 Try.sizeOf65 rfl) ?_
 have hC94 := hC92.f1
 have hC93 := own_st65 x13 v4 x14 x15 x16 x17 hC94
 have hC95 := hC93.h2
 exact ⟨_, rfl, _, rfl, hC95⟩

theorem c_S_l2AnySchema {w0 : World} {Fs : List (List Nat)} (pb1 : Nat) (a1 : ((List UInt8) × Int × Int)) (u1 : Value) (g1 : RO Fs.flatten w0 u1 a1.1) (hH : Hold [Item.box pb1 [u1, (.int .i64 a1.2.1), (.int .i64 a1.2.2)]] w0 Fs) (hn : Fs.flatten.Nodup) (rr : ((List Int) × ((List UInt8) × Int × Int))) (hF : S.l2AnySchema a1 = some rr) :
 Calls Try.prog 43 [(ptr pb1 0)].toArray w0 fun e w' => ∃ v, e = .returned v ∧ ∃ q0 : Value, v = q0 ∧ Ctx Fs.flatten w0 w' [Item.own q0 (rr.1 : (List Int)), Item.box pb1 [u1, (.int .i64 rr.2.2.1), (.int .i64 rr.2.2.2)]] := by
 refine calls_of_W Try.func43 rfl rfl ?_
 have hC0 := Ctx.startIn hH hn
 unfold S.l2AnySchema at hF
 refine W_seq_reg ?_
 refine WL_assign rfl rfl ?_
 refine WL_nil ?_
 refine W_seq_reg ?_
 refine WL_move rfl rfl ?_
 obtain ⟨x1, hr1, hF⟩ := bind_some hF
 obtain ⟨Fs1, hH1, hn1, hF1, hO1, hb1⟩ := Ctx.lend2 (As := []) [Item.box pb1 [u1, (.int .i64 a1.2.1), (.int .i64 a1.2.2)]] hC0
 refine WL_call Try.call33 rfl rfl (c_S_l2Schema pb1 (a1.1, a1.2.1, a1.2.2) u1 (RO.lent g1 hC0.keep hF1) hH1 hn1 x1 hr1) ?_
 rintro v1 w1 ⟨_, rfl, hq1⟩
 have hC1 : Ctx Fs.flatten w0 w1 [Item.own v1 (x1.1 : (List Int)), Item.box pb1 [u1, (.int .i64 x1.2.2.1), (.int .i64 x1.2.2.2)]] := hb1 _ _ hq1
 refine WL_assign rfl rfl ?_
 refine WL_nil ?_
 refine W_seq ?_
 refine W_seq_reg ?_
 refine WL_move rfl rfl ?_
 obtain ⟨x2, hr2, hF⟩ := bind_some hF
 have hC2 := hC1.f1
 obtain ⟨Fs2, hH2, hn2, hF2, hO2, hb2⟩ := Ctx.lend2 (As := [Item.own v1 (x1.1 : (List Int))]) [Item.box pb1 [u1, (.int .i64 x1.2.2.1), (.int .i64 x1.2.2.2)]] hC2
 refine WL_call Try.call36 rfl rfl (c_S_l1Once pb1 (a1.1, x1.2.2.1, x1.2.2.2) u1 (RO.lent g1 hC2.keep hF2) 14 hH2 hn2 x2 hr2) ?_
 rintro _ w2 ⟨rfl, hq2⟩
 have hC3 : Ctx Fs.flatten w0 w2 [Item.box pb1 [u1, (.int .i64 x2.2.2.1), (.int .i64 x2.2.2.2)], Item.own v1 (x1.1 : (List Int))] := hb2 _ _ hq2
 refine WL_nil ?_
 obtain ⟨r1, hr3, hF⟩ := bind_some hF
 refine W_norm (fun l w => ∃ x3 : Int, ∃ x4 : Int, ∃ v2 : Value, ∃ x5 : (List Int), (x3, x4, x5) = r1 ∧ l = [(3, v2)] ∧ Ctx Fs.flatten w0 w [Item.box pb1 [u1, (.int .i64 x3), (.int .i64 x4)], Item.own v2 (x5 : (List Int))]) ?_ ?_
 ·refine W_cond rfl (fun hc1 => ?_) (fun hc1 => ?_)
  ·replace hr3 := ite_t hr3 hc1
   refine W_reg ?_
   refine WL_move rfl rfl ?_
   refine WL_move rfl rfl ?_
   refine WL_buildSlice (vs := [(.int .i64 0), (.int .i64 1), (.int .i64 4)]) hC3 Try.underlying35 ty3 rfl rfl rfl rfl (by intro v hv; simp only [List.mem_cons, List.not_mem_nil, or_false] at hv; rcases hv with rfl | rfl | rfl <;> rfl) rfl rfl (fun b1 w4 hC5 hB2 => ?_)
   have hC6 := hC5.row0 (α := Int)
   have hC7 := hC6.triv (int_val (4))
   have hC8 := hC7.row1
   have hC9 := hC8.triv (int_val (1))
   have hC10 := hC9.row1
   have hC11 := hC10.triv (int_val (0))
   have hC12 := hC11.row1
   have hC13 := hC12.front 1 rfl
   dsimp only [List.eraseIdx, List.cons_append, List.nil_append, List.append_nil] at hC13
   have hC14 : Ctx Fs.flatten w0 w4 (Item.own (.slice (some ⟨b1, 0, none⟩) 3 3) ([0, 1, 4] : List Int) :: [Item.box pb1 [u1, (.int .i64 x2.2.2.1), (.int .i64 x2.2.2.2)], Item.own v1 (x1.1 : (List Int))]) := hC13.rowOwn (by simp [maxLen])
   obtain ⟨x6, hr4, hr3⟩ := bind_some hr3
   have hC15 := hC14.f1
   obtain ⟨Fs3, hH3, hn3, hF3, hO3, hb3⟩ := Ctx.lend2 (As := [Item.own (.slice (some ⟨b1, 0, none⟩) 3 3) ([0, 1, 4] : (List Int)), Item.own v1 (x1.1 : (List Int))]) [Item.box pb1 [u1, (.int .i64 x2.2.2.1), (.int .i64 x2.2.2.2)]] hC15
   refine WL_call Try.call45 rfl rfl (c_S_l1PickInt pb1 (a1.1, x2.2.2.1, x2.2.2.2) u1 (RO.lent g1 hC15.keep hF3) ([0, 1, 4]) (.slice (some ⟨b1, 0, none⟩) 3 3) (hO3 0 _ _ _ rfl) hH3 hn3 x6 hr4) ?_
   rintro _ w5 ⟨rfl, hq3⟩
   have hC16 : Ctx Fs.flatten w0 w5 [Item.box pb1 [u1, (.int .i64 x6.2.2.1), (.int .i64 x6.2.2.2)], Item.own (.slice (some ⟨b1, 0, none⟩) 3 3) ([0, 1, 4] : (List Int)), Item.own v1 (x1.1 : (List Int))] := hb3 _ _ hq3
   refine WL_buildSlice (vs := [(.int .i64 x6.1)]) hC16 Try.underlying35 ty3 rfl rfl rfl rfl (by intro v hv; simp only [List.mem_cons, List.not_mem_nil, or_false] at hv; rcases hv with rfl <;> rfl) rfl rfl (fun b2 w6 hC17 hB3 => ?_)
   have hC18 := hC17.row0 (α := Int)
   have hC19 := hC18.triv (int_val (x6.1))
   have hC20 := hC19.row1
   have hC21 := hC20.front 1 rfl
   dsimp only [List.eraseIdx, List.cons_append, List.nil_append, List.append_nil] at hC21
   have hC22 : Ctx Fs.flatten w0 w6 (Item.own (.slice (some ⟨b2, 0, none⟩) 1 1) ([x6.1] : List Int) :: [Item.box pb1 [u1, (.int .i64 x6.2.2.1), (.int .i64 x6.2.2.2)], Item.own (.slice (some ⟨b1, 0, none⟩) 3 3) ([0, 1, 4] : (List Int)), Item.own v1 (x1.1 : (List Int))]) := hC21.rowOwn (by simp [maxLen])
   obtain ⟨x7, hx1, hr3⟩ := bind_some hr3
   refine WL_append_flat (α := Int) hC22 3 rfl (hC22.ro 0 rfl) (Keep.refl _ _) Try.underlying35 ty3 rfl hx1 rfl rfl rfl (fun v3 w7 hC23 => ?_)
   try dsimp only [List.set] at hC23
   refine WL_assign rfl rfl ?_
   refine WL_nil ?_
   have hq4 := Option.some.inj hr3
   subst hq4
   have hC24 := hC23.f3
   have hC25 := hC24.f2
   have hC26 := hC25.h2
   refine nrm_sub (l' := [(3, v3)]) ⟨rfl, trivial⟩ ?_
   exact ⟨x6.2.2.1, x6.2.2.2, v3, x7, rfl, rfl, hC26⟩
  replace hr3 := ite_f hr3 hc1
  refine W_skip ?_
  have hq5 := Option.some.inj hr3
  subst hq5
  refine nrm_sub (l' := [(3, v1)]) ⟨rfl, trivial⟩ ?_
  exact ⟨x2.2.2.1, x2.2.2.2, v1, x1.1, rfl, rfl, hC3⟩
 rintro l1 _ w3 hs1 ⟨x3, x4, v2, x5, rfl, rfl, hC4⟩
 try dsimp only at hF
 refine nrm_sub' hs1 ?_
 clear hs1
 refine W_seq_reg ?_
 refine WL_move rfl rfl ?_
 refine WL_assign rfl rfl ?_
 refine WL_nil ?_
 refine W_ret ?_
 have hq6 := Option.some.inj hF
 subst hq6
 refine fn_ret1 rfl rfl ?_
 have hC27 := hC4.f1
 exact ⟨_, rfl, _, rfl, hC27⟩

theorem c_S_l5Draw {w0 : World} {Fs : List (List Nat)} (pb1 : Nat) (a1 : ((List UInt8) × Int × Int)) (u1 : Value) (g1 : RO Fs.flatten w0 u1 a1.1) (hH : Hold [Item.box pb1 [u1, (.int .i64 a1.2.1), (.int .i64 a1.2.2)]] w0 Fs) (hn : Fs.flatten.Nodup) (rr : ((List Int) × (List (Int × (List Int) × Int × Int × Int)) × (List (Int × (List Int))) × ((List UInt8) × Int × Int))) (hF : S.l5Draw a1 = some rr) :
 Calls Try.prog 30 [(ptr pb1 0)].toArray w0 fun e w' => ∃ v, e = .returned v ∧ ∃ q0 : Value, ∃ q1 : Value, ∃ q2 : Value, v = (.tuple #[q0, q1, q2]) ∧ Ctx Fs.flatten w0 w' [Item.own q0 (rr.1 : (List Int)), Item.own q1 (rr.2.1 : (List (Int × (List Int) × Int × Int × Int))), Item.own q2 (rr.2.2.1 : (List (Int × (List Int)))), Item.box pb1 [u1, (.int .i64 rr.2.2.2.2.1), (.int .i64 rr.2.2.2.2.2)]] := by
 refine calls_of_W Try.func30 rfl rfl ?_
 have hC0 := Ctx.startIn hH hn
 unfold S.l5Draw at hF
 refine W_seq_reg ?_
 refine WL_assign rfl rfl ?_
 refine WL_assign rfl rfl ?_
 refine WL_assign rfl rfl ?_
 refine WL_nil ?_
 refine W_seq_reg ?_
 refine WL_move rfl rfl ?_
 obtain ⟨x1, hr1, hF⟩ := bind_some hF
 obtain ⟨Fs1, hH1, hn1, hF1, hO1, hb1⟩ := Ctx.lend2 (As := []) [Item.box pb1 [u1, (.int .i64 a1.2.1), (.int .i64 a1.2.2)]] hC0
 refine WL_call Try.call33 rfl rfl (c_S_l2Schema pb1 (a1.1, a1.2.1, a1.2.2) u1 (RO.lent g1 hC0.keep hF1) hH1 hn1 x1 hr1) ?_
 rintro v1 w1 ⟨_, rfl, hq1⟩
 have hC1 : Ctx Fs.flatten w0 w1 [Item.own v1 (x1.1 : (List Int)), Item.box pb1 [u1, (.int .i64 x1.2.2.1), (.int .i64 x1.2.2.2)]] := hb1 _ _ hq1
 refine WL_assign rfl rfl ?_
 refine WL_nil ?_
 refine W_seq_reg ?_
 refine WL_move rfl rfl ?_
 refine WL_move rfl rfl ?_
 obtain ⟨x2, hr2, hF⟩ := bind_some hF
 have hC2 := hC1.f1
 obtain ⟨Fs2, hH2, hn2, hF2, hO2, hb2⟩ := Ctx.lend2 (As := [Item.own v1 (x1.1 : (List Int))]) [Item.box pb1 [u1, (.int .i64 x1.2.2.1), (.int .i64 x1.2.2.2)]] hC2
 refine WL_call Try.call40 rfl rfl (c_S_l5Methods pb1 (a1.1, x1.2.2.1, x1.2.2.2) u1 (RO.lent g1 hC2.keep hF2) x1.1 v1 (hO2 0 _ _ _ rfl) hH2 hn2 x2 hr2) ?_
 rintro v2 w2 ⟨_, rfl, hq2⟩
 have hC3 : Ctx Fs.flatten w0 w2 [Item.own v2 (x2.1 : (List (Int × (List Int) × Int × Int × Int))), Item.box pb1 [u1, (.int .i64 x2.2.2.1), (.int .i64 x2.2.2.2)], Item.own v1 (x1.1 : (List Int))] := hb2 _ _ hq2
 refine WL_assign rfl rfl ?_
 refine WL_nil ?_
 refine W_seq_reg ?_
 refine WL_move rfl rfl ?_
 refine WL_move rfl rfl ?_
 obtain ⟨x3, hr3, hF⟩ := bind_some hF
 have hC4 := hC3.f1
 obtain ⟨Fs3, hH3, hn3, hF3, hO3, hb3⟩ := Ctx.lend2 (As := [Item.own v2 (x2.1 : (List (Int × (List Int) × Int × Int × Int))), Item.own v1 (x1.1 : (List Int))]) [Item.box pb1 [u1, (.int .i64 x2.2.2.1), (.int .i64 x2.2.2.2)]] hC4
 refine WL_call Try.call41 rfl rfl (c_S_l2Facts pb1 (a1.1, x2.2.2.1, x2.2.2.2) u1 (RO.lent g1 hC4.keep hF3) x1.1 v1 (hO3 1 _ _ _ rfl) 8 hH3 hn3 x3 hr3) ?_
 rintro v3 w3 ⟨_, rfl, hq3⟩
 have hC5 : Ctx Fs.flatten w0 w3 [Item.own v3 (x3.1 : (List (Int × (List Int)))), Item.box pb1 [u1, (.int .i64 x3.2.2.1), (.int .i64 x3.2.2.2)], Item.own v2 (x2.1 : (List (Int × (List Int) × Int × Int × Int))), Item.own v1 (x1.1 : (List Int))] := hb3 _ _ hq3
 refine WL_assign rfl rfl ?_
 refine WL_nil ?_
 refine W_seq ?_
 refine W_seq_reg ?_
 refine WL_move rfl rfl ?_
 obtain ⟨x4, hr4, hF⟩ := bind_some hF
 have hC6 := hC5.f1
 obtain ⟨Fs4, hH4, hn4, hF4, hO4, hb4⟩ := Ctx.lend2 (As := [Item.own v3 (x3.1 : (List (Int × (List Int)))), Item.own v2 (x2.1 : (List (Int × (List Int) × Int × Int × Int))), Item.own v1 (x1.1 : (List Int))]) [Item.box pb1 [u1, (.int .i64 x3.2.2.1), (.int .i64 x3.2.2.2)]] hC6
 refine WL_call Try.call15 rfl rfl (c_S_l1Below pb1 (a1.1, x3.2.2.1, x3.2.2.2) u1 (RO.lent g1 hC6.keep hF4) 20 hH4 hn4 x4 hr4) ?_
 rintro _ w4 ⟨rfl, hq4⟩
 have hC7 : Ctx Fs.flatten w0 w4 [Item.box pb1 [u1, (.int .i64 x4.2.2.1), (.int .i64 x4.2.2.2)], Item.own v3 (x3.1 : (List (Int × (List Int)))), Item.own v2 (x2.1 : (List (Int × (List Int) × Int × Int × Int))), Item.own v1 (x1.1 : (List Int))] := hb4 _ _ hq4
 refine WL_nil ?_
 refine W_block ?_
 refine W_seq_reg ?_
 refine WL_eql rfl rfl rfl ?_
 refine WL_assign rfl rfl ?_
 refine WL_nil ?_
 obtain ⟨r1, hr5, hF⟩ := bind_some hF
 refine W_norm (fun l w => ∃ x5 : Int, ∃ x6 : Int, ∃ v4 : Value, ∃ x7 : (List Int), ∃ v5 : Value, ∃ x8 : (List (Int × (List Int) × Int × Int × Int)), ∃ v6 : Value, ∃ x9 : (List (Int × (List Int))), (x5, x6, x7, x8, x9) = r1 ∧ l = [(5, v4), (6, v5), (7, v6)] ∧ Ctx Fs.flatten w0 w [Item.box pb1 [u1, (.int .i64 x5), (.int .i64 x6)], Item.own v6 (x9 : (List (Int × (List Int)))), Item.own v5 (x8 : (List (Int × (List Int) × Int × Int × Int))), Item.own v4 (x7 : (List Int))]) ?_ ?_
 ·refine W_cond rfl (fun hc1 => ?_) (fun hc1 => ?_)
  ·replace hr5 := ite_t hr5 hc1
   refine W_reg ?_
   refine WL_move rfl rfl ?_
   refine WL_move rfl rfl ?_
   refine WL_move rfl rfl ?_
   obtain ⟨x10, hr6, hr5⟩ := bind_some hr5
   obtain ⟨Fs5, hH5, hn5, hF5, hO5, hb5⟩ := Ctx.lend2 (As := [Item.own v3 (x3.1 : (List (Int × (List Int)))), Item.own v2 (x2.1 : (List (Int × (List Int) × Int × Int × Int))), Item.own v1 (x1.1 : (List Int))]) [Item.box pb1 [u1, (.int .i64 x4.2.2.1), (.int .i64 x4.2.2.2)]] hC7
   refine WL_call Try.call42 rfl rfl (c_S_l5AnyMethod pb1 (a1.1, x4.2.2.1, x4.2.2.2) u1 (RO.lent g1 hC7.keep hF5) x1.1 v1 (hO5 2 _ _ _ rfl) hH5 hn5 x10 hr6) ?_
   rintro v7 w6 ⟨_, rfl, hq5⟩
   have hC9 : Ctx Fs.flatten w0 w6 [Item.own v7 (x10.1 : (Int × (List Int) × Int × Int × Int)), Item.box pb1 [u1, (.int .i64 x10.2.2.1), (.int .i64 x10.2.2.2)], Item.own v3 (x3.1 : (List (Int × (List Int)))), Item.own v2 (x2.1 : (List (Int × (List Int) × Int × Int × Int))), Item.own v1 (x1.1 : (List Int))] := hb5 _ _ hq5
   obtain ⟨v8, rfl, hC10⟩ := st65_own hC9
   refine WL_buildSlice (vs := [(.agg #[(.int .i64 x10.1.1), v8, (.int .i64 x10.1.2.2.1), (.int .i64 x10.1.2.2.2.1), (.int .i64 x10.1.2.2.2.2)])]) hC10 Try.underlying50 ty65 rfl rfl rfl rfl (by intro v hv; simp only [List.mem_cons, List.not_mem_nil, or_false] at hv; rcases hv with rfl <;> rfl) rfl rfl (fun b1 w7 hC11 hB2 => ?_)
   have hC12 := hC11.row0 (α := (Int × (List Int) × Int × Int × Int))
   have hC14 := hC12.f2
   have hC13 := own_st65 x10.1.1 v8 x10.1.2.1 x10.1.2.2.1 x10.1.2.2.2.1 x10.1.2.2.2.2 hC14
   have hC15 := hC13.row1
   have hC16 := hC15.front 1 rfl
   dsimp only [List.eraseIdx, List.cons_append, List.nil_append, List.append_nil] at hC16
   have hC17 : Ctx Fs.flatten w0 w7 (Item.own (.slice (some ⟨b1, 0, none⟩) 1 1) ([(x10.1.1, x10.1.2.1, x10.1.2.2.1, x10.1.2.2.2.1, x10.1.2.2.2.2)] : List (Int × (List Int) × Int × Int × Int)) :: [Item.box pb1 [u1, (.int .i64 x10.2.2.1), (.int .i64 x10.2.2.2)], Item.own v3 (x3.1 : (List (Int × (List Int)))), Item.own v2 (x2.1 : (List (Int × (List Int) × Int × Int × Int))), Item.own v1 (x1.1 : (List Int))]) := hC16.rowOwn (by simp [maxLen])
   obtain ⟨x11, hx1, hr5⟩ := bind_some hr5
   refine WL_append_head hC17 2 rfl Try.underlying50 ty65 rfl hx1 rfl rfl rfl (fun v9 w9 hC18 => ?_)
   try dsimp only [List.set] at hC18
   refine WL_assign rfl rfl ?_
   refine WL_nil ?_
   have hq6 := Option.some.inj hr5
   subst hq6
   refine nrm_sub (l' := [(5, v1), (6, v9), (7, v3)]) ⟨rfl, rfl, rfl, trivial⟩ ?_
   exact ⟨x10.2.2.1, x10.2.2.2, v1, x1.1, v9, x11, v3, x3.1, rfl, rfl, hC18⟩
  replace hr5 := ite_f hr5 hc1
  refine W_seq_reg ?_
  refine WL_eql rfl rfl rfl ?_
  refine WL_assign rfl rfl ?_
  refine WL_nil ?_
  obtain ⟨r2, hr7, hr5⟩ := bind_some hr5
  refine W_norm (fun l w => ∃ x12 : Int, ∃ x13 : Int, ∃ v10 : Value, ∃ x14 : (List Int), ∃ v11 : Value, ∃ x15 : (List (Int × (List Int))), (x12, x13, x14, x15) = r2 ∧ l = [(5, v10), (6, v2), (7, v11)] ∧ Ctx Fs.flatten w0 w [Item.box pb1 [u1, (.int .i64 x12), (.int .i64 x13)], Item.own v11 (x15 : (List (Int × (List Int)))), Item.own v2 (x2.1 : (List (Int × (List Int) × Int × Int × Int))), Item.own v10 (x14 : (List Int))]) ?_ ?_
  ·refine W_cond rfl (fun hc2 => ?_) (fun hc2 => ?_)
   ·replace hr7 := ite_t hr7 hc2
    refine W_reg ?_
    refine WL_move rfl rfl ?_
    refine WL_move rfl rfl ?_
    obtain ⟨x16, hr8, hr7⟩ := bind_some hr7
    obtain ⟨Fs6, hH6, hn6, hF6, hO6, hb6⟩ := Ctx.lend2 (As := [Item.own v3 (x3.1 : (List (Int × (List Int)))), Item.own v2 (x2.1 : (List (Int × (List Int) × Int × Int × Int))), Item.own v1 (x1.1 : (List Int))]) [Item.box pb1 [u1, (.int .i64 x4.2.2.1), (.int .i64 x4.2.2.2)]] hC7
    refine WL_call Try.call35 rfl rfl (c_S_l2AnyFacts pb1 (a1.1, x4.2.2.1, x4.2.2.2) u1 (RO.lent g1 hC7.keep hF6) x1.1 v1 (hO6 2 _ _ _ rfl) hH6 hn6 x16 hr8) ?_
    rintro v12 w11 ⟨_, rfl, hq7⟩
    have hC21 : Ctx Fs.flatten w0 w11 [Item.own v12 (x16.1 : (List (Int × (List Int)))), Item.box pb1 [u1, (.int .i64 x16.2.2.1), (.int .i64 x16.2.2.2)], Item.own v3 (x3.1 : (List (Int × (List Int)))), Item.own v2 (x2.1 : (List (Int × (List Int) × Int × Int × Int))), Item.own v1 (x1.1 : (List Int))] := hb6 _ _ hq7
    refine WL_assign rfl rfl ?_
    refine WL_nil ?_
    have hq8 := Option.some.inj hr7
    subst hq8
    have hC22 := hC21.f4
    have hC23 := hC22.f4
    have hC24 := hC23.f2
    have hC25 := hC24.f3
    have hC26 := hC25.h4
    refine nrm_sub (l' := [(5, v1), (6, v2), (7, v12)]) ⟨rfl, rfl, rfl, trivial⟩ ?_
    exact ⟨x16.2.2.1, x16.2.2.2, v1, x1.1, v12, x16.1, rfl, rfl, hC26⟩
   replace hr7 := ite_f hr7 hc2
   refine W_seq_reg ?_
   refine WL_eql rfl rfl rfl ?_
   refine WL_assign rfl rfl ?_
   refine WL_nil ?_
   obtain ⟨r3, hr9, hr7⟩ := bind_some hr7
   refine W_norm (fun l w => ∃ x17 : Int, ∃ x18 : Int, ∃ v13 : Value, ∃ x19 : (List Int), (x17, x18, x19) = r3 ∧ l = [(5, v13), (6, v2), (7, v3)] ∧ Ctx Fs.flatten w0 w [Item.box pb1 [u1, (.int .i64 x17), (.int .i64 x18)], Item.own v3 (x3.1 : (List (Int × (List Int)))), Item.own v2 (x2.1 : (List (Int × (List Int) × Int × Int × Int))), Item.own v13 (x19 : (List Int))]) ?_ ?_
   ·refine W_cond rfl (fun hc3 => ?_) (fun hc3 => ?_)
    ·replace hr9 := ite_t hr9 hc3
     refine W_reg ?_
     refine WL_move rfl rfl ?_
     obtain ⟨x20, hr10, hr9⟩ := bind_some hr9
     obtain ⟨Fs7, hH7, hn7, hF7, hO7, hb7⟩ := Ctx.lend2 (As := [Item.own v3 (x3.1 : (List (Int × (List Int)))), Item.own v2 (x2.1 : (List (Int × (List Int) × Int × Int × Int))), Item.own v1 (x1.1 : (List Int))]) [Item.box pb1 [u1, (.int .i64 x4.2.2.1), (.int .i64 x4.2.2.2)]] hC7
     refine WL_call Try.call43 rfl rfl (c_S_l2AnySchema pb1 (a1.1, x4.2.2.1, x4.2.2.2) u1 (RO.lent g1 hC7.keep hF7) hH7 hn7 x20 hr10) ?_
     rintro v14 w13 ⟨_, rfl, hq9⟩
     have hC28 : Ctx Fs.flatten w0 w13 [Item.own v14 (x20.1 : (List Int)), Item.box pb1 [u1, (.int .i64 x20.2.2.1), (.int .i64 x20.2.2.2)], Item.own v3 (x3.1 : (List (Int × (List Int)))), Item.own v2 (x2.1 : (List (Int × (List Int) × Int × Int × Int))), Item.own v1 (x1.1 : (List Int))] := hb7 _ _ hq9
     refine WL_assign rfl rfl ?_
     refine WL_nil ?_
     have hq10 := Option.some.inj hr9
     subst hq10
     have hC29 := hC28.f3
     have hC30 := hC29.f3
     have hC31 := hC30.f3
     have hC32 := hC31.h4
     refine nrm_sub (l' := [(5, v14), (6, v2), (7, v3)]) ⟨rfl, rfl, rfl, trivial⟩ ?_
     exact ⟨x20.2.2.1, x20.2.2.2, v14, x20.1, rfl, rfl, hC32⟩
    replace hr9 := ite_f hr9 hc3
    refine W_skip ?_
    have hq11 := Option.some.inj hr9
    subst hq11
    refine nrm_sub (l' := [(5, v1), (6, v2), (7, v3)]) ⟨rfl, rfl, rfl, trivial⟩ ?_
    exact ⟨x4.2.2.1, x4.2.2.2, v1, x1.1, rfl, rfl, hC7⟩
   rintro l3 _ w12 hs3 ⟨x17, x18, v13, x19, rfl, rfl, hC27⟩
   try dsimp only at hr7
   have hq12 := Option.some.inj hr7
   subst hq12
   refine nrm_subs (l2 := [(5, v13), (6, v2), (7, v3)]) hs3 ⟨rfl, rfl, rfl, trivial⟩ ?_
   exact ⟨x17, x18, v13, x19, v3, x3.1, rfl, rfl, hC27⟩
  rintro l2 _ w10 hs2 ⟨x12, x13, v10, x14, v11, x15, rfl, rfl, hC20⟩
  try dsimp only at hr5
  have hq13 := Option.some.inj hr5
  subst hq13
  refine nrm_subs (l2 := [(5, v10), (6, v2), (7, v11)]) hs2 ⟨rfl, rfl, rfl, trivial⟩ ?_
  exact ⟨x12, x13, v10, x14, v2, x2.1, v11, x15, rfl, rfl, hC20⟩
 rintro l1 _ w5 hs1 ⟨x5, x6, v4, x7, v5, x8, v6, x9, rfl, rfl, hC8⟩
 try dsimp only at hF
 refine blk_normal ?_
 refine nrm_sub' hs1 ?_
 clear hs1
 refine W_seq_reg ?_
 refine WL_move rfl rfl ?_
 refine WL_move rfl rfl ?_
 refine WL_move rfl rfl ?_
 refine WL_assign rfl rfl ?_
 refine WL_assign rfl rfl ?_
 refine WL_assign rfl rfl ?_
 refine WL_nil ?_
 refine W_ret ?_
 have hq14 := Option.some.inj hF
 subst hq14
 refine fn_ret3 rfl rfl rfl rfl ?_
 have hC33 := hC8.f1
 have hC34 := hC33.f2
 have hC35 := hC34.f3
 exact ⟨_, rfl, _, _, _, rfl, hC35⟩

theorem c_S_l5Access {w0 : World} {Fs : List (List Nat)} (pb1 : Nat) (a1 : ((List UInt8) × Int × Int)) (u1 : Value) (g1 : RO Fs.flatten w0 u1 a1.1) (a2 : (List (Int × (List Int) × Int × Int × Int))) (u2 : Value) (g2 : RO Fs.flatten w0 u2 a2) (hH : Hold [Item.box pb1 [u1, (.int .i64 a1.2.1), (.int .i64 a1.2.2)]] w0 Fs) (hn : Fs.flatten.Nodup) (rr : ((Int × (List Int)) × ((List UInt8) × Int × Int))) (hF : S.l5Access a1 a2 = some rr) :
 Calls Try.prog 44 [(ptr pb1 0), u2].toArray w0 fun e w' => ∃ v, e = .returned v ∧ ∃ q0 : Value, v = q0 ∧ Ctx Fs.flatten w0 w' [Item.own q0 (rr.1 : (Int × (List Int))), Item.box pb1 [u1, (.int .i64 rr.2.2.1), (.int .i64 rr.2.2.2)]] := by
 refine calls_of_W Try.func44 rfl rfl ?_
 have hC0 := Ctx.startIn hH hn
 unfold S.l5Access at hF
 refine W_seq_reg ?_
 refine WL_alloc hC0 zero37 rfl rfl (fun b1 w1 hC1 hB1 => ?_)
 refine WL_nil ?_
 refine W_seq ?_
 refine W_seq_reg ?_
 refine WL_move rfl rfl ?_
 refine WL_len Try.underlying50 g2 rfl rfl ?_
 refine WL_eql rfl rfl rfl ?_
 refine WL_nil ?_
 refine W_cond rfl (fun hc1 => ?_) (fun hc1 => ?_)
 ·replace hF := ite_t hF hc1
  refine W_seq_reg ?_
  refine WL_build (vs := []) rfl rfl rfl built37 ?_
  refine WL_store_box_agg (cs' := [(.int .i64 0), (.slice none 0 0)]) (new := [(.int .i64 0), (.slice none 0 0)]) hC1 0 rfl rfl (by intro v hv; simp only [List.mem_cons, List.not_mem_nil, or_false] at hv; rcases hv with rfl | rfl; exact rfl; exact rfl) rfl Try.sizeOf37 rfl rfl (fun w2 hC2 => ?_)
  try dsimp only [List.set] at hC2
  refine WL_nil ?_
  refine W_ret ?_
  refine nrm_ret ?_
  have hq1 := Option.some.inj hF
  subst hq1
  refine fn_retG1 rfl (rv_cell_agg (cs' := [(.int .i64 0), (.slice none 0 0)]) hC2 (i := 0) rfl rfl rfl Try.isAgg37 Try.sizeOf37 rfl) ?_
  have hC3 := hC2.f1
  have hC5 := hC3.triv (nil_val (α := Int))
  have hC4 := own_st37 0 (.slice none 0 0) ([]) hC5
  have hC6 := hC4.h2
  exact ⟨_, rfl, _, rfl, hC6⟩
 replace hF := ite_f hF hc1
 refine W_skip ?_
 refine nrm_normal ?_
 refine W_seq_reg ?_
 refine WL_move rfl rfl ?_
 refine WL_move rfl rfl ?_
 refine WL_len Try.underlying50 g2 rfl rfl ?_
 obtain ⟨x1, hr1, hF⟩ := bind_some hF
 have hC7 := hC1.f1
 obtain ⟨Fs1, hH1, hn1, hF1, hO1, hb1⟩ := Ctx.lend2 (As := [Item.box b1 [(.int .i64 0), (.slice none 0 0)]]) [Item.box pb1 [u1, (.int .i64 a1.2.1), (.int .i64 a1.2.2)]] hC7
 refine WL_call Try.call15 rfl rfl (c_S_l1Below pb1 (a1.1, a1.2.1, a1.2.2) u1 (RO.lent g1 hC7.keep hF1) (List.length a2 : Int) hH1 hn1 x1 hr1) ?_
 rintro _ w3 ⟨rfl, hq2⟩
 have hC8 : Ctx Fs.flatten w0 w3 [Item.box pb1 [u1, (.int .i64 x1.2.2.1), (.int .i64 x1.2.2.2)], Item.box b1 [(.int .i64 0), (.slice none 0 0)]] := hb1 _ _ hq2
 refine WL_build (vs := [(0, (.int .i64 x1.1))]) rfl rfl rfl (built37_0 rfl) ?_
 refine WL_alloc hC8 zero37 rfl rfl (fun b2 w4 hC9 hB2 => ?_)
 refine WL_store_box_agg (cs' := [(.int .i64 x1.1), (.slice none 0 0)]) (new := [(.int .i64 x1.1), (.slice none 0 0)]) hC9 0 rfl rfl (by intro v hv; simp only [List.mem_cons, List.not_mem_nil, or_false] at hv; rcases hv with rfl | rfl; exact rfl; exact rfl) rfl Try.sizeOf37 rfl rfl (fun w5 hC10 => ?_)
 try dsimp only [List.set] at hC10
 refine WL_nil ?_
 refine W_seq ?_
 refine W_seq_reg ?_
 refine WL_assign rfl rfl ?_
 refine WL_nil ?_
 obtain ⟨r1, hr2, hF⟩ := bind_some hF
 refine W_norm (fun l w => ∃ x7 : Int, ∃ v2 : Value, ∃ x8 : (List Int), ∃ x9 : Int, ∃ x10 : Int, (x7, x8, x9, x10) = r1 ∧ l = [(4, (ptr b1 0)), (5, (ptr b2 0))] ∧ Ctx Fs.flatten w0 w [Item.own v2 (x8 : (List Int)), Item.box b2 [(.int .i64 x7), v2], Item.box pb1 [u1, (.int .i64 x9), (.int .i64 x10)], Item.box b1 [(.int .i64 0), (.slice none 0 0)]]) ?_ ?_
 ·refine W_block ?_
  have hC27 := hC10.triv (nil_val (α := Int))
  refine W.sub (l' := [(0, (ptr pb1 0)), (1, u2), (4, (ptr b1 0)), (5, (ptr b2 0)), (6, (.int .i64 0))]) ?_ ⟨rfl, rfl, rfl, rfl, rfl, trivial⟩
  refine W_loop (fun k l w => ∃ x2 : Int, ∃ v1 : Value, ∃ x3 : (List Int), ∃ x4 : Int, ∃ x5 : Int, ∃ x6 : Int, l = [(0, (ptr pb1 0)), (1, u2), (4, (ptr b1 0)), (5, (ptr b2 0)), (6, (.int .i64 x6))] ∧ Ctx Fs.flatten w0 w [Item.own v1 (x3 : (List Int)), Item.box b2 [(.int .i64 x2), v1], Item.box pb1 [u1, (.int .i64 x4), (.int .i64 x5)], Item.box b1 [(.int .i64 0), (.slice none 0 0)]] ∧ S.l5Access_l1 a2 a1 k x2 x3 x4 x5 x6 = some r1) FUEL ⟨x1.1, (.slice none 0 0), [], x1.2.2.1, x1.2.2.2, 0, rfl, hC27, hr2⟩ ?_
  clear hr2
  rintro k1 _ w6 ⟨x2, v1, x3, x4, x5, x6, rfl, hC11, hL1⟩
  cases k1 with
  | zero => rw [S.l5Access_l1] at hL1; cases hL1
  | succ k1 =>
   rw [S.l5Access_l1] at hL1
   refine W_seq ?_
   refine W_seq_reg ?_
   refine WL_move rfl rfl ?_
   refine WL_move rfl rfl ?_
   refine WL_field Try.underlying37 rfl rfl (fun w => ⟨_, Try.sizeOf3 w⟩) rfl rfl ?_
   refine WL_load_box hC11 1 rfl rfl Try.isAgg3 rfl rfl ?_
   obtain ⟨x11, hx1, hL1⟩ := bind_some hL1
   refine WL_index Try.underlying50 ty65 g2 hx1 rfl rfl rfl (fun b3 o1 h1 => ?_)
   refine WL_field Try.underlying65 rfl rfl (fun w => ⟨_, Try.sizeOf35 w⟩) rfl rfl ?_
   refine WL_load ty35 h1.snd.fst hC11.keep rfl rfl (fun v3 h2 => ?_)
   refine WL_len Try.underlying35 h2 rfl rfl ?_
   refine WL_lss rfl rfl rfl ?_
   refine WL_nil ?_
   refine W_cond rfl (fun hc2 => ?_) (fun hc2 => ?_)
   ·replace hL1 := ite_t hL1 hc2
    refine W_skip ?_
    refine nrm_normal ?_
    refine W_seq ?_
    refine W_block ?_
    refine W_seq_reg ?_
    refine WL_move rfl rfl ?_
    obtain ⟨x12, hr3, hL1⟩ := bind_some hL1
    have hC12 := hC11.f2
    obtain ⟨Fs2, hH2, hn2, hF2, hO2, hb2⟩ := Ctx.lend2 (As := [Item.own v1 (x3 : (List Int)), Item.box b2 [(.int .i64 x2), v1], Item.box b1 [(.int .i64 0), (.slice none 0 0)]]) [Item.box pb1 [u1, (.int .i64 x4), (.int .i64 x5)]] hC12
    refine WL_call Try.call15 rfl rfl (c_S_l1Below pb1 (a1.1, x4, x5) u1 (RO.lent g1 hC12.keep hF2) 4 hH2 hn2 x12 hr3) ?_
    rintro _ w7 ⟨rfl, hq3⟩
    have hC13 : Ctx Fs.flatten w0 w7 [Item.box pb1 [u1, (.int .i64 x12.2.2.1), (.int .i64 x12.2.2.2)], Item.own v1 (x3 : (List Int)), Item.box b2 [(.int .i64 x2), v1], Item.box b1 [(.int .i64 0), (.slice none 0 0)]] := hb2 _ _ hq3
    refine WL_assign rfl rfl ?_
    refine WL_nil ?_
    refine W_reg ?_
    refine WL_field Try.underlying37 rfl rfl (fun w => ⟨_, Try.sizeOf35 w⟩) rfl rfl ?_
    refine WL_load_box hC13 2 rfl rfl Try.isAgg35 rfl rfl ?_
    refine WL_move rfl rfl ?_
    refine WL_buildSlice (vs := [(.int .i64 x12.1)]) hC13 Try.underlying35 ty3 rfl rfl rfl rfl (by intro v hv; simp only [List.mem_cons, List.not_mem_nil, or_false] at hv; rcases hv with rfl <;> rfl) rfl rfl (fun b4 w9 hC14 hB4 => ?_)
    have hC15 := hC14.row0 (α := Int)
    have hC16 := hC15.triv (int_val (x12.1))
    have hC17 := hC16.row1
    have hC18 := hC17.front 1 rfl
    dsimp only [List.eraseIdx, List.cons_append, List.nil_append, List.append_nil] at hC18
    have hC19 : Ctx Fs.flatten w0 w9 (Item.own (.slice (some ⟨b4, 0, none⟩) 1 1) ([x12.1] : List Int) :: [Item.box pb1 [u1, (.int .i64 x12.2.2.1), (.int .i64 x12.2.2.2)], Item.own v1 (x3 : (List Int)), Item.box b2 [(.int .i64 x2), v1], Item.box b1 [(.int .i64 0), (.slice none 0 0)]]) := hC18.rowOwn (by simp [maxLen])
    obtain ⟨x13, hx2, hL1⟩ := bind_some hL1
    refine WL_append_flat (α := Int) hC19 2 rfl (hC19.ro 0 rfl) (Keep.refl _ _) Try.underlying35 ty3 rfl hx2 rfl rfl rfl (fun v4 w10 hC20 => ?_)
    try dsimp only [List.set] at hC20
    refine WL_field Try.underlying37 rfl rfl (fun w => ⟨_, Try.sizeOf35 w⟩) rfl rfl ?_
    refine WL_store_box (cs' := [(.int .i64 x2), v4]) hC20 3 rfl rfl (ro_one (hC20.ro 2 rfl)) rfl Try.sizeOf35 rfl rfl (fun w11 hC21 => ?_)
    try dsimp only [List.set] at hC21
    refine WL_nil ?_
    refine blk_normal ?_
    refine nrm_normal ?_
    refine W_reg ?_
    refine WL_move rfl rfl ?_
    refine WL_add rfl rfl rfl ?_
    refine WL_assign rfl rfl ?_
    refine WL_nil ?_
    have hC22 := hC21.f4
    have hC23 := hC22.f2
    have hC24 := hC23.f4
    have hC25 := hC24.f4
    have hC26 := hC25.h4
    refine nrm_sub (l' := [(0, (ptr pb1 0)), (1, u2), (4, (ptr b1 0)), (5, (ptr b2 0)), (6, (.int .i64 (w64 (x6 + 1))))]) ⟨rfl, rfl, rfl, rfl, rfl, trivial⟩ ?_
    exact ⟨k1, Nat.lt_succ_self _, x2, v4, x13, x12.2.2.1, x12.2.2.2, w64 (x6 + 1), rfl, hC26, hL1⟩
   replace hL1 := ite_f hL1 hc2
   refine W_exit ?_
   refine nrm_exit ?_
   refine nrm_exit ?_
   refine blk_exit ?_
   have hq4 := Option.some.inj hL1
   subst hq4
   refine nrm_sub (l' := [(4, (ptr b1 0)), (5, (ptr b2 0))]) ⟨rfl, rfl, trivial⟩ ?_
   exact ⟨x2, v1, x3, x4, x5, rfl, rfl, hC11⟩
 rintro l2 _ w12 hs2 ⟨x7, v2, x8, x9, x10, rfl, rfl, hC28⟩
 try dsimp only at hF
 refine nrm_sub' hs2 ?_
 clear hs2
 refine W_seq_reg ?_
 refine WL_load_box_agg [(.int .i64 x7), v2] hC28 1 rfl rfl rfl Try.isAgg37 Try.sizeOf37 rfl rfl ?_
 refine WL_store_box_agg (cs' := [(.int .i64 x7), v2]) (new := [(.int .i64 x7), v2]) hC28 3 rfl rfl (by intro v hv; simp only [List.mem_cons, List.not_mem_nil, or_false] at hv; rcases hv with rfl | rfl; exact rfl; exact (ro_one (hC28.ro 0 rfl))) rfl Try.sizeOf37 rfl rfl (fun w13 hC29 => ?_)
 try dsimp only [List.set] at hC29
 refine WL_nil ?_
 refine W_ret ?_
 have hq5 := Option.some.inj hF
 subst hq5
 refine fn_retG1 rfl (rv_cell_agg (cs' := [(.int .i64 x7), v2]) hC29 (i := 3) rfl rfl rfl Try.isAgg37 Try.sizeOf37 rfl) ?_
 have hC30 := hC29.f2
 have hC32 := hC30.f1
 have hC31 := own_st37 x7 v2 x8 hC32
 have hC33 := hC31.h2
 exact ⟨_, rfl, _, rfl, hC33⟩

theorem c_S_l5AnyAccess {w0 : World} {Fs : List (List Nat)} (pb1 : Nat) (a1 : ((List UInt8) × Int × Int)) (u1 : Value) (g1 : RO Fs.flatten w0 u1 a1.1) (a2 : (List (Int × (List Int) × Int × Int × Int))) (u2 : Value) (g2 : RO Fs.flatten w0 u2 a2) (hH : Hold [Item.box pb1 [u1, (.int .i64 a1.2.1), (.int .i64 a1.2.2)]] w0 Fs) (hn : Fs.flatten.Nodup) (rr : ((Int × (List Int)) × ((List UInt8) × Int × Int))) (hF : S.l5AnyAccess a1 a2 = some rr) :
 Calls Try.prog 31 [(ptr pb1 0), u2].toArray w0 fun e w' => ∃ v, e = .returned v ∧ ∃ q0 : Value, v = q0 ∧ Ctx Fs.flatten w0 w' [Item.own q0 (rr.1 : (Int × (List Int))), Item.box pb1 [u1, (.int .i64 rr.2.2.1), (.int .i64 rr.2.2.2)]] := by
 refine calls_of_W Try.func31 rfl rfl ?_
 have hC0 := Ctx.startIn hH hn
 unfold S.l5AnyAccess at hF
 refine W_seq_reg ?_
 refine WL_alloc hC0 zero37 rfl rfl (fun b1 w1 hC1 hB1 => ?_)
 refine WL_nil ?_
 refine W_seq_reg ?_
 refine WL_move rfl rfl ?_
 refine WL_move rfl rfl ?_
 obtain ⟨x1, hr1, hF⟩ := bind_some hF
 have hC2 := hC1.f1
 obtain ⟨Fs1, hH1, hn1, hF1, hO1, hb1⟩ := Ctx.lend2 (As := [Item.box b1 [(.int .i64 0), (.slice none 0 0)]]) [Item.box pb1 [u1, (.int .i64 a1.2.1), (.int .i64 a1.2.2)]] hC2
 refine WL_call Try.call44 rfl rfl (c_S_l5Access pb1 (a1.1, a1.2.1, a1.2.2) u1 (RO.lent g1 hC2.keep hF1) a2 u2 (RO.lent g2 hC2.keep hF1) hH1 hn1 x1 hr1) ?_
 rintro v1 w2 ⟨_, rfl, hq1⟩
 have hC3 : Ctx Fs.flatten w0 w2 [Item.own v1 (x1.1 : (Int × (List Int))), Item.box pb1 [u1, (.int .i64 x1.2.2.1), (.int .i64 x1.2.2.2)], Item.box b1 [(.int .i64 0), (.slice none 0 0)]] := hb1 _ _ hq1
 obtain ⟨v2, rfl, hC4⟩ := st37_own hC3
 refine WL_alloc hC4 zero37 rfl rfl (fun b2 w3 hC5 hB2 => ?_)
 refine WL_store_box_agg (cs' := [(.int .i64 x1.1.1), v2]) (new := [(.int .i64 x1.1.1), v2]) hC5 0 rfl rfl (by intro v hv; simp only [List.mem_cons, List.not_mem_nil, or_false] at hv; rcases hv with rfl | rfl; exact rfl; exact (ro_one (hC5.ro 1 rfl))) rfl Try.sizeOf37 rfl rfl (fun w4 hC6 => ?_)
 try dsimp only [List.set] at hC6
 refine WL_nil ?_
 refine W_seq ?_
 refine W_seq_reg ?_
 refine WL_move rfl rfl ?_
 obtain ⟨x2, hr2, hF⟩ := bind_some hF
 have hC7 := hC6.f2
 obtain ⟨Fs2, hH2, hn2, hF2, hO2, hb2⟩ := Ctx.lend2 (As := [Item.box b2 [(.int .i64 x1.1.1), v2], Item.own v2 (x1.1.2 : (List Int)), Item.box b1 [(.int .i64 0), (.slice none 0 0)]]) [Item.box pb1 [u1, (.int .i64 x1.2.2.1), (.int .i64 x1.2.2.2)]] hC7
 refine WL_call Try.call15 rfl rfl (c_S_l1Below pb1 (a1.1, x1.2.2.1, x1.2.2.2) u1 (RO.lent g1 hC7.keep hF2) 12 hH2 hn2 x2 hr2) ?_
 rintro _ w5 ⟨rfl, hq2⟩
 have hC8 : Ctx Fs.flatten w0 w5 [Item.box pb1 [u1, (.int .i64 x2.2.2.1), (.int .i64 x2.2.2.2)], Item.box b2 [(.int .i64 x1.1.1), v2], Item.own v2 (x1.1.2 : (List Int)), Item.box b1 [(.int .i64 0), (.slice none 0 0)]] := hb2 _ _ hq2
 refine WL_nil ?_
 refine W_block ?_
 refine W_seq_reg ?_
 refine WL_eql rfl rfl rfl ?_
 refine WL_assign rfl rfl ?_
 refine WL_nil ?_
 obtain ⟨r1, hr3, hF⟩ := bind_some hF
 refine W_norm (fun l w => ∃ x3 : Int, ∃ x4 : Int, ∃ x5 : Int, ∃ v3 : Value, ∃ x6 : (List Int), (x3, x4, x5, x6) = r1 ∧ l = [(4, (ptr b1 0)), (5, (ptr b2 0))] ∧ Ctx Fs.flatten w0 w [Item.box pb1 [u1, (.int .i64 x3), (.int .i64 x4)], Item.box b2 [(.int .i64 x5), v3], Item.own v3 (x6 : (List Int)), Item.box b1 [(.int .i64 0), (.slice none 0 0)]]) ?_ ?_
 ·refine W_cond rfl (fun hc1 => ?_) (fun hc1 => ?_)
  ·replace hr3 := ite_t hr3 hc1
   refine W_reg ?_
   refine WL_move rfl rfl ?_
   obtain ⟨x7, hr4, hr3⟩ := bind_some hr3
   obtain ⟨Fs3, hH3, hn3, hF3, hO3, hb3⟩ := Ctx.lend2 (As := [Item.box b2 [(.int .i64 x1.1.1), v2], Item.own v2 (x1.1.2 : (List Int)), Item.box b1 [(.int .i64 0), (.slice none 0 0)]]) [Item.box pb1 [u1, (.int .i64 x2.2.2.1), (.int .i64 x2.2.2.2)]] hC8
   refine WL_call Try.call15 rfl rfl (c_S_l1Below pb1 (a1.1, x2.2.2.1, x2.2.2.2) u1 (RO.lent g1 hC8.keep hF3) 7 hH3 hn3 x7 hr4) ?_
   rintro _ w7 ⟨rfl, hq3⟩
   have hC10 : Ctx Fs.flatten w0 w7 [Item.box pb1 [u1, (.int .i64 x7.2.2.1), (.int .i64 x7.2.2.2)], Item.box b2 [(.int .i64 x1.1.1), v2], Item.own v2 (x1.1.2 : (List Int)), Item.box b1 [(.int .i64 0), (.slice none 0 0)]] := hb3 _ _ hq3
   refine WL_sub rfl rfl rfl ?_
   refine WL_field Try.underlying37 rfl rfl (fun w => ⟨_, Try.sizeOf3 w⟩) rfl rfl ?_
   refine WL_store_box (cs' := [(.int .i64 (w64 (x7.1 - 1))), v2]) hC10 1 rfl rfl rfl rfl Try.sizeOf3 rfl rfl (fun w9 hC11 => ?_)
   try dsimp only [List.set] at hC11
   refine WL_nil ?_
   have hq4 := Option.some.inj hr3
   subst hq4
   refine nrm_sub (l' := [(4, (ptr b1 0)), (5, (ptr b2 0))]) ⟨rfl, rfl, trivial⟩ ?_
   exact ⟨x7.2.2.1, x7.2.2.2, w64 (x7.1 - 1), v2, x1.1.2, rfl, rfl, hC11⟩
  replace hr3 := ite_f hr3 hc1
  refine W_seq_reg ?_
  refine WL_eql rfl rfl rfl ?_
  refine WL_assign rfl rfl ?_
  refine WL_nil ?_
  obtain ⟨r2, hr5, hr3⟩ := bind_some hr3
  refine W_norm (fun l w => ∃ x8 : Int, ∃ x9 : Int, ∃ x10 : Int, ∃ v4 : Value, ∃ x11 : (List Int), (x8, x9, x10, x11) = r2 ∧ l = [(4, (ptr b1 0)), (5, (ptr b2 0))] ∧ Ctx Fs.flatten w0 w [Item.box pb1 [u1, (.int .i64 x8), (.int .i64 x9)], Item.box b2 [(.int .i64 x10), v4], Item.own v4 (x11 : (List Int)), Item.box b1 [(.int .i64 0), (.slice none 0 0)]]) ?_ ?_
  ·refine W_cond rfl (fun hc2 => ?_) (fun hc2 => ?_)
   ·replace hr5 := ite_t hr5 hc2
    obtain ⟨r3, hr6, hr5⟩ := bind_some hr5
    refine W_norm (fun l w => ∃ x12 : Int, ∃ x13 : Int, ∃ x14 : Int, ∃ v5 : Value, ∃ x15 : (List Int), (x12, x13, x14, x15) = r3 ∧ l = [(4, (ptr b1 0)), (5, (ptr b2 0))] ∧ Ctx Fs.flatten w0 w [Item.box pb1 [u1, (.int .i64 x12), (.int .i64 x13)], Item.box b2 [(.int .i64 x14), v5], Item.own v5 (x15 : (List Int)), Item.box b1 [(.int .i64 0), (.slice none 0 0)]]) ?_ ?_
    ·refine W_drawn 9 rfl hmix (fun w12 hB6 => ?_)
     have hC14 := hC8.grow hB6
     refine WA_tk 0 (by kernel_rfl) rfl rfl (fl_field Try.underlying37 rfl rfl (fun w => ⟨_, Try.sizeOf35 w⟩) rfl) ?_
     refine WL_field Try.underlying37 rfl rfl (fun w => ⟨_, Try.sizeOf35 w⟩) rfl rfl ?_
     refine WL_nil ?_
     refine WA_tk 2 (by kernel_rfl) rfl rfl (fl_move rfl) ?_
     refine WL_move rfl rfl ?_
     refine WL_nil ?_
     refine WA_all2 (i := 1) (j := 3) (by kernel_rfl) rfl rfl ?_ ?_
     ·refine WL_load_box hC14 1 rfl rfl Try.isAgg35 rfl rfl ?_
      refine WL_nil ?_
      refine WA_one 3 (by kernel_rfl) rfl ?_
      refine WL_buildSlice (vs := [(.int .i64 (-1)), (.int .i64 3), (.int .i64 10)]) hC14 Try.underlying35 ty3 rfl rfl rfl rfl (by intro v hv; simp only [List.mem_cons, List.not_mem_nil, or_false] at hv; rcases hv with rfl | rfl | rfl <;> rfl) rfl rfl (fun b3 w13 hC15 hB7 => ?_)
      have hC16 := hC15.row0 (α := Int)
      have hC17 := hC16.triv (int_val (10))
      have hC18 := hC17.row1
      have hC19 := hC18.triv (int_val (3))
      have hC20 := hC19.row1
      have hC21 := hC20.triv (int_val ((-1)))
      have hC22 := hC21.row1
      have hC23 := hC22.front 1 rfl
      dsimp only [List.eraseIdx, List.cons_append, List.nil_append, List.append_nil] at hC23
      have hC24 : Ctx Fs.flatten w0 w13 (Item.own (.slice (some ⟨b3, 0, none⟩) 3 3) ([(-1), 3, 10] : List Int) :: [Item.box pb1 [u1, (.int .i64 x2.2.2.1), (.int .i64 x2.2.2.2)], Item.box b2 [(.int .i64 x1.1.1), v2], Item.own v2 (x1.1.2 : (List Int)), Item.box b1 [(.int .i64 0), (.slice none 0 0)]]) := hC23.rowOwn (by simp [maxLen])
      refine WL_nil ?_
      obtain ⟨x16, hr7, hr6⟩ := bind_some hr6
      refine WA_one 4 (by kernel_rfl) rfl ?_
      have hC25 := hC24.f1
      obtain ⟨Fs4, hH4, hn4, hF4, hO4, hb4⟩ := Ctx.lend2 (As := [Item.own (.slice (some ⟨b3, 0, none⟩) 3 3) ([(-1), 3, 10] : (List Int)), Item.box b2 [(.int .i64 x1.1.1), v2], Item.own v2 (x1.1.2 : (List Int)), Item.box b1 [(.int .i64 0), (.slice none 0 0)]]) [Item.box pb1 [u1, (.int .i64 x2.2.2.1), (.int .i64 x2.2.2.2)]] hC25
      refine WL_call Try.call45 rfl rfl (c_S_l1PickInt pb1 (a1.1, x2.2.2.1, x2.2.2.2) u1 (RO.lent g1 hC25.keep hF4) ([(-1), 3, 10]) (.slice (some ⟨b3, 0, none⟩) 3 3) (hO4 0 _ _ _ rfl) hH4 hn4 x16 hr7) ?_
      rintro _ w14 ⟨rfl, hq5⟩
      have hC26 : Ctx Fs.flatten w0 w14 [Item.box pb1 [u1, (.int .i64 x16.2.2.1), (.int .i64 x16.2.2.2)], Item.own (.slice (some ⟨b3, 0, none⟩) 3 3) ([(-1), 3, 10] : (List Int)), Item.box b2 [(.int .i64 x1.1.1), v2], Item.own v2 (x1.1.2 : (List Int)), Item.box b1 [(.int .i64 0), (.slice none 0 0)]] := hb4 _ _ hq5
      refine WL_nil ?_
      refine WA_one 5 (by kernel_rfl) rfl ?_
      refine WL_buildSlice (vs := [(.int .i64 x16.1)]) hC26 Try.underlying35 ty3 rfl rfl rfl rfl (by intro v hv; simp only [List.mem_cons, List.not_mem_nil, or_false] at hv; rcases hv with rfl <;> rfl) rfl rfl (fun b4 w15 hC27 hB8 => ?_)
      have hC28 := hC27.row0 (α := Int)
      have hC29 := hC28.triv (int_val (x16.1))
      have hC30 := hC29.row1
      have hC31 := hC30.front 1 rfl
      dsimp only [List.eraseIdx, List.cons_append, List.nil_append, List.append_nil] at hC31
      have hC32 : Ctx Fs.flatten w0 w15 (Item.own (.slice (some ⟨b4, 0, none⟩) 1 1) ([x16.1] : List Int) :: [Item.box pb1 [u1, (.int .i64 x16.2.2.1), (.int .i64 x16.2.2.2)], Item.own (.slice (some ⟨b3, 0, none⟩) 3 3) ([(-1), 3, 10] : (List Int)), Item.box b2 [(.int .i64 x1.1.1), v2], Item.own v2 (x1.1.2 : (List Int)), Item.box b1 [(.int .i64 0), (.slice none 0 0)]]) := hC31.rowOwn (by simp [maxLen])
      refine WL_nil ?_
      obtain ⟨x17, hx1, hr6⟩ := bind_some hr6
      refine WA_one 6 (by kernel_rfl) rfl ?_
      refine WL_append_flat (α := Int) hC32 4 rfl (hC32.ro 0 rfl) (Keep.refl _ _) Try.underlying35 ty3 rfl hx1 rfl rfl rfl (fun v6 w16 hC33 => ?_)
      try dsimp only [List.set] at hC33
      refine WL_nil ?_
      refine WA_tk 7 (by kernel_rfl) rfl rfl (fl_field Try.underlying37 rfl rfl (fun w => ⟨_, Try.sizeOf35 w⟩) rfl) ?_
      refine WL_field Try.underlying37 rfl rfl (fun w => ⟨_, Try.sizeOf35 w⟩) rfl rfl ?_
      refine WL_nil ?_
      refine WA_one 8 (by kernel_rfl) rfl ?_
      refine WL_store_box (cs' := [(.int .i64 x1.1.1), v6]) hC33 3 rfl rfl (ro_one (hC33.ro 4 rfl)) rfl Try.sizeOf35 rfl rfl (fun w17 hC34 => ?_)
      try dsimp only [List.set] at hC34
      refine WL_nil ?_
      refine WA_done (by kernel_rfl) ?_
      have hq6 := Option.some.inj hr6
      subst hq6
      have hC35 := hC34.f5
      have hC36 := hC35.f5
      have hC37 := hC36.f5
      have hC38 := hC37.f4
      have hC39 := hC38.h4
      refine nrm_sub (l' := [(4, (ptr b1 0)), (5, (ptr b2 0))]) ⟨rfl, rfl, trivial⟩ ?_
      exact ⟨x16.2.2.1, x16.2.2.2, x1.1.1, v6, x17, rfl, rfl, hC39⟩
     refine WL_buildSlice (vs := [(.int .i64 (-1)), (.int .i64 3), (.int .i64 10)]) hC14 Try.underlying35 ty3 rfl rfl rfl rfl (by intro v hv; simp only [List.mem_cons, List.not_mem_nil, or_false] at hv; rcases hv with rfl | rfl | rfl <;> rfl) rfl rfl (fun b3 w13 hC15 hB7 => ?_)
     have hC16 := hC15.row0 (α := Int)
     have hC17 := hC16.triv (int_val (10))
     have hC18 := hC17.row1
     have hC19 := hC18.triv (int_val (3))
     have hC20 := hC19.row1
     have hC21 := hC20.triv (int_val ((-1)))
     have hC22 := hC21.row1
     have hC23 := hC22.front 1 rfl
     dsimp only [List.eraseIdx, List.cons_append, List.nil_append, List.append_nil] at hC23
     have hC24 : Ctx Fs.flatten w0 w13 (Item.own (.slice (some ⟨b3, 0, none⟩) 3 3) ([(-1), 3, 10] : List Int) :: [Item.box pb1 [u1, (.int .i64 x2.2.2.1), (.int .i64 x2.2.2.2)], Item.box b2 [(.int .i64 x1.1.1), v2], Item.own v2 (x1.1.2 : (List Int)), Item.box b1 [(.int .i64 0), (.slice none 0 0)]]) := hC23.rowOwn (by simp [maxLen])
     refine WL_nil ?_
     refine WA_all2 (i := 1) (j := 4) (by kernel_rfl) rfl rfl ?_ ?_
     ·refine WL_load_box hC24 2 rfl rfl Try.isAgg35 rfl rfl ?_
      refine WL_nil ?_
      obtain ⟨x16, hr7, hr6⟩ := bind_some hr6
      refine WA_one 4 (by kernel_rfl) rfl ?_
      have hC25 := hC24.f1
      obtain ⟨Fs4, hH4, hn4, hF4, hO4, hb4⟩ := Ctx.lend2 (As := [Item.own (.slice (some ⟨b3, 0, none⟩) 3 3) ([(-1), 3, 10] : (List Int)), Item.box b2 [(.int .i64 x1.1.1), v2], Item.own v2 (x1.1.2 : (List Int)), Item.box b1 [(.int .i64 0), (.slice none 0 0)]]) [Item.box pb1 [u1, (.int .i64 x2.2.2.1), (.int .i64 x2.2.2.2)]] hC25
      refine WL_call Try.call45 rfl rfl (c_S_l1PickInt pb1 (a1.1, x2.2.2.1, x2.2.2.2) u1 (RO.lent g1 hC25.keep hF4) ([(-1), 3, 10]) (.slice (some ⟨b3, 0, none⟩) 3 3) (hO4 0 _ _ _ rfl) hH4 hn4 x16 hr7) ?_
      rintro _ w14 ⟨rfl, hq5⟩
      have hC26 : Ctx Fs.flatten w0 w14 [Item.box pb1 [u1, (.int .i64 x16.2.2.1), (.int .i64 x16.2.2.2)], Item.own (.slice (some ⟨b3, 0, none⟩) 3 3) ([(-1), 3, 10] : (List Int)), Item.box b2 [(.int .i64 x1.1.1), v2], Item.own v2 (x1.1.2 : (List Int)), Item.box b1 [(.int .i64 0), (.slice none 0 0)]] := hb4 _ _ hq5
      refine WL_nil ?_
      refine WA_one 5 (by kernel_rfl) rfl ?_
      refine WL_buildSlice (vs := [(.int .i64 x16.1)]) hC26 Try.underlying35 ty3 rfl rfl rfl rfl (by intro v hv; simp only [List.mem_cons, List.not_mem_nil, or_false] at hv; rcases hv with rfl <;> rfl) rfl rfl (fun b4 w15 hC27 hB8 => ?_)
      have hC28 := hC27.row0 (α := Int)
      have hC29 := hC28.triv (int_val (x16.1))
      have hC30 := hC29.row1
      have hC31 := hC30.front 1 rfl
      dsimp only [List.eraseIdx, List.cons_append, List.nil_append, List.append_nil] at hC31
      have hC32 : Ctx Fs.flatten w0 w15 (Item.own (.slice (some ⟨b4, 0, none⟩) 1 1) ([x16.1] : List Int) :: [Item.box pb1 [u1, (.int .i64 x16.2.2.1), (.int .i64 x16.2.2.2)], Item.own (.slice (some ⟨b3, 0, none⟩) 3 3) ([(-1), 3, 10] : (List Int)), Item.box b2 [(.int .i64 x1.1.1), v2], Item.own v2 (x1.1.2 : (List Int)), Item.box b1 [(.int .i64 0), (.slice none 0 0)]]) := hC31.rowOwn (by simp [maxLen])
      refine WL_nil ?_
      obtain ⟨x17, hx1, hr6⟩ := bind_some hr6
      refine WA_one 6 (by kernel_rfl) rfl ?_
      refine WL_append_flat (α := Int) hC32 4 rfl (hC32.ro 0 rfl) (Keep.refl _ _) Try.underlying35 ty3 rfl hx1 rfl rfl rfl (fun v6 w16 hC33 => ?_)
      try dsimp only [List.set] at hC33
      refine WL_nil ?_
      refine WA_tk 7 (by kernel_rfl) rfl rfl (fl_field Try.underlying37 rfl rfl (fun w => ⟨_, Try.sizeOf35 w⟩) rfl) ?_
      refine WL_field Try.underlying37 rfl rfl (fun w => ⟨_, Try.sizeOf35 w⟩) rfl rfl ?_
      refine WL_nil ?_
      refine WA_one 8 (by kernel_rfl) rfl ?_
      refine WL_store_box (cs' := [(.int .i64 x1.1.1), v6]) hC33 3 rfl rfl (ro_one (hC33.ro 4 rfl)) rfl Try.sizeOf35 rfl rfl (fun w17 hC34 => ?_)
      try dsimp only [List.set] at hC34
      refine WL_nil ?_
      refine WA_done (by kernel_rfl) ?_
      have hq6 := Option.some.inj hr6
      subst hq6
      have hC35 := hC34.f5
      have hC36 := hC35.f5
      have hC37 := hC36.f5
      have hC38 := hC37.f4
      have hC39 := hC38.h4
      refine nrm_sub (l' := [(4, (ptr b1 0)), (5, (ptr b2 0))]) ⟨rfl, rfl, trivial⟩ ?_
      exact ⟨x16.2.2.1, x16.2.2.2, x1.1.1, v6, x17, rfl, rfl, hC39⟩
     obtain ⟨x16, hr7, hr6⟩ := bind_some hr6
     have hC25 := hC24.f1
     obtain ⟨Fs4, hH4, hn4, hF4, hO4, hb4⟩ := Ctx.lend2 (As := [Item.own (.slice (some ⟨b3, 0, none⟩) 3 3) ([(-1), 3, 10] : (List Int)), Item.box b2 [(.int .i64 x1.1.1), v2], Item.own v2 (x1.1.2 : (List Int)), Item.box b1 [(.int .i64 0), (.slice none 0 0)]]) [Item.box pb1 [u1, (.int .i64 x2.2.2.1), (.int .i64 x2.2.2.2)]] hC25
     refine WL_call Try.call45 rfl rfl (c_S_l1PickInt pb1 (a1.1, x2.2.2.1, x2.2.2.2) u1 (RO.lent g1 hC25.keep hF4) ([(-1), 3, 10]) (.slice (some ⟨b3, 0, none⟩) 3 3) (hO4 0 _ _ _ rfl) hH4 hn4 x16 hr7) ?_
     rintro _ w14 ⟨rfl, hq5⟩
     have hC26 : Ctx Fs.flatten w0 w14 [Item.box pb1 [u1, (.int .i64 x16.2.2.1), (.int .i64 x16.2.2.2)], Item.own (.slice (some ⟨b3, 0, none⟩) 3 3) ([(-1), 3, 10] : (List Int)), Item.box b2 [(.int .i64 x1.1.1), v2], Item.own v2 (x1.1.2 : (List Int)), Item.box b1 [(.int .i64 0), (.slice none 0 0)]] := hb4 _ _ hq5
     refine WL_nil ?_
     refine WA.sub (l' := [(0, (ptr pb1 0)), (1, u2), (4, (ptr b1 0)), (5, (ptr b2 0)), (6, (ptr pb1 0)), (7, u2), (8, (.agg #[(.int .i64 x1.1.1), v2])), (9, (ptr pb1 0)), (10, (.int .i64 x2.1)), (11, (.bool (decide (x2.1 = 0)))), (12, (.bool (decide (x2.1 = 0)))), (17, (.bool (decide (x2.1 = 1)))), (18, (.bool (decide (x2.1 = 1)))), (19, (ptr b2 1)), (21, (ptr pb1 0)), (22, (.slice (some ⟨b3, 0, none⟩) 3 3)), (23, (.int .i64 x16.1))]) ?_ ⟨rfl, rfl, rfl, rfl, rfl, rfl, rfl, rfl, rfl, rfl, rfl, rfl, rfl, rfl, rfl, rfl, rfl, trivial⟩
     refine WA_postsE [⟨1, [], fun vs => PW.val v2, []⟩, ⟨5, [], fun vs => PW.own ([x16.1] : (List Int)), []⟩] [[], []] 3 rfl (by kernel_rfl) (by kernel_rfl) rfl ?_ ?_
     ·refine StepsE_cons rfl ?_ ?_
      ·intro w16 hB9
       refine DepsE_nil ?_
       refine ⟨_, rfl, ?_⟩
       refine WL_load_box (hC26.grow hB9) 2 rfl rfl Try.isAgg35 rfl rfl ?_
       refine WL_nil ?_
       exact FinE_val (Below.refl _ _) rfl rfl ⟨rfl, rfl⟩
      refine StepsE_cons rfl ?_ ?_
      ·intro w16 hB9
       refine DepsE_nil ?_
       refine ⟨_, rfl, ?_⟩
       refine WL_buildSlice (vs := [(.int .i64 x16.1)]) (Ctx.start w16) Try.underlying35 ty3 rfl rfl rfl rfl (by intro v hv; simp only [List.mem_cons, List.not_mem_nil, or_false] at hv; rcases hv with rfl <;> rfl) rfl rfl (fun b4 w15 hC27 hB8 => ?_)
       have hC28 := hC27.row0 (α := Int)
       have hC29 := hC28.triv (int_val (x16.1))
       have hC30 := hC29.row1
       have hC31 := hC30.front 1 rfl
       dsimp only [List.eraseIdx, List.cons_append, List.nil_append, List.append_nil] at hC31
       have hC32 : Ctx [] w16 w15 (Item.own (.slice (some ⟨b4, 0, none⟩) 1 1) ([x16.1] : List Int) :: []) := hC31.rowOwn (by simp [maxLen])
       refine WL_nil ?_
       exact FinE_ctx hC32 rfl rfl (fun F h => h)
      exact StepsE_nil
     intro w17 hB10
     refine AllE_cons rfl rfl rfl ?_
     rintro _ _ ⟨rfl, rfl⟩
     refine AllE_cons rfl rfl rfl ?_
     intro v6 F1 hv1
     refine AllE_nil ?_
     intro hn5 hb5
     have hC33 := hC26.pushL hB10 (Bs := [Item.own v6 ([x16.1] : (List Int))]) (Fs := [F1]) ⟨F1, _, rfl, hv1, rfl⟩ (by simpa using hn5) (fun b h => (hb5 b (by simpa using h)).1)
     obtain ⟨x17, hx1, hr6⟩ := bind_some hr6
     refine WA_one 6 (by kernel_rfl) rfl ?_
     refine WL_append_flat (α := Int) hC33 4 rfl (hC33.ro 0 rfl) (Keep.refl _ _) Try.underlying35 ty3 rfl hx1 rfl rfl rfl (fun v7 w18 hC34 => ?_)
     try dsimp only [List.set] at hC34
     refine WL_nil ?_
     refine WA_tk 7 (by kernel_rfl) rfl rfl (fl_field Try.underlying37 rfl rfl (fun w => ⟨_, Try.sizeOf35 w⟩) rfl) ?_
     refine WL_field Try.underlying37 rfl rfl (fun w => ⟨_, Try.sizeOf35 w⟩) rfl rfl ?_
     refine WL_nil ?_
     refine WA_one 8 (by kernel_rfl) rfl ?_
     refine WL_store_box (cs' := [(.int .i64 x1.1.1), v7]) hC34 3 rfl rfl (ro_one (hC34.ro 4 rfl)) rfl Try.sizeOf35 rfl rfl (fun w19 hC35 => ?_)
     try dsimp only [List.set] at hC35
     refine WL_nil ?_
     refine WA_done (by kernel_rfl) ?_
     have hq6 := Option.some.inj hr6
     subst hq6
     have hC36 := hC35.f5
     have hC37 := hC36.f5
     have hC38 := hC37.f5
     have hC39 := hC38.f4
     have hC40 := hC39.h4
     refine nrm_sub (l' := [(4, (ptr b1 0)), (5, (ptr b2 0))]) ⟨rfl, rfl, trivial⟩ ?_
     exact ⟨x16.2.2.1, x16.2.2.2, x1.1.1, v7, x17, rfl, rfl, hC40⟩
    rintro l3 _ w11 hs3 ⟨x12, x13, x14, v5, x15, rfl, rfl, hC13⟩
    try dsimp only at hr5
    have hq7 := Option.some.inj hr5
    subst hq7
    refine nrm_subs (l2 := [(4, (ptr b1 0)), (5, (ptr b2 0))]) hs3 ⟨rfl, rfl, trivial⟩ ?_
    exact ⟨x12, x13, x14, v5, x15, rfl, rfl, hC13⟩
   replace hr5 := ite_f hr5 hc2
   refine W_skip ?_
   have hq8 := Option.some.inj hr5
   subst hq8
   refine nrm_sub (l' := [(4, (ptr b1 0)), (5, (ptr b2 0))]) ⟨rfl, rfl, trivial⟩ ?_
   exact ⟨x2.2.2.1, x2.2.2.2, x1.1.1, v2, x1.1.2, rfl, rfl, hC8⟩
  rintro l2 _ w10 hs2 ⟨x8, x9, x10, v4, x11, rfl, rfl, hC12⟩
  try dsimp only at hr3
  have hq9 := Option.some.inj hr3
  subst hq9
  refine nrm_subs (l2 := [(4, (ptr b1 0)), (5, (ptr b2 0))]) hs2 ⟨rfl, rfl, trivial⟩ ?_
  exact ⟨x8, x9, x10, v4, x11, rfl, rfl, hC12⟩
 rintro l1 _ w6 hs1 ⟨x3, x4, x5, v3, x6, rfl, rfl, hC9⟩
 try dsimp only at hF
 refine blk_normal ?_
 refine nrm_sub' hs1 ?_
 clear hs1
 refine W_seq_reg ?_
 refine WL_load_box_agg [(.int .i64 x5), v3] hC9 1 rfl rfl rfl Try.isAgg37 Try.sizeOf37 rfl rfl ?_
 refine WL_store_box_agg (cs' := [(.int .i64 x5), v3]) (new := [(.int .i64 x5), v3]) hC9 3 rfl rfl (by intro v hv; simp only [List.mem_cons, List.not_mem_nil, or_false] at hv; rcases hv with rfl | rfl; exact rfl; exact (ro_one (hC9.ro 2 rfl))) rfl Try.sizeOf37 rfl rfl (fun w20 hC41 => ?_)
 try dsimp only [List.set] at hC41
 refine WL_nil ?_
 refine W_ret ?_
 have hq10 := Option.some.inj hF
 subst hq10
 refine fn_retG1 rfl (rv_cell_agg (cs' := [(.int .i64 x5), v3]) hC41 (i := 3) rfl rfl rfl Try.isAgg37 Try.sizeOf37 rfl) ?_
 have hC43 := hC41.f2
 have hC42 := own_st37 x5 v3 x6 hC43
 have hC44 := hC42.h2
 exact ⟨_, rfl, _, rfl, hC44⟩

theorem c_S_l26Access {w0 : World} {Fs : List (List Nat)} (pb1 : Nat) (a1 : ((List UInt8) × Int × Int)) (u1 : Value) (g1 : RO Fs.flatten w0 u1 a1.1) (hH : Hold [Item.box pb1 [u1, (.int .i64 a1.2.1), (.int .i64 a1.2.2)]] w0 Fs) (hn : Fs.flatten.Nodup) (rr : ((Int × (List Int)) × ((List UInt8) × Int × Int))) (hF : S.l26Access a1 = some rr) :
 Calls Try.prog 17 [(ptr pb1 0)].toArray w0 fun e w' => ∃ v, e = .returned v ∧ ∃ q0 : Value, v = q0 ∧ Ctx Fs.flatten w0 w' [Item.own q0 (rr.1 : (Int × (List Int))), Item.box pb1 [u1, (.int .i64 rr.2.2.1), (.int .i64 rr.2.2.2)]] := by
 refine calls_of_W Try.func17 rfl rfl ?_
 have hC0 := Ctx.startIn hH hn
 unfold S.l26Access at hF
 refine W_seq_reg ?_
 refine WL_alloc hC0 zero37 rfl rfl (fun b1 w1 hC1 hB1 => ?_)
 refine WL_nil ?_
 refine W_seq_reg ?_
 refine WL_move rfl rfl ?_
 obtain ⟨x1, hr1, hF⟩ := bind_some hF
 have hC2 := hC1.f1
 obtain ⟨Fs1, hH1, hn1, hF1, hO1, hb1⟩ := Ctx.lend2 (As := [Item.box b1 [(.int .i64 0), (.slice none 0 0)]]) [Item.box pb1 [u1, (.int .i64 a1.2.1), (.int .i64 a1.2.2)]] hC2
 refine WL_call Try.call30 rfl rfl (c_S_l5Draw pb1 (a1.1, a1.2.1, a1.2.2) u1 (RO.lent g1 hC2.keep hF1) hH1 hn1 x1 hr1) ?_
 rintro _ w2 ⟨v1, v2, v3, rfl, hq1⟩
 have hC3 : Ctx Fs.flatten w0 w2 [Item.own v1 (x1.1 : (List Int)), Item.own v2 (x1.2.1 : (List (Int × (List Int) × Int × Int × Int))), Item.own v3 (x1.2.2.1 : (List (Int × (List Int)))), Item.box pb1 [u1, (.int .i64 x1.2.2.2.2.1), (.int .i64 x1.2.2.2.2.2)], Item.box b1 [(.int .i64 0), (.slice none 0 0)]] := hb1 _ _ hq1
 refine WL_move rfl rfl ?_
 refine WL_extract rfl rfl rfl ?_
 refine WL_extract rfl rfl rfl ?_
 refine WL_extract rfl rfl rfl ?_
 refine WL_assign rfl rfl ?_
 refine WL_assign rfl rfl ?_
 refine WL_assign rfl rfl ?_
 refine WL_nil ?_
 refine W_seq_reg ?_
 refine WL_move rfl rfl ?_
 refine WL_move rfl rfl ?_
 obtain ⟨x2, hr2, hF⟩ := bind_some hF
 have hC4 := hC3.f3
 obtain ⟨Fs2, hH2, hn2, hF2, hO2, hb2⟩ := Ctx.lend2 (As := [Item.own v1 (x1.1 : (List Int)), Item.own v2 (x1.2.1 : (List (Int × (List Int) × Int × Int × Int))), Item.own v3 (x1.2.2.1 : (List (Int × (List Int)))), Item.box b1 [(.int .i64 0), (.slice none 0 0)]]) [Item.box pb1 [u1, (.int .i64 x1.2.2.2.2.1), (.int .i64 x1.2.2.2.2.2)]] hC4
 refine WL_call Try.call31 rfl rfl (c_S_l5AnyAccess pb1 (a1.1, x1.2.2.2.2.1, x1.2.2.2.2.2) u1 (RO.lent g1 hC4.keep hF2) x1.2.1 v2 (hO2 1 _ _ _ rfl) hH2 hn2 x2 hr2) ?_
 rintro v4 w3 ⟨_, rfl, hq2⟩
 have hC5 : Ctx Fs.flatten w0 w3 [Item.own v4 (x2.1 : (Int × (List Int))), Item.box pb1 [u1, (.int .i64 x2.2.2.1), (.int .i64 x2.2.2.2)], Item.own v1 (x1.1 : (List Int)), Item.own v2 (x1.2.1 : (List (Int × (List Int) × Int × Int × Int))), Item.own v3 (x1.2.2.1 : (List (Int × (List Int)))), Item.box b1 [(.int .i64 0), (.slice none 0 0)]] := hb2 _ _ hq2
 obtain ⟨v5, rfl, hC6⟩ := st37_own hC5
 refine WL_store_box_agg (cs' := [(.int .i64 x2.1.1), v5]) (new := [(.int .i64 x2.1.1), v5]) hC6 5 rfl rfl (by intro v hv; simp only [List.mem_cons, List.not_mem_nil, or_false] at hv; rcases hv with rfl | rfl; exact rfl; exact (ro_one (hC6.ro 0 rfl))) rfl Try.sizeOf37 rfl rfl (fun w4 hC7 => ?_)
 try dsimp only [List.set] at hC7
 refine WL_nil ?_
 refine W_ret ?_
 have hq3 := Option.some.inj hF
 subst hq3
 refine fn_retG1 rfl (rv_cell_agg (cs' := [(.int .i64 x2.1.1), v5]) hC7 (i := 5) rfl rfl rfl Try.isAgg37 Try.sizeOf37 rfl) ?_
 have hC8 := hC7.f1
 have hC10 := hC8.f1
 have hC9 := own_st37 x2.1.1 v5 x2.1.2 hC10
 have hC11 := hC9.h2
 exact ⟨_, rfl, _, rfl, hC11⟩

theorem c_S_l1Text {w0 : World} {Fs : List (List Nat)} (pb1 : Nat) (a1 : ((List UInt8) × Int × Int)) (u1 : Value) (g1 : RO Fs.flatten w0 u1 a1.1) (a2 : Int) (hH : Hold [Item.box pb1 [u1, (.int .i64 a1.2.1), (.int .i64 a1.2.2)]] w0 Fs) (hn : Fs.flatten.Nodup) (rr : (Str × ((List UInt8) × Int × Int))) (hF : S.l1Text a1 a2 = some rr) :
 Calls Try.prog 32 [(ptr pb1 0), (.int .i64 a2)].toArray w0 fun e w' => ∃ v, e = .returned v ∧ v = (sv rr.1) ∧ Ctx Fs.flatten w0 w' [Item.box pb1 [u1, (.int .i64 rr.2.2.1), (.int .i64 rr.2.2.2)]] := by
 refine calls_of_W Try.func32 rfl rfl ?_
 have hC0 := Ctx.startIn hH hn
 unfold S.l1Text at hF
 refine W_seq_reg ?_
 refine WL_assign rfl rfl ?_
 refine WL_nil ?_
 refine W_seq_reg ?_
 refine WL_buildSlice (vs := []) hC0 Try.underlying22 ty5 rfl rfl rfl rfl (by simp) rfl rfl (fun b1 w1 hC1 hB1 => ?_)
 have hC2 := hC1.row0 (α := UInt8)
 have hC3 := hC2.front 1 rfl
 dsimp only [List.eraseIdx, List.cons_append, List.nil_append, List.append_nil] at hC3
 have hC4 : Ctx Fs.flatten w0 w1 (Item.own (.slice (some ⟨b1, 0, none⟩) 0 0) (([] : List UInt8) : List UInt8) :: [Item.box pb1 [u1, (.int .i64 a1.2.1), (.int .i64 a1.2.2)]]) := hC3.rowOwn (by simp [maxLen])
 refine WL_assign rfl rfl ?_
 refine WL_nil ?_
 refine W_seq_reg ?_
 refine WL_move rfl rfl ?_
 obtain ⟨x1, hr1, hF⟩ := bind_some hF
 have hC5 := hC4.f1
 obtain ⟨Fs1, hH1, hn1, hF1, hO1, hb1⟩ := Ctx.lend2 (As := [Item.own (.slice (some ⟨b1, 0, none⟩) 0 0) (([] : List UInt8) : (List UInt8))]) [Item.box pb1 [u1, (.int .i64 a1.2.1), (.int .i64 a1.2.2)]] hC5
 refine WL_call Try.call15 rfl rfl (c_S_l1Below pb1 (a1.1, a1.2.1, a1.2.2) u1 (RO.lent g1 hC5.keep hF1) 4 hH1 hn1 x1 hr1) ?_
 rintro _ w2 ⟨rfl, hq1⟩
 have hC6 : Ctx Fs.flatten w0 w2 [Item.box pb1 [u1, (.int .i64 x1.2.2.1), (.int .i64 x1.2.2.2)], Item.own (.slice (some ⟨b1, 0, none⟩) 0 0) (([] : List UInt8) : (List UInt8))] := hb1 _ _ hq1
 refine WL_assign rfl rfl ?_
 refine WL_nil ?_
 refine W_seq ?_
 refine W_seq_reg ?_
 refine WL_move rfl rfl ?_
 refine WL_move rfl rfl ?_
 refine WL_add rfl rfl rfl ?_
 obtain ⟨x2, hr2, hF⟩ := bind_some hF
 obtain ⟨Fs2, hH2, hn2, hF2, hO2, hb2⟩ := Ctx.lend2 (As := [Item.own (.slice (some ⟨b1, 0, none⟩) 0 0) (([] : List UInt8) : (List UInt8))]) [Item.box pb1 [u1, (.int .i64 x1.2.2.1), (.int .i64 x1.2.2.2)]] hC6
 refine WL_call Try.call15 rfl rfl (c_S_l1Below pb1 (a1.1, x1.2.2.1, x1.2.2.2) u1 (RO.lent g1 hC6.keep hF2) (w64 (a2 + 1)) hH2 hn2 x2 hr2) ?_
 rintro _ w3 ⟨rfl, hq2⟩
 have hC7 : Ctx Fs.flatten w0 w3 [Item.box pb1 [u1, (.int .i64 x2.2.2.1), (.int .i64 x2.2.2.2)], Item.own (.slice (some ⟨b1, 0, none⟩) 0 0) (([] : List UInt8) : (List UInt8))] := hb2 _ _ hq2
 refine WL_assign rfl rfl ?_
 refine WL_nil ?_
 obtain ⟨r1, hr3, hF⟩ := bind_some hF
 refine W_norm (fun l w => ∃ x7 : Int, ∃ x8 : Int, ∃ v2 : Value, ∃ x9 : (List UInt8), (x7, x8, x9) = r1 ∧ l = [(5, v2)] ∧ Ctx Fs.flatten w0 w [Item.box pb1 [u1, (.int .i64 x7), (.int .i64 x8)], Item.own v2 (x9 : (List UInt8))]) ?_ ?_
 ·refine W_block ?_
  refine W.sub (l' := [(0, (ptr pb1 0)), (5, (.slice (some ⟨b1, 0, none⟩) 0 0)), (6, (.int .i64 x1.1)), (7, (.int .i64 x2.1))]) ?_ ⟨rfl, rfl, rfl, rfl, trivial⟩
  refine W_loop (fun k l w => ∃ x3 : Int, ∃ x4 : Int, ∃ v1 : Value, ∃ x5 : (List UInt8), ∃ x6 : Int, l = [(0, (ptr pb1 0)), (5, v1), (6, (.int .i64 x1.1)), (7, (.int .i64 x6))] ∧ Ctx Fs.flatten w0 w [Item.box pb1 [u1, (.int .i64 x3), (.int .i64 x4)], Item.own v1 (x5 : (List UInt8))] ∧ S.l1Text_l1 a1 x1 k x3 x4 x5 x6 = some r1) FUEL ⟨x2.2.2.1, x2.2.2.2, (.slice (some ⟨b1, 0, none⟩) 0 0), ([] : List UInt8), x2.1, rfl, hC7, hr3⟩ ?_
  clear hr3
  rintro k1 _ w4 ⟨x3, x4, v1, x5, x6, rfl, hC8, hL1⟩
  cases k1 with
  | zero => rw [S.l1Text_l1] at hL1; cases hL1
  | succ k1 =>
   rw [S.l1Text_l1] at hL1
   refine W_seq ?_
   refine W_seq_reg ?_
   refine WL_move rfl rfl ?_
   refine WL_gtr rfl rfl rfl ?_
   refine WL_nil ?_
   refine W_cond rfl (fun hc1 => ?_) (fun hc1 => ?_)
   ·replace hL1 := ite_t hL1 hc1
    refine W_skip ?_
    refine nrm_normal ?_
    refine W_seq ?_
    refine W_block ?_
    refine W_seq_reg ?_
    refine WL_move rfl rfl ?_
    obtain ⟨x10, hr4, hL1⟩ := bind_some hL1
    obtain ⟨Fs3, hH3, hn3, hF3, hO3, hb3⟩ := Ctx.lend2 (As := [Item.own v1 (x5 : (List UInt8))]) [Item.box pb1 [u1, (.int .i64 x3), (.int .i64 x4)]] hC8
    refine WL_call Try.call27 rfl rfl (c_S_l1Byte pb1 (a1.1, x3, x4) u1 (RO.lent g1 hC8.keep hF3) hH3 hn3 x10 hr4) ?_
    rintro _ w5 ⟨rfl, hq3⟩
    have hC9 : Ctx Fs.flatten w0 w5 [Item.box pb1 [u1, (.int .i64 x10.2.2.1), (.int .i64 x10.2.2.2)], Item.own v1 (x5 : (List UInt8))] := hb3 _ _ hq3
    refine WL_assign rfl rfl ?_
    refine WL_nil ?_
    refine W_seq ?_
    refine W_seq_reg ?_
    refine WL_move rfl rfl ?_
    refine WL_eql rfl rfl rfl ?_
    refine WL_nil ?_
    obtain ⟨r2, hr5, hL1⟩ := bind_some hL1
    refine W_norm (fun l w => ∃ x11 : Int, x11 = r2 ∧ l = [(0, (ptr pb1 0)), (5, v1), (6, (.int .i64 x1.1)), (7, (.int .i64 x6)), (8, (.int .i64 x11))] ∧ Below w5.heap.size w5 w ∧ Ctx Fs.flatten w0 w [Item.box pb1 [u1, (.int .i64 x10.2.2.1), (.int .i64 x10.2.2.2)], Item.own v1 (x5 : (List UInt8))]) ?_ ?_
    ·refine W_cond rfl (fun hc2 => ?_) (fun hc2 => ?_)
     ·replace hr5 := ite_t hr5 hc2
      refine W_reg ?_
      refine WL_move rfl rfl ?_
      refine WL_rem (by decide) rfl rfl rfl ?_
      refine WL_assign rfl rfl ?_
      refine WL_nil ?_
      have hq4 := Option.some.inj hr5
      subst hq4
      refine nrm_sub (l' := [(0, (ptr pb1 0)), (5, v1), (6, (.int .i64 x1.1)), (7, (.int .i64 x6)), (8, (.int .i64 (x10.1.tmod 2)))]) ⟨rfl, rfl, rfl, rfl, rfl, trivial⟩ ?_
      exact ⟨x10.1.tmod 2, rfl, rfl, (Below.refl _ _), hC9⟩
     replace hr5 := ite_f hr5 hc2
     refine W_skip ?_
     have hq5 := Option.some.inj hr5
     subst hq5
     refine nrm_sub (l' := [(0, (ptr pb1 0)), (5, v1), (6, (.int .i64 x1.1)), (7, (.int .i64 x6)), (8, (.int .i64 x10.1))]) ⟨rfl, rfl, rfl, rfl, rfl, trivial⟩ ?_
     exact ⟨x10.1, rfl, rfl, (Below.refl _ _), hC9⟩
    rintro l2 _ w6 hs2 ⟨x11, rfl, rfl, hB3, hC10⟩
    try dsimp only at hL1
    refine nrm_sub' hs2 ?_
    clear hs2
    refine W_seq ?_
    refine W_seq_reg ?_
    refine WL_move rfl rfl ?_
    refine WL_eql rfl rfl rfl ?_
    refine WL_nil ?_
    obtain ⟨r3, hr6, hL1⟩ := bind_some hL1
    refine W_norm (fun l w => ∃ x12 : Int, x12 = r3 ∧ l = [(0, (ptr pb1 0)), (5, v1), (6, (.int .i64 x1.1)), (7, (.int .i64 x6)), (8, (.int .i64 x12))] ∧ Below w6.heap.size w6 w ∧ Ctx Fs.flatten w0 w [Item.box pb1 [u1, (.int .i64 x10.2.2.1), (.int .i64 x10.2.2.2)], Item.own v1 (x5 : (List UInt8))]) ?_ ?_
    ·refine W_cond rfl (fun hc3 => ?_) (fun hc3 => ?_)
     ·replace hr6 := ite_t hr6 hc3
      refine W_reg ?_
      refine WL_move rfl rfl ?_
      refine WL_rem (by decide) rfl rfl rfl ?_
      refine WL_add rfl rfl rfl ?_
      refine WL_assign rfl rfl ?_
      refine WL_nil ?_
      have hq6 := Option.some.inj hr6
      subst hq6
      refine nrm_sub (l' := [(0, (ptr pb1 0)), (5, v1), (6, (.int .i64 x1.1)), (7, (.int .i64 x6)), (8, (.int .i64 (w64 (97 + (x11.tmod 4)))))]) ⟨rfl, rfl, rfl, rfl, rfl, trivial⟩ ?_
      exact ⟨w64 (97 + (x11.tmod 4)), rfl, rfl, (Below.refl _ _), hC10⟩
     replace hr6 := ite_f hr6 hc3
     refine W_skip ?_
     have hq7 := Option.some.inj hr6
     subst hq7
     refine nrm_sub (l' := [(0, (ptr pb1 0)), (5, v1), (6, (.int .i64 x1.1)), (7, (.int .i64 x6)), (8, (.int .i64 x11))]) ⟨rfl, rfl, rfl, rfl, rfl, trivial⟩ ?_
     exact ⟨x11, rfl, rfl, (Below.refl _ _), hC10⟩
    rintro l3 _ w7 hs3 ⟨x12, rfl, rfl, hB4, hC11⟩
    try dsimp only at hL1
    refine nrm_sub' hs3 ?_
    clear hs3
    refine W_reg ?_
    refine WL_move rfl rfl ?_
    refine WL_move rfl rfl ?_
    refine WL_conv_u8 Try.underlying3 Try.underlying5 rfl rfl ?_
    refine WL_buildSlice (vs := [(.int .u8 (w8 x12))]) hC11 Try.underlying22 ty5 rfl rfl rfl rfl (by intro v hv; simp only [List.mem_cons, List.not_mem_nil, or_false] at hv; rcases hv with rfl <;> rfl) rfl rfl (fun b2 w9 hC12 hB5 => ?_)
    have hC13 := hC12.row0 (α := UInt8)
    have hC14 := hC13.triv (u8_val x12)
    have hC15 := hC14.row1
    have hC16 := hC15.front 1 rfl
    dsimp only [List.eraseIdx, List.cons_append, List.nil_append, List.append_nil] at hC16
    have hC17 : Ctx Fs.flatten w0 w9 (Item.own (.slice (some ⟨b2, 0, none⟩) 1 1) ([(u8 x12)] : List UInt8) :: [Item.box pb1 [u1, (.int .i64 x10.2.2.1), (.int .i64 x10.2.2.2)], Item.own v1 (x5 : (List UInt8))]) := hC16.rowOwn (by simp [maxLen])
    obtain ⟨x13, hx1, hL1⟩ := bind_some hL1
    refine WL_append_flat (α := UInt8) hC17 2 rfl (hC17.ro 0 rfl) (Keep.refl _ _) Try.underlying22 ty5 rfl hx1 rfl rfl rfl (fun v3 w10 hC18 => ?_)
    try dsimp only [List.set] at hC18
    refine WL_assign rfl rfl ?_
    refine WL_nil ?_
    refine blk_normal ?_
    refine nrm_normal ?_
    refine W_reg ?_
    refine WL_move rfl rfl ?_
    refine WL_sub rfl rfl rfl ?_
    refine WL_assign rfl rfl ?_
    refine WL_nil ?_
    have hC19 := hC18.f2
    have hC20 := hC19.f2
    have hC21 := hC20.h2
    refine nrm_sub (l' := [(0, (ptr pb1 0)), (5, v3), (6, (.int .i64 x1.1)), (7, (.int .i64 (w64 (x6 - 1))))]) ⟨rfl, rfl, rfl, rfl, trivial⟩ ?_
    exact ⟨k1, Nat.lt_succ_self _, x10.2.2.1, x10.2.2.2, v3, x13, w64 (x6 - 1), rfl, hC21, hL1⟩
   replace hL1 := ite_f hL1 hc1
   refine W_exit ?_
   refine nrm_exit ?_
   refine nrm_exit ?_
   refine blk_exit ?_
   have hq8 := Option.some.inj hL1
   subst hq8
   refine nrm_sub (l' := [(5, v1)]) ⟨rfl, trivial⟩ ?_
   exact ⟨x3, x4, v1, x5, rfl, rfl, hC8⟩
 rintro l4 _ w11 hs4 ⟨x7, x8, v2, x9, rfl, rfl, hC22⟩
 try dsimp only at hF
 refine nrm_sub' hs4 ?_
 clear hs4
 refine W_seq_reg ?_
 refine WL_move rfl rfl ?_
 refine WL_conv_bytes Try.underlying22 Try.underlying5 Try.underlying9 (hC22.ro 1 rfl) (Keep.refl _ _) rfl rfl ?_
 refine WL_assign rfl rfl ?_
 refine WL_nil ?_
 refine W_ret ?_
 have hq9 := Option.some.inj hF
 subst hq9
 refine fn_ret1 rfl rfl ?_
 have hC23 := hC22.h1
 exact ⟨_, rfl, rfl, hC23⟩

theorem c_S_l1Spoil {w0 : World} {Fs : List (List Nat)} (pb1 : Nat) (a1 : ((List UInt8) × Int × Int)) (u1 : Value) (g1 : RO Fs.flatten w0 u1 a1.1) (a2 : Str) (hH : Hold [Item.box pb1 [u1, (.int .i64 a1.2.1), (.int .i64 a1.2.2)]] w0 Fs) (hn : Fs.flatten.Nodup) (rr : (Str × ((List UInt8) × Int × Int))) (hF : S.l1Spoil a1 a2 = some rr) :
 Calls Try.prog 18 [(ptr pb1 0), (sv a2)].toArray w0 fun e w' => ∃ v, e = .returned v ∧ v = (sv rr.1) ∧ Ctx Fs.flatten w0 w' [Item.box pb1 [u1, (.int .i64 rr.2.2.1), (.int .i64 rr.2.2.2)]] := by
 refine calls_of_W Try.func18 rfl rfl ?_
 have hC0 := Ctx.startIn hH hn
 unfold S.l1Spoil at hF
 refine W_seq_reg ?_
 refine WL_assign rfl rfl ?_
 refine WL_nil ?_
 refine W_seq ?_
 refine W_seq_reg ?_
 refine WL_move rfl rfl ?_
 refine WL_len_str Try.underlying9 rfl rfl ?_
 refine WL_eql rfl rfl rfl ?_
 refine WL_nil ?_
 refine W_cond rfl (fun hc1 => ?_) (fun hc1 => ?_)
 ·replace hF := ite_t hF hc1
  refine W_seq_reg ?_
  refine WL_move rfl rfl ?_
  obtain ⟨x1, hr1, hF⟩ := bind_some hF
  obtain ⟨Fs1, hH1, hn1, hF1, hO1, hb1⟩ := Ctx.lend2 (As := []) [Item.box pb1 [u1, (.int .i64 a1.2.1), (.int .i64 a1.2.2)]] hC0
  refine WL_call Try.call32 rfl rfl (c_S_l1Text pb1 (a1.1, a1.2.1, a1.2.2) u1 (RO.lent g1 hC0.keep hF1) 3 hH1 hn1 x1 hr1) ?_
  rintro _ w1 ⟨rfl, hq1⟩
  have hC1 : Ctx Fs.flatten w0 w1 [Item.box pb1 [u1, (.int .i64 x1.2.2.1), (.int .i64 x1.2.2.2)]] := hb1 _ _ hq1
  refine WL_assign rfl rfl ?_
  refine WL_nil ?_
  refine W_ret ?_
  refine nrm_ret ?_
  have hq2 := Option.some.inj hF
  subst hq2
  refine fn_ret1 rfl rfl ?_
  exact ⟨_, rfl, rfl, hC1⟩
 replace hF := ite_f hF hc1
 refine W_skip ?_
 refine nrm_normal ?_
 refine W_seq_reg ?_
 refine WL_move rfl rfl ?_
 refine WL_move rfl rfl ?_
 refine WL_len_str Try.underlying9 rfl rfl ?_
 obtain ⟨x2, hr2, hF⟩ := bind_some hF
 obtain ⟨Fs2, hH2, hn2, hF2, hO2, hb2⟩ := Ctx.lend2 (As := []) [Item.box pb1 [u1, (.int .i64 a1.2.1), (.int .i64 a1.2.2)]] hC0
 refine WL_call Try.call15 rfl rfl (c_S_l1Below pb1 (a1.1, a1.2.1, a1.2.2) u1 (RO.lent g1 hC0.keep hF2) (List.length a2 : Int) hH2 hn2 x2 hr2) ?_
 rintro _ w2 ⟨rfl, hq3⟩
 have hC2 : Ctx Fs.flatten w0 w2 [Item.box pb1 [u1, (.int .i64 x2.2.2.1), (.int .i64 x2.2.2.2)]] := hb2 _ _ hq3
 refine WL_assign rfl rfl ?_
 refine WL_nil ?_
 refine W_seq ?_
 refine W_seq_reg ?_
 refine WL_move rfl rfl ?_
 obtain ⟨x3, hr3, hF⟩ := bind_some hF
 obtain ⟨Fs3, hH3, hn3, hF3, hO3, hb3⟩ := Ctx.lend2 (As := []) [Item.box pb1 [u1, (.int .i64 x2.2.2.1), (.int .i64 x2.2.2.2)]] hC2
 refine WL_call Try.call15 rfl rfl (c_S_l1Below pb1 (a1.1, x2.2.2.1, x2.2.2.2) u1 (RO.lent g1 hC2.keep hF3) 4 hH3 hn3 x3 hr3) ?_
 rintro _ w3 ⟨rfl, hq4⟩
 have hC3 : Ctx Fs.flatten w0 w3 [Item.box pb1 [u1, (.int .i64 x3.2.2.1), (.int .i64 x3.2.2.2)]] := hb3 _ _ hq4
 refine WL_nil ?_
 refine W_block ?_
 refine W_seq_reg ?_
 refine WL_eql rfl rfl rfl ?_
 refine WL_assign rfl rfl ?_
 refine WL_nil ?_
 refine W_cond rfl (fun hc2 => ?_) (fun hc2 => ?_)
 ·replace hF := ite_t hF hc2
  refine W_seq ?_
  refine W_drawn 9 rfl hmix (fun w4 hB1 => ?_)
  have hC4 := hC3.grow hB1
  refine WA_tk 0 (by kernel_rfl) rfl rfl (fl_move rfl) ?_
  refine WL_move rfl rfl ?_
  refine WL_nil ?_
  refine WA_tk 1 (by kernel_rfl) rfl rfl (fl_move rfl) ?_
  refine WL_move rfl rfl ?_
  refine WL_nil ?_
  obtain ⟨x4, hx1, hF⟩ := bind_some hF
  refine WA_tk 2 (by kernel_rfl) rfl rfl (fl_slice_str_h Try.underlying9 hx1 rfl rfl) ?_
  refine WL_slice_str_h Try.underlying9 hx1 rfl rfl rfl ?_
  refine WL_nil ?_
  refine WA_tk 3 (by kernel_rfl) rfl rfl (fl_move rfl) ?_
  refine WL_move rfl rfl ?_
  refine WL_nil ?_
  refine WA_tk 4 (by kernel_rfl) rfl rfl (fl_move rfl) ?_
  refine WL_move rfl rfl ?_
  refine WL_nil ?_
  refine WA_tk 5 (by kernel_rfl) rfl rfl (fl_add rfl rfl) ?_
  refine WL_add rfl rfl rfl ?_
  refine WL_nil ?_
  obtain ⟨x5, hx2, hF⟩ := bind_some hF
  refine WA_tk 6 (by kernel_rfl) rfl rfl (fl_slice_str_l Try.underlying9 hx2 rfl rfl) ?_
  refine WL_slice_str_l Try.underlying9 hx2 rfl rfl rfl ?_
  refine WL_nil ?_
  obtain ⟨x6, hx3, hF⟩ := bind_some hF
  refine WA_tk 7 (by kernel_rfl) rfl rfl (fl_str_add hx3 rfl rfl) ?_
  refine WL_str_add hx3 rfl rfl rfl ?_
  refine WL_nil ?_
  refine WA_tk 8 (by kernel_rfl) rfl rfl (fl_assign rfl) ?_
  refine WL_assign rfl rfl ?_
  refine WL_nil ?_
  refine WA_done (by kernel_rfl) ?_
  refine nrm_normal ?_
  refine W_ret ?_
  refine blk_ret ?_
  refine nrm_ret ?_
  have hq5 := Option.some.inj hF
  subst hq5
  refine fn_ret1 rfl rfl ?_
  exact ⟨_, rfl, rfl, hC4⟩
 replace hF := ite_f hF hc2
 refine W_seq_reg ?_
 refine WL_eql rfl rfl rfl ?_
 refine WL_assign rfl rfl ?_
 refine WL_nil ?_
 refine W_cond rfl (fun hc3 => ?_) (fun hc3 => ?_)
 ·replace hF := ite_t hF hc3
  refine W_seq ?_
  refine W_drawn 14 rfl hmix (fun w5 hB2 => ?_)
  have hC5 := hC3.grow hB2
  refine WA_tk 0 (by kernel_rfl) rfl rfl (fl_move rfl) ?_
  refine WL_move rfl rfl ?_
  refine WL_nil ?_
  refine WA_tk 1 (by kernel_rfl) rfl rfl (fl_move rfl) ?_
  refine WL_move rfl rfl ?_
  refine WL_nil ?_
  obtain ⟨x7, hx4, hF⟩ := bind_some hF
  refine WA_tk 2 (by kernel_rfl) rfl rfl (fl_slice_str_h Try.underlying9 hx4 rfl rfl) ?_
  refine WL_slice_str_h Try.underlying9 hx4 rfl rfl rfl ?_
  refine WL_nil ?_
  refine WA_tk 3 (by kernel_rfl) rfl rfl (fl_move rfl) ?_
  refine WL_move rfl rfl ?_
  refine WL_nil ?_
  refine WA_tk 9 (by kernel_rfl) rfl rfl (fl_move rfl) ?_
  refine WL_move rfl rfl ?_
  refine WL_nil ?_
  refine WA_tk 10 (by kernel_rfl) rfl rfl (fl_move rfl) ?_
  refine WL_move rfl rfl ?_
  refine WL_nil ?_
  obtain ⟨x8, hx5, hF⟩ := bind_some hF
  refine WA_tk 11 (by kernel_rfl) rfl rfl (fl_slice_str_l Try.underlying9 hx5 rfl rfl) ?_
  refine WL_slice_str_l Try.underlying9 hx5 rfl rfl rfl ?_
  refine WL_nil ?_
  obtain ⟨x9, hr4, hF⟩ := bind_some hF
  refine WA_one 4 (by kernel_rfl) rfl ?_
  obtain ⟨Fs4, hH4, hn4, hF4, hO4, hb4⟩ := Ctx.lend2 (As := []) [Item.box pb1 [u1, (.int .i64 x3.2.2.1), (.int .i64 x3.2.2.2)]] hC5
  refine WL_call Try.call27 rfl rfl (c_S_l1Byte pb1 (a1.1, x3.2.2.1, x3.2.2.2) u1 (RO.lent g1 hC5.keep hF4) hH4 hn4 x9 hr4) ?_
  rintro _ w6 ⟨rfl, hq6⟩
  have hC6 : Ctx Fs.flatten w0 w6 [Item.box pb1 [u1, (.int .i64 x9.2.2.1), (.int .i64 x9.2.2.2)]] := hb4 _ _ hq6
  refine WL_nil ?_
  refine WA_tk 5 (by kernel_rfl) rfl rfl (fl_conv_int Try.underlying3 Try.underlying5 rfl) ?_
  refine WL_conv_u8 Try.underlying3 Try.underlying5 rfl rfl ?_
  refine WL_nil ?_
  refine WA_one 6 (by kernel_rfl) rfl ?_
  refine WL_buildSlice (vs := [(.int .u8 (w8 x9.1))]) hC6 Try.underlying22 ty5 rfl rfl rfl rfl (by intro v hv; simp only [List.mem_cons, List.not_mem_nil, or_false] at hv; rcases hv with rfl <;> rfl) rfl rfl (fun b1 w7 hC7 hB3 => ?_)
  have hC8 := hC7.row0 (α := UInt8)
  have hC9 := hC8.triv (u8_val x9.1)
  have hC10 := hC9.row1
  have hC11 := hC10.front 1 rfl
  dsimp only [List.eraseIdx, List.cons_append, List.nil_append, List.append_nil] at hC11
  have hC12 : Ctx Fs.flatten w0 w7 (Item.own (.slice (some ⟨b1, 0, none⟩) 1 1) ([(u8 x9.1)] : List UInt8) :: [Item.box pb1 [u1, (.int .i64 x9.2.2.1), (.int .i64 x9.2.2.2)]]) := hC11.rowOwn (by simp [maxLen])
  refine WL_nil ?_
  refine WA_one 7 (by kernel_rfl) rfl ?_
  refine WL_conv_bytes Try.underlying22 Try.underlying5 Try.underlying9 (hC12.ro 0 rfl) (Keep.refl _ _) rfl rfl ?_
  refine WL_nil ?_
  obtain ⟨x10, hx6, hF⟩ := bind_some hF
  refine WA_tk 8 (by kernel_rfl) rfl rfl (fl_str_add hx6 rfl rfl) ?_
  refine WL_str_add hx6 rfl rfl rfl ?_
  refine WL_nil ?_
  obtain ⟨x11, hx7, hF⟩ := bind_some hF
  refine WA_tk 12 (by kernel_rfl) rfl rfl (fl_str_add hx7 rfl rfl) ?_
  refine WL_str_add hx7 rfl rfl rfl ?_
  refine WL_nil ?_
  refine WA_tk 13 (by kernel_rfl) rfl rfl (fl_assign rfl) ?_
  refine WL_assign rfl rfl ?_
  refine WL_nil ?_
  refine WA_done (by kernel_rfl) ?_
  refine nrm_normal ?_
  refine W_ret ?_
  refine blk_ret ?_
  refine nrm_ret ?_
  have hq7 := Option.some.inj hF
  subst hq7
  refine fn_ret1 rfl rfl ?_
  have hC13 := hC12.f1
  have hC14 := hC13.h1
  exact ⟨_, rfl, rfl, hC14⟩
 replace hF := ite_f hF hc3
 refine W_seq_reg ?_
 refine WL_eql rfl rfl rfl ?_
 refine WL_assign rfl rfl ?_
 refine WL_nil ?_
 refine W_cond rfl (fun hc4 => ?_) (fun hc4 => ?_)
 ·replace hF := ite_t hF hc4
  refine W_seq_reg ?_
  refine WL_move rfl rfl ?_
  refine WL_move rfl rfl ?_
  obtain ⟨x12, hx8, hF⟩ := bind_some hF
  refine WL_slice_str_h Try.underlying9 hx8 rfl rfl rfl ?_
  refine WL_assign rfl rfl ?_
  refine WL_nil ?_
  refine W_ret ?_
  refine blk_ret ?_
  refine nrm_ret ?_
  have hq8 := Option.some.inj hF
  subst hq8
  refine fn_ret1 rfl rfl ?_
  exact ⟨_, rfl, rfl, hC3⟩
 replace hF := ite_f hF hc4
 refine W_skip ?_
 refine blk_normal ?_
 refine nrm_normal ?_
 refine W_seq ?_
 refine W_drawn 21 rfl hmix (fun w9 hB4 => ?_)
 have hC15 := hC3.grow hB4
 refine WA_tk 0 (by kernel_rfl) rfl rfl (fl_move rfl) ?_
 refine WL_move rfl rfl ?_
 refine WL_nil ?_
 refine WA_tk 1 (by kernel_rfl) rfl rfl (fl_move rfl) ?_
 refine WL_move rfl rfl ?_
 refine WL_nil ?_
 obtain ⟨x13, hx9, hF⟩ := bind_some hF
 refine WA_tk 2 (by kernel_rfl) rfl rfl (fl_slice_str_h Try.underlying9 hx9 rfl rfl) ?_
 refine WL_slice_str_h Try.underlying9 hx9 rfl rfl rfl ?_
 refine WL_nil ?_
 refine WA_tk 3 (by kernel_rfl) rfl rfl (fl_move rfl) ?_
 refine WL_move rfl rfl ?_
 refine WL_nil ?_
 refine WA_tk 4 (by kernel_rfl) rfl rfl (fl_move rfl) ?_
 refine WL_move rfl rfl ?_
 refine WL_nil ?_
 obtain ⟨x14, hx10, hF⟩ := bind_some hF
 refine WA_tk 5 (by kernel_rfl) rfl rfl (fl_index_str Try.underlying9 hx10 rfl rfl) ?_
 refine WL_index_str Try.underlying9 hx10 rfl rfl rfl ?_
 refine WL_nil ?_
 refine WA_tk 6 (by kernel_rfl) rfl rfl (fl_conv_int Try.underlying5 Try.underlying3 rfl) ?_
 refine WL_conv_i64 Try.underlying5 Try.underlying3 rfl rfl ?_
 refine WL_nil ?_
 refine WA_tk 7 (by kernel_rfl) rfl rfl (fl_move rfl) ?_
 refine WL_move rfl rfl ?_
 refine WL_nil ?_
 refine WA_tk 15 (by kernel_rfl) rfl rfl (fl_move rfl) ?_
 refine WL_move rfl rfl ?_
 refine WL_nil ?_
 refine WA_tk 16 (by kernel_rfl) rfl rfl (fl_move rfl) ?_
 refine WL_move rfl rfl ?_
 refine WL_nil ?_
 refine WA_tk 17 (by kernel_rfl) rfl rfl (fl_add rfl rfl) ?_
 refine WL_add rfl rfl rfl ?_
 refine WL_nil ?_
 obtain ⟨x15, hx11, hF⟩ := bind_some hF
 refine WA_tk 18 (by kernel_rfl) rfl rfl (fl_slice_str_l Try.underlying9 hx11 rfl rfl) ?_
 refine WL_slice_str_l Try.underlying9 hx11 rfl rfl rfl ?_
 refine WL_nil ?_
 obtain ⟨x16, hr5, hF⟩ := bind_some hF
 refine WA_one 8 (by kernel_rfl) rfl ?_
 obtain ⟨Fs5, hH5, hn5, hF5, hO5, hb5⟩ := Ctx.lend2 (As := []) [Item.box pb1 [u1, (.int .i64 x3.2.2.1), (.int .i64 x3.2.2.2)]] hC15
 refine WL_call Try.call15 rfl rfl (c_S_l1Below pb1 (a1.1, x3.2.2.1, x3.2.2.2) u1 (RO.lent g1 hC15.keep hF5) 255 hH5 hn5 x16 hr5) ?_
 rintro _ w10 ⟨rfl, hq9⟩
 have hC16 : Ctx Fs.flatten w0 w10 [Item.box pb1 [u1, (.int .i64 x16.2.2.1), (.int .i64 x16.2.2.2)]] := hb5 _ _ hq9
 refine WL_nil ?_
 refine WA_tk 9 (by kernel_rfl) rfl rfl (fl_add rfl rfl) ?_
 refine WL_add rfl rfl rfl ?_
 refine WL_nil ?_
 refine WA_tk 10 (by kernel_rfl) rfl rfl (fl_bxor rfl rfl) ?_
 refine WL_bxor rfl rfl rfl ?_
 refine WL_nil ?_
 refine WA_tk 11 (by kernel_rfl) rfl rfl (fl_conv_int Try.underlying3 Try.underlying5 rfl) ?_
 refine WL_conv_u8 Try.underlying3 Try.underlying5 rfl rfl ?_
 refine WL_nil ?_
 refine WA_one 12 (by kernel_rfl) rfl ?_
 refine WL_buildSlice (vs := [(.int .u8 (w8 (bxor (w64 (UInt8.toNat x14 : Int)) (w64 (1 + x16.1)))))]) hC16 Try.underlying22 ty5 rfl rfl rfl rfl (by intro v hv; simp only [List.mem_cons, List.not_mem_nil, or_false] at hv; rcases hv with rfl <;> rfl) rfl rfl (fun b2 w11 hC17 hB5 => ?_)
 have hC18 := hC17.row0 (α := UInt8)
 have hC19 := hC18.triv (u8_val (bxor (w64 (UInt8.toNat x14 : Int)) (w64 (1 + x16.1))))
 have hC20 := hC19.row1
 have hC21 := hC20.front 1 rfl
 dsimp only [List.eraseIdx, List.cons_append, List.nil_append, List.append_nil] at hC21
 have hC22 : Ctx Fs.flatten w0 w11 (Item.own (.slice (some ⟨b2, 0, none⟩) 1 1) ([(u8 (bxor (w64 (UInt8.toNat x14 : Int)) (w64 (1 + x16.1))))] : List UInt8) :: [Item.box pb1 [u1, (.int .i64 x16.2.2.1), (.int .i64 x16.2.2.2)]]) := hC21.rowOwn (by simp [maxLen])
 refine WL_nil ?_
 refine WA_one 13 (by kernel_rfl) rfl ?_
 refine WL_conv_bytes Try.underlying22 Try.underlying5 Try.underlying9 (hC22.ro 0 rfl) (Keep.refl _ _) rfl rfl ?_
 refine WL_nil ?_
 obtain ⟨x17, hx12, hF⟩ := bind_some hF
 refine WA_tk 14 (by kernel_rfl) rfl rfl (fl_str_add hx12 rfl rfl) ?_
 refine WL_str_add hx12 rfl rfl rfl ?_
 refine WL_nil ?_
 obtain ⟨x18, hx13, hF⟩ := bind_some hF
 refine WA_tk 19 (by kernel_rfl) rfl rfl (fl_str_add hx13 rfl rfl) ?_
 refine WL_str_add hx13 rfl rfl rfl ?_
 refine WL_nil ?_
 refine WA_tk 20 (by kernel_rfl) rfl rfl (fl_assign rfl) ?_
 refine WL_assign rfl rfl ?_
 refine WL_nil ?_
 refine WA_done (by kernel_rfl) ?_
 refine nrm_normal ?_
 refine W_ret ?_
 have hq10 := Option.some.inj hF
 subst hq10
 refine fn_ret1 rfl rfl ?_
 have hC23 := hC22.f1
 have hC24 := hC23.h1
 exact ⟨_, rfl, rfl, hC24⟩

theorem c_S_DrawSplitFrames {w0 : World} (a1 : (List UInt8)) (u1 : Value) (g1 : RO [] w0 u1 a1) (rr : Str) (hF : S.DrawSplitFrames a1 = some rr) :
 Calls Try.prog 5 [u1].toArray w0 fun e w' => ∃ v, e = .returned v ∧ Res w0 rr v w' := by
 refine calls_of_W Try.func5 rfl rfl ?_
 have hC0 := Ctx.start w0
 unfold S.DrawSplitFrames at hF
 refine W_seq_reg ?_
 refine WL_assign rfl rfl ?_
 refine WL_nil ?_
 refine W_seq_reg ?_
 refine WL_move rfl rfl ?_
 obtain ⟨x1, hr1, hF⟩ := bind_some hF
 refine WL_call Try.call14 rfl rfl (c_S_l1New a1 u1 (g1.now hC0.keep) x1 hr1) ?_
 rintro _ w1 ⟨b1, rfl, hq1⟩
 have hC1 : Ctx [] w0 w1 [Item.box b1 [u1, (.int .i64 x1.2.1), (.int .i64 x1.2.2)]] := hC0.push2 hq1
 refine WL_assign rfl rfl ?_
 refine WL_nil ?_
 refine W_seq_reg ?_
 refine WL_assign rfl rfl ?_
 refine WL_nil ?_
 refine W_seq ?_
 refine W_seq_reg ?_
 refine WL_move rfl rfl ?_
 obtain ⟨x2, hr2, hF⟩ := bind_some hF
 obtain ⟨Fs2, hH2, hn2, hF2, hO2, hb2⟩ := Ctx.lend2 (As := []) [Item.box b1 [u1, (.int .i64 x1.2.1), (.int .i64 x1.2.2)]] hC1
 refine WL_call Try.call15 rfl rfl (c_S_l1Below b1 (a1, x1.2.1, x1.2.2) u1 (RO.lent g1 hC1.keep hF2) 4 hH2 hn2 x2 hr2) ?_
 rintro _ w2 ⟨rfl, hq2⟩
 have hC2 : Ctx [] w0 w2 [Item.box b1 [u1, (.int .i64 x2.2.2.1), (.int .i64 x2.2.2.2)]] := hb2 _ _ hq2
 refine WL_assign rfl rfl ?_
 refine WL_nil ?_
 obtain ⟨r1, hr3, hF⟩ := bind_some hF
 refine W_norm (fun l w => ∃ x7 : Int, ∃ x8 : Int, ∃ x9 : Str, (x7, x8, x9) = r1 ∧ l = [(3, (ptr b1 0)), (4, (sv x9))] ∧ Ctx [] w0 w [Item.box b1 [u1, (.int .i64 x7), (.int .i64 x8)]]) ?_ ?_
 ·refine W_block ?_
  refine W.sub (l' := [(3, (ptr b1 0)), (4, (sv (str []))), (5, (.int .i64 x2.1))]) ?_ ⟨rfl, rfl, rfl, trivial⟩
  refine W_loop (fun k l w => ∃ x3 : Int, ∃ x4 : Int, ∃ x5 : Str, ∃ x6 : Int, l = [(3, (ptr b1 0)), (4, (sv x5)), (5, (.int .i64 x6))] ∧ Ctx [] w0 w [Item.box b1 [u1, (.int .i64 x3), (.int .i64 x4)]] ∧ S.DrawSplitFrames_l1 a1 k x3 x4 x5 x6 = some r1) FUEL ⟨x2.2.2.1, x2.2.2.2, (str []), x2.1, rfl, hC2, hr3⟩ ?_
  clear hr3
  rintro k1 _ w3 ⟨x3, x4, x5, x6, rfl, hC3, hL1⟩
  cases k1 with
  | zero => rw [S.DrawSplitFrames_l1] at hL1; cases hL1
  | succ k1 =>
   rw [S.DrawSplitFrames_l1] at hL1
   refine W_seq ?_
   refine W_seq_reg ?_
   refine WL_move rfl rfl ?_
   refine WL_gtr rfl rfl rfl ?_
   refine WL_nil ?_
   refine W_cond rfl (fun hc1 => ?_) (fun hc1 => ?_)
   ·replace hL1 := ite_t hL1 hc1
    refine W_skip ?_
    refine nrm_normal ?_
    refine W_seq ?_
    refine W_block ?_
    refine W_reg ?_
    refine WL_move rfl rfl ?_
    refine WL_move rfl rfl ?_
    obtain ⟨x10, hr4, hL1⟩ := bind_some hL1
    obtain ⟨Fs3, hH3, hn3, hF3, hO3, hb3⟩ := Ctx.lend2 (As := []) [Item.box b1 [u1, (.int .i64 x3), (.int .i64 x4)]] hC3
    refine WL_call Try.call17 rfl rfl (c_S_l26Access b1 (a1, x3, x4) u1 (RO.lent g1 hC3.keep hF3) hH3 hn3 x10 hr4) ?_
    rintro v1 w4 ⟨_, rfl, hq3⟩
    have hC4 : Ctx [] w0 w4 [Item.own v1 (x10.1 : (Int × (List Int))), Item.box b1 [u1, (.int .i64 x10.2.2.1), (.int .i64 x10.2.2.2)]] := hb3 _ _ hq3
    obtain ⟨v2, rfl, hC5⟩ := st37_own hC4
    refine WL_move rfl rfl ?_
    obtain ⟨x11, hr5, hL1⟩ := bind_some hL1
    have hC6 := hC5.f1
    obtain ⟨Fs4, hH4, hn4, hF4, hO4, hb4⟩ := Ctx.lend2 (As := [Item.own v2 (x10.1.2 : (List Int))]) [Item.box b1 [u1, (.int .i64 x10.2.2.1), (.int .i64 x10.2.2.2)]] hC6
    refine WL_call Try.call15 rfl rfl (c_S_l1Below b1 (a1, x10.2.2.1, x10.2.2.2) u1 (RO.lent g1 hC6.keep hF4) 9 hH4 hn4 x11 hr5) ?_
    rintro _ w5 ⟨rfl, hq4⟩
    have hC7 : Ctx [] w0 w5 [Item.box b1 [u1, (.int .i64 x11.2.2.1), (.int .i64 x11.2.2.2)], Item.own v2 (x10.1.2 : (List Int))] := hb4 _ _ hq4
    refine WL_add rfl rfl rfl ?_
    obtain ⟨x12, hr6, hL1⟩ := bind_some hL1
    refine WL_call Try.call16 rfl rfl (c_S_EncodeRequest x10.1 v2 ((hC7.ro 1 rfl).now (Keep.refl _ _)) (w64 (1 + x11.1)) x12 hr6) ?_
    intro _ w6 hv1
    obtain ⟨rfl, hB2⟩ := res_str hv1
    have hC8 := hC7.grow hB2
    obtain ⟨x13, hr7, hL1⟩ := bind_some hL1
    refine WL_call Try.call11 rfl rfl (c_S_FrameOf x12 x13 hr7) ?_
    intro _ w7 hv2
    obtain ⟨rfl, hB3⟩ := res_str hv2
    have hC9 := hC8.grow hB3
    obtain ⟨x14, hx1, hL1⟩ := bind_some hL1
    refine WL_str_add hx1 rfl rfl rfl ?_
    refine WL_assign rfl rfl ?_
    refine WL_nil ?_
    refine blk_normal ?_
    refine nrm_normal ?_
    refine W_reg ?_
    refine WL_move rfl rfl ?_
    refine WL_sub rfl rfl rfl ?_
    refine WL_assign rfl rfl ?_
    refine WL_nil ?_
    have hC10 := hC9.h1
    refine nrm_sub (l' := [(3, (ptr b1 0)), (4, (sv x14)), (5, (.int .i64 (w64 (x6 - 1))))]) ⟨rfl, rfl, rfl, trivial⟩ ?_
    exact ⟨k1, Nat.lt_succ_self _, x11.2.2.1, x11.2.2.2, x14, w64 (x6 - 1), rfl, hC10, hL1⟩
   replace hL1 := ite_f hL1 hc1
   refine W_exit ?_
   refine nrm_exit ?_
   refine nrm_exit ?_
   refine blk_exit ?_
   have hq5 := Option.some.inj hL1
   subst hq5
   refine nrm_sub (l' := [(3, (ptr b1 0)), (4, (sv x5))]) ⟨rfl, rfl, trivial⟩ ?_
   exact ⟨x3, x4, x5, rfl, rfl, hC3⟩
 rintro l2 _ w9 hs2 ⟨x7, x8, x9, rfl, rfl, hC11⟩
 try dsimp only at hF
 refine nrm_sub' hs2 ?_
 clear hs2
 refine W_seq ?_
 refine W_seq_reg ?_
 refine WL_move rfl rfl ?_
 obtain ⟨x15, hr8, hF⟩ := bind_some hF
 obtain ⟨Fs5, hH5, hn5, hF5, hO5, hb5⟩ := Ctx.lend2 (As := []) [Item.box b1 [u1, (.int .i64 x7), (.int .i64 x8)]] hC11
 refine WL_call Try.call15 rfl rfl (c_S_l1Below b1 (a1, x7, x8) u1 (RO.lent g1 hC11.keep hF5) 4 hH5 hn5 x15 hr8) ?_
 rintro _ w10 ⟨rfl, hq6⟩
 have hC12 : Ctx [] w0 w10 [Item.box b1 [u1, (.int .i64 x15.2.2.1), (.int .i64 x15.2.2.2)]] := hb5 _ _ hq6
 refine WL_nil ?_
 refine W_block ?_
 refine W_seq_reg ?_
 refine WL_eql rfl rfl rfl ?_
 refine WL_assign rfl rfl ?_
 refine WL_nil ?_
 refine W_cond rfl (fun hc2 => ?_) (fun hc2 => ?_)
 ·replace hF := ite_t hF hc2
  refine W_seq_reg ?_
  refine WL_move rfl rfl ?_
  refine WL_move rfl rfl ?_
  obtain ⟨x16, hr9, hF⟩ := bind_some hF
  obtain ⟨Fs6, hH6, hn6, hF6, hO6, hb6⟩ := Ctx.lend2 (As := []) [Item.box b1 [u1, (.int .i64 x15.2.2.1), (.int .i64 x15.2.2.2)]] hC12
  refine WL_call Try.call18 rfl rfl (c_S_l1Spoil b1 (a1, x15.2.2.1, x15.2.2.2) u1 (RO.lent g1 hC12.keep hF6) x9 hH6 hn6 x16 hr9) ?_
  rintro _ w11 ⟨rfl, hq7⟩
  have hC13 : Ctx [] w0 w11 [Item.box b1 [u1, (.int .i64 x16.2.2.1), (.int .i64 x16.2.2.2)]] := hb6 _ _ hq7
  refine WL_assign rfl rfl ?_
  refine WL_nil ?_
  refine W_ret ?_
  refine blk_ret ?_
  refine nrm_ret ?_
  have hq8 := Option.some.inj hF
  subst hq8
  refine fn_ret1 rfl rfl ?_
  exact ⟨_, rfl, str_res hC13 _⟩
 replace hF := ite_f hF hc2
 refine W_seq_reg ?_
 refine WL_eql rfl rfl rfl ?_
 refine WL_assign rfl rfl ?_
 refine WL_nil ?_
 refine W_cond rfl (fun hc3 => ?_) (fun hc3 => ?_)
 ·replace hF := ite_t hF hc3
  refine W_seq_reg ?_
  refine WL_move rfl rfl ?_
  refine WL_move rfl rfl ?_
  refine WL_len_str Try.underlying9 rfl rfl ?_
  refine WL_move rfl rfl ?_
  refine WL_len_str Try.underlying9 rfl rfl ?_
  refine WL_move rfl rfl ?_
  obtain ⟨x17, hr10, hF⟩ := bind_some hF
  obtain ⟨Fs7, hH7, hn7, hF7, hO7, hb7⟩ := Ctx.lend2 (As := []) [Item.box b1 [u1, (.int .i64 x15.2.2.1), (.int .i64 x15.2.2.2)]] hC12
  refine WL_call Try.call15 rfl rfl (c_S_l1Below b1 (a1, x15.2.2.1, x15.2.2.2) u1 (RO.lent g1 hC12.keep hF7) 5 hH7 hn7 x17 hr10) ?_
  rintro _ w12 ⟨rfl, hq9⟩
  have hC14 : Ctx [] w0 w12 [Item.box b1 [u1, (.int .i64 x17.2.2.1), (.int .i64 x17.2.2.2)]] := hb7 _ _ hq9
  refine WL_min rfl rfl rfl ?_
  refine WL_sub rfl rfl rfl ?_
  obtain ⟨x18, hx2, hF⟩ := bind_some hF
  refine WL_slice_str_h Try.underlying9 hx2 rfl rfl rfl ?_
  refine WL_assign rfl rfl ?_
  refine WL_nil ?_
  refine W_ret ?_
  refine blk_ret ?_
  refine nrm_ret ?_
  have hq10 := Option.some.inj hF
  subst hq10
  refine fn_ret1 rfl rfl ?_
  exact ⟨_, rfl, str_res hC14 _⟩
 replace hF := ite_f hF hc3
 refine W_skip ?_
 refine blk_normal ?_
 refine nrm_normal ?_
 refine W_seq_reg ?_
 refine WL_move rfl rfl ?_
 refine WL_assign rfl rfl ?_
 refine WL_nil ?_
 refine W_ret ?_
 have hq11 := Option.some.inj hF
 subst hq11
 refine fn_ret1 rfl rfl ?_
 exact ⟨_, rfl, str_res hC12 _⟩

theorem c_M_CheckByte {w0 : World} (a1 : Str) (rr : Int) (hF : M.CheckByte a1 = some rr) :
 Calls Try.prog 12 [(sv a1)].toArray w0 fun e w' => ∃ v, e = .returned v ∧ Res w0 rr v w' := by
 refine calls_of_W Try.func12 rfl rfl ?_
 have hC0 := Ctx.start w0
 unfold M.CheckByte at hF
 refine W_seq_reg ?_
 refine WL_assign rfl rfl ?_
 refine WL_nil ?_
 refine W_seq_reg ?_
 refine WL_assign rfl rfl ?_
 refine WL_nil ?_
 refine W_seq ?_
 refine W_seq_reg ?_
 refine WL_move rfl rfl ?_
 refine WL_len_str Try.underlying9 rfl rfl ?_
 refine WL_move rfl rfl ?_
 refine WL_nil ?_
 obtain ⟨r1, hr1, hF⟩ := bind_some hF
 refine W_norm (fun l w => ∃ x3 : Int, x3 = r1 ∧ l = [(3, (.int .i64 x3))] ∧ Below w0.heap.size w0 w ∧ Ctx [] w0 w []) ?_ ?_
 ·refine W_block ?_
  refine W.sub (l' := [(0, (sv a1)), (3, (.int .i64 7)), (6, (.int .i64 (List.length a1 : Int))), (7, (.int .i64 0))]) ?_ ⟨rfl, rfl, rfl, rfl, trivial⟩
  refine W_loop (fun k l w => ∃ x1 : Int, ∃ x2 : Int, l = [(0, (sv a1)), (3, (.int .i64 x1)), (6, (.int .i64 (List.length a1 : Int))), (7, (.int .i64 x2))] ∧ Below w0.heap.size w0 w ∧ Ctx [] w0 w [] ∧ M.CheckByte_l1 a1 k x1 x2 = some r1) FUEL ⟨7, 0, rfl, (Below.refl _ _), hC0, hr1⟩ ?_
  clear hr1
  rintro k1 _ w1 ⟨x1, x2, rfl, hB1, hC1, hL1⟩
  cases k1 with
  | zero => rw [M.CheckByte_l1] at hL1; cases hL1
  | succ k1 =>
   rw [M.CheckByte_l1] at hL1
   refine W_seq_reg ?_
   refine WL_lss rfl rfl rfl ?_
   refine WL_nil ?_
   refine W_seq ?_
   refine W_cond rfl (fun hc1 => ?_) (fun hc1 => ?_)
   ·replace hL1 := ite_t hL1 hc1
    refine W_skip ?_
    refine nrm_normal ?_
    refine W_seq ?_
    refine W_block ?_
    refine W_seq_reg ?_
    refine WL_move rfl rfl ?_
    refine WL_assign rfl rfl ?_
    refine WL_nil ?_
    refine W_reg ?_
    refine WL_move rfl rfl ?_
    refine WL_mul rfl rfl rfl ?_
    refine WL_move rfl rfl ?_
    refine WL_move rfl rfl ?_
    obtain ⟨x4, hx1, hL1⟩ := bind_some hL1
    refine WL_index_str Try.underlying9 hx1 rfl rfl rfl ?_
    refine WL_conv_i64 Try.underlying5 Try.underlying3 rfl rfl ?_
    refine WL_add rfl rfl rfl ?_
    refine WL_rem (by decide) rfl rfl rfl ?_
    refine WL_assign rfl rfl ?_
    refine WL_nil ?_
    refine blk_normal ?_
    refine nrm_normal ?_
    refine W_reg ?_
    refine WL_add rfl rfl rfl ?_
    refine WL_move rfl rfl ?_
    refine WL_nil ?_
    refine nrm_sub (l' := [(0, (sv a1)), (3, (.int .i64 ((w64 ((w64 (31 * x1)) + (w64 (UInt8.toNat x4 : Int)))).tmod 251))), (6, (.int .i64 (List.length a1 : Int))), (7, (.int .i64 (w64 (x2 + 1))))]) ⟨rfl, rfl, rfl, rfl, trivial⟩ ?_
    exact ⟨k1, Nat.lt_succ_self _, (w64 ((w64 (31 * x1)) + (w64 (UInt8.toNat x4 : Int)))).tmod 251, w64 (x2 + 1), rfl, (Keep.of hB1).below, hC1, hL1⟩
   replace hL1 := ite_f hL1 hc1
   refine W_exit ?_
   refine nrm_exit ?_
   refine nrm_exit ?_
   refine blk_exit ?_
   have hq1 := Option.some.inj hL1
   subst hq1
   refine nrm_sub (l' := [(3, (.int .i64 x1))]) ⟨rfl, trivial⟩ ?_
   exact ⟨x1, rfl, rfl, (Keep.of hB1).below, hC1⟩
 rintro l2 _ w2 hs2 ⟨x3, rfl, rfl, hB2, hC2⟩
 try dsimp only at hF
 refine nrm_sub' hs2 ?_
 clear hs2
 refine W_seq_reg ?_
 refine WL_move rfl rfl ?_
 refine WL_assign rfl rfl ?_
 refine WL_nil ?_
 refine W_ret ?_
 have hq2 := Option.some.inj hF
 subst hq2
 refine fn_ret1 rfl rfl ?_
 exact ⟨_, rfl, int_res hC2 _⟩

theorem c_M_DecodeVarint {w0 : World} (a1 : Str) (rr : (Int × Int)) (hF : M.DecodeVarint a1 = some rr) :
 Calls Try.prog 19 [(sv a1)].toArray w0 fun e w' => ∃ v, e = .returned v ∧ Res2 w0 rr.1 rr.2 v w' := by
 refine calls_of_W Try.func19 rfl rfl ?_
 have hC0 := Ctx.start w0
 unfold M.DecodeVarint at hF
 refine W_seq_reg ?_
 refine WL_assign rfl rfl ?_
 refine WL_assign rfl rfl ?_
 refine WL_nil ?_
 refine W_seq_reg ?_
 refine WL_assign rfl rfl ?_
 refine WL_nil ?_
 refine W_seq ?_
 refine W_seq_reg ?_
 refine WL_move rfl rfl ?_
 refine WL_len_str Try.underlying9 rfl rfl ?_
 refine WL_min rfl rfl rfl ?_
 refine WL_move rfl rfl ?_
 refine WL_nil ?_
 obtain ⟨r1, hr1, hF⟩ := bind_some hF
 refine W_norm (fun l w => .inl () = r1 ∧ l = [] ∧ Below w0.heap.size w0 w ∧ Ctx [] w0 w []) ?_ ?_
 ·refine W_block ?_
  refine W.sub (l' := [(0, (sv a1)), (4, (.int .i64 0)), (8, (.int .i64 (if (List.length a1 : Int) < 7 then (List.length a1 : Int) else 7))), (9, (.int .i64 0))]) ?_ ⟨rfl, rfl, rfl, rfl, trivial⟩
  refine W_loop (fun k l w => ∃ x1 : Int, ∃ x2 : Int, l = [(0, (sv a1)), (4, (.int .i64 x1)), (8, (.int .i64 (if (List.length a1 : Int) < 7 then (List.length a1 : Int) else 7))), (9, (.int .i64 x2))] ∧ Below w0.heap.size w0 w ∧ Ctx [] w0 w [] ∧ M.DecodeVarint_l1 a1 k x1 x2 = some r1) FUEL ⟨0, 0, rfl, (Below.refl _ _), hC0, hr1⟩ ?_
  clear hr1
  rintro k1 _ w1 ⟨x1, x2, rfl, hB1, hC1, hL1⟩
  cases k1 with
  | zero => rw [M.DecodeVarint_l1] at hL1; cases hL1
  | succ k1 =>
   rw [M.DecodeVarint_l1] at hL1
   refine W_seq_reg ?_
   refine WL_lss rfl rfl rfl ?_
   refine WL_nil ?_
   refine W_seq ?_
   refine W_cond rfl (fun hc1 => ?_) (fun hc1 => ?_)
   ·replace hL1 := ite_t hL1 hc1
    refine W_skip ?_
    refine nrm_normal ?_
    refine W_seq ?_
    refine W_block ?_
    refine W_seq_reg ?_
    refine WL_move rfl rfl ?_
    refine WL_assign rfl rfl ?_
    refine WL_nil ?_
    refine W_seq_reg ?_
    refine WL_move rfl rfl ?_
    refine WL_move rfl rfl ?_
    refine WL_move rfl rfl ?_
    obtain ⟨x3, hx1, hL1⟩ := bind_some hL1
    refine WL_index_str Try.underlying9 hx1 rfl rfl rfl ?_
    refine WL_band8 rfl rfl rfl ?_
    refine WL_conv_i64 Try.underlying5 Try.underlying3 rfl rfl ?_
    refine WL_move rfl rfl ?_
    refine WL_mul rfl rfl rfl ?_
    obtain ⟨_, hx2, hL1⟩ := bind_some hL1
    refine WL_shl (nn_some hx2) rfl rfl rfl ?_
    refine WL_bor rfl rfl rfl ?_
    refine WL_assign rfl rfl ?_
    refine WL_nil ?_
    refine W_seq ?_
    refine W_seq_reg ?_
    refine WL_move rfl rfl ?_
    refine WL_move rfl rfl ?_
    obtain ⟨x4, hx3, hL1⟩ := bind_some hL1
    refine WL_index_str Try.underlying9 hx3 rfl rfl rfl ?_
    refine WL_geq rfl rfl rfl ?_
    refine WL_nil ?_
    refine W_cond rfl (fun hc2 => ?_) (fun hc2 => ?_)
    ·replace hL1 := ite_t hL1 hc2
     refine W_exit ?_
     refine nrm_exit ?_
     refine blk_exit ?_
     refine nrm_normal ?_
     refine W_reg ?_
     refine WL_add rfl rfl rfl ?_
     refine WL_move rfl rfl ?_
     refine WL_nil ?_
     refine nrm_sub (l' := [(0, (sv a1)), (4, (.int .i64 (bor x1 (shl (w64 (band8 (UInt8.toNat x3 : Int) 127)) (w64 (7 * x2)))))), (8, (.int .i64 (if (List.length a1 : Int) < 7 then (List.length a1 : Int) else 7))), (9, (.int .i64 (w64 (x2 + 1))))]) ⟨rfl, rfl, rfl, rfl, trivial⟩ ?_
     exact ⟨k1, Nat.lt_succ_self _, bor x1 (shl (w64 (band8 (UInt8.toNat x3 : Int) 127)) (w64 (7 * x2))), w64 (x2 + 1), rfl, (Keep.of hB1).below, hC1, hL1⟩
    replace hL1 := ite_f hL1 hc2
    refine W_skip ?_
    refine nrm_normal ?_
    refine W_seq ?_
    obtain ⟨r2, hr2, hL1⟩ := bind_some hL1
    refine W_cut (fun l w => ∃ x5 : Bool, x5 = r2 ∧ l = [(4, (.int .i64 (bor x1 (shl (w64 (band8 (UInt8.toNat x3 : Int) 127)) (w64 (7 * x2)))))), (5, (.int .i64 x2)), (33, (.bool x5))] ∧ Below w1.heap.size w1 w ∧ Ctx [] w0 w []) ?_ ?_
    ·refine W_reg ?_
     refine WL_move rfl rfl ?_
     refine WL_gtr rfl rfl rfl ?_
     refine WL_move rfl rfl ?_
     refine WL_fork (fun hc3 => ?_) (fun hc3 => ?_)
     ·replace hr2 := ite_t hr2 hc3
      refine WL_guard rfl rfl ?_
      refine WL_move rfl rfl ?_
      refine WL_guard rfl rfl ?_
      refine WL_move rfl rfl ?_
      obtain ⟨x6, hx4, hr2⟩ := bind_some hr2
      refine WL_guard rfl rfl ?_
      refine WL_index_str Try.underlying9 hx4 rfl rfl rfl ?_
      refine WL_guard rfl rfl ?_
      refine WL_eql rfl rfl rfl ?_
      refine WL_pick_t rfl rfl rfl ?_
      refine WL_nil ?_
      have hq1 := Option.some.inj hr2
      subst hq1
      refine nrm_sub (l' := [(4, (.int .i64 (bor x1 (shl (w64 (band8 (UInt8.toNat x3 : Int) 127)) (w64 (7 * x2)))))), (5, (.int .i64 x2)), (33, (.bool (decide ((UInt8.toNat x6 : Int) = 0))))]) ⟨rfl, rfl, rfl, trivial⟩ ?_
      exact ⟨(decide ((UInt8.toNat x6 : Int) = 0)), rfl, rfl, (Below.refl _ _), hC1⟩
     replace hr2 := ite_f hr2 hc3
     refine WL_guard_skip rfl rfl (by simp) rfl ?_
     refine WL_guard_skip rfl rfl (by simp) rfl ?_
     refine WL_guard_skip rfl rfl (by simp) rfl ?_
     refine WL_guard_skip rfl rfl (by simp) rfl ?_
     refine WL_pick_f rfl rfl rfl ?_
     refine WL_nil ?_
     have hq2 := Option.some.inj hr2
     subst hq2
     refine nrm_sub (l' := [(4, (.int .i64 (bor x1 (shl (w64 (band8 (UInt8.toNat x3 : Int) 127)) (w64 (7 * x2)))))), (5, (.int .i64 x2)), (33, (.bool false))]) ⟨rfl, rfl, rfl, trivial⟩ ?_
     exact ⟨false, rfl, rfl, (Below.refl _ _), hC1⟩
    rintro _ w2 ⟨x5, rfl, rfl, hB2, hC2⟩
    try dsimp only at hL1
    refine W_cond rfl (fun hc4 => ?_) (fun hc4 => ?_)
    ·replace hL1 := ite_t hL1 hc4
     refine W_seq_reg ?_
     refine WL_assign rfl rfl ?_
     refine WL_assign rfl rfl ?_
     refine WL_nil ?_
     refine W_ret ?_
     refine nrm_ret ?_
     refine blk_ret ?_
     refine nrm_ret ?_
     refine nrm_ret ?_
     refine blk_ret ?_
     refine nrm_ret ?_
     refine nrm_ret ?_
     have hq3 := Option.some.inj hL1
     subst hq3
     dsimp only at hF
     have hq4 := Option.some.inj hF
     subst hq4
     refine fn_ret2 rfl rfl rfl ?_
     have hC3 := hC2.triv (int_val (0))
     have hC4 := hC3.triv (int_val (0))
     exact ⟨_, rfl, res2_of hC4⟩
    replace hL1 := ite_f hL1 hc4
    refine W_skip ?_
    refine nrm_normal ?_
    refine W_seq_reg ?_
    refine WL_move rfl rfl ?_
    refine WL_move rfl rfl ?_
    refine WL_add rfl rfl rfl ?_
    refine WL_assign rfl rfl ?_
    refine WL_assign rfl rfl ?_
    refine WL_nil ?_
    refine W_ret ?_
    refine blk_ret ?_
    refine nrm_ret ?_
    refine nrm_ret ?_
    refine blk_ret ?_
    refine nrm_ret ?_
    refine nrm_ret ?_
    have hq5 := Option.some.inj hL1
    subst hq5
    dsimp only at hF
    have hq6 := Option.some.inj hF
    subst hq6
    refine fn_ret2 rfl rfl rfl ?_
    have hC5 := hC2.triv (int_val (w64 (x2 + 1)))
    have hC6 := hC5.triv (int_val (bor x1 (shl (w64 (band8 (UInt8.toNat x3 : Int) 127)) (w64 (7 * x2)))))
    exact ⟨_, rfl, res2_of hC6⟩
   replace hL1 := ite_f hL1 hc1
   refine W_exit ?_
   refine nrm_exit ?_
   refine nrm_exit ?_
   refine blk_exit ?_
   have hq7 := Option.some.inj hL1
   subst hq7
   refine nrm_sub (l' := []) trivial ?_
   exact ⟨rfl, rfl, (Keep.of hB1).below, hC1⟩
 rintro l3 _ w3 hs3 ⟨rfl, rfl, hB3, hC7⟩
 try dsimp only at hF
 refine nrm_sub' hs3 ?_
 clear hs3
 refine W_seq_reg ?_
 refine WL_assign rfl rfl ?_
 refine WL_assign rfl rfl ?_
 refine WL_nil ?_
 refine W_ret ?_
 have hq8 := Option.some.inj hF
 subst hq8
 refine fn_ret2 rfl rfl rfl ?_
 have hC8 := hC7.triv (int_val (0))
 have hC9 := hC8.triv (int_val (0))
 exact ⟨_, rfl, res2_of hC9⟩

theorem c_M_isOpenLength {w0 : World} (a1 : Str) (rr : Bool) (hF : M.isOpenLength a1 = some rr) :
 Calls Try.prog 20 [(sv a1)].toArray w0 fun e w' => ∃ v, e = .returned v ∧ Res w0 rr v w' := by
 refine calls_of_W Try.func20 rfl rfl ?_
 have hC0 := Ctx.start w0
 unfold M.isOpenLength at hF
 refine W_seq_reg ?_
 refine WL_assign rfl rfl ?_
 refine WL_nil ?_
 refine W_seq ?_
 refine W_seq_reg ?_
 refine WL_move rfl rfl ?_
 refine WL_len_str Try.underlying9 rfl rfl ?_
 refine WL_move rfl rfl ?_
 refine WL_nil ?_
 obtain ⟨r1, hr1, hF⟩ := bind_some hF
 refine W_norm (fun l w => .inl () = r1 ∧ l = [(0, (sv a1))] ∧ Below w0.heap.size w0 w ∧ Ctx [] w0 w []) ?_ ?_
 ·refine W_block ?_
  refine W.sub (l' := [(0, (sv a1)), (5, (.int .i64 (List.length a1 : Int))), (6, (.int .i64 0))]) ?_ ⟨rfl, rfl, rfl, trivial⟩
  refine W_loop (fun k l w => ∃ x1 : Int, l = [(0, (sv a1)), (5, (.int .i64 (List.length a1 : Int))), (6, (.int .i64 x1))] ∧ Below w0.heap.size w0 w ∧ Ctx [] w0 w [] ∧ M.isOpenLength_l1 a1 k x1 = some r1) FUEL ⟨0, rfl, (Below.refl _ _), hC0, hr1⟩ ?_
  clear hr1
  rintro k1 _ w1 ⟨x1, rfl, hB1, hC1, hL1⟩
  cases k1 with
  | zero => rw [M.isOpenLength_l1] at hL1; cases hL1
  | succ k1 =>
   rw [M.isOpenLength_l1] at hL1
   refine W_seq_reg ?_
   refine WL_lss rfl rfl rfl ?_
   refine WL_nil ?_
   refine W_seq ?_
   refine W_cond rfl (fun hc1 => ?_) (fun hc1 => ?_)
   ·replace hL1 := ite_t hL1 hc1
    refine W_skip ?_
    refine nrm_normal ?_
    refine W_seq ?_
    refine W_block ?_
    refine W_seq_reg ?_
    refine WL_move rfl rfl ?_
    refine WL_assign rfl rfl ?_
    refine WL_nil ?_
    refine W_seq_reg ?_
    refine WL_move rfl rfl ?_
    refine WL_move rfl rfl ?_
    obtain ⟨x2, hx1, hL1⟩ := bind_some hL1
    refine WL_index_str Try.underlying9 hx1 rfl rfl rfl ?_
    refine WL_lss rfl rfl rfl ?_
    refine WL_nil ?_
    refine W_cond rfl (fun hc2 => ?_) (fun hc2 => ?_)
    ·replace hL1 := ite_t hL1 hc2
     refine W_seq_reg ?_
     refine WL_assign rfl rfl ?_
     refine WL_nil ?_
     refine W_ret ?_
     refine blk_ret ?_
     refine nrm_ret ?_
     refine nrm_ret ?_
     refine blk_ret ?_
     refine nrm_ret ?_
     refine nrm_ret ?_
     have hq1 := Option.some.inj hL1
     subst hq1
     dsimp only at hF
     have hq2 := Option.some.inj hF
     subst hq2
     refine fn_ret1 rfl rfl ?_
     exact ⟨_, rfl, bool_res hC1 _⟩
    replace hL1 := ite_f hL1 hc2
    refine W_skip ?_
    refine blk_normal ?_
    refine nrm_normal ?_
    refine W_reg ?_
    refine WL_add rfl rfl rfl ?_
    refine WL_move rfl rfl ?_
    refine WL_nil ?_
    refine nrm_sub (l' := [(0, (sv a1)), (5, (.int .i64 (List.length a1 : Int))), (6, (.int .i64 (w64 (x1 + 1))))]) ⟨rfl, rfl, rfl, trivial⟩ ?_
    exact ⟨k1, Nat.lt_succ_self _, w64 (x1 + 1), rfl, (Keep.of hB1).below, hC1, hL1⟩
   replace hL1 := ite_f hL1 hc1
   refine W_exit ?_
   refine nrm_exit ?_
   refine nrm_exit ?_
   refine blk_exit ?_
   have hq3 := Option.some.inj hL1
   subst hq3
   refine nrm_sub (l' := [(0, (sv a1))]) ⟨rfl, trivial⟩ ?_
   exact ⟨rfl, rfl, (Keep.of hB1).below, hC1⟩
 rintro l2 _ w2 hs2 ⟨rfl, rfl, hB2, hC2⟩
 try dsimp only at hF
 refine nrm_sub' hs2 ?_
 clear hs2
 refine W_seq_reg ?_
 refine WL_move rfl rfl ?_
 refine WL_len_str Try.underlying9 rfl rfl ?_
 refine WL_leq rfl rfl rfl ?_
 refine WL_assign rfl rfl ?_
 refine WL_nil ?_
 refine W_ret ?_
 have hq4 := Option.some.inj hF
 subst hq4
 refine fn_ret1 rfl rfl ?_
 exact ⟨_, rfl, bool_res hC2 _⟩

theorem c_M_SplitFrames {w0 : World} (a1 : Str) (rr : ((List Str) × Str × Bool)) (hF : M.SplitFrames a1 = some rr) :
 Calls Try.prog 6 [(sv a1)].toArray w0 fun e w' => ∃ v, e = .returned v ∧ Res3 w0 rr.1 rr.2.1 rr.2.2 v w' := by
 refine calls_of_W Try.func6 rfl rfl ?_
 have hC0 := Ctx.start w0
 unfold M.SplitFrames at hF
 refine W_seq_reg ?_
 refine WL_assign rfl rfl ?_
 refine WL_assign rfl rfl ?_
 refine WL_assign rfl rfl ?_
 refine WL_nil ?_
 refine W_seq_reg ?_
 refine WL_buildSlice (vs := []) hC0 Try.underlying25 ty9 rfl rfl rfl rfl (by simp) rfl rfl (fun b1 w1 hC1 hB1 => ?_)
 have hC2 := hC1.row0 (α := Str)
 have hC3 := hC2.front 1 rfl
 dsimp only [List.eraseIdx, List.cons_append, List.nil_append, List.append_nil] at hC3
 have hC4 : Ctx [] w0 w1 (Item.own (.slice (some ⟨b1, 0, none⟩) 0 0) (([] : List Str) : List Str) :: []) := hC3.rowOwn (by simp [maxLen])
 refine WL_assign rfl rfl ?_
 refine WL_nil ?_
 refine W_seq ?_
 obtain ⟨r1, hr1, hF⟩ := bind_some hF
 refine W_norm (fun l w => ∃ x3 : Str, ∃ v2 : Value, ∃ x4 : (List Str), .inl (x3, x4) = r1 ∧ l = [(0, (sv x3)), (5, v2)] ∧ Ctx [] w0 w [Item.own v2 (x4 : (List Str))]) ?_ ?_
 ·refine W_block ?_
  refine W.sub (l' := [(0, (sv a1)), (5, (.slice (some ⟨b1, 0, none⟩) 0 0))]) ?_ ⟨rfl, rfl, trivial⟩
  refine W_loop (fun k l w => ∃ x1 : Str, ∃ v1 : Value, ∃ x2 : (List Str), l = [(0, (sv x1)), (5, v1)] ∧ Ctx [] w0 w [Item.own v1 (x2 : (List Str))] ∧ M.SplitFrames_l1 k x1 x2 = some r1) FUEL ⟨a1, (.slice (some ⟨b1, 0, none⟩) 0 0), ([] : List Str), rfl, hC4, hr1⟩ ?_
  clear hr1
  rintro k1 _ w2 ⟨x1, v1, x2, rfl, hC5, hL1⟩
  cases k1 with
  | zero => rw [M.SplitFrames_l1] at hL1; cases hL1
  | succ k1 =>
   rw [M.SplitFrames_l1] at hL1
   refine W_seq ?_
   refine W_seq_reg ?_
   refine WL_move rfl rfl ?_
   refine WL_str_neq rfl rfl rfl ?_
   refine WL_nil ?_
   refine W_cond rfl (fun hc1 => ?_) (fun hc1 => ?_)
   ·replace hL1 := ite_t hL1 hc1
    refine W_skip ?_
    refine nrm_normal ?_
    refine W_block ?_
    refine W_seq_reg ?_
    refine WL_move rfl rfl ?_
    obtain ⟨x5, hr2, hL1⟩ := bind_some hL1
    refine WL_call Try.call19 rfl rfl (c_M_DecodeVarint x1 x5 hr2) ?_
    rintro _ w3 ⟨hB3, v3, v4, F1, F2, rfl, hv1, hv2, hn1, hb1⟩
    obtain ⟨rfl, rfl⟩ := val_int hv1
    obtain ⟨rfl, rfl⟩ := val_int hv2
    have hC6 := hC5.grow hB3
    refine WL_move rfl rfl ?_
    refine WL_extract rfl rfl rfl ?_
    refine WL_extract rfl rfl rfl ?_
    refine WL_assign rfl rfl ?_
    refine WL_assign rfl rfl ?_
    refine WL_nil ?_
    refine W_seq ?_
    refine W_block ?_
    refine W_seq_reg ?_
    refine WL_move rfl rfl ?_
    refine WL_eql rfl rfl rfl ?_
    refine WL_assign rfl rfl ?_
    refine WL_nil ?_
    refine W_cond rfl (fun hc2 => ?_) (fun hc2 => ?_)
    ·replace hL1 := ite_t hL1 hc2
     refine W_seq_reg ?_
     refine WL_move rfl rfl ?_
     refine WL_move rfl rfl ?_
     refine WL_move rfl rfl ?_
     obtain ⟨x6, hr3, hL1⟩ := bind_some hL1
     refine WL_call Try.call20 rfl rfl (c_M_isOpenLength x1 x6 hr3) ?_
     intro _ w4 hv3
     obtain ⟨rfl, hB4⟩ := res_bool hv3
     have hC7 := hC6.grow hB4
     refine WL_assign rfl rfl ?_
     refine WL_assign rfl rfl ?_
     refine WL_assign rfl rfl ?_
     refine WL_nil ?_
     refine W_ret ?_
     refine blk_ret ?_
     refine nrm_ret ?_
     refine blk_ret ?_
     refine nrm_ret ?_
     refine blk_ret ?_
     refine nrm_ret ?_
     refine nrm_ret ?_
     have hq1 := Option.some.inj hL1
     subst hq1
     dsimp only at hF
     have hq2 := Option.some.inj hF
     subst hq2
     refine fn_ret3 rfl rfl rfl rfl ?_
     have hC8 := hC7.triv (bool_val (x6))
     have hC9 := hC8.triv (str_val (x1))
     have hC10 := hC9.f2
     exact ⟨_, rfl, res3_of hC10⟩
    replace hL1 := ite_f hL1 hc2
    refine W_seq_reg ?_
    refine WL_move rfl rfl ?_
    refine WL_gtr rfl rfl rfl ?_
    refine WL_assign rfl rfl ?_
    refine WL_nil ?_
    refine W_cond rfl (fun hc3 => ?_) (fun hc3 => ?_)
    ·replace hL1 := ite_t hL1 hc3
     refine W_seq_reg ?_
     refine WL_move rfl rfl ?_
     refine WL_move rfl rfl ?_
     refine WL_assign rfl rfl ?_
     refine WL_assign rfl rfl ?_
     refine WL_assign rfl rfl ?_
     refine WL_nil ?_
     refine W_ret ?_
     refine blk_ret ?_
     refine nrm_ret ?_
     refine blk_ret ?_
     refine nrm_ret ?_
     refine blk_ret ?_
     refine nrm_ret ?_
     refine nrm_ret ?_
     have hq3 := Option.some.inj hL1
     subst hq3
     dsimp only at hF
     have hq4 := Option.some.inj hF
     subst hq4
     refine fn_ret3 rfl rfl rfl rfl ?_
     have hC11 := hC6.triv (bool_val (false))
     have hC12 := hC11.triv (str_val (x1))
     have hC13 := hC12.f2
     exact ⟨_, rfl, res3_of hC13⟩
    replace hL1 := ite_f hL1 hc3
    refine W_seq_reg ?_
    refine WL_move rfl rfl ?_
    refine WL_len_str Try.underlying9 rfl rfl ?_
    refine WL_move rfl rfl ?_
    refine WL_move rfl rfl ?_
    refine WL_add rfl rfl rfl ?_
    refine WL_add rfl rfl rfl ?_
    refine WL_lss rfl rfl rfl ?_
    refine WL_assign rfl rfl ?_
    refine WL_nil ?_
    refine W_cond rfl (fun hc4 => ?_) (fun hc4 => ?_)
    ·replace hL1 := ite_t hL1 hc4
     refine W_seq_reg ?_
     refine WL_move rfl rfl ?_
     refine WL_move rfl rfl ?_
     refine WL_assign rfl rfl ?_
     refine WL_assign rfl rfl ?_
     refine WL_assign rfl rfl ?_
     refine WL_nil ?_
     refine W_ret ?_
     refine blk_ret ?_
     refine nrm_ret ?_
     refine blk_ret ?_
     refine nrm_ret ?_
     refine blk_ret ?_
     refine nrm_ret ?_
     refine nrm_ret ?_
     have hq5 := Option.some.inj hL1
     subst hq5
     dsimp only at hF
     have hq6 := Option.some.inj hF
     subst hq6
     refine fn_ret3 rfl rfl rfl rfl ?_
     have hC14 := hC6.triv (bool_val (true))
     have hC15 := hC14.triv (str_val (x1))
     have hC16 := hC15.f2
     exact ⟨_, rfl, res3_of hC16⟩
    replace hL1 := ite_f hL1 hc4
    refine W_skip ?_
    refine blk_normal ?_
    refine nrm_normal ?_
    refine W_seq_reg ?_
    refine WL_move rfl rfl ?_
    refine WL_move rfl rfl ?_
    refine WL_move rfl rfl ?_
    refine WL_move rfl rfl ?_
    refine WL_add rfl rfl rfl ?_
    obtain ⟨x7, hx1, hL1⟩ := bind_some hL1
    refine WL_slice_str_lh Try.underlying9 hx1 rfl rfl rfl rfl ?_
    refine WL_assign rfl rfl ?_
    refine WL_nil ?_
    refine W_seq ?_
    refine W_seq ?_
    refine W_drawn 9 rfl hmix (fun w5 hB5 => ?_)
    have hC17 := hC6.grow hB5
    refine WA_tk 0 (by kernel_rfl) rfl rfl (fl_move rfl) ?_
    refine WL_move rfl rfl ?_
    refine WL_nil ?_
    refine WA_tk 1 (by kernel_rfl) rfl rfl (fl_move rfl) ?_
    refine WL_move rfl rfl ?_
    refine WL_nil ?_
    refine WA_tk 2 (by kernel_rfl) rfl rfl (fl_move rfl) ?_
    refine WL_move rfl rfl ?_
    refine WL_nil ?_
    refine WA_tk 3 (by kernel_rfl) rfl rfl (fl_add rfl rfl) ?_
    refine WL_add rfl rfl rfl ?_
    refine WL_nil ?_
    obtain ⟨x8, hx2, hL1⟩ := bind_some hL1
    refine WA_tk 4 (by kernel_rfl) rfl rfl (fl_index_str Try.underlying9 hx2 rfl rfl) ?_
    refine WL_index_str Try.underlying9 hx2 rfl rfl rfl ?_
    refine WL_nil ?_
    refine WA_tk 5 (by kernel_rfl) rfl rfl (fl_conv_int Try.underlying5 Try.underlying3 rfl) ?_
    refine WL_conv_i64 Try.underlying5 Try.underlying3 rfl rfl ?_
    refine WL_nil ?_
    refine WA_tk 6 (by kernel_rfl) rfl rfl (fl_move rfl) ?_
    refine WL_move rfl rfl ?_
    refine WL_nil ?_
    obtain ⟨x9, hr4, hL1⟩ := bind_some hL1
    refine WA_one 7 (by kernel_rfl) rfl ?_
    refine WL_call Try.call12 rfl rfl (c_M_CheckByte x7 x9 hr4) ?_
    intro _ w6 hv4
    obtain ⟨rfl, hB6⟩ := res_int hv4
    have hC18 := hC17.grow hB6
    refine WL_nil ?_
    refine WA_tk 8 (by kernel_rfl) rfl rfl (fl_neq rfl rfl) ?_
    refine WL_neq rfl rfl rfl ?_
    refine WL_nil ?_
    refine WA_done (by kernel_rfl) ?_
    refine nrm_normal ?_
    refine W_cond rfl (fun hc5 => ?_) (fun hc5 => ?_)
    ·replace hL1 := ite_t hL1 hc5
     refine W_seq_reg ?_
     refine WL_move rfl rfl ?_
     refine WL_move rfl rfl ?_
     refine WL_assign rfl rfl ?_
     refine WL_assign rfl rfl ?_
     refine WL_assign rfl rfl ?_
     refine WL_nil ?_
     refine W_ret ?_
     refine nrm_ret ?_
     refine blk_ret ?_
     refine nrm_ret ?_
     refine blk_ret ?_
     refine nrm_ret ?_
     refine nrm_ret ?_
     have hq7 := Option.some.inj hL1
     subst hq7
     dsimp only at hF
     have hq8 := Option.some.inj hF
     subst hq8
     refine fn_ret3 rfl rfl rfl rfl ?_
     have hC19 := hC18.triv (bool_val (false))
     have hC20 := hC19.triv (str_val (x1))
     have hC21 := hC20.f2
     exact ⟨_, rfl, res3_of hC21⟩
    replace hL1 := ite_f hL1 hc5
    refine W_skip ?_
    refine nrm_normal ?_
    refine W_seq_reg ?_
    refine WL_move rfl rfl ?_
    refine WL_move rfl rfl ?_
    refine WL_buildSlice (vs := [(sv x7)]) hC18 Try.underlying25 ty9 rfl rfl rfl rfl (by intro v hv; simp only [List.mem_cons, List.not_mem_nil, or_false] at hv; rcases hv with rfl <;> rfl) rfl rfl (fun b2 w7 hC22 hB7 => ?_)
    have hC23 := hC22.row0 (α := Str)
    have hC24 := hC23.triv (str_val (x7))
    have hC25 := hC24.row1
    have hC26 := hC25.front 1 rfl
    dsimp only [List.eraseIdx, List.cons_append, List.nil_append, List.append_nil] at hC26
    have hC27 : Ctx [] w0 w7 (Item.own (.slice (some ⟨b2, 0, none⟩) 1 1) ([x7] : List Str) :: [Item.own v1 (x2 : (List Str))]) := hC26.rowOwn (by simp [maxLen])
    obtain ⟨x10, hx3, hL1⟩ := bind_some hL1
    refine WL_append_flat (α := Str) hC27 1 rfl (hC27.ro 0 rfl) (Keep.refl _ _) Try.underlying25 ty9 rfl hx3 rfl rfl rfl (fun v5 w9 hC28 => ?_)
    try dsimp only [List.set] at hC28
    refine WL_assign rfl rfl ?_
    refine WL_nil ?_
    refine W_reg ?_
    refine WL_move rfl rfl ?_
    refine WL_move rfl rfl ?_
    refine WL_move rfl rfl ?_
    refine WL_add rfl rfl rfl ?_
    refine WL_add rfl rfl rfl ?_
    obtain ⟨x11, hx4, hL1⟩ := bind_some hL1
    refine WL_slice_str_l Try.underlying9 hx4 rfl rfl rfl ?_
    refine WL_assign rfl rfl ?_
    refine WL_nil ?_
    refine blk_normal ?_
    have hC29 := hC28.f1
    have hC30 := hC29.h1
    refine nrm_sub (l' := [(0, (sv x11)), (5, v5)]) ⟨rfl, rfl, trivial⟩ ?_
    exact ⟨k1, Nat.lt_succ_self _, x11, v5, x10, rfl, hC30, hL1⟩
   replace hL1 := ite_f hL1 hc1
   refine W_exit ?_
   refine nrm_exit ?_
   refine nrm_exit ?_
   refine blk_exit ?_
   have hq9 := Option.some.inj hL1
   subst hq9
   refine nrm_sub (l' := [(0, (sv x1)), (5, v1)]) ⟨rfl, rfl, trivial⟩ ?_
   exact ⟨x1, v1, x2, rfl, rfl, hC5⟩
 rintro l2 _ w10 hs2 ⟨x3, v2, x4, rfl, rfl, hC31⟩
 try dsimp only at hF
 refine nrm_sub' hs2 ?_
 clear hs2
 refine W_seq_reg ?_
 refine WL_move rfl rfl ?_
 refine WL_move rfl rfl ?_
 refine WL_assign rfl rfl ?_
 refine WL_assign rfl rfl ?_
 refine WL_assign rfl rfl ?_
 refine WL_nil ?_
 refine W_ret ?_
 have hq10 := Option.some.inj hF
 subst hq10
 refine fn_ret3 rfl rfl rfl rfl ?_
 have hC32 := hC31.triv (bool_val (true))
 have hC33 := hC32.triv (str_val (x3))
 have hC34 := hC33.f2
 exact ⟨_, rfl, res3_of hC34⟩

theorem c_S_DecodeVarint {w0 : World} (a1 : Str) (rr : (Int × Int)) (hF : S.DecodeVarint a1 = some rr) :
 Calls Try.prog 21 [(sv a1)].toArray w0 fun e w' => ∃ v, e = .returned v ∧ Res2 w0 rr.1 rr.2 v w' := by
 refine calls_of_W Try.func21 rfl rfl ?_
 have hC0 := Ctx.start w0
 unfold S.DecodeVarint at hF
 refine W_seq_reg ?_
 refine WL_assign rfl rfl ?_
 refine WL_assign rfl rfl ?_
 refine WL_nil ?_
 refine W_seq ?_
 refine W_seq_reg ?_
 refine WL_assign rfl rfl ?_
 refine WL_nil ?_
 obtain ⟨r1, hr1, hF⟩ := bind_some hF
 refine W_norm (fun l w => .inl () = r1 ∧ l = [] ∧ Below w0.heap.size w0 w ∧ Ctx [] w0 w []) ?_ ?_
 ·refine W_block ?_
  refine W.sub (l' := [(0, (sv a1)), (4, (.int .i64 1))]) ?_ ⟨rfl, rfl, trivial⟩
  refine W_loop (fun k l w => ∃ x1 : Int, l = [(0, (sv a1)), (4, (.int .i64 x1))] ∧ Below w0.heap.size w0 w ∧ Ctx [] w0 w [] ∧ S.DecodeVarint_l1 a1 k x1 = some r1) FUEL ⟨1, rfl, (Below.refl _ _), hC0, hr1⟩ ?_
  clear hr1
  rintro k1 _ w1 ⟨x1, rfl, hB1, hC1, hL1⟩
  cases k1 with
  | zero => rw [S.DecodeVarint_l1] at hL1; cases hL1
  | succ k1 =>
   rw [S.DecodeVarint_l1] at hL1
   refine W_seq ?_
   obtain ⟨r2, hr2, hL1⟩ := bind_some hL1
   refine W_cut (fun l w => ∃ x2 : Bool, x2 = r2 ∧ l = [(0, (sv a1)), (4, (.int .i64 x1)), (14, (.bool x2))] ∧ Below w1.heap.size w1 w ∧ Ctx [] w0 w []) ?_ ?_
   ·refine W_reg ?_
    refine WL_move rfl rfl ?_
    refine WL_leq rfl rfl rfl ?_
    refine WL_move rfl rfl ?_
    refine WL_fork (fun hc1 => ?_) (fun hc1 => ?_)
    ·replace hr2 := ite_t hr2 hc1
     refine WL_guard rfl rfl ?_
     refine WL_move rfl rfl ?_
     refine WL_guard rfl rfl ?_
     refine WL_move rfl rfl ?_
     refine WL_guard rfl rfl ?_
     refine WL_len_str Try.underlying9 rfl rfl ?_
     refine WL_guard rfl rfl ?_
     refine WL_leq rfl rfl rfl ?_
     refine WL_pick_t rfl rfl rfl ?_
     refine WL_nil ?_
     have hq1 := Option.some.inj hr2
     subst hq1
     refine nrm_sub (l' := [(0, (sv a1)), (4, (.int .i64 x1)), (14, (.bool (decide (x1 ≤ (List.length a1 : Int)))))]) ⟨rfl, rfl, rfl, trivial⟩ ?_
     exact ⟨(decide (x1 ≤ (List.length a1 : Int))), rfl, rfl, (Below.refl _ _), hC1⟩
    replace hr2 := ite_f hr2 hc1
    refine WL_guard_skip rfl rfl (by simp) rfl ?_
    refine WL_guard_skip rfl rfl (by simp) rfl ?_
    refine WL_guard_skip rfl rfl (by simp) rfl ?_
    refine WL_guard_skip rfl rfl (by simp) rfl ?_
    refine WL_pick_f rfl rfl rfl ?_
    refine WL_nil ?_
    have hq2 := Option.some.inj hr2
    subst hq2
    refine nrm_sub (l' := [(0, (sv a1)), (4, (.int .i64 x1)), (14, (.bool false))]) ⟨rfl, rfl, rfl, trivial⟩ ?_
    exact ⟨false, rfl, rfl, (Below.refl _ _), hC1⟩
   rintro _ w2 ⟨x2, rfl, rfl, hB2, hC2⟩
   try dsimp only at hL1
   refine W_cond rfl (fun hc2 => ?_) (fun hc2 => ?_)
   ·replace hL1 := ite_t hL1 hc2
    refine W_skip ?_
    refine nrm_normal ?_
    refine W_seq ?_
    refine W_block ?_
    refine W_seq_reg ?_
    refine WL_assign rfl rfl ?_
    refine WL_nil ?_
    refine W_seq ?_
    refine W_seq_reg ?_
    refine WL_move rfl rfl ?_
    refine WL_sub rfl rfl rfl ?_
    refine WL_assign rfl rfl ?_
    refine WL_nil ?_
    obtain ⟨r3, hr3, hL1⟩ := bind_some hL1
    refine W_norm (fun l w => ∃ x5 : Int, x5 = r3 ∧ l = [(0, (sv a1)), (4, (.int .i64 x1)), (5, (.int .i64 x5))] ∧ Below w2.heap.size w2 w ∧ Ctx [] w0 w []) ?_ ?_
    ·refine W_block ?_
     refine W.sub (l' := [(0, (sv a1)), (4, (.int .i64 x1)), (5, (.int .i64 0)), (6, (.int .i64 (w64 (x1 - 1))))]) ?_ ⟨rfl, rfl, rfl, rfl, trivial⟩
     refine W_loop (fun k l w => ∃ x3 : Int, ∃ x4 : Int, l = [(0, (sv a1)), (4, (.int .i64 x1)), (5, (.int .i64 x3)), (6, (.int .i64 x4))] ∧ Below w2.heap.size w2 w ∧ Ctx [] w0 w [] ∧ S.DecodeVarint_l2 a1 k x3 x4 = some r3) FUEL ⟨0, w64 (x1 - 1), rfl, (Below.refl _ _), hC2, hr3⟩ ?_
     clear hr3
     rintro k2 _ w3 ⟨x3, x4, rfl, hB3, hC3, hL2⟩
     cases k2 with
     | zero => rw [S.DecodeVarint_l2] at hL2; cases hL2
     | succ k2 =>
      rw [S.DecodeVarint_l2] at hL2
      refine W_seq ?_
      refine W_seq_reg ?_
      refine WL_move rfl rfl ?_
      refine WL_geq rfl rfl rfl ?_
      refine WL_nil ?_
      refine W_cond rfl (fun hc3 => ?_) (fun hc3 => ?_)
      ·replace hL2 := ite_t hL2 hc3
       refine W_skip ?_
       refine nrm_normal ?_
       refine W_seq ?_
       refine W_block ?_
       refine W_reg ?_
       refine WL_move rfl rfl ?_
       refine WL_mul rfl rfl rfl ?_
       refine WL_move rfl rfl ?_
       refine WL_move rfl rfl ?_
       obtain ⟨x6, hx1, hL2⟩ := bind_some hL2
       refine WL_index_str Try.underlying9 hx1 rfl rfl rfl ?_
       refine WL_conv_i64 Try.underlying5 Try.underlying3 rfl rfl ?_
       refine WL_rem (by decide) rfl rfl rfl ?_
       refine WL_add rfl rfl rfl ?_
       refine WL_assign rfl rfl ?_
       refine WL_nil ?_
       refine blk_normal ?_
       refine nrm_normal ?_
       refine W_reg ?_
       refine WL_move rfl rfl ?_
       refine WL_sub rfl rfl rfl ?_
       refine WL_assign rfl rfl ?_
       refine WL_nil ?_
       refine nrm_sub (l' := [(0, (sv a1)), (4, (.int .i64 x1)), (5, (.int .i64 (w64 ((w64 (x3 * 128)) + ((w64 (UInt8.toNat x6 : Int)).tmod 128))))), (6, (.int .i64 (w64 (x4 - 1))))]) ⟨rfl, rfl, rfl, rfl, trivial⟩ ?_
       exact ⟨k2, Nat.lt_succ_self _, w64 ((w64 (x3 * 128)) + ((w64 (UInt8.toNat x6 : Int)).tmod 128)), w64 (x4 - 1), rfl, (Keep.of hB3).below, hC3, hL2⟩
      replace hL2 := ite_f hL2 hc3
      refine W_exit ?_
      refine nrm_exit ?_
      refine nrm_exit ?_
      refine blk_exit ?_
      have hq3 := Option.some.inj hL2
      subst hq3
      refine nrm_sub (l' := [(0, (sv a1)), (4, (.int .i64 x1)), (5, (.int .i64 x3))]) ⟨rfl, rfl, rfl, trivial⟩ ?_
      exact ⟨x3, rfl, rfl, (Keep.of hB3).below, hC3⟩
    rintro l4 _ w4 hs4 ⟨x5, rfl, rfl, hB4, hC4⟩
    try dsimp only at hL1
    refine nrm_sub' hs4 ?_
    clear hs4
    refine W_seq ?_
    refine W_drawn 6 rfl hmix (fun w5 hB5 => ?_)
    have hC5 := hC4.grow hB5
    refine WA_tk 0 (by kernel_rfl) rfl rfl (fl_move rfl) ?_
    refine WL_move rfl rfl ?_
    refine WL_nil ?_
    refine WA_tk 2 (by kernel_rfl) rfl rfl (fl_move rfl) ?_
    refine WL_move rfl rfl ?_
    refine WL_nil ?_
    refine WA_tk 3 (by kernel_rfl) rfl rfl (fl_move rfl) ?_
    refine WL_move rfl rfl ?_
    refine WL_nil ?_
    obtain ⟨x7, hx2, hL1⟩ := bind_some hL1
    refine WA_tk 4 (by kernel_rfl) rfl rfl (fl_slice_str_h Try.underlying9 hx2 rfl rfl) ?_
    refine WL_slice_str_h Try.underlying9 hx2 rfl rfl rfl ?_
    refine WL_nil ?_
    obtain ⟨x8, hr4, hL1⟩ := bind_some hL1
    refine WA_one 1 (by kernel_rfl) rfl ?_
    refine WL_call Try.call26 rfl rfl (c_S_EncodeVarint x5 x8 hr4) ?_
    intro _ w6 hv1
    obtain ⟨rfl, hB6⟩ := res_str hv1
    have hC6 := hC5.grow hB6
    refine WL_nil ?_
    refine WA_tk 5 (by kernel_rfl) rfl rfl (fl_str_eql rfl rfl) ?_
    refine WL_str_eql rfl rfl rfl ?_
    refine WL_nil ?_
    refine WA_done (by kernel_rfl) ?_
    refine nrm_normal ?_
    refine W_cond rfl (fun hc4 => ?_) (fun hc4 => ?_)
    ·replace hL1 := ite_t hL1 hc4
     refine W_seq_reg ?_
     refine WL_move rfl rfl ?_
     refine WL_move rfl rfl ?_
     refine WL_assign rfl rfl ?_
     refine WL_assign rfl rfl ?_
     refine WL_nil ?_
     refine W_ret ?_
     refine blk_ret ?_
     refine nrm_ret ?_
     refine nrm_ret ?_
     refine blk_ret ?_
     refine nrm_ret ?_
     refine nrm_ret ?_
     have hq4 := Option.some.inj hL1
     subst hq4
     dsimp only at hF
     have hq5 := Option.some.inj hF
     subst hq5
     refine fn_ret2 rfl rfl rfl ?_
     have hC7 := hC6.triv (int_val (x1))
     have hC8 := hC7.triv (int_val (x5))
     exact ⟨_, rfl, res2_of hC8⟩
    replace hL1 := ite_f hL1 hc4
    refine W_skip ?_
    refine blk_normal ?_
    refine nrm_normal ?_
    refine W_reg ?_
    refine WL_move rfl rfl ?_
    refine WL_add rfl rfl rfl ?_
    refine WL_assign rfl rfl ?_
    refine WL_nil ?_
    refine nrm_sub (l' := [(0, (sv a1)), (4, (.int .i64 (w64 (x1 + 1))))]) ⟨rfl, rfl, trivial⟩ ?_
    exact ⟨k1, Nat.lt_succ_self _, w64 (x1 + 1), rfl, (((((Keep.of hB1).then hB2).then hB4).then hB5).then hB6).below, hC6, hL1⟩
   replace hL1 := ite_f hL1 hc2
   refine W_exit ?_
   refine nrm_exit ?_
   refine nrm_exit ?_
   refine blk_exit ?_
   have hq6 := Option.some.inj hL1
   subst hq6
   refine nrm_sub (l' := []) trivial ?_
   exact ⟨rfl, rfl, ((Keep.of hB1).then hB2).below, hC2⟩
 rintro l5 _ w7 hs5 ⟨rfl, rfl, hB7, hC9⟩
 try dsimp only at hF
 refine nrm_sub' hs5 ?_
 clear hs5
 refine W_seq_reg ?_
 refine WL_assign rfl rfl ?_
 refine WL_assign rfl rfl ?_
 refine WL_nil ?_
 refine W_ret ?_
 have hq7 := Option.some.inj hF
 subst hq7
 refine fn_ret2 rfl rfl rfl ?_
 have hC10 := hC9.triv (int_val (0))
 have hC11 := hC10.triv (int_val (0))
 exact ⟨_, rfl, res2_of hC11⟩

theorem c_S_l26Open {w0 : World} (a1 : Str) (rr : Bool) (hF : S.l26Open a1 = some rr) :
 Calls Try.prog 22 [(sv a1)].toArray w0 fun e w' => ∃ v, e = .returned v ∧ Res w0 rr v w' := by
 refine calls_of_W Try.func22 rfl rfl ?_
 have hC0 := Ctx.start w0
 unfold S.l26Open at hF
 refine W_seq_reg ?_
 refine WL_assign rfl rfl ?_
 refine WL_nil ?_
 refine W_seq ?_
 refine W_seq_reg ?_
 refine WL_assign rfl rfl ?_
 refine WL_nil ?_
 obtain ⟨r1, hr1, hF⟩ := bind_some hF
 refine W_norm (fun l w => .inl () = r1 ∧ l = [] ∧ Below w0.heap.size w0 w ∧ Ctx [] w0 w []) ?_ ?_
 ·refine W_block ?_
  refine W.sub (l' := [(0, (sv a1)), (3, (.int .i64 0))]) ?_ ⟨rfl, rfl, trivial⟩
  refine W_loop (fun k l w => ∃ x1 : Int, l = [(0, (sv a1)), (3, (.int .i64 x1))] ∧ Below w0.heap.size w0 w ∧ Ctx [] w0 w [] ∧ S.l26Open_l1 a1 k x1 = some r1) FUEL ⟨0, rfl, (Below.refl _ _), hC0, hr1⟩ ?_
  clear hr1
  rintro k1 _ w1 ⟨x1, rfl, hB1, hC1, hL1⟩
  cases k1 with
  | zero => rw [S.l26Open_l1] at hL1; cases hL1
  | succ k1 =>
   rw [S.l26Open_l1] at hL1
   refine W_seq ?_
   refine W_seq_reg ?_
   refine WL_move rfl rfl ?_
   refine WL_move rfl rfl ?_
   refine WL_len_str Try.underlying9 rfl rfl ?_
   refine WL_lss rfl rfl rfl ?_
   refine WL_nil ?_
   refine W_cond rfl (fun hc1 => ?_) (fun hc1 => ?_)
   ·replace hL1 := ite_t hL1 hc1
    refine W_skip ?_
    refine nrm_normal ?_
    refine W_seq ?_
    refine W_block ?_
    refine W_seq_reg ?_
    refine WL_move rfl rfl ?_
    refine WL_move rfl rfl ?_
    obtain ⟨x2, hx1, hL1⟩ := bind_some hL1
    refine WL_index_str Try.underlying9 hx1 rfl rfl rfl ?_
    refine WL_lss rfl rfl rfl ?_
    refine WL_nil ?_
    refine W_cond rfl (fun hc2 => ?_) (fun hc2 => ?_)
    ·replace hL1 := ite_t hL1 hc2
     refine W_seq_reg ?_
     refine WL_assign rfl rfl ?_
     refine WL_nil ?_
     refine W_ret ?_
     refine blk_ret ?_
     refine nrm_ret ?_
     refine nrm_ret ?_
     refine blk_ret ?_
     refine nrm_ret ?_
     refine nrm_ret ?_
     have hq1 := Option.some.inj hL1
     subst hq1
     dsimp only at hF
     have hq2 := Option.some.inj hF
     subst hq2
     refine fn_ret1 rfl rfl ?_
     exact ⟨_, rfl, bool_res hC1 _⟩
    replace hL1 := ite_f hL1 hc2
    refine W_skip ?_
    refine blk_normal ?_
    refine nrm_normal ?_
    refine W_reg ?_
    refine WL_move rfl rfl ?_
    refine WL_add rfl rfl rfl ?_
    refine WL_assign rfl rfl ?_
    refine WL_nil ?_
    refine nrm_sub (l' := [(0, (sv a1)), (3, (.int .i64 (w64 (x1 + 1))))]) ⟨rfl, rfl, trivial⟩ ?_
    exact ⟨k1, Nat.lt_succ_self _, w64 (x1 + 1), rfl, (Keep.of hB1).below, hC1, hL1⟩
   replace hL1 := ite_f hL1 hc1
   refine W_exit ?_
   refine nrm_exit ?_
   refine nrm_exit ?_
   refine blk_exit ?_
   have hq3 := Option.some.inj hL1
   subst hq3
   refine nrm_sub (l' := []) trivial ?_
   exact ⟨rfl, rfl, (Keep.of hB1).below, hC1⟩
 rintro l2 _ w2 hs2 ⟨rfl, rfl, hB2, hC2⟩
 try dsimp only at hF
 refine nrm_sub' hs2 ?_
 clear hs2
 refine W_seq_reg ?_
 refine WL_assign rfl rfl ?_
 refine WL_nil ?_
 refine W_ret ?_
 have hq4 := Option.some.inj hF
 subst hq4
 refine fn_ret1 rfl rfl ?_
 exact ⟨_, rfl, bool_res hC2 _⟩

theorem c_S_SplitFrames {w0 : World} (a1 : Str) (rr : ((List Str) × Str × Bool)) (hF : S.SplitFrames a1 = some rr) :
 Calls Try.prog 7 [(sv a1)].toArray w0 fun e w' => ∃ v, e = .returned v ∧ Res3 w0 rr.1 rr.2.1 rr.2.2 v w' := by
 refine calls_of_W Try.func7 rfl rfl ?_
 have hC0 := Ctx.start w0
 unfold S.SplitFrames at hF
 refine W_seq_reg ?_
 refine WL_assign rfl rfl ?_
 refine WL_assign rfl rfl ?_
 refine WL_assign rfl rfl ?_
 refine WL_nil ?_
 refine W_seq_reg ?_
 refine WL_buildSlice (vs := []) hC0 Try.underlying25 ty9 rfl rfl rfl rfl (by simp) rfl rfl (fun b1 w1 hC1 hB1 => ?_)
 have hC2 := hC1.row0 (α := Str)
 have hC3 := hC2.front 1 rfl
 dsimp only [List.eraseIdx, List.cons_append, List.nil_append, List.append_nil] at hC3
 have hC4 : Ctx [] w0 w1 (Item.own (.slice (some ⟨b1, 0, none⟩) 0 0) (([] : List Str) : List Str) :: []) := hC3.rowOwn (by simp [maxLen])
 refine WL_assign rfl rfl ?_
 refine WL_nil ?_
 refine W_seq ?_
 obtain ⟨r1, hr1, hF⟩ := bind_some hF
 refine W_norm (fun l w => ∃ v2 : Value, ∃ x3 : (List Str), .inl x3 = r1 ∧ l = [(5, v2)] ∧ Ctx [] w0 w [Item.own v2 (x3 : (List Str))]) ?_ ?_
 ·refine W_block ?_
  refine W.sub (l' := [(0, (sv a1)), (5, (.slice (some ⟨b1, 0, none⟩) 0 0))]) ?_ ⟨rfl, rfl, trivial⟩
  refine W_loop (fun k l w => ∃ x1 : Str, ∃ v1 : Value, ∃ x2 : (List Str), l = [(0, (sv x1)), (5, v1)] ∧ Ctx [] w0 w [Item.own v1 (x2 : (List Str))] ∧ S.SplitFrames_l1 k x1 x2 = some r1) FUEL ⟨a1, (.slice (some ⟨b1, 0, none⟩) 0 0), ([] : List Str), rfl, hC4, hr1⟩ ?_
  clear hr1
  rintro k1 _ w2 ⟨x1, v1, x2, rfl, hC5, hL1⟩
  cases k1 with
  | zero => rw [S.SplitFrames_l1] at hL1; cases hL1
  | succ k1 =>
   rw [S.SplitFrames_l1] at hL1
   refine W_seq ?_
   refine W_seq_reg ?_
   refine WL_move rfl rfl ?_
   refine WL_len_str Try.underlying9 rfl rfl ?_
   refine WL_gtr rfl rfl rfl ?_
   refine WL_nil ?_
   refine W_cond rfl (fun hc1 => ?_) (fun hc1 => ?_)
   ·replace hL1 := ite_t hL1 hc1
    refine W_skip ?_
    refine nrm_normal ?_
    refine W_block ?_
    refine W_seq_reg ?_
    refine WL_move rfl rfl ?_
    obtain ⟨x4, hr2, hL1⟩ := bind_some hL1
    refine WL_call Try.call21 rfl rfl (c_S_DecodeVarint x1 x4 hr2) ?_
    rintro _ w3 ⟨hB3, v3, v4, F1, F2, rfl, hv1, hv2, hn1, hb1⟩
    obtain ⟨rfl, rfl⟩ := val_int hv1
    obtain ⟨rfl, rfl⟩ := val_int hv2
    have hC6 := hC5.grow hB3
    refine WL_move rfl rfl ?_
    refine WL_extract rfl rfl rfl ?_
    refine WL_extract rfl rfl rfl ?_
    refine WL_assign rfl rfl ?_
    refine WL_assign rfl rfl ?_
    refine WL_nil ?_
    refine W_seq ?_
    refine W_seq_reg ?_
    refine WL_move rfl rfl ?_
    refine WL_eql rfl rfl rfl ?_
    refine WL_nil ?_
    refine W_cond rfl (fun hc2 => ?_) (fun hc2 => ?_)
    ·replace hL1 := ite_t hL1 hc2
     refine W_seq ?_
     obtain ⟨r2, hr3, hL1⟩ := bind_some hL1
     refine W_cut (fun l w => ∃ x5 : Bool, x5 = r2 ∧ l = [(0, (sv x1)), (5, v1), (26, (.bool x5))] ∧ Below w3.heap.size w3 w ∧ Ctx [] w0 w [Item.own v1 (x2 : (List Str))]) ?_ ?_
     ·refine W_reg ?_
      refine WL_move rfl rfl ?_
      refine WL_len_str Try.underlying9 rfl rfl ?_
      refine WL_lss rfl rfl rfl ?_
      refine WL_move rfl rfl ?_
      refine WL_fork (fun hc3 => ?_) (fun hc3 => ?_)
      ·replace hr3 := ite_t hr3 hc3
       refine WL_guard rfl rfl ?_
       refine WL_move rfl rfl ?_
       obtain ⟨x6, hr4, hr3⟩ := bind_some hr3
       refine WL_guard rfl rfl ?_
       refine WL_call Try.call22 rfl rfl (c_S_l26Open x1 x6 hr4) ?_
       intro _ w5 hv3
       obtain ⟨rfl, hB5⟩ := res_bool hv3
       have hC8 := hC6.grow hB5
       refine WL_pick_t rfl rfl rfl ?_
       refine WL_nil ?_
       have hq1 := Option.some.inj hr3
       subst hq1
       refine nrm_sub (l' := [(0, (sv x1)), (5, v1), (26, (.bool x6))]) ⟨rfl, rfl, rfl, trivial⟩ ?_
       exact ⟨x6, rfl, rfl, (Keep.of hB5).below, hC8⟩
      replace hr3 := ite_f hr3 hc3
      refine WL_guard_skip rfl rfl (by simp) rfl ?_
      refine WL_guard_skip rfl rfl (by simp) rfl ?_
      refine WL_pick_f rfl rfl rfl ?_
      refine WL_nil ?_
      have hq2 := Option.some.inj hr3
      subst hq2
      refine nrm_sub (l' := [(0, (sv x1)), (5, v1), (26, (.bool false))]) ⟨rfl, rfl, rfl, trivial⟩ ?_
      exact ⟨false, rfl, rfl, (Below.refl _ _), hC6⟩
     rintro _ w4 ⟨x5, rfl, rfl, hB4, hC7⟩
     try dsimp only at hL1
     refine W_cond rfl (fun hc4 => ?_) (fun hc4 => ?_)
     ·replace hL1 := ite_t hL1 hc4
      refine W_seq_reg ?_
      refine WL_move rfl rfl ?_
      refine WL_move rfl rfl ?_
      refine WL_assign rfl rfl ?_
      refine WL_assign rfl rfl ?_
      refine WL_assign rfl rfl ?_
      refine WL_nil ?_
      refine W_ret ?_
      refine nrm_ret ?_
      refine nrm_ret ?_
      refine blk_ret ?_
      refine nrm_ret ?_
      refine blk_ret ?_
      refine nrm_ret ?_
      refine nrm_ret ?_
      have hq3 := Option.some.inj hL1
      subst hq3
      dsimp only at hF
      have hq4 := Option.some.inj hF
      subst hq4
      refine fn_ret3 rfl rfl rfl rfl ?_
      have hC9 := hC7.triv (bool_val (true))
      have hC10 := hC9.triv (str_val (x1))
      have hC11 := hC10.f2
      exact ⟨_, rfl, res3_of hC11⟩
     replace hL1 := ite_f hL1 hc4
     refine W_skip ?_
     refine nrm_normal ?_
     refine W_seq_reg ?_
     refine WL_move rfl rfl ?_
     refine WL_move rfl rfl ?_
     refine WL_assign rfl rfl ?_
     refine WL_assign rfl rfl ?_
     refine WL_assign rfl rfl ?_
     refine WL_nil ?_
     refine W_ret ?_
     refine nrm_ret ?_
     refine blk_ret ?_
     refine nrm_ret ?_
     refine blk_ret ?_
     refine nrm_ret ?_
     refine nrm_ret ?_
     have hq5 := Option.some.inj hL1
     subst hq5
     dsimp only at hF
     have hq6 := Option.some.inj hF
     subst hq6
     refine fn_ret3 rfl rfl rfl rfl ?_
     have hC12 := hC7.triv (bool_val (false))
     have hC13 := hC12.triv (str_val (x1))
     have hC14 := hC13.f2
     exact ⟨_, rfl, res3_of hC14⟩
    replace hL1 := ite_f hL1 hc2
    refine W_skip ?_
    refine nrm_normal ?_
    refine W_seq ?_
    refine W_seq_reg ?_
    refine WL_move rfl rfl ?_
    refine WL_gtr rfl rfl rfl ?_
    refine WL_nil ?_
    refine W_cond rfl (fun hc5 => ?_) (fun hc5 => ?_)
    ·replace hL1 := ite_t hL1 hc5
     refine W_seq_reg ?_
     refine WL_move rfl rfl ?_
     refine WL_move rfl rfl ?_
     refine WL_assign rfl rfl ?_
     refine WL_assign rfl rfl ?_
     refine WL_assign rfl rfl ?_
     refine WL_nil ?_
     refine W_ret ?_
     refine nrm_ret ?_
     refine blk_ret ?_
     refine nrm_ret ?_
     refine blk_ret ?_
     refine nrm_ret ?_
     refine nrm_ret ?_
     have hq7 := Option.some.inj hL1
     subst hq7
     dsimp only at hF
     have hq8 := Option.some.inj hF
     subst hq8
     refine fn_ret3 rfl rfl rfl rfl ?_
     have hC15 := hC6.triv (bool_val (false))
     have hC16 := hC15.triv (str_val (x1))
     have hC17 := hC16.f2
     exact ⟨_, rfl, res3_of hC17⟩
    replace hL1 := ite_f hL1 hc5
    refine W_skip ?_
    refine nrm_normal ?_
    refine W_seq ?_
    refine W_seq_reg ?_
    refine WL_move rfl rfl ?_
    refine WL_len_str Try.underlying9 rfl rfl ?_
    refine WL_move rfl rfl ?_
    refine WL_move rfl rfl ?_
    refine WL_add rfl rfl rfl ?_
    refine WL_add rfl rfl rfl ?_
    refine WL_lss rfl rfl rfl ?_
    refine WL_nil ?_
    refine W_cond rfl (fun hc6 => ?_) (fun hc6 => ?_)
    ·replace hL1 := ite_t hL1 hc6
     refine W_seq_reg ?_
     refine WL_move rfl rfl ?_
     refine WL_move rfl rfl ?_
     refine WL_assign rfl rfl ?_
     refine WL_assign rfl rfl ?_
     refine WL_assign rfl rfl ?_
     refine WL_nil ?_
     refine W_ret ?_
     refine nrm_ret ?_
     refine blk_ret ?_
     refine nrm_ret ?_
     refine blk_ret ?_
     refine nrm_ret ?_
     refine nrm_ret ?_
     have hq9 := Option.some.inj hL1
     subst hq9
     dsimp only at hF
     have hq10 := Option.some.inj hF
     subst hq10
     refine fn_ret3 rfl rfl rfl rfl ?_
     have hC18 := hC6.triv (bool_val (true))
     have hC19 := hC18.triv (str_val (x1))
     have hC20 := hC19.f2
     exact ⟨_, rfl, res3_of hC20⟩
    replace hL1 := ite_f hL1 hc6
    refine W_skip ?_
    refine nrm_normal ?_
    refine W_seq_reg ?_
    refine WL_move rfl rfl ?_
    refine WL_move rfl rfl ?_
    refine WL_move rfl rfl ?_
    refine WL_move rfl rfl ?_
    refine WL_add rfl rfl rfl ?_
    obtain ⟨x7, hx1, hL1⟩ := bind_some hL1
    refine WL_slice_str_lh Try.underlying9 hx1 rfl rfl rfl rfl ?_
    refine WL_assign rfl rfl ?_
    refine WL_nil ?_
    refine W_seq ?_
    refine W_seq ?_
    refine W_drawn 13 rfl hmix (fun w6 hB6 => ?_)
    have hC21 := hC6.grow hB6
    refine WA_tk 0 (by kernel_rfl) rfl rfl (fl_move rfl) ?_
    refine WL_move rfl rfl ?_
    refine WL_nil ?_
    refine WA_tk 1 (by kernel_rfl) rfl rfl (fl_move rfl) ?_
    refine WL_move rfl rfl ?_
    refine WL_nil ?_
    refine WA_tk 2 (by kernel_rfl) rfl rfl (fl_move rfl) ?_
    refine WL_move rfl rfl ?_
    refine WL_nil ?_
    refine WA_tk 3 (by kernel_rfl) rfl rfl (fl_move rfl) ?_
    refine WL_move rfl rfl ?_
    refine WL_nil ?_
    refine WA_tk 4 (by kernel_rfl) rfl rfl (fl_add rfl rfl) ?_
    refine WL_add rfl rfl rfl ?_
    refine WL_nil ?_
    refine WA_tk 5 (by kernel_rfl) rfl rfl (fl_add rfl rfl) ?_
    refine WL_add rfl rfl rfl ?_
    refine WL_nil ?_
    obtain ⟨x8, hx2, hL1⟩ := bind_some hL1
    refine WA_tk 6 (by kernel_rfl) rfl rfl (fl_slice_str_lh Try.underlying9 hx2 rfl rfl rfl) ?_
    refine WL_slice_str_lh Try.underlying9 hx2 rfl rfl rfl rfl ?_
    refine WL_nil ?_
    refine WA_tk 7 (by kernel_rfl) rfl rfl (fl_move rfl) ?_
    refine WL_move rfl rfl ?_
    refine WL_nil ?_
    refine WA_tk 8 (by kernel_rfl) rfl rfl (fl_move rfl) ?_
    refine WL_move rfl rfl ?_
    refine WL_nil ?_
    obtain ⟨x9, hr5, hL1⟩ := bind_some hL1
    refine WA_one 9 (by kernel_rfl) rfl ?_
    refine WL_call Try.call13 rfl rfl (c_S_CheckByte x7 x9 hr5) ?_
    intro _ w7 hv4
    obtain ⟨rfl, hB7⟩ := res_int hv4
    have hC22 := hC21.grow hB7
    refine WL_nil ?_
    obtain ⟨x10, hr6, hL1⟩ := bind_some hL1
    refine WA_one 10 (by kernel_rfl) rfl ?_
    refine WL_call Try.call23 rfl rfl (c_S_EncodeFixed x9 1 x10 hr6) ?_
    intro _ w9 hv5
    obtain ⟨rfl, hB8⟩ := res_str hv5
    have hC23 := hC22.grow hB8
    refine WL_nil ?_
    obtain ⟨x11, hx3, hL1⟩ := bind_some hL1
    refine WA_tk 11 (by kernel_rfl) rfl rfl (fl_str_add hx3 rfl rfl) ?_
    refine WL_str_add hx3 rfl rfl rfl ?_
    refine WL_nil ?_
    refine WA_tk 12 (by kernel_rfl) rfl rfl (fl_str_neq rfl rfl) ?_
    refine WL_str_neq rfl rfl rfl ?_
    refine WL_nil ?_
    refine WA_done (by kernel_rfl) ?_
    refine nrm_normal ?_
    refine W_cond rfl (fun hc7 => ?_) (fun hc7 => ?_)
    ·replace hL1 := ite_t hL1 hc7
     refine W_seq_reg ?_
     refine WL_move rfl rfl ?_
     refine WL_move rfl rfl ?_
     refine WL_assign rfl rfl ?_
     refine WL_assign rfl rfl ?_
     refine WL_assign rfl rfl ?_
     refine WL_nil ?_
     refine W_ret ?_
     refine nrm_ret ?_
     refine blk_ret ?_
     refine nrm_ret ?_
     refine blk_ret ?_
     refine nrm_ret ?_
     refine nrm_ret ?_
     have hq11 := Option.some.inj hL1
     subst hq11
     dsimp only at hF
     have hq12 := Option.some.inj hF
     subst hq12
     refine fn_ret3 rfl rfl rfl rfl ?_
     have hC24 := hC23.triv (bool_val (false))
     have hC25 := hC24.triv (str_val (x1))
     have hC26 := hC25.f2
     exact ⟨_, rfl, res3_of hC26⟩
    replace hL1 := ite_f hL1 hc7
    refine W_skip ?_
    refine nrm_normal ?_
    refine W_seq_reg ?_
    refine WL_move rfl rfl ?_
    refine WL_move rfl rfl ?_
    refine WL_buildSlice (vs := [(sv x7)]) hC23 Try.underlying25 ty9 rfl rfl rfl rfl (by intro v hv; simp only [List.mem_cons, List.not_mem_nil, or_false] at hv; rcases hv with rfl <;> rfl) rfl rfl (fun b2 w10 hC27 hB9 => ?_)
    have hC28 := hC27.row0 (α := Str)
    have hC29 := hC28.triv (str_val (x7))
    have hC30 := hC29.row1
    have hC31 := hC30.front 1 rfl
    dsimp only [List.eraseIdx, List.cons_append, List.nil_append, List.append_nil] at hC31
    have hC32 : Ctx [] w0 w10 (Item.own (.slice (some ⟨b2, 0, none⟩) 1 1) ([x7] : List Str) :: [Item.own v1 (x2 : (List Str))]) := hC31.rowOwn (by simp [maxLen])
    obtain ⟨x12, hx4, hL1⟩ := bind_some hL1
    refine WL_append_flat (α := Str) hC32 1 rfl (hC32.ro 0 rfl) (Keep.refl _ _) Try.underlying25 ty9 rfl hx4 rfl rfl rfl (fun v5 w11 hC33 => ?_)
    try dsimp only [List.set] at hC33
    refine WL_assign rfl rfl ?_
    refine WL_nil ?_
    refine W_reg ?_
    refine WL_move rfl rfl ?_
    refine WL_move rfl rfl ?_
    refine WL_move rfl rfl ?_
    refine WL_add rfl rfl rfl ?_
    refine WL_add rfl rfl rfl ?_
    obtain ⟨x13, hx5, hL1⟩ := bind_some hL1
    refine WL_slice_str_l Try.underlying9 hx5 rfl rfl rfl ?_
    refine WL_assign rfl rfl ?_
    refine WL_nil ?_
    refine blk_normal ?_
    have hC34 := hC33.f1
    have hC35 := hC34.h1
    refine nrm_sub (l' := [(0, (sv x13)), (5, v5)]) ⟨rfl, rfl, trivial⟩ ?_
    exact ⟨k1, Nat.lt_succ_self _, x13, v5, x12, rfl, hC35, hL1⟩
   replace hL1 := ite_f hL1 hc1
   refine W_exit ?_
   refine nrm_exit ?_
   refine nrm_exit ?_
   refine blk_exit ?_
   have hq13 := Option.some.inj hL1
   subst hq13
   refine nrm_sub (l' := [(5, v1)]) ⟨rfl, trivial⟩ ?_
   exact ⟨v1, x2, rfl, rfl, hC5⟩
 rintro l3 _ w12 hs3 ⟨v2, x3, rfl, rfl, hC36⟩
 try dsimp only at hF
 refine nrm_sub' hs3 ?_
 clear hs3
 refine W_seq_reg ?_
 refine WL_move rfl rfl ?_
 refine WL_assign rfl rfl ?_
 refine WL_assign rfl rfl ?_
 refine WL_assign rfl rfl ?_
 refine WL_nil ?_
 refine W_ret ?_
 have hq14 := Option.some.inj hF
 subst hq14
 refine fn_ret3 rfl rfl rfl rfl ?_
 have hC37 := hC36.triv (bool_val (true))
 have hC38 := hC37.triv (str_val ((str [])))
 have hC39 := hC38.f2
 exact ⟨_, rfl, res3_of hC39⟩

theorem c_Q_at {w0 : World} (a1 : (List UInt8)) (u1 : Value) (g1 : RO [] w0 u1 a1) (a2 : Int) (rr : Int) (hF : Q.at a1 a2 = some rr) :
 Calls Try.prog 8 [u1, (.int .i64 a2)].toArray w0 fun e w' => ∃ v, e = .returned v ∧ Res w0 rr v w' := by
 refine calls_of_W Try.func8 rfl rfl ?_
 have hC0 := Ctx.start w0
 unfold Q.at at hF
 refine W_seq_reg ?_
 refine WL_assign rfl rfl ?_
 refine WL_nil ?_
 refine W_seq ?_
 refine W_seq_reg ?_
 refine WL_move rfl rfl ?_
 refine WL_move rfl rfl ?_
 refine WL_len Try.underlying22 g1 rfl rfl ?_
 refine WL_lss rfl rfl rfl ?_
 refine WL_nil ?_
 refine W_cond rfl (fun hc1 => ?_) (fun hc1 => ?_)
 ·replace hF := ite_t hF hc1
  refine W_seq_reg ?_
  refine WL_move rfl rfl ?_
  refine WL_move rfl rfl ?_
  obtain ⟨x1, hx1, hF⟩ := bind_some hF
  refine WL_index Try.underlying22 ty5 g1 hx1 rfl rfl rfl (fun b1 o1 h1 => ?_)
  refine WL_load ty5 h1 hC0.keep rfl rfl (fun v1 h2 => ?_)
  obtain rfl := ro_u8 h2
  refine WL_conv_i64 Try.underlying5 Try.underlying3 rfl rfl ?_
  refine WL_assign rfl rfl ?_
  refine WL_nil ?_
  refine W_ret ?_
  refine nrm_ret ?_
  have hq1 := Option.some.inj hF
  subst hq1
  refine fn_ret1 rfl rfl ?_
  exact ⟨_, rfl, int_res hC0 _⟩
 replace hF := ite_f hF hc1
 refine W_skip ?_
 refine nrm_normal ?_
 refine W_seq_reg ?_
 refine WL_move rfl rfl ?_
 refine WL_mul rfl rfl rfl ?_
 refine WL_move rfl rfl ?_
 refine WL_len Try.underlying22 g1 rfl rfl ?_
 refine WL_mul rfl rfl rfl ?_
 refine WL_add rfl rfl rfl ?_
 refine WL_rem (by decide) rfl rfl rfl ?_
 refine WL_assign rfl rfl ?_
 refine WL_nil ?_
 refine W_ret ?_
 have hq2 := Option.some.inj hF
 subst hq2
 refine fn_ret1 rfl rfl ?_
 exact ⟨_, rfl, int_res hC0 _⟩

theorem c_S_FormatFact {w0 : World} (a1 : (Int × (List Int))) (u1 : Value) (g1 : RO [] w0 u1 a1.2) (rr : Str) (hF : S.FormatFact a1 = some rr) :
 Calls Try.prog 46 [(.agg #[(.int .i64 a1.1), u1])].toArray w0 fun e w' => ∃ v, e = .returned v ∧ Res w0 rr v w' := by
 refine calls_of_W Try.func46 rfl rfl ?_
 have hC0 := Ctx.start w0
 unfold S.FormatFact at hF
 refine W_seq_reg ?_
 refine WL_box (cs := [(.int .i64 a1.1), u1]) hC0 rfl rfl rfl (fun b1 w1 hC1 hB1 => ?_)
 refine WL_assign rfl rfl ?_
 refine WL_nil ?_
 refine W_seq ?_
 obtain ⟨r1, hr1, hF⟩ := bind_some hF
 refine W_cut (fun l w => ∃ x1 : Bool, x1 = r1 ∧ l = [(1, (ptr b1 0)), (14, (.bool x1))] ∧ Below w1.heap.size w1 w ∧ Ctx [] w0 w [Item.box b1 [(.int .i64 a1.1), u1]]) ?_ ?_
 ·refine W_reg ?_
  refine WL_field Try.underlying70 rfl rfl (fun w => ⟨_, Try.sizeOf3 w⟩) rfl rfl ?_
  refine WL_load_box hC1 0 rfl rfl Try.isAgg3 rfl rfl ?_
  obtain ⟨x2, hr2, hr1⟩ := bind_some hr1
  refine WL_call Try.call29 rfl rfl (c_S_l1In a1.1 0 2 x2 hr2) ?_
  intro _ w3 hv1
  obtain ⟨rfl, hB3⟩ := res_bool hv1
  have hC3 := hC1.grow hB3
  refine WL_not rfl rfl ?_
  refine WL_move rfl rfl ?_
  refine WL_fork (fun hc1 => ?_) (fun hc1 => ?_)
  ·replace hr1 := ite_t hr1 hc1
   refine WL_guard_skip rfl rfl (by simp) rfl ?_
   refine WL_guard_skip rfl rfl (by simp) rfl ?_
   refine WL_guard_skip rfl rfl (by simp) rfl ?_
   refine WL_guard_skip rfl rfl (by simp) rfl ?_
   refine WL_guard_skip rfl rfl (by simp) rfl ?_
   refine WL_pick_t rfl rfl rfl ?_
   refine WL_nil ?_
   have hq1 := Option.some.inj hr1
   subst hq1
   refine nrm_sub (l' := [(1, (ptr b1 0)), (14, (.bool true))]) ⟨rfl, rfl, trivial⟩ ?_
   exact ⟨true, rfl, rfl, (Keep.of hB3).below, hC3⟩
  replace hr1 := ite_f hr1 hc1
  refine WL_guard rfl rfl ?_
  refine WL_field Try.underlying70 rfl rfl (fun w => ⟨_, Try.sizeOf35 w⟩) rfl rfl ?_
  refine WL_guard rfl rfl ?_
  refine WL_load_box hC3 0 rfl rfl Try.isAgg35 rfl rfl ?_
  refine WL_guard rfl rfl ?_
  refine WL_len Try.underlying35 g1 rfl rfl ?_
  obtain ⟨x3, hr3, hr1⟩ := bind_some hr1
  refine WL_guard rfl rfl ?_
  refine WL_call Try.call29 rfl rfl (c_S_l1In (List.length a1.2 : Int) 1 3 x3 hr3) ?_
  intro _ w4 hv2
  obtain ⟨rfl, hB4⟩ := res_bool hv2
  have hC4 := hC3.grow hB4
  refine WL_guard rfl rfl ?_
  refine WL_not rfl rfl ?_
  refine WL_pick_f rfl rfl rfl ?_
  refine WL_nil ?_
  have hq2 := Option.some.inj hr1
  subst hq2
  refine nrm_sub (l' := [(1, (ptr b1 0)), (14, (.bool (!x3)))]) ⟨rfl, rfl, trivial⟩ ?_
  exact ⟨(!x3), rfl, rfl, ((Keep.of hB3).then hB4).below, hC4⟩
 rintro _ w2 ⟨x1, rfl, rfl, hB2, hC2⟩
 try dsimp only at hF
 refine W_cond rfl (fun hc2 => ?_) (fun hc2 => ?_)
 ·replace hF := ite_t hF hc2
  refine W_seq_reg ?_
  refine WL_assign rfl rfl ?_
  refine WL_nil ?_
  refine W_ret ?_
  refine nrm_ret ?_
  have hq3 := Option.some.inj hF
  subst hq3
  refine fn_ret1 rfl rfl ?_
  exact ⟨_, rfl, str_res hC2 _⟩
 replace hF := ite_f hF hc2
 refine W_skip ?_
 refine nrm_normal ?_
 refine W_seq ?_
 refine W_seq_reg ?_
 refine WL_assign rfl rfl ?_
 refine WL_nil ?_
 obtain ⟨r2, hr4, hF⟩ := bind_some hF
 refine W_norm (fun l w => .inl () = r2 ∧ l = [(1, (ptr b1 0))] ∧ Below w2.heap.size w2 w ∧ Ctx [] w0 w [Item.box b1 [(.int .i64 a1.1), u1]]) ?_ ?_
 ·refine W_block ?_
  refine W.sub (l' := [(1, (ptr b1 0)), (3, (.int .i64 0))]) ?_ ⟨rfl, rfl, trivial⟩
  refine W_loop (fun k l w => ∃ x4 : Int, l = [(1, (ptr b1 0)), (3, (.int .i64 x4))] ∧ Below w2.heap.size w2 w ∧ Ctx [] w0 w [Item.box b1 [(.int .i64 a1.1), u1]] ∧ S.FormatFact_l1 a1 k x4 = some r2) FUEL ⟨0, rfl, (Below.refl _ _), hC2, hr4⟩ ?_
  clear hr4
  rintro k1 _ w5 ⟨x4, rfl, hB5, hC5, hL1⟩
  cases k1 with
  | zero => rw [S.FormatFact_l1] at hL1; cases hL1
  | succ k1 =>
   rw [S.FormatFact_l1] at hL1
   refine W_seq ?_
   refine W_seq_reg ?_
   refine WL_move rfl rfl ?_
   refine WL_field Try.underlying70 rfl rfl (fun w => ⟨_, Try.sizeOf35 w⟩) rfl rfl ?_
   refine WL_load_box hC5 0 rfl rfl Try.isAgg35 rfl rfl ?_
   refine WL_len Try.underlying35 g1 rfl rfl ?_
   refine WL_lss rfl rfl rfl ?_
   refine WL_nil ?_
   refine W_cond rfl (fun hc3 => ?_) (fun hc3 => ?_)
   ·replace hL1 := ite_t hL1 hc3
    refine W_skip ?_
    refine nrm_normal ?_
    refine W_seq ?_
    refine W_block ?_
    refine W_seq_reg ?_
    refine WL_field Try.underlying70 rfl rfl (fun w => ⟨_, Try.sizeOf35 w⟩) rfl rfl ?_
    refine WL_load_box hC5 0 rfl rfl Try.isAgg35 rfl rfl ?_
    refine WL_move rfl rfl ?_
    obtain ⟨x5, hx1, hL1⟩ := bind_some hL1
    refine WL_index Try.underlying35 ty3 g1 hx1 rfl rfl rfl (fun b2 o1 h1 => ?_)
    refine WL_load ty3 h1 hC5.keep rfl rfl (fun v1 h2 => ?_)
    obtain rfl := ro_int h2
    obtain ⟨x6, hr5, hL1⟩ := bind_some hL1
    refine WL_call Try.call29 rfl rfl (c_S_l1In x5 0 9 x6 hr5) ?_
    intro _ w6 hv3
    obtain ⟨rfl, hB6⟩ := res_bool hv3
    have hC6 := hC5.grow hB6
    refine WL_not rfl rfl ?_
    refine WL_nil ?_
    refine W_cond rfl (fun hc4 => ?_) (fun hc4 => ?_)
    ·replace hL1 := ite_t hL1 hc4
     refine W_seq_reg ?_
     refine WL_assign rfl rfl ?_
     refine WL_nil ?_
     refine W_ret ?_
     refine blk_ret ?_
     refine nrm_ret ?_
     refine nrm_ret ?_
     refine blk_ret ?_
     refine nrm_ret ?_
     refine nrm_ret ?_
     have hq4 := Option.some.inj hL1
     subst hq4
     dsimp only at hF
     have hq5 := Option.some.inj hF
     subst hq5
     refine fn_ret1 rfl rfl ?_
     exact ⟨_, rfl, str_res hC6 _⟩
    replace hL1 := ite_f hL1 hc4
    refine W_skip ?_
    refine blk_normal ?_
    refine nrm_normal ?_
    refine W_reg ?_
    refine WL_move rfl rfl ?_
    refine WL_add rfl rfl rfl ?_
    refine WL_assign rfl rfl ?_
    refine WL_nil ?_
    refine nrm_sub (l' := [(1, (ptr b1 0)), (3, (.int .i64 (w64 (x4 + 1))))]) ⟨rfl, rfl, trivial⟩ ?_
    exact ⟨k1, Nat.lt_succ_self _, w64 (x4 + 1), rfl, ((Keep.of hB5).then hB6).below, hC6, hL1⟩
   replace hL1 := ite_f hL1 hc3
   refine W_exit ?_
   refine nrm_exit ?_
   refine nrm_exit ?_
   refine blk_exit ?_
   have hq6 := Option.some.inj hL1
   subst hq6
   refine nrm_sub (l' := [(1, (ptr b1 0))]) ⟨rfl, trivial⟩ ?_
   exact ⟨rfl, rfl, (Keep.of hB5).below, hC5⟩
 rintro l3 _ w7 hs3 ⟨rfl, rfl, hB7, hC7⟩
 try dsimp only at hF
 refine nrm_sub' hs3 ?_
 clear hs3
 refine W_seq ?_
 refine W_drawn 11 rfl hmix (fun w9 hB8 => ?_)
 have hC8 := hC7.grow hB8
 refine WA_tk 0 (by kernel_rfl) rfl rfl (fl_field Try.underlying70 rfl rfl (fun w => ⟨_, Try.sizeOf3 w⟩) rfl) ?_
 refine WL_field Try.underlying70 rfl rfl (fun w => ⟨_, Try.sizeOf3 w⟩) rfl rfl ?_
 refine WL_nil ?_
 refine WA_tk 5 (by kernel_rfl) rfl rfl (fl_field Try.underlying70 rfl rfl (fun w => ⟨_, Try.sizeOf35 w⟩) rfl) ?_
 refine WL_field Try.underlying70 rfl rfl (fun w => ⟨_, Try.sizeOf35 w⟩) rfl rfl ?_
 refine WL_nil ?_
 obtain ⟨x7, hr6, hF⟩ := bind_some hF
 obtain ⟨x8, hx2, hF⟩ := bind_some hF
 obtain ⟨x9, hx3, hF⟩ := bind_some hF
 obtain ⟨x10, hr7, hF⟩ := bind_some hF
 refine WA.sub (l' := [(1, (ptr b1 0)), (29, (ptr b1 0)), (34, (ptr b1 1))]) ?_ ⟨rfl, rfl, rfl, trivial⟩
 refine WA_postsE [⟨1, [], fun vs => PW.val (.int .i64 a1.1), []⟩, ⟨2, [], fun vs => PW.val (sv x7), []⟩, ⟨3, [], fun vs => PW.val (sv x8), []⟩, ⟨4, [], fun vs => PW.val (sv x9), []⟩, ⟨6, [], fun vs => PW.val u1, []⟩, ⟨7, [], fun vs => PW.val (sv x10), []⟩] [[], [1], [2], [3], [], [6]] 3 rfl (by kernel_rfl) (by kernel_rfl) rfl ?_ ?_
 ·refine StepsE_cons rfl ?_ ?_
  ·intro w12 hB11
   refine DepsE_nil ?_
   refine ⟨_, rfl, ?_⟩
   refine WL_load_box (hC8.grow hB11) 0 rfl rfl Try.isAgg3 rfl rfl ?_
   refine WL_nil ?_
   exact FinE_val (Below.refl _ _) rfl rfl ⟨rfl, rfl⟩
  refine StepsE_cons rfl ?_ ?_
  ·intro w12 hB11
   refine DepsE_cons rfl rfl rfl ?_
   rintro _ _ ⟨rfl, rfl⟩ _
   refine DepsE_nil ?_
   refine ⟨_, rfl, ?_⟩
   refine WL_call Try.call38 rfl rfl (c_S_FormatInt a1.1 x7 hr6) ?_
   intro _ w10 hv4
   obtain ⟨rfl, hB9⟩ := res_str hv4
   refine WL_nil ?_
   exact FinE_val hB9 rfl rfl ⟨rfl, rfl⟩
  refine StepsE_cons rfl ?_ ?_
  ·intro w12 hB11
   refine DepsE_cons rfl rfl rfl ?_
   rintro _ _ ⟨rfl, rfl⟩ _
   refine DepsE_nil ?_
   refine ⟨_, rfl, ?_⟩
   refine WL_str_add hx2 rfl rfl rfl ?_
   refine WL_nil ?_
   exact FinE_val (Below.refl _ _) rfl rfl ⟨rfl, rfl⟩
  refine StepsE_cons rfl ?_ ?_
  ·intro w12 hB11
   refine DepsE_cons rfl rfl rfl ?_
   rintro _ _ ⟨rfl, rfl⟩ _
   refine DepsE_nil ?_
   refine ⟨_, rfl, ?_⟩
   refine WL_str_add hx3 rfl rfl rfl ?_
   refine WL_nil ?_
   exact FinE_val (Below.refl _ _) rfl rfl ⟨rfl, rfl⟩
  refine StepsE_cons rfl ?_ ?_
  ·intro w12 hB11
   refine DepsE_nil ?_
   refine ⟨_, rfl, ?_⟩
   refine WL_load_box (hC8.grow hB11) 0 rfl rfl Try.isAgg35 rfl rfl ?_
   refine WL_nil ?_
   exact FinE_val (Below.refl _ _) rfl rfl ⟨rfl, rfl⟩
  refine StepsE_cons rfl ?_ ?_
  ·intro w12 hB11
   refine DepsE_cons rfl rfl rfl ?_
   rintro _ _ ⟨rfl, rfl⟩ _
   refine DepsE_nil ?_
   refine ⟨_, rfl, ?_⟩
   refine WL_call Try.call39 rfl rfl (c_S_l2List a1.2 u1 (g1.now (hC8.keep.then hB11)) x10 hr7) ?_
   intro _ w11 hv5
   obtain ⟨rfl, hB10⟩ := res_str hv5
   refine WL_nil ?_
   exact FinE_val hB10 rfl rfl ⟨rfl, rfl⟩
  exact StepsE_nil
 intro w13 hB12
 refine AllE_cons rfl rfl rfl ?_
 rintro _ _ ⟨rfl, rfl⟩
 refine AllE_cons rfl rfl rfl ?_
 rintro _ _ ⟨rfl, rfl⟩
 refine AllE_cons rfl rfl rfl ?_
 rintro _ _ ⟨rfl, rfl⟩
 refine AllE_cons rfl rfl rfl ?_
 rintro _ _ ⟨rfl, rfl⟩
 refine AllE_cons rfl rfl rfl ?_
 rintro _ _ ⟨rfl, rfl⟩
 refine AllE_cons rfl rfl rfl ?_
 rintro _ _ ⟨rfl, rfl⟩
 refine AllE_nil ?_
 intro hn1 hb1
 have hC9 := hC8.grow hB12
 obtain ⟨x11, hx4, hF⟩ := bind_some hF
 refine WA_tk 8 (by kernel_rfl) rfl rfl (fl_str_add hx4 rfl rfl) ?_
 refine WL_str_add hx4 rfl rfl rfl ?_
 refine WL_nil ?_
 obtain ⟨x12, hx5, hF⟩ := bind_some hF
 refine WA_tk 9 (by kernel_rfl) rfl rfl (fl_str_add hx5 rfl rfl) ?_
 refine WL_str_add hx5 rfl rfl rfl ?_
 refine WL_nil ?_
 refine WA_tk 10 (by kernel_rfl) rfl rfl (fl_assign rfl) ?_
 refine WL_assign rfl rfl ?_
 refine WL_nil ?_
 refine WA_done (by kernel_rfl) ?_
 refine nrm_normal ?_
 refine W_ret ?_
 have hq7 := Option.some.inj hF
 subst hq7
 refine fn_ret1 rfl rfl ?_
 exact ⟨_, rfl, str_res hC9 _⟩

theorem c_S_EncodeReply {w0 : World} (a1 : (List (Int × (List Int)))) (u1 : Value) (g1 : RO [] w0 u1 a1) (rr : Str) (hF : S.EncodeReply a1 = some rr) :
 Calls Try.prog 34 [u1].toArray w0 fun e w' => ∃ v, e = .returned v ∧ Res w0 rr v w' := by
 refine calls_of_W Try.func34 rfl rfl ?_
 have hC0 := Ctx.start w0
 unfold S.EncodeReply at hF
 refine W_seq_reg ?_
 refine WL_assign rfl rfl ?_
 refine WL_nil ?_
 refine W_seq ?_
 refine W_seq_reg ?_
 refine WL_move rfl rfl ?_
 refine WL_len Try.underlying51 g1 rfl rfl ?_
 refine WL_gtr rfl rfl rfl ?_
 refine WL_nil ?_
 refine W_cond rfl (fun hc1 => ?_) (fun hc1 => ?_)
 ·replace hF := ite_t hF hc1
  refine W_seq_reg ?_
  refine WL_assign rfl rfl ?_
  refine WL_nil ?_
  refine W_ret ?_
  refine nrm_ret ?_
  have hq1 := Option.some.inj hF
  subst hq1
  refine fn_ret1 rfl rfl ?_
  exact ⟨_, rfl, str_res hC0 _⟩
 replace hF := ite_f hF hc1
 refine W_skip ?_
 refine nrm_normal ?_
 refine W_seq_reg ?_
 refine WL_move rfl rfl ?_
 refine WL_len Try.underlying51 g1 rfl rfl ?_
 obtain ⟨x1, hr1, hF⟩ := bind_some hF
 refine WL_call Try.call26 rfl rfl (c_S_EncodeVarint (List.length a1 : Int) x1 hr1) ?_
 intro _ w1 hv1
 obtain ⟨rfl, hB1⟩ := res_str hv1
 have hC1 := hC0.grow hB1
 refine WL_assign rfl rfl ?_
 refine WL_nil ?_
 refine W_seq ?_
 refine W_seq_reg ?_
 refine WL_assign rfl rfl ?_
 refine WL_nil ?_
 obtain ⟨r1, hr2, hF⟩ := bind_some hF
 refine W_norm (fun l w => ∃ x4 : Str, .inl x4 = r1 ∧ l = [(3, (sv x4))] ∧ Below w1.heap.size w1 w ∧ Ctx [] w0 w []) ?_ ?_
 ·refine W_block ?_
  refine W.sub (l' := [(0, u1), (3, (sv x1)), (4, (.int .i64 0))]) ?_ ⟨rfl, rfl, rfl, trivial⟩
  refine W_loop (fun k l w => ∃ x2 : Str, ∃ x3 : Int, l = [(0, u1), (3, (sv x2)), (4, (.int .i64 x3))] ∧ Below w1.heap.size w1 w ∧ Ctx [] w0 w [] ∧ S.EncodeReply_l1 a1 k x2 x3 = some r1) FUEL ⟨x1, 0, rfl, (Below.refl _ _), hC1, hr2⟩ ?_
  clear hr2
  rintro k1 _ w2 ⟨x2, x3, rfl, hB2, hC2, hL1⟩
  cases k1 with
  | zero => rw [S.EncodeReply_l1] at hL1; cases hL1
  | succ k1 =>
   rw [S.EncodeReply_l1] at hL1
   refine W_seq ?_
   refine W_seq_reg ?_
   refine WL_move rfl rfl ?_
   refine WL_move rfl rfl ?_
   refine WL_len Try.underlying51 g1 rfl rfl ?_
   refine WL_lss rfl rfl rfl ?_
   refine WL_nil ?_
   refine W_cond rfl (fun hc2 => ?_) (fun hc2 => ?_)
   ·replace hL1 := ite_t hL1 hc2
    refine W_skip ?_
    refine nrm_normal ?_
    refine W_seq ?_
    refine W_block ?_
    refine W_seq ?_
    refine W_seq_reg ?_
    refine WL_move rfl rfl ?_
    refine WL_move rfl rfl ?_
    obtain ⟨x5, hx1, hL1⟩ := bind_some hL1
    refine WL_index Try.underlying51 ty70 g1 hx1 rfl rfl rfl (fun b1 o1 h1 => ?_)
    refine WL_load ty70 h1 hC2.keep rfl rfl (fun v1 h2 => ?_)
    obtain ⟨v2, rfl, h3⟩ := ro_st70 h2
    obtain ⟨x6, hr3, hL1⟩ := bind_some hL1
    refine WL_call Try.call46 rfl rfl (c_S_FormatFact x5 v2 (h3.now hC2.keep) x6 hr3) ?_
    intro _ w3 hv2
    obtain ⟨rfl, hB3⟩ := res_str hv2
    have hC3 := hC2.grow hB3
    refine WL_str_eql rfl rfl rfl ?_
    refine WL_nil ?_
    refine W_cond rfl (fun hc3 => ?_) (fun hc3 => ?_)
    ·replace hL1 := ite_t hL1 hc3
     refine W_seq_reg ?_
     refine WL_assign rfl rfl ?_
     refine WL_nil ?_
     refine W_ret ?_
     refine nrm_ret ?_
     refine blk_ret ?_
     refine nrm_ret ?_
     refine nrm_ret ?_
     refine blk_ret ?_
     refine nrm_ret ?_
     refine nrm_ret ?_
     have hq2 := Option.some.inj hL1
     subst hq2
     dsimp only at hF
     have hq3 := Option.some.inj hF
     subst hq3
     refine fn_ret1 rfl rfl ?_
     exact ⟨_, rfl, str_res hC3 _⟩
    replace hL1 := ite_f hL1 hc3
    refine W_skip ?_
    refine nrm_normal ?_
    refine W_seq ?_
    refine W_drawn 17 rfl hmix (fun w4 hB4 => ?_)
    have hC4 := hC3.grow hB4
    refine WA_tk 0 (by kernel_rfl) rfl rfl (fl_move rfl) ?_
    refine WL_move rfl rfl ?_
    refine WL_nil ?_
    refine WA_tk 1 (by kernel_rfl) rfl rfl (fl_move rfl) ?_
    refine WL_move rfl rfl ?_
    refine WL_nil ?_
    refine WA_tk 2 (by kernel_rfl) rfl rfl (fl_move rfl) ?_
    refine WL_move rfl rfl ?_
    refine WL_nil ?_
    obtain ⟨x7, hx2, hL1⟩ := bind_some hL1
    refine WA_tk 3 (by kernel_rfl) rfl rfl (fl_index Try.underlying51 ty70 g1 hx2 rfl rfl) ?_
    refine WL_index Try.underlying51 ty70 g1 hx2 rfl rfl rfl (fun b2 o2 h4 => ?_)
    refine WL_nil ?_
    refine WA_tk 4 (by kernel_rfl) rfl rfl (fl_field Try.underlying70 rfl rfl (fun w => ⟨_, Try.sizeOf3 w⟩) rfl) ?_
    refine WL_field Try.underlying70 rfl rfl (fun w => ⟨_, Try.sizeOf3 w⟩) rfl rfl ?_
    refine WL_nil ?_
    refine WA_tk 8 (by kernel_rfl) rfl rfl (fl_move rfl) ?_
    refine WL_move rfl rfl ?_
    refine WL_nil ?_
    refine WA_tk 9 (by kernel_rfl) rfl rfl (fl_move rfl) ?_
    refine WL_move rfl rfl ?_
    refine WL_nil ?_
    obtain ⟨x8, hx3, hL1⟩ := bind_some hL1
    refine WA_tk 10 (by kernel_rfl) rfl rfl (fl_index Try.underlying51 ty70 g1 hx3 rfl rfl) ?_
    refine WL_index Try.underlying51 ty70 g1 hx3 rfl rfl rfl (fun b3 o3 h5 => ?_)
    refine WL_nil ?_
    refine WA_tk 11 (by kernel_rfl) rfl rfl (fl_field Try.underlying70 rfl rfl (fun w => ⟨_, Try.sizeOf35 w⟩) rfl) ?_
    refine WL_field Try.underlying70 rfl rfl (fun w => ⟨_, Try.sizeOf35 w⟩) rfl rfl ?_
    refine WL_nil ?_
    obtain ⟨x9, hr4, hL1⟩ := bind_some hL1
    obtain ⟨x10, hx4, hL1⟩ := bind_some hL1
    obtain ⟨x11, hr5, hL1⟩ := bind_some hL1
    refine WA.sub (l' := [(0, u1), (3, (sv x2)), (4, (.int .i64 x3)), (12, (.int .i64 x3)), (13, u1), (14, (.int .i64 (List.length a1 : Int))), (15, (.bool (decide (x3 < (List.length a1 : Int))))), (18, u1), (19, (.int .i64 x3)), (20, (ptr b1 o1)), (21, (.agg #[(.int .i64 x5.1), v2])), (22, (sv x6)), (23, (.bool (decide (x6 = (str []))))), (24, (sv x2)), (25, u1), (26, (.int .i64 x3)), (27, (ptr b2 o2)), (28, (ptr b2 (o2 + 0))), (32, u1), (33, (.int .i64 x3)), (34, (ptr b3 o3)), (35, (ptr b3 (o3 + 1)))]) ?_ ⟨rfl, rfl, rfl, rfl, rfl, rfl, rfl, rfl, rfl, rfl, rfl, rfl, rfl, rfl, rfl, rfl, rfl, rfl, rfl, rfl, rfl, rfl, trivial⟩
    refine WA_postsE [⟨5, [], fun vs => PW.val (.int .i64 x7.1), []⟩, ⟨6, [], fun vs => PW.val (sv x9), []⟩, ⟨7, [], fun vs => PW.val (sv x10), []⟩, ⟨12, [], fun vs => PW.ro [] w0 x8.2, []⟩, ⟨13, [], fun vs => PW.val (.int .i64 (List.length x8.2 : Int)), []⟩, ⟨14, [], fun vs => PW.val (sv x11), []⟩] [[], [5], [6], [], [12], [13]] 2 rfl (by kernel_rfl) (by kernel_rfl) rfl ?_ ?_
    ·refine StepsE_cons rfl ?_ ?_
     ·intro w7 hB7
      refine DepsE_nil ?_
      refine ⟨_, rfl, ?_⟩
      refine WL_load ty3 h4.fst (hC4.keep.then hB7) rfl rfl (fun v3 h6 => ?_)
      obtain rfl := ro_int h6
      refine WL_nil ?_
      exact FinE_val (Below.refl _ _) rfl rfl ⟨rfl, rfl⟩
     refine StepsE_cons rfl ?_ ?_
     ·intro w7 hB7
      refine DepsE_cons rfl rfl rfl ?_
      rintro _ _ ⟨rfl, rfl⟩ _
      refine DepsE_nil ?_
      refine ⟨_, rfl, ?_⟩
      refine WL_call Try.call26 rfl rfl (c_S_EncodeVarint x7.1 x9 hr4) ?_
      intro _ w5 hv3
      obtain ⟨rfl, hB5⟩ := res_str hv3
      refine WL_nil ?_
      exact FinE_val hB5 rfl rfl ⟨rfl, rfl⟩
     refine StepsE_cons rfl ?_ ?_
     ·intro w7 hB7
      refine DepsE_cons rfl rfl rfl ?_
      rintro _ _ ⟨rfl, rfl⟩ _
      refine DepsE_nil ?_
      refine ⟨_, rfl, ?_⟩
      refine WL_str_add hx4 rfl rfl rfl ?_
      refine WL_nil ?_
      exact FinE_val (Below.refl _ _) rfl rfl ⟨rfl, rfl⟩
     refine StepsE_cons rfl ?_ ?_
     ·intro w7 hB7
      refine DepsE_nil ?_
      refine ⟨_, rfl, ?_⟩
      refine WL_load ty35 h5.snd (hC4.keep.then hB7) rfl rfl (fun v4 h7 => ?_)
      refine WL_nil ?_
      exact FinE_val (Below.refl _ _) rfl rfl ⟨rfl, h7⟩
     refine StepsE_cons rfl ?_ ?_
     ·intro w7 hB7
      refine DepsE_cons rfl rfl rfl ?_
      rintro v4 _ ⟨rfl, h7⟩ _
      refine DepsE_nil ?_
      refine ⟨_, rfl, ?_⟩
      refine WL_len Try.underlying35 h7 rfl rfl ?_
      refine WL_nil ?_
      exact FinE_val (Below.refl _ _) rfl rfl ⟨rfl, rfl⟩
     refine StepsE_cons rfl ?_ ?_
     ·intro w7 hB7
      refine DepsE_cons rfl rfl rfl ?_
      rintro _ _ ⟨rfl, rfl⟩ _
      refine DepsE_nil ?_
      refine ⟨_, rfl, ?_⟩
      refine WL_call Try.call26 rfl rfl (c_S_EncodeVarint (List.length x8.2 : Int) x11 hr5) ?_
      intro _ w6 hv4
      obtain ⟨rfl, hB6⟩ := res_str hv4
      refine WL_nil ?_
      exact FinE_val hB6 rfl rfl ⟨rfl, rfl⟩
     exact StepsE_nil
    intro w9 hB8
    refine AllE_cons rfl rfl rfl ?_
    rintro _ _ ⟨rfl, rfl⟩
    refine AllE_cons rfl rfl rfl ?_
    rintro _ _ ⟨rfl, rfl⟩
    refine AllE_cons rfl rfl rfl ?_
    rintro _ _ ⟨rfl, rfl⟩
    refine AllE_cons rfl rfl rfl ?_
    rintro v4 _ ⟨rfl, h7⟩
    refine AllE_cons rfl rfl rfl ?_
    rintro _ _ ⟨rfl, rfl⟩
    refine AllE_cons rfl rfl rfl ?_
    rintro _ _ ⟨rfl, rfl⟩
    refine AllE_nil ?_
    intro hn1 hb1
    have hC5 := hC4.grow hB8
    obtain ⟨x12, hx5, hL1⟩ := bind_some hL1
    refine WA_tk 15 (by kernel_rfl) rfl rfl (fl_str_add hx5 rfl rfl) ?_
    refine WL_str_add hx5 rfl rfl rfl ?_
    refine WL_nil ?_
    refine WA_tk 16 (by kernel_rfl) rfl rfl (fl_assign rfl) ?_
    refine WL_assign rfl rfl ?_
    refine WL_nil ?_
    refine WA_done (by kernel_rfl) ?_
    refine nrm_normal ?_
    refine W_seq_reg ?_
    refine WL_assign rfl rfl ?_
    refine WL_nil ?_
    obtain ⟨r2, hr6, hL1⟩ := bind_some hL1
    refine W_norm (fun l w => ∃ x15 : Str, x15 = r2 ∧ l = [(0, u1), (3, (sv x15)), (4, (.int .i64 x3))] ∧ Below w9.heap.size w9 w ∧ Ctx [] w0 w []) ?_ ?_
    ·refine W_block ?_
     refine W.sub (l' := [(0, u1), (3, (sv x12)), (4, (.int .i64 x3)), (5, (.int .i64 0))]) ?_ ⟨rfl, rfl, rfl, rfl, trivial⟩
     refine W_loop (fun k l w => ∃ x13 : Str, ∃ x14 : Int, l = [(0, u1), (3, (sv x13)), (4, (.int .i64 x3)), (5, (.int .i64 x14))] ∧ Below w9.heap.size w9 w ∧ Ctx [] w0 w [] ∧ S.EncodeReply_l2 a1 x3 k x13 x14 = some r2) FUEL ⟨x12, 0, rfl, (Below.refl _ _), hC5, hr6⟩ ?_
     clear hr6
     rintro k2 _ w10 ⟨x13, x14, rfl, hB9, hC6, hL2⟩
     cases k2 with
     | zero => rw [S.EncodeReply_l2] at hL2; cases hL2
     | succ k2 =>
      rw [S.EncodeReply_l2] at hL2
      refine W_seq ?_
      refine W_seq_reg ?_
      refine WL_move rfl rfl ?_
      refine WL_move rfl rfl ?_
      refine WL_move rfl rfl ?_
      obtain ⟨x16, hx6, hL2⟩ := bind_some hL2
      refine WL_index Try.underlying51 ty70 g1 hx6 rfl rfl rfl (fun b4 o4 h8 => ?_)
      refine WL_field Try.underlying70 rfl rfl (fun w => ⟨_, Try.sizeOf35 w⟩) rfl rfl ?_
      refine WL_load ty35 h8.snd hC6.keep rfl rfl (fun v5 h9 => ?_)
      refine WL_len Try.underlying35 h9 rfl rfl ?_
      refine WL_lss rfl rfl rfl ?_
      refine WL_nil ?_
      refine W_cond rfl (fun hc4 => ?_) (fun hc4 => ?_)
      ·replace hL2 := ite_t hL2 hc4
       refine W_skip ?_
       refine nrm_normal ?_
       refine W_seq ?_
       refine W_block ?_
       refine W_reg ?_
       refine WL_move rfl rfl ?_
       refine WL_move rfl rfl ?_
       refine WL_move rfl rfl ?_
       obtain ⟨x17, hx7, hL2⟩ := bind_some hL2
       refine WL_index Try.underlying51 ty70 g1 hx7 rfl rfl rfl (fun b5 o5 h10 => ?_)
       refine WL_field Try.underlying70 rfl rfl (fun w => ⟨_, Try.sizeOf35 w⟩) rfl rfl ?_
       refine WL_load ty35 h10.snd hC6.keep rfl rfl (fun v6 h11 => ?_)
       refine WL_move rfl rfl ?_
       obtain ⟨x18, hx8, hL2⟩ := bind_some hL2
       refine WL_index Try.underlying35 ty3 h11 hx8 rfl rfl rfl (fun b6 o6 h12 => ?_)
       refine WL_load ty3 h12 hC6.keep rfl rfl (fun v7 h13 => ?_)
       obtain rfl := ro_int h13
       obtain ⟨x19, hr7, hL2⟩ := bind_some hL2
       refine WL_call Try.call26 rfl rfl (c_S_EncodeVarint x18 x19 hr7) ?_
       intro _ w11 hv5
       obtain ⟨rfl, hB10⟩ := res_str hv5
       have hC7 := hC6.grow hB10
       obtain ⟨x20, hx9, hL2⟩ := bind_some hL2
       refine WL_str_add hx9 rfl rfl rfl ?_
       refine WL_assign rfl rfl ?_
       refine WL_nil ?_
       refine blk_normal ?_
       refine nrm_normal ?_
       refine W_reg ?_
       refine WL_move rfl rfl ?_
       refine WL_add rfl rfl rfl ?_
       refine WL_assign rfl rfl ?_
       refine WL_nil ?_
       refine nrm_sub (l' := [(0, u1), (3, (sv x20)), (4, (.int .i64 x3)), (5, (.int .i64 (w64 (x14 + 1))))]) ⟨rfl, rfl, rfl, rfl, trivial⟩ ?_
       exact ⟨k2, Nat.lt_succ_self _, x20, w64 (x14 + 1), rfl, ((Keep.of hB9).then hB10).below, hC7, hL2⟩
      replace hL2 := ite_f hL2 hc4
      refine W_exit ?_
      refine nrm_exit ?_
      refine nrm_exit ?_
      refine blk_exit ?_
      have hq4 := Option.some.inj hL2
      subst hq4
      refine nrm_sub (l' := [(0, u1), (3, (sv x13)), (4, (.int .i64 x3))]) ⟨rfl, rfl, rfl, trivial⟩ ?_
      exact ⟨x13, rfl, rfl, (Keep.of hB9).below, hC6⟩
    rintro l3 _ w12 hs3 ⟨x15, rfl, rfl, hB11, hC8⟩
    try dsimp only at hL1
    refine blk_normal ?_
    refine nrm_sub' hs3 ?_
    clear hs3
    refine W_reg ?_
    refine WL_move rfl rfl ?_
    refine WL_add rfl rfl rfl ?_
    refine WL_assign rfl rfl ?_
    refine WL_nil ?_
    refine nrm_sub (l' := [(0, u1), (3, (sv x15)), (4, (.int .i64 (w64 (x3 + 1))))]) ⟨rfl, rfl, rfl, trivial⟩ ?_
    exact ⟨k1, Nat.lt_succ_self _, x15, w64 (x3 + 1), rfl, (((((Keep.of hB2).then hB3).then hB4).then hB8).then hB11).below, hC8, hL1⟩
   replace hL1 := ite_f hL1 hc2
   refine W_exit ?_
   refine nrm_exit ?_
   refine nrm_exit ?_
   refine blk_exit ?_
   have hq5 := Option.some.inj hL1
   subst hq5
   refine nrm_sub (l' := [(3, (sv x2))]) ⟨rfl, trivial⟩ ?_
   exact ⟨x2, rfl, rfl, (Keep.of hB2).below, hC2⟩
 rintro l4 _ w13 hs4 ⟨x4, rfl, rfl, hB12, hC9⟩
 try dsimp only at hF
 refine nrm_sub' hs4 ?_
 clear hs4
 refine W_seq_reg ?_
 refine WL_move rfl rfl ?_
 refine WL_assign rfl rfl ?_
 refine WL_nil ?_
 refine W_ret ?_
 have hq6 := Option.some.inj hF
 subst hq6
 refine fn_ret1 rfl rfl ?_
 exact ⟨_, rfl, str_res hC9 _⟩

theorem c_S_DrawDecodeReply {w0 : World} (a1 : (List UInt8)) (u1 : Value) (g1 : RO [] w0 u1 a1) (rr : Str) (hF : S.DrawDecodeReply a1 = some rr) :
 Calls Try.prog 24 [u1].toArray w0 fun e w' => ∃ v, e = .returned v ∧ Res w0 rr v w' := by
 refine calls_of_W Try.func24 rfl rfl ?_
 have hC0 := Ctx.start w0
 unfold S.DrawDecodeReply at hF
 refine W_seq_reg ?_
 refine WL_assign rfl rfl ?_
 refine WL_nil ?_
 refine W_seq_reg ?_
 refine WL_move rfl rfl ?_
 obtain ⟨x1, hr1, hF⟩ := bind_some hF
 refine WL_call Try.call14 rfl rfl (c_S_l1New a1 u1 (g1.now hC0.keep) x1 hr1) ?_
 rintro _ w1 ⟨b1, rfl, hq1⟩
 have hC1 : Ctx [] w0 w1 [Item.box b1 [u1, (.int .i64 x1.2.1), (.int .i64 x1.2.2)]] := hC0.push2 hq1
 refine WL_assign rfl rfl ?_
 refine WL_nil ?_
 refine W_seq_reg ?_
 refine WL_move rfl rfl ?_
 obtain ⟨x2, hr2, hF⟩ := bind_some hF
 obtain ⟨Fs2, hH2, hn2, hF2, hO2, hb2⟩ := Ctx.lend2 (As := []) [Item.box b1 [u1, (.int .i64 x1.2.1), (.int .i64 x1.2.2)]] hC1
 refine WL_call Try.call33 rfl rfl (c_S_l2Schema b1 (a1, x1.2.1, x1.2.2) u1 (RO.lent g1 hC1.keep hF2) hH2 hn2 x2 hr2) ?_
 rintro v1 w2 ⟨_, rfl, hq2⟩
 have hC2 : Ctx [] w0 w2 [Item.own v1 (x2.1 : (List Int)), Item.box b1 [u1, (.int .i64 x2.2.2.1), (.int .i64 x2.2.2.2)]] := hb2 _ _ hq2
 refine WL_assign rfl rfl ?_
 refine WL_nil ?_
 refine W_seq_reg ?_
 refine WL_move rfl rfl ?_
 refine WL_move rfl rfl ?_
 obtain ⟨x3, hr3, hF⟩ := bind_some hF
 have hC3 := hC2.f1
 obtain ⟨Fs3, hH3, hn3, hF3, hO3, hb3⟩ := Ctx.lend2 (As := [Item.own v1 (x2.1 : (List Int))]) [Item.box b1 [u1, (.int .i64 x2.2.2.1), (.int .i64 x2.2.2.2)]] hC3
 refine WL_call Try.call35 rfl rfl (c_S_l2AnyFacts b1 (a1, x2.2.2.1, x2.2.2.2) u1 (RO.lent g1 hC3.keep hF3) x2.1 v1 (hO3 0 _ _ _ rfl) hH3 hn3 x3 hr3) ?_
 rintro v2 w3 ⟨_, rfl, hq3⟩
 have hC4 : Ctx [] w0 w3 [Item.own v2 (x3.1 : (List (Int × (List Int)))), Item.box b1 [u1, (.int .i64 x3.2.2.1), (.int .i64 x3.2.2.2)], Item.own v1 (x2.1 : (List Int))] := hb3 _ _ hq3
 obtain ⟨x4, hr4, hF⟩ := bind_some hF
 refine WL_call Try.call34 rfl rfl (c_S_EncodeReply x3.1 v2 ((hC4.ro 0 rfl).now (Keep.refl _ _)) x4 hr4) ?_
 intro _ w4 hv1
 obtain ⟨rfl, hB1⟩ := res_str hv1
 have hC5 := hC4.grow hB1
 refine WL_assign rfl rfl ?_
 refine WL_nil ?_
 refine W_seq ?_
 refine W_seq_reg ?_
 refine WL_move rfl rfl ?_
 obtain ⟨x5, hr5, hF⟩ := bind_some hF
 have hC6 := hC5.f1
 obtain ⟨Fs4, hH4, hn4, hF4, hO4, hb4⟩ := Ctx.lend2 (As := [Item.own v2 (x3.1 : (List (Int × (List Int)))), Item.own v1 (x2.1 : (List Int))]) [Item.box b1 [u1, (.int .i64 x3.2.2.1), (.int .i64 x3.2.2.2)]] hC6
 refine WL_call Try.call36 rfl rfl (c_S_l1Once b1 (a1, x3.2.2.1, x3.2.2.2) u1 (RO.lent g1 hC6.keep hF4) 3 hH4 hn4 x5 hr5) ?_
 rintro _ w5 ⟨rfl, hq4⟩
 have hC7 : Ctx [] w0 w5 [Item.box b1 [u1, (.int .i64 x5.2.2.1), (.int .i64 x5.2.2.2)], Item.own v2 (x3.1 : (List (Int × (List Int)))), Item.own v1 (x2.1 : (List Int))] := hb4 _ _ hq4
 refine WL_nil ?_
 refine W_cond rfl (fun hc1 => ?_) (fun hc1 => ?_)
 ·replace hF := ite_t hF hc1
  refine W_seq_reg ?_
  refine WL_move rfl rfl ?_
  refine WL_move rfl rfl ?_
  obtain ⟨x6, hr6, hF⟩ := bind_some hF
  obtain ⟨Fs5, hH5, hn5, hF5, hO5, hb5⟩ := Ctx.lend2 (As := [Item.own v2 (x3.1 : (List (Int × (List Int)))), Item.own v1 (x2.1 : (List Int))]) [Item.box b1 [u1, (.int .i64 x5.2.2.1), (.int .i64 x5.2.2.2)]] hC7
  refine WL_call Try.call18 rfl rfl (c_S_l1Spoil b1 (a1, x5.2.2.1, x5.2.2.2) u1 (RO.lent g1 hC7.keep hF5) x4 hH5 hn5 x6 hr6) ?_
  rintro _ w6 ⟨rfl, hq5⟩
  have hC8 : Ctx [] w0 w6 [Item.box b1 [u1, (.int .i64 x6.2.2.1), (.int .i64 x6.2.2.2)], Item.own v2 (x3.1 : (List (Int × (List Int)))), Item.own v1 (x2.1 : (List Int))] := hb5 _ _ hq5
  refine WL_assign rfl rfl ?_
  refine WL_nil ?_
  refine W_ret ?_
  refine nrm_ret ?_
  have hq6 := Option.some.inj hF
  subst hq6
  refine fn_ret1 rfl rfl ?_
  exact ⟨_, rfl, str_res hC8 _⟩
 replace hF := ite_f hF hc1
 refine W_skip ?_
 refine nrm_normal ?_
 refine W_seq_reg ?_
 refine WL_move rfl rfl ?_
 refine WL_assign rfl rfl ?_
 refine WL_nil ?_
 refine W_ret ?_
 have hq7 := Option.some.inj hF
 subst hq7
 refine fn_ret1 rfl rfl ?_
 exact ⟨_, rfl, str_res hC7 _⟩

theorem c_S_DrawFrameOf {w0 : World} (a1 : (List UInt8)) (u1 : Value) (g1 : RO [] w0 u1 a1) (rr : Str) (hF : S.DrawFrameOf a1 = some rr) :
 Calls Try.prog 9 [u1].toArray w0 fun e w' => ∃ v, e = .returned v ∧ Res w0 rr v w' := by
 refine calls_of_W Try.func9 rfl rfl ?_
 have hC0 := Ctx.start w0
 unfold S.DrawFrameOf at hF
 refine W_seq_reg ?_
 refine WL_assign rfl rfl ?_
 refine WL_nil ?_
 refine W_seq_reg ?_
 refine WL_move rfl rfl ?_
 obtain ⟨x1, hr1, hF⟩ := bind_some hF
 refine WL_call Try.call24 rfl rfl (c_S_DrawDecodeReply a1 u1 (g1.now hC0.keep) x1 hr1) ?_
 intro _ w1 hv1
 obtain ⟨rfl, hB1⟩ := res_str hv1
 have hC1 := hC0.grow hB1
 refine WL_assign rfl rfl ?_
 refine WL_nil ?_
 refine W_ret ?_
 have hq1 := Option.some.inj hF
 subst hq1
 refine fn_ret1 rfl rfl ?_
 exact ⟨_, rfl, str_res hC1 _⟩

theorem c_M_within {w0 : World} (a1 : Int) (a2 : Int) (a3 : Int) (rr : Bool) (hF : M.within a1 a2 a3 = some rr) :
 Calls Try.prog 37 [(.int .i64 a1), (.int .i64 a2), (.int .i64 a3)].toArray w0 fun e w' => ∃ v, e = .returned v ∧ Res w0 rr v w' := by
 refine calls_of_W Try.func37 rfl rfl ?_
 have hC0 := Ctx.start w0
 unfold M.within at hF
 refine W_seq_reg ?_
 refine WL_assign rfl rfl ?_
 refine WL_nil ?_
 obtain ⟨r1, hr1, hF⟩ := bind_some hF
 refine W_cut (fun l w => ∃ x1 : Bool, x1 = r1 ∧ l = [(6, (.bool x1))] ∧ Below w0.heap.size w0 w ∧ Ctx [] w0 w []) ?_ ?_
 ·refine W_reg ?_
  refine WL_move rfl rfl ?_
  refine WL_move rfl rfl ?_
  refine WL_geq rfl rfl rfl ?_
  refine WL_move rfl rfl ?_
  refine WL_fork (fun hc1 => ?_) (fun hc1 => ?_)
  ·replace hr1 := ite_t hr1 hc1
   refine WL_guard rfl rfl ?_
   refine WL_move rfl rfl ?_
   refine WL_guard rfl rfl ?_
   refine WL_move rfl rfl ?_
   refine WL_guard rfl rfl ?_
   refine WL_leq rfl rfl rfl ?_
   refine WL_pick_t rfl rfl rfl ?_
   refine WL_assign rfl rfl ?_
   refine WL_nil ?_
   have hq1 := Option.some.inj hr1
   subst hq1
   refine nrm_sub (l' := [(6, (.bool (decide (a1 ≤ a3))))]) ⟨rfl, trivial⟩ ?_
   exact ⟨(decide (a1 ≤ a3)), rfl, rfl, (Below.refl _ _), hC0⟩
  replace hr1 := ite_f hr1 hc1
  refine WL_guard_skip rfl rfl (by simp) rfl ?_
  refine WL_guard_skip rfl rfl (by simp) rfl ?_
  refine WL_guard_skip rfl rfl (by simp) rfl ?_
  refine WL_pick_f rfl rfl rfl ?_
  refine WL_assign rfl rfl ?_
  refine WL_nil ?_
  have hq2 := Option.some.inj hr1
  subst hq2
  refine nrm_sub (l' := [(6, (.bool false))]) ⟨rfl, trivial⟩ ?_
  exact ⟨false, rfl, rfl, (Below.refl _ _), hC0⟩
 rintro _ w1 ⟨x1, rfl, rfl, hB1, hC1⟩
 try dsimp only at hF
 refine W_ret ?_
 have hq3 := Option.some.inj hF
 subst hq3
 refine fn_ret1 rfl rfl ?_
 exact ⟨_, rfl, bool_res hC1 _⟩

theorem c_M_EncodeVarint {w0 : World} (a1 : Int) (rr : Str) (hF : M.EncodeVarint a1 = some rr) :
 Calls Try.prog 25 [(.int .i64 a1)].toArray w0 fun e w' => ∃ v, e = .returned v ∧ Res w0 rr v w' := by
 refine calls_of_W Try.func25 rfl rfl ?_
 have hC0 := Ctx.start w0
 unfold M.EncodeVarint at hF
 refine W_seq_reg ?_
 refine WL_assign rfl rfl ?_
 refine WL_nil ?_
 refine W_seq ?_
 refine W_seq_reg ?_
 refine WL_move rfl rfl ?_
 obtain ⟨x1, hr1, hF⟩ := bind_some hF
 refine WL_call Try.call37 rfl rfl (c_M_within a1 0 562949953421311 x1 hr1) ?_
 intro _ w1 hv1
 obtain ⟨rfl, hB1⟩ := res_bool hv1
 have hC1 := hC0.grow hB1
 refine WL_not rfl rfl ?_
 refine WL_nil ?_
 refine W_cond rfl (fun hc1 => ?_) (fun hc1 => ?_)
 ·replace hF := ite_t hF hc1
  refine W_seq_reg ?_
  refine WL_assign rfl rfl ?_
  refine WL_nil ?_
  refine W_ret ?_
  refine nrm_ret ?_
  have hq1 := Option.some.inj hF
  subst hq1
  refine fn_ret1 rfl rfl ?_
  exact ⟨_, rfl, str_res hC1 _⟩
 replace hF := ite_f hF hc1
 refine W_skip ?_
 refine nrm_normal ?_
 refine W_seq_reg ?_
 refine WL_buildSlice (vs := []) hC1 Try.underlying22 ty5 rfl rfl rfl rfl (by simp) rfl rfl (fun b1 w2 hC2 hB2 => ?_)
 have hC3 := hC2.row0 (α := UInt8)
 have hC4 := hC3.front 1 rfl
 dsimp only [List.eraseIdx, List.cons_append, List.nil_append, List.append_nil] at hC4
 have hC5 : Ctx [] w0 w2 (Item.own (.slice (some ⟨b1, 0, none⟩) 0 0) (([] : List UInt8) : List UInt8) :: []) := hC4.rowOwn (by simp [maxLen])
 refine WL_assign rfl rfl ?_
 refine WL_nil ?_
 refine W_seq ?_
 obtain ⟨r1, hr2, hF⟩ := bind_some hF
 refine W_norm (fun l w => ∃ x4 : Int, ∃ v2 : Value, ∃ x5 : (List UInt8), (x4, x5) = r1 ∧ l = [(0, (.int .i64 x4)), (3, v2)] ∧ Ctx [] w0 w [Item.own v2 (x5 : (List UInt8))]) ?_ ?_
 ·refine W_block ?_
  refine W.sub (l' := [(0, (.int .i64 a1)), (3, (.slice (some ⟨b1, 0, none⟩) 0 0))]) ?_ ⟨rfl, rfl, trivial⟩
  refine W_loop (fun k l w => ∃ x2 : Int, ∃ v1 : Value, ∃ x3 : (List UInt8), l = [(0, (.int .i64 x2)), (3, v1)] ∧ Ctx [] w0 w [Item.own v1 (x3 : (List UInt8))] ∧ M.EncodeVarint_l1 k x2 x3 = some r1) FUEL ⟨a1, (.slice (some ⟨b1, 0, none⟩) 0 0), ([] : List UInt8), rfl, hC5, hr2⟩ ?_
  clear hr2
  rintro k1 _ w3 ⟨x2, v1, x3, rfl, hC6, hL1⟩
  cases k1 with
  | zero => rw [M.EncodeVarint_l1] at hL1; cases hL1
  | succ k1 =>
   rw [M.EncodeVarint_l1] at hL1
   refine W_seq ?_
   refine W_seq_reg ?_
   refine WL_move rfl rfl ?_
   refine WL_geq rfl rfl rfl ?_
   refine WL_nil ?_
   refine W_cond rfl (fun hc2 => ?_) (fun hc2 => ?_)
   ·replace hL1 := ite_t hL1 hc2
    refine W_skip ?_
    refine nrm_normal ?_
    refine W_block ?_
    refine W_seq_reg ?_
    refine WL_move rfl rfl ?_
    refine WL_move rfl rfl ?_
    refine WL_conv_u8 Try.underlying3 Try.underlying5 rfl rfl ?_
    refine WL_bor8 rfl rfl rfl ?_
    refine WL_buildSlice (vs := [(.int .u8 (bor8 (w8 x2) 128))]) hC6 Try.underlying22 ty5 rfl rfl rfl rfl (by intro v hv; simp only [List.mem_cons, List.not_mem_nil, or_false] at hv; rcases hv with rfl <;> rfl) rfl rfl (fun b2 w4 hC7 hB4 => ?_)
    have hC8 := hC7.row0 (α := UInt8)
    have hC9 := hC8.triv (u8_of (e := bor8 (w8 x2) 128) (bor8_range _ _))
    have hC10 := hC9.row1
    have hC11 := hC10.front 1 rfl
    dsimp only [List.eraseIdx, List.cons_append, List.nil_append, List.append_nil] at hC11
    have hC12 : Ctx [] w0 w4 (Item.own (.slice (some ⟨b2, 0, none⟩) 1 1) ([(UInt8.ofNat (Int.toNat (bor8 (w8 x2) 128)))] : List UInt8) :: [Item.own v1 (x3 : (List UInt8))]) := hC11.rowOwn (by simp [maxLen])
    obtain ⟨x6, hx1, hL1⟩ := bind_some hL1
    refine WL_append_flat (α := UInt8) hC12 1 rfl (hC12.ro 0 rfl) (Keep.refl _ _) Try.underlying22 ty5 rfl hx1 rfl rfl rfl (fun v3 w5 hC13 => ?_)
    try dsimp only [List.set] at hC13
    refine WL_assign rfl rfl ?_
    refine WL_nil ?_
    refine W_reg ?_
    refine WL_move rfl rfl ?_
    refine WL_shr (by decide) rfl rfl rfl ?_
    refine WL_assign rfl rfl ?_
    refine WL_nil ?_
    refine blk_normal ?_
    have hC14 := hC13.f1
    have hC15 := hC14.h1
    refine nrm_sub (l' := [(0, (.int .i64 (shr x2 7))), (3, v3)]) ⟨rfl, rfl, trivial⟩ ?_
    exact ⟨k1, Nat.lt_succ_self _, shr x2 7, v3, x6, rfl, hC15, hL1⟩
   replace hL1 := ite_f hL1 hc2
   refine W_exit ?_
   refine nrm_exit ?_
   refine nrm_exit ?_
   refine blk_exit ?_
   have hq2 := Option.some.inj hL1
   subst hq2
   refine nrm_sub (l' := [(0, (.int .i64 x2)), (3, v1)]) ⟨rfl, rfl, trivial⟩ ?_
   exact ⟨x2, v1, x3, rfl, rfl, hC6⟩
 rintro l2 _ w6 hs2 ⟨x4, v2, x5, rfl, rfl, hC16⟩
 try dsimp only at hF
 refine nrm_sub' hs2 ?_
 clear hs2
 refine W_seq_reg ?_
 refine WL_move rfl rfl ?_
 refine WL_move rfl rfl ?_
 refine WL_conv_u8 Try.underlying3 Try.underlying5 rfl rfl ?_
 refine WL_buildSlice (vs := [(.int .u8 (w8 x4))]) hC16 Try.underlying22 ty5 rfl rfl rfl rfl (by intro v hv; simp only [List.mem_cons, List.not_mem_nil, or_false] at hv; rcases hv with rfl <;> rfl) rfl rfl (fun b3 w7 hC17 hB6 => ?_)
 have hC18 := hC17.row0 (α := UInt8)
 have hC19 := hC18.triv (u8_val x4)
 have hC20 := hC19.row1
 have hC21 := hC20.front 1 rfl
 dsimp only [List.eraseIdx, List.cons_append, List.nil_append, List.append_nil] at hC21
 have hC22 : Ctx [] w0 w7 (Item.own (.slice (some ⟨b3, 0, none⟩) 1 1) ([(u8 x4)] : List UInt8) :: [Item.own v2 (x5 : (List UInt8))]) := hC21.rowOwn (by simp [maxLen])
 obtain ⟨x7, hx2, hF⟩ := bind_some hF
 refine WL_append_flat (α := UInt8) hC22 1 rfl (hC22.ro 0 rfl) (Keep.refl _ _) Try.underlying22 ty5 rfl hx2 rfl rfl rfl (fun v4 w9 hC23 => ?_)
 try dsimp only [List.set] at hC23
 refine WL_conv_bytes Try.underlying22 Try.underlying5 Try.underlying9 (hC23.ro 1 rfl) (Keep.refl _ _) rfl rfl ?_
 refine WL_assign rfl rfl ?_
 refine WL_nil ?_
 refine W_ret ?_
 have hq3 := Option.some.inj hF
 subst hq3
 refine fn_ret1 rfl rfl ?_
 exact ⟨_, rfl, str_res hC23 _⟩

end Go.Gx.Px
