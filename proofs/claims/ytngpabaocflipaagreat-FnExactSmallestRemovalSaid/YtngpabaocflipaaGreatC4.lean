/- The contracts of the Go functions against the pure functions, printed by program. Conditions: each says them. -/
import Derived.Test.YtngpabaocflipaaGreatC3
set_option linter.unusedVariables false
set_option linter.unusedSimpArgs false
set_option maxRecDepth 100000
set_option maxHeartbeats 4000000
namespace Go.Gx.Px
open Go.Proofs Go.RowKit

theorem c_M_smallest_M_removals_c1 {w0 : World} (a1 : Int) (pb1 : Nat) (ax1 : (List Int)) (g1 : ROAt [] w0 pb1 0 ax1) (pb2 : Nat) (ax2 : (List (Int × (List Int) × Int × Int × Int))) (g2 : ROAt [] w0 pb2 0 ax2) (pb3 : Nat) (ax3 : (List ((Int × (List Int)) × (List (Int × (List Int)))))) (g3 : ROAt [] w0 pb3 0 ax3) (rr : ((List Int) × Bool)) (hF : M.smallest_M_removals_c1 a1 ax1 ax2 ax3 = some rr) :
 Calls Tryz.prog 160 [(.int .i64 a1), (.func (.func 158) #[] #[(ptr pb1 0), (ptr pb2 0), (ptr pb3 0)])].toArray w0 fun e w' => ∃ v, e = .returned v ∧ Res2 w0 rr.1 rr.2 v w' := by
 refine calls_of_W Tryz.func160 rfl rfl ?_
 have hC0 := Ctx.start w0
 unfold M.smallest_M_removals_c1 at hF
 refine W_seq_reg ?_
 refine WL_assign rfl rfl ?_
 refine WL_assign rfl rfl ?_
 refine WL_nil ?_
 refine W_seq_reg ?_
 refine WL_assign rfl rfl ?_
 refine WL_nil ?_
 refine W_seq ?_
 refine W_seq_reg ?_
 refine WL_move rfl rfl ?_
 obtain ⟨_, hx1, hF⟩ := bind_some hF
 refine WL_shl (nn_some hx1) rfl rfl rfl ?_
 refine WL_move rfl rfl ?_
 refine WL_nil ?_
 obtain ⟨r1, hr1, hF⟩ := bind_some hF
 refine W_norm (fun l w => ∃ v2 : Value, ∃ x4 : (List Int), ∃ x5 : Bool, (x4, x5) = r1 ∧ l = [(6, v2)] ∧ Ctx [] w0 w [Item.own v2 (x4 : (List Int))] ∧ NilB v2 x5) ?_ ?_
 ·refine W_block ?_
  have hC28 := hC0.triv (nil_val (α := Int))
  refine W.sub (l' := [(0, (.int .i64 a1)), (1, (.func (.func 158) #[] #[(ptr pb1 0), (ptr pb2 0), (ptr pb3 0)])), (6, (.slice none 0 0)), (11, (.int .i64 (shl 1 a1))), (12, (.int .i64 0))]) ?_ ⟨rfl, rfl, rfl, rfl, rfl, trivial⟩
  refine W_loop (fun k l w => ∃ v1 : Value, ∃ x1 : (List Int), ∃ x2 : Bool, ∃ x3 : Int, l = [(0, (.int .i64 a1)), (1, (.func (.func 158) #[] #[(ptr pb1 0), (ptr pb2 0), (ptr pb3 0)])), (6, v1), (11, (.int .i64 (shl 1 a1))), (12, (.int .i64 x3))] ∧ Ctx [] w0 w [Item.own v1 (x1 : (List Int))] ∧ NilB v1 x2 ∧ M.smallest_M_removals_c1_l1 a1 ax1 ax2 ax3 k x1 x2 x3 = some r1) FUEL ⟨(.slice none 0 0), [], true, 0, rfl, hC28, nilB_nil, hr1⟩ ?_
  clear hr1
  rintro k1 _ w1 ⟨v1, x1, x2, x3, rfl, hC1, hnb1, hL1⟩
  cases k1 with
  | zero => rw [M.smallest_M_removals_c1_l1] at hL1; cases hL1
  | succ k1 =>
   rw [M.smallest_M_removals_c1_l1] at hL1
   refine W_seq_reg ?_
   refine WL_lss rfl rfl rfl ?_
   refine WL_nil ?_
   refine W_seq ?_
   refine W_cond rfl (fun hc1 => ?_) (fun hc1 => ?_)
   ·replace hL1 := ite_t hL1 hc1
    refine W_skip ?_
    refine nrm_normal ?_
    refine W_seq ?_
    refine W_block ?_
    refine W_seq_reg ?_
    refine WL_move rfl rfl ?_
    refine WL_assign rfl rfl ?_
    refine WL_nil ?_
    refine W_seq_reg ?_
    refine WL_buildSlice (vs := []) hC1 Tryz.underlying24 ty3 rfl rfl rfl rfl (by simp) rfl rfl (fun b1 w2 hC2 hB2 => ?_)
    have hC3 := hC2.row0 (α := Int)
    have hC4 := hC3.front 1 rfl
    dsimp only [List.eraseIdx, List.cons_append, List.nil_append, List.append_nil] at hC4
    have hC5 : Ctx [] w0 w2 (Item.own (.slice (some ⟨b1, 0, none⟩) 0 0) (([] : List Int) : List Int) :: [Item.own v1 (x1 : (List Int))]) := hC4.rowOwn (by simp [maxLen])
    refine WL_assign rfl rfl ?_
    refine WL_nil ?_
    refine W_seq ?_
    refine W_seq_reg ?_
    refine WL_move rfl rfl ?_
    refine WL_move rfl rfl ?_
    refine WL_nil ?_
    obtain ⟨r2, hr2, hL1⟩ := bind_some hL1
    refine W_norm (fun l w => ∃ v4 : Value, ∃ x9 : (List Int), ∃ x10 : Bool, (x9, x10) = r2 ∧ l = [(0, (.int .i64 a1)), (1, (.func (.func 158) #[] #[(ptr pb1 0), (ptr pb2 0), (ptr pb3 0)])), (6, v1), (8, v4), (11, (.int .i64 (shl 1 a1))), (12, (.int .i64 x3))] ∧ Ctx [] w0 w [Item.own v4 (x9 : (List Int)), Item.own v1 (x1 : (List Int))] ∧ NilB v4 x10) ?_ ?_
    ·refine W_block ?_
     refine W.sub (l' := [(0, (.int .i64 a1)), (1, (.func (.func 158) #[] #[(ptr pb1 0), (ptr pb2 0), (ptr pb3 0)])), (6, v1), (7, (.int .i64 x3)), (8, (.slice (some ⟨b1, 0, none⟩) 0 0)), (11, (.int .i64 (shl 1 a1))), (12, (.int .i64 x3)), (16, (.int .i64 a1)), (17, (.int .i64 0))]) ?_ ⟨rfl, rfl, rfl, rfl, rfl, rfl, rfl, rfl, rfl, trivial⟩
     refine W_loop (fun k l w => ∃ v3 : Value, ∃ x6 : (List Int), ∃ x7 : Bool, ∃ x8 : Int, l = [(0, (.int .i64 a1)), (1, (.func (.func 158) #[] #[(ptr pb1 0), (ptr pb2 0), (ptr pb3 0)])), (6, v1), (7, (.int .i64 x3)), (8, v3), (11, (.int .i64 (shl 1 a1))), (12, (.int .i64 x3)), (16, (.int .i64 a1)), (17, (.int .i64 x8))] ∧ Ctx [] w0 w [Item.own v3 (x6 : (List Int)), Item.own v1 (x1 : (List Int))] ∧ NilB v3 x7 ∧ M.smallest_M_removals_c1_l2 a1 x3 k x6 x7 x8 = some r2) FUEL ⟨(.slice (some ⟨b1, 0, none⟩) 0 0), ([] : List Int), false, 0, rfl, hC5, nilB_some, hr2⟩ ?_
     clear hr2
     rintro k2 _ w3 ⟨v3, x6, x7, x8, rfl, hC6, hnb3, hL2⟩
     cases k2 with
     | zero => rw [M.smallest_M_removals_c1_l2] at hL2; cases hL2
     | succ k2 =>
      rw [M.smallest_M_removals_c1_l2] at hL2
      refine W_seq_reg ?_
      refine WL_lss rfl rfl rfl ?_
      refine WL_nil ?_
      refine W_seq ?_
      refine W_cond rfl (fun hc2 => ?_) (fun hc2 => ?_)
      ·replace hL2 := ite_t hL2 hc2
       refine W_skip ?_
       refine nrm_normal ?_
       refine W_seq ?_
       refine W_block ?_
       refine W_seq_reg ?_
       refine WL_move rfl rfl ?_
       refine WL_assign rfl rfl ?_
       refine WL_nil ?_
       refine W_seq_reg ?_
       refine WL_move rfl rfl ?_
       refine WL_move rfl rfl ?_
       obtain ⟨_, hx2, hL2⟩ := bind_some hL2
       refine WL_shr (nn_some hx2) rfl rfl rfl ?_
       refine WL_band rfl rfl rfl ?_
       refine WL_eql rfl rfl rfl ?_
       refine WL_nil ?_
       obtain ⟨r3, hr3, hL2⟩ := bind_some hL2
       refine W_norm (fun l w => ∃ v5 : Value, ∃ x11 : (List Int), ∃ x12 : Bool, (x11, x12) = r3 ∧ l = [(0, (.int .i64 a1)), (1, (.func (.func 158) #[] #[(ptr pb1 0), (ptr pb2 0), (ptr pb3 0)])), (6, v1), (7, (.int .i64 x3)), (8, v5), (11, (.int .i64 (shl 1 a1))), (12, (.int .i64 x3)), (16, (.int .i64 a1)), (17, (.int .i64 x8))] ∧ Ctx [] w0 w [Item.own v5 (x11 : (List Int)), Item.own v1 (x1 : (List Int))] ∧ NilB v5 x12) ?_ ?_
       ·refine W_cond rfl (fun hc3 => ?_) (fun hc3 => ?_)
        ·replace hr3 := ite_t hr3 hc3
         refine W_reg ?_
         refine WL_move rfl rfl ?_
         refine WL_move rfl rfl ?_
         refine WL_buildSlice (vs := [(.int .i64 x8)]) hC6 Tryz.underlying24 ty3 rfl rfl rfl rfl (by intro v hv; simp only [List.mem_cons, List.not_mem_nil, or_false] at hv; rcases hv with rfl <;> rfl) rfl rfl (fun b2 w5 hC8 hB5 => ?_)
         have hC9 := hC8.row0 (α := Int)
         have hC10 := hC9.triv (int_val (x8))
         have hC11 := hC10.row1
         have hC12 := hC11.front 1 rfl
         dsimp only [List.eraseIdx, List.cons_append, List.nil_append, List.append_nil] at hC12
         have hC13 : Ctx [] w0 w5 (Item.own (.slice (some ⟨b2, 0, none⟩) 1 1) ([x8] : List Int) :: [Item.own v3 (x6 : (List Int)), Item.own v1 (x1 : (List Int))]) := hC12.rowOwn (by simp [maxLen])
         obtain ⟨x13, hx3, hr3⟩ := bind_some hr3
         refine WL_append_flat (α := Int) hC13 1 rfl (hC13.ro 0 rfl) (Keep.refl _ _) Tryz.underlying24 ty3 rfl hx3 rfl rfl rfl (fun v6 w6 hC14 => ?_)
         try dsimp only [List.set] at hC14
         refine WL_assign rfl rfl ?_
         refine WL_nil ?_
         have hq1 := Option.some.inj hr3
         subst hq1
         have hC15 := hC14.f2
         have hC16 := hC15.f2
         have hC17 := hC16.h2
         refine nrm_sub (l' := [(0, (.int .i64 a1)), (1, (.func (.func 158) #[] #[(ptr pb1 0), (ptr pb2 0), (ptr pb3 0)])), (6, v1), (7, (.int .i64 x3)), (8, v6), (11, (.int .i64 (shl 1 a1))), (12, (.int .i64 x3)), (16, (.int .i64 a1)), (17, (.int .i64 x8))]) ⟨rfl, rfl, rfl, rfl, rfl, rfl, rfl, rfl, rfl, trivial⟩ ?_
         exact ⟨v6, x13, false, rfl, rfl, hC17, (nilB_own hC14 1 rfl (app_ne hx3))⟩
        replace hr3 := ite_f hr3 hc3
        refine W_skip ?_
        have hq2 := Option.some.inj hr3
        subst hq2
        refine nrm_sub (l' := [(0, (.int .i64 a1)), (1, (.func (.func 158) #[] #[(ptr pb1 0), (ptr pb2 0), (ptr pb3 0)])), (6, v1), (7, (.int .i64 x3)), (8, v3), (11, (.int .i64 (shl 1 a1))), (12, (.int .i64 x3)), (16, (.int .i64 a1)), (17, (.int .i64 x8))]) ⟨rfl, rfl, rfl, rfl, rfl, rfl, rfl, rfl, rfl, trivial⟩ ?_
        exact ⟨v3, x6, x7, rfl, rfl, hC6, hnb3⟩
       rintro l3 _ w4 hs3 ⟨v5, x11, x12, rfl, rfl, hC7, hnb5⟩
       try dsimp only at hL2
       refine blk_normal ?_
       refine nrm_sub' hs3 ?_
       clear hs3
       refine W_reg ?_
       refine WL_add rfl rfl rfl ?_
       refine WL_move rfl rfl ?_
       refine WL_nil ?_
       refine nrm_sub (l' := [(0, (.int .i64 a1)), (1, (.func (.func 158) #[] #[(ptr pb1 0), (ptr pb2 0), (ptr pb3 0)])), (6, v1), (7, (.int .i64 x3)), (8, v5), (11, (.int .i64 (shl 1 a1))), (12, (.int .i64 x3)), (16, (.int .i64 a1)), (17, (.int .i64 (w64 (x8 + 1))))]) ⟨rfl, rfl, rfl, rfl, rfl, rfl, rfl, rfl, rfl, trivial⟩ ?_
       exact ⟨k2, Nat.lt_succ_self _, v5, x11, x12, w64 (x8 + 1), rfl, hC7, hnb5, hL2⟩
      replace hL2 := ite_f hL2 hc2
      refine W_exit ?_
      refine nrm_exit ?_
      refine nrm_exit ?_
      refine blk_exit ?_
      have hq3 := Option.some.inj hL2
      subst hq3
      refine nrm_sub (l' := [(0, (.int .i64 a1)), (1, (.func (.func 158) #[] #[(ptr pb1 0), (ptr pb2 0), (ptr pb3 0)])), (6, v1), (8, v3), (11, (.int .i64 (shl 1 a1))), (12, (.int .i64 x3))]) ⟨rfl, rfl, rfl, rfl, rfl, rfl, trivial⟩ ?_
      exact ⟨v3, x6, x7, rfl, rfl, hC6, hnb3⟩
    rintro l4 _ w7 hs4 ⟨v4, x9, x10, rfl, rfl, hC18, hnb4⟩
    try dsimp only at hL1
    refine nrm_sub' hs4 ?_
    clear hs4
    obtain ⟨r4, hr4, hL1⟩ := bind_some hL1
    refine W_cut (fun l w => ∃ x14 : Bool, x14 = r4 ∧ l = [(0, (.int .i64 a1)), (1, (.func (.func 158) #[] #[(ptr pb1 0), (ptr pb2 0), (ptr pb3 0)])), (6, v1), (8, v4), (11, (.int .i64 (shl 1 a1))), (12, (.int .i64 x3)), (56, (.bool x14))] ∧ Below w7.heap.size w7 w ∧ Ctx [] w0 w [Item.own v4 (x9 : (List Int)), Item.own v1 (x1 : (List Int))]) ?_ ?_
    ·refine W_reg ?_
     refine WL_move rfl rfl ?_
     refine WL_nil_eql Tryz.underlying24 hnb1 rfl rfl ?_
     refine WL_move rfl rfl ?_
     refine WL_fork (fun hc4 => ?_) (fun hc4 => ?_)
     ·replace hr4 := ite_t hr4 hc4
      refine WL_guard_skip rfl rfl (by simp) rfl ?_
      refine WL_guard_skip rfl rfl (by simp) rfl ?_
      refine WL_guard_skip rfl rfl (by simp) rfl ?_
      refine WL_guard_skip rfl rfl (by simp) rfl ?_
      refine WL_guard_skip rfl rfl (by simp) rfl ?_
      refine WL_pick_t rfl rfl rfl ?_
      refine WL_move rfl rfl ?_
      refine WL_guard_skip rfl rfl (by simp) rfl ?_
      refine WL_guard_skip rfl rfl (by simp) rfl ?_
      refine WL_guard_skip rfl rfl (by simp) rfl ?_
      refine WL_guard_skip rfl rfl (by simp) rfl ?_
      refine WL_guard_skip rfl rfl (by simp) rfl ?_
      refine WL_guard_skip rfl rfl (by simp) rfl ?_
      refine WL_guard_skip rfl rfl (by simp [undef]) rfl ?_
      refine WL_guard_skip rfl rfl (by simp [undef]) rfl ?_
      refine WL_guard_skip rfl rfl (by simp [undef]) rfl ?_
      refine WL_guard_skip rfl rfl (by simp [undef]) rfl ?_
      refine WL_guard_skip rfl rfl (by simp) rfl ?_
      refine WL_pick_t rfl rfl rfl ?_
      refine WL_move rfl rfl ?_
      refine WL_guard rfl rfl ?_
      refine WL_move rfl rfl ?_
      refine WL_guard rfl rfl ?_
      refine WL_move rfl rfl ?_
      obtain ⟨x15, hr5, hr4⟩ := bind_some hr4
      refine WL_guard rfl rfl ?_
      refine WL_callv (cap := [(ptr pb1 0), (ptr pb2 0), (ptr pb3 0)]) Tryz.call158 rfl rfl rfl (c_M_removals_c1 x9 v4 ((hC18.ro 0 rfl).now (Keep.refl _ _)) pb1 ax1 (g1.now hC18.keep) pb2 ax2 (g2.now hC18.keep) pb3 ax3 (g3.now hC18.keep) x15 hr5) ?_
      intro _ w10 hv1
      obtain ⟨rfl, hB8⟩ := res_bool hv1
      have hC20 := hC18.grow hB8
      refine WL_pick_t rfl rfl rfl ?_
      refine WL_nil ?_
      have hq4 := Option.some.inj hr4
      subst hq4
      refine nrm_sub (l' := [(0, (.int .i64 a1)), (1, (.func (.func 158) #[] #[(ptr pb1 0), (ptr pb2 0), (ptr pb3 0)])), (6, v1), (8, v4), (11, (.int .i64 (shl 1 a1))), (12, (.int .i64 x3)), (56, (.bool x15))]) ⟨rfl, rfl, rfl, rfl, rfl, rfl, rfl, trivial⟩ ?_
      exact ⟨x15, rfl, rfl, (Keep.of hB8).below, hC20⟩
     replace hr4 := ite_f hr4 hc4
     refine WL_guard rfl rfl ?_
     refine WL_move rfl rfl ?_
     refine WL_guard rfl rfl ?_
     refine WL_len Tryz.underlying24 (hC18.ro 0 rfl) rfl rfl ?_
     refine WL_guard rfl rfl ?_
     refine WL_move rfl rfl ?_
     refine WL_guard rfl rfl ?_
     refine WL_len Tryz.underlying24 (hC18.ro 1 rfl) rfl rfl ?_
     refine WL_guard rfl rfl ?_
     refine WL_lss rfl rfl rfl ?_
     refine WL_pick_f rfl rfl rfl ?_
     refine WL_move rfl rfl ?_
     refine WL_fork (fun hc5 => ?_) (fun hc5 => ?_)
     ·replace hr4 := ite_t hr4 hc5
      refine WL_guard_skip rfl rfl (by simp) rfl ?_
      refine WL_guard_skip rfl rfl (by simp) rfl ?_
      refine WL_guard_skip rfl rfl (by simp) rfl ?_
      refine WL_guard_skip rfl rfl (by simp) rfl ?_
      refine WL_guard_skip rfl rfl (by simp) rfl ?_
      refine WL_guard_skip rfl rfl (by simp) rfl ?_
      refine WL_guard_skip rfl rfl (by simp [undef]) rfl ?_
      refine WL_guard_skip rfl rfl (by simp [undef]) rfl ?_
      refine WL_guard_skip rfl rfl (by simp [undef]) rfl ?_
      refine WL_guard_skip rfl rfl (by simp [undef]) rfl ?_
      refine WL_guard_skip rfl rfl (by simp) rfl ?_
      refine WL_pick_t rfl rfl rfl ?_
      refine WL_move rfl rfl ?_
      refine WL_guard rfl rfl ?_
      refine WL_move rfl rfl ?_
      refine WL_guard rfl rfl ?_
      refine WL_move rfl rfl ?_
      obtain ⟨x16, hr6, hr4⟩ := bind_some hr4
      refine WL_guard rfl rfl ?_
      refine WL_callv (cap := [(ptr pb1 0), (ptr pb2 0), (ptr pb3 0)]) Tryz.call158 rfl rfl rfl (c_M_removals_c1 x9 v4 ((hC18.ro 0 rfl).now (Keep.refl _ _)) pb1 ax1 (g1.now hC18.keep) pb2 ax2 (g2.now hC18.keep) pb3 ax3 (g3.now hC18.keep) x16 hr6) ?_
      intro _ w11 hv2
      obtain ⟨rfl, hB9⟩ := res_bool hv2
      have hC21 := hC18.grow hB9
      refine WL_pick_t rfl rfl rfl ?_
      refine WL_nil ?_
      have hq5 := Option.some.inj hr4
      subst hq5
      refine nrm_sub (l' := [(0, (.int .i64 a1)), (1, (.func (.func 158) #[] #[(ptr pb1 0), (ptr pb2 0), (ptr pb3 0)])), (6, v1), (8, v4), (11, (.int .i64 (shl 1 a1))), (12, (.int .i64 x3)), (56, (.bool x16))]) ⟨rfl, rfl, rfl, rfl, rfl, rfl, rfl, trivial⟩ ?_
      exact ⟨x16, rfl, rfl, (Keep.of hB9).below, hC21⟩
     replace hr4 := ite_f hr4 hc5
     refine WL_guard rfl rfl ?_
     refine WL_move rfl rfl ?_
     refine WL_guard rfl rfl ?_
     refine WL_len Tryz.underlying24 (hC18.ro 0 rfl) rfl rfl ?_
     refine WL_guard rfl rfl ?_
     refine WL_move rfl rfl ?_
     refine WL_guard rfl rfl ?_
     refine WL_len Tryz.underlying24 (hC18.ro 1 rfl) rfl rfl ?_
     refine WL_guard rfl rfl ?_
     refine WL_eql rfl rfl rfl ?_
     refine WL_guard rfl rfl ?_
     refine WL_move rfl rfl ?_
     refine WL_fork (fun hc6 => ?_) (fun hc6 => ?_)
     ·replace hr4 := ite_t hr4 hc6
      refine WL_guard rfl rfl ?_
      refine WL_move rfl rfl ?_
      refine WL_guard rfl rfl ?_
      refine WL_move rfl rfl ?_
      obtain ⟨x17, hr7, hr4⟩ := bind_some hr4
      refine WL_guard rfl rfl ?_
      refine WL_call Tryz.call178 rfl rfl (c_Slices_Compare_Lint_int x9 v4 ((hC18.ro 0 rfl).now (Keep.refl _ _)) x1 v1 ((hC18.ro 1 rfl).now (Keep.refl _ _)) x17 hr7) ?_
      intro _ w12 hv3
      obtain ⟨rfl, hB10⟩ := res_int hv3
      have hC22 := hC18.grow hB10
      refine WL_guard rfl rfl ?_
      refine WL_lss rfl rfl rfl ?_
      refine WL_guard rfl rfl ?_
      refine WL_pick_t rfl rfl rfl ?_
      refine WL_pick_f rfl rfl rfl ?_
      refine WL_move rfl rfl ?_
      refine WL_fork (fun hc7 => ?_) (fun hc7 => ?_)
      ·replace hr4 := ite_t hr4 hc7
       refine WL_guard rfl rfl ?_
       refine WL_move rfl rfl ?_
       refine WL_guard rfl rfl ?_
       refine WL_move rfl rfl ?_
       obtain ⟨x18, hr8, hr4⟩ := bind_some hr4
       refine WL_guard rfl rfl ?_
       refine WL_callv (cap := [(ptr pb1 0), (ptr pb2 0), (ptr pb3 0)]) Tryz.call158 rfl rfl rfl (c_M_removals_c1 x9 v4 ((hC22.ro 0 rfl).now (Keep.refl _ _)) pb1 ax1 (g1.now hC22.keep) pb2 ax2 (g2.now hC22.keep) pb3 ax3 (g3.now hC22.keep) x18 hr8) ?_
       intro _ w13 hv4
       obtain ⟨rfl, hB11⟩ := res_bool hv4
       have hC23 := hC22.grow hB11
       refine WL_pick_t rfl rfl rfl ?_
       refine WL_nil ?_
       have hq6 := Option.some.inj hr4
       subst hq6
       refine nrm_sub (l' := [(0, (.int .i64 a1)), (1, (.func (.func 158) #[] #[(ptr pb1 0), (ptr pb2 0), (ptr pb3 0)])), (6, v1), (8, v4), (11, (.int .i64 (shl 1 a1))), (12, (.int .i64 x3)), (56, (.bool x18))]) ⟨rfl, rfl, rfl, rfl, rfl, rfl, rfl, trivial⟩ ?_
       exact ⟨x18, rfl, rfl, ((Keep.of hB10).then hB11).below, hC23⟩
      replace hr4 := ite_f hr4 hc7
      refine WL_guard_skip rfl rfl (by simp) rfl ?_
      refine WL_guard_skip rfl rfl (by simp) rfl ?_
      refine WL_guard_skip rfl rfl (by simp) rfl ?_
      refine WL_pick_f rfl rfl rfl ?_
      refine WL_nil ?_
      have hq7 := Option.some.inj hr4
      subst hq7
      refine nrm_sub (l' := [(0, (.int .i64 a1)), (1, (.func (.func 158) #[] #[(ptr pb1 0), (ptr pb2 0), (ptr pb3 0)])), (6, v1), (8, v4), (11, (.int .i64 (shl 1 a1))), (12, (.int .i64 x3)), (56, (.bool false))]) ⟨rfl, rfl, rfl, rfl, rfl, rfl, rfl, trivial⟩ ?_
      exact ⟨false, rfl, rfl, (Keep.of hB10).below, hC22⟩
     replace hr4 := ite_f hr4 hc6
     refine WL_guard_skip rfl rfl (by simp) rfl ?_
     refine WL_guard_skip rfl rfl (by simp) rfl ?_
     refine WL_guard_skip rfl rfl (by simp) rfl ?_
     refine WL_guard_skip rfl rfl (by simp) rfl ?_
     refine WL_guard rfl rfl ?_
     refine WL_pick_f rfl rfl rfl ?_
     refine WL_pick_f rfl rfl rfl ?_
     refine WL_move rfl rfl ?_
     refine WL_guard_skip rfl rfl (by simp) rfl ?_
     refine WL_guard_skip rfl rfl (by simp) rfl ?_
     refine WL_guard_skip rfl rfl (by simp) rfl ?_
     refine WL_pick_f rfl rfl rfl ?_
     refine WL_nil ?_
     have hq8 := Option.some.inj hr4
     subst hq8
     refine nrm_sub (l' := [(0, (.int .i64 a1)), (1, (.func (.func 158) #[] #[(ptr pb1 0), (ptr pb2 0), (ptr pb3 0)])), (6, v1), (8, v4), (11, (.int .i64 (shl 1 a1))), (12, (.int .i64 x3)), (56, (.bool false))]) ⟨rfl, rfl, rfl, rfl, rfl, rfl, rfl, trivial⟩ ?_
     exact ⟨false, rfl, rfl, (Below.refl _ _), hC18⟩
    rintro _ w9 ⟨x14, rfl, rfl, hB7, hC19⟩
    try dsimp only at hL1
    obtain ⟨r5, hr9, hL1⟩ := bind_some hL1
    refine W_norm (fun l w => ∃ v7 : Value, ∃ x19 : (List Int), ∃ x20 : Bool, (x19, x20) = r5 ∧ l = [(0, (.int .i64 a1)), (1, (.func (.func 158) #[] #[(ptr pb1 0), (ptr pb2 0), (ptr pb3 0)])), (6, v7), (11, (.int .i64 (shl 1 a1))), (12, (.int .i64 x3))] ∧ Below w9.heap.size w9 w ∧ Ctx [] w0 w [Item.own v7 (x19 : (List Int))] ∧ NilB v7 x20) ?_ ?_
    ·refine W_cond rfl (fun hc8 => ?_) (fun hc8 => ?_)
     ·replace hr9 := ite_t hr9 hc8
      refine W_reg ?_
      refine WL_move rfl rfl ?_
      refine WL_assign rfl rfl ?_
      refine WL_nil ?_
      have hq9 := Option.some.inj hr9
      subst hq9
      have hC25 := hC19.h1
      refine nrm_sub (l' := [(0, (.int .i64 a1)), (1, (.func (.func 158) #[] #[(ptr pb1 0), (ptr pb2 0), (ptr pb3 0)])), (6, v4), (11, (.int .i64 (shl 1 a1))), (12, (.int .i64 x3))]) ⟨rfl, rfl, rfl, rfl, rfl, trivial⟩ ?_
      exact ⟨v4, x9, x10, rfl, rfl, (Below.refl _ _), hC25, hnb4⟩
     replace hr9 := ite_f hr9 hc8
     refine W_skip ?_
     have hq10 := Option.some.inj hr9
     subst hq10
     have hC26 := hC19.f1
     have hC27 := hC26.h1
     refine nrm_sub (l' := [(0, (.int .i64 a1)), (1, (.func (.func 158) #[] #[(ptr pb1 0), (ptr pb2 0), (ptr pb3 0)])), (6, v1), (11, (.int .i64 (shl 1 a1))), (12, (.int .i64 x3))]) ⟨rfl, rfl, rfl, rfl, rfl, trivial⟩ ?_
     exact ⟨v1, x1, x2, rfl, rfl, (Below.refl _ _), hC27, hnb1⟩
    rintro l6 _ w14 hs6 ⟨v7, x19, x20, rfl, rfl, hB12, hC24, hnb6⟩
    try dsimp only at hL1
    refine blk_normal ?_
    refine nrm_sub' hs6 ?_
    clear hs6
    refine W_reg ?_
    refine WL_add rfl rfl rfl ?_
    refine WL_move rfl rfl ?_
    refine WL_nil ?_
    refine nrm_sub (l' := [(0, (.int .i64 a1)), (1, (.func (.func 158) #[] #[(ptr pb1 0), (ptr pb2 0), (ptr pb3 0)])), (6, v7), (11, (.int .i64 (shl 1 a1))), (12, (.int .i64 (w64 (x3 + 1))))]) ⟨rfl, rfl, rfl, rfl, rfl, trivial⟩ ?_
    exact ⟨k1, Nat.lt_succ_self _, v7, x19, x20, w64 (x3 + 1), rfl, hC24, hnb6, hL1⟩
   replace hL1 := ite_f hL1 hc1
   refine W_exit ?_
   refine nrm_exit ?_
   refine nrm_exit ?_
   refine blk_exit ?_
   have hq11 := Option.some.inj hL1
   subst hq11
   refine nrm_sub (l' := [(6, v1)]) ⟨rfl, trivial⟩ ?_
   exact ⟨v1, x1, x2, rfl, rfl, hC1, hnb1⟩
 rintro l7 _ w15 hs7 ⟨v2, x4, x5, rfl, rfl, hC29, hnb2⟩
 try dsimp only at hF
 refine nrm_sub' hs7 ?_
 clear hs7
 refine W_seq_reg ?_
 refine WL_move rfl rfl ?_
 refine WL_move rfl rfl ?_
 refine WL_nil_neq Tryz.underlying24 hnb2 rfl rfl ?_
 refine WL_assign rfl rfl ?_
 refine WL_assign rfl rfl ?_
 refine WL_nil ?_
 refine W_ret ?_
 have hq12 := Option.some.inj hF
 subst hq12
 refine fn_ret2 rfl rfl rfl ?_
 have hC30 := hC29.triv (bool_val ((!x5)))
 have hC31 := hC30.f1
 exact ⟨_, rfl, res2_of hC31⟩

theorem c_M_removals {w0 : World} (a1 : (List Int)) (u1 : Value) (g1 : RO [] w0 u1 a1) (a2 : (List (Int × (List Int) × Int × Int × Int))) (u2 : Value) (g2 : RO [] w0 u2 a2) (a3 : (List ((Int × (List Int)) × (List (Int × (List Int)))))) (u3 : Value) (g3 : RO [] w0 u3 a3) (rr : ((List (List Int)) × Bool)) (hF : M.removals a1 a2 a3 = some rr) :
 Calls Tryz.prog 110 [u1, u2, u3].toArray w0 fun e w' => ∃ v, e = .returned v ∧ Res2 w0 rr.1 rr.2 v w' := by
 refine calls_of_W Tryz.func110 rfl rfl ?_
 have hC0 := Ctx.start w0
 unfold M.removals at hF
 refine W_seq_reg ?_
 refine WL_boxK (cs := [u1]) hC0 (ro_cells g1) rfl rfl (fun b1 w1 hC1 hB1 hN1 => ?_)
 refine WL_boxK (cs := [u2]) hC1 (ro_cells g2) rfl rfl (fun b2 w2 hC2 hB2 hN2 => ?_)
 refine WL_boxK (cs := [u3]) hC2 (ro_cells g3) rfl rfl (fun b3 w3 hC3 hB3 hN3 => ?_)
 refine WL_assign rfl rfl ?_
 refine WL_assign rfl rfl ?_
 refine WL_nil ?_
 refine W_seq ?_
 obtain ⟨r1, hr1, hF⟩ := bind_some hF
 refine W_cut (fun l w => ∃ x1 : Bool, x1 = r1 ∧ l = [(3, (ptr b1 0)), (4, (ptr b2 0)), (5, (ptr b3 0)), (23, (.bool x1))] ∧ Below w3.heap.size w3 w ∧ Ctx [] w0 w [Item.box b3 [u3], Item.box b2 [u2], Item.box b1 [u1]]) ?_ ?_
 ·refine W_reg ?_
  refine WL_load_box hC3 2 rfl rfl Tryz.isAgg24 rfl rfl ?_
  refine WL_load_box hC3 1 rfl rfl Tryz.isAgg25 rfl rfl ?_
  obtain ⟨x2, hr2, hr1⟩ := bind_some hr1
  refine WL_call Tryz.call71 rfl rfl (c_M_AreMethods a1 u1 (g1.now hC3.keep) a2 u2 (g2.now hC3.keep) x2 hr2) ?_
  intro _ w5 hv1
  obtain ⟨rfl, hB5⟩ := res_bool hv1
  have hC5 := hC3.grow hB5
  refine WL_not rfl rfl ?_
  refine WL_move rfl rfl ?_
  refine WL_fork (fun hc1 => ?_) (fun hc1 => ?_)
  ·replace hr1 := ite_t hr1 hc1
   refine WL_guard_skip rfl rfl (by simp) rfl ?_
   refine WL_guard_skip rfl rfl (by simp) rfl ?_
   refine WL_guard_skip rfl rfl (by simp) rfl ?_
   refine WL_pick_t rfl rfl rfl ?_
   refine WL_nil ?_
   have hq1 := Option.some.inj hr1
   subst hq1
   refine nrm_sub (l' := [(3, (ptr b1 0)), (4, (ptr b2 0)), (5, (ptr b3 0)), (23, (.bool true))]) ⟨rfl, rfl, rfl, rfl, trivial⟩ ?_
   exact ⟨true, rfl, rfl, (Keep.of hB5).below, hC5⟩
  replace hr1 := ite_f hr1 hc1
  refine WL_guard rfl rfl ?_
  refine WL_load_box hC5 0 rfl rfl Tryz.isAgg26 rfl rfl ?_
  refine WL_guard rfl rfl ?_
  refine WL_len Tryz.underlying26 g3 rfl rfl ?_
  refine WL_guard rfl rfl ?_
  refine WL_gtr rfl rfl rfl ?_
  refine WL_pick_f rfl rfl rfl ?_
  refine WL_nil ?_
  have hq2 := Option.some.inj hr1
  subst hq2
  refine nrm_sub (l' := [(3, (ptr b1 0)), (4, (ptr b2 0)), (5, (ptr b3 0)), (23, (.bool (decide (8 < (List.length a3 : Int)))))]) ⟨rfl, rfl, rfl, rfl, trivial⟩ ?_
  exact ⟨(decide (8 < (List.length a3 : Int))), rfl, rfl, (Keep.of hB5).below, hC5⟩
 rintro _ w4 ⟨x1, rfl, rfl, hB4, hC4⟩
 try dsimp only at hF
 refine W_cond rfl (fun hc2 => ?_) (fun hc2 => ?_)
 ·replace hF := ite_t hF hc2
  refine W_seq_reg ?_
  refine WL_assign rfl rfl ?_
  refine WL_assign rfl rfl ?_
  refine WL_nil ?_
  refine W_ret ?_
  refine nrm_ret ?_
  have hq3 := Option.some.inj hF
  subst hq3
  refine fn_ret2 rfl rfl rfl ?_
  have hC6 := hC4.triv (bool_val (false))
  have hC7 := hC6.triv (nil_val (α := (List Int)))
  exact ⟨_, rfl, res2_of hC7⟩
 replace hF := ite_f hF hc2
 refine W_skip ?_
 refine nrm_normal ?_
 refine W_seq_reg ?_
 refine WL_makeFunc rfl rfl ?_
 refine WL_assign rfl rfl ?_
 refine WL_nil ?_
 refine W_seq_reg ?_
 refine WL_load_box hC4 0 rfl rfl Tryz.isAgg26 rfl rfl ?_
 refine WL_len Tryz.underlying26 g3 rfl rfl ?_
 refine WL_move rfl rfl ?_
 obtain ⟨x3, hr3, hF⟩ := bind_some hF
 refine WL_call Tryz.call160 rfl rfl (c_M_smallest_M_removals_c1 (List.length a3 : Int) b1 a1 (hC4.boxAt 2 rfl (repw_slice (g1.now hC4.keep))) b2 a2 (hC4.boxAt 1 rfl (repw_slice (g2.now hC4.keep))) b3 a3 (hC4.boxAt 0 rfl (repw_slice (g3.now hC4.keep))) x3 hr3) ?_
 rintro _ w6 ⟨hB6, v1, v2, F1, F2, rfl, hv2, hv3, hn1, hb1⟩
 obtain ⟨rfl, rfl⟩ := val_bool hv3
 have hC8 := hC4.pushL hB6 (Bs := [Item.own v1 x3.1]) (Fs := [F1]) ⟨F1, _, rfl, hv2, rfl⟩ (by simpa using hn1) (fun b h => hb1 b (by simpa using h))
 refine WL_move rfl rfl ?_
 refine WL_extract rfl rfl rfl ?_
 refine WL_extract rfl rfl rfl ?_
 refine WL_assign rfl rfl ?_
 refine WL_assign rfl rfl ?_
 refine WL_nil ?_
 refine W_seq ?_
 refine W_seq_reg ?_
 refine WL_move rfl rfl ?_
 refine WL_not rfl rfl ?_
 refine WL_nil ?_
 refine W_cond rfl (fun hc3 => ?_) (fun hc3 => ?_)
 ·replace hF := ite_t hF hc3
  refine W_seq_reg ?_
  refine WL_assign rfl rfl ?_
  refine WL_assign rfl rfl ?_
  refine WL_nil ?_
  refine W_ret ?_
  refine nrm_ret ?_
  have hq4 := Option.some.inj hF
  subst hq4
  refine fn_ret2 rfl rfl rfl ?_
  have hC9 := hC8.triv (bool_val (false))
  have hC10 := hC9.triv (nil_val (α := (List Int)))
  exact ⟨_, rfl, res2_of hC10⟩
 replace hF := ite_f hF hc3
 refine W_skip ?_
 refine nrm_normal ?_
 refine W_seq_reg ?_
 refine WL_buildSlice (vs := []) hC8 Tryz.underlying77 ty24 rfl rfl rfl rfl (by simp) rfl rfl (fun b4 w7 hC11 hB7 => ?_)
 have hC12 := hC11.row0 (α := (List Int))
 have hC13 := hC12.front 1 rfl
 dsimp only [List.eraseIdx, List.cons_append, List.nil_append, List.append_nil] at hC13
 have hC14 : Ctx [] w0 w7 (Item.own (.slice (some ⟨b4, 0, none⟩) 0 0) (([] : List (List Int)) : List (List Int)) :: [Item.own v1 (x3.1 : (List Int)), Item.box b3 [u3], Item.box b2 [u2], Item.box b1 [u1]]) := hC13.rowOwn (by simp [maxLen])
 refine WL_assign rfl rfl ?_
 refine WL_nil ?_
 refine W_seq ?_
 refine W_seq_reg ?_
 refine WL_load_box hC14 2 rfl rfl Tryz.isAgg26 rfl rfl ?_
 refine WL_len Tryz.underlying26 g3 rfl rfl ?_
 obtain ⟨_, hx1, hF⟩ := bind_some hF
 refine WL_shl (nn_some hx1) rfl rfl rfl ?_
 refine WL_move rfl rfl ?_
 refine WL_nil ?_
 obtain ⟨r2, hr4, hF⟩ := bind_some hF
 refine W_norm (fun l w => ∃ v4 : Value, ∃ x6 : (List (List Int)), x6 = r2 ∧ l = [(11, v4)] ∧ Ctx [] w0 w [Item.own v4 (x6 : (List (List Int)))]) ?_ ?_
 ·refine W_block ?_
  refine W.sub (l' := [(5, (ptr b3 0)), (8, (.func (.func 158) #[] #[(ptr b1 0), (ptr b2 0), (ptr b3 0)])), (9, v1), (11, (.slice (some ⟨b4, 0, none⟩) 0 0)), (37, (.int .i64 (shl 1 (List.length a3 : Int)))), (38, (.int .i64 0))]) ?_ ⟨rfl, rfl, rfl, rfl, rfl, rfl, trivial⟩
  refine W_loop (fun k l w => ∃ v3 : Value, ∃ x4 : (List (List Int)), ∃ x5 : Int, l = [(5, (ptr b3 0)), (8, (.func (.func 158) #[] #[(ptr b1 0), (ptr b2 0), (ptr b3 0)])), (9, v1), (11, v3), (37, (.int .i64 (shl 1 (List.length a3 : Int)))), (38, (.int .i64 x5))] ∧ Ctx [] w0 w [Item.own v3 (x4 : (List (List Int))), Item.own v1 (x3.1 : (List Int)), Item.box b3 [u3], Item.box b2 [u2], Item.box b1 [u1]] ∧ M.removals_l1 a3 x3 a1 a2 k x4 x5 = some r2) FUEL ⟨(.slice (some ⟨b4, 0, none⟩) 0 0), ([] : List (List Int)), 0, rfl, hC14, hr4⟩ ?_
  clear hr4
  rintro k1 _ w9 ⟨v3, x4, x5, rfl, hC15, hL1⟩
  cases k1 with
  | zero => rw [M.removals_l1] at hL1; cases hL1
  | succ k1 =>
   rw [M.removals_l1] at hL1
   refine W_seq_reg ?_
   refine WL_lss rfl rfl rfl ?_
   refine WL_nil ?_
   refine W_seq ?_
   refine W_cond rfl (fun hc4 => ?_) (fun hc4 => ?_)
   ·replace hL1 := ite_t hL1 hc4
    refine W_skip ?_
    refine nrm_normal ?_
    refine W_seq ?_
    refine W_block ?_
    refine W_seq_reg ?_
    refine WL_move rfl rfl ?_
    refine WL_assign rfl rfl ?_
    refine WL_nil ?_
    refine W_seq_reg ?_
    refine WL_buildSlice (vs := []) hC15 Tryz.underlying24 ty3 rfl rfl rfl rfl (by simp) rfl rfl (fun b5 w10 hC16 hB9 => ?_)
    have hC17 := hC16.row0 (α := Int)
    have hC18 := hC17.front 1 rfl
    dsimp only [List.eraseIdx, List.cons_append, List.nil_append, List.append_nil] at hC18
    have hC19 : Ctx [] w0 w10 (Item.own (.slice (some ⟨b5, 0, none⟩) 0 0) (([] : List Int) : List Int) :: [Item.own v3 (x4 : (List (List Int))), Item.own v1 (x3.1 : (List Int)), Item.box b3 [u3], Item.box b2 [u2], Item.box b1 [u1]]) := hC18.rowOwn (by simp [maxLen])
    refine WL_assign rfl rfl ?_
    refine WL_nil ?_
    refine W_seq ?_
    refine W_seq_reg ?_
    refine WL_load_box hC19 3 rfl rfl Tryz.isAgg26 rfl rfl ?_
    refine WL_len Tryz.underlying26 g3 rfl rfl ?_
    refine WL_move rfl rfl ?_
    refine WL_nil ?_
    obtain ⟨r3, hr5, hL1⟩ := bind_some hL1
    refine W_norm (fun l w => ∃ v6 : Value, ∃ x9 : (List Int), x9 = r3 ∧ l = [(5, (ptr b3 0)), (8, (.func (.func 158) #[] #[(ptr b1 0), (ptr b2 0), (ptr b3 0)])), (9, v1), (11, v3), (13, v6), (37, (.int .i64 (shl 1 (List.length a3 : Int)))), (38, (.int .i64 x5))] ∧ Ctx [] w0 w [Item.own v6 (x9 : (List Int)), Item.own v3 (x4 : (List (List Int))), Item.own v1 (x3.1 : (List Int)), Item.box b3 [u3], Item.box b2 [u2], Item.box b1 [u1]]) ?_ ?_
    ·refine W_block ?_
     refine W.sub (l' := [(5, (ptr b3 0)), (8, (.func (.func 158) #[] #[(ptr b1 0), (ptr b2 0), (ptr b3 0)])), (9, v1), (11, v3), (12, (.int .i64 x5)), (13, (.slice (some ⟨b5, 0, none⟩) 0 0)), (37, (.int .i64 (shl 1 (List.length a3 : Int)))), (38, (.int .i64 x5)), (43, (.int .i64 (List.length a3 : Int))), (44, (.int .i64 0))]) ?_ ⟨rfl, rfl, rfl, rfl, rfl, rfl, rfl, rfl, rfl, rfl, trivial⟩
     refine W_loop (fun k l w => ∃ v5 : Value, ∃ x7 : (List Int), ∃ x8 : Int, l = [(5, (ptr b3 0)), (8, (.func (.func 158) #[] #[(ptr b1 0), (ptr b2 0), (ptr b3 0)])), (9, v1), (11, v3), (12, (.int .i64 x5)), (13, v5), (37, (.int .i64 (shl 1 (List.length a3 : Int)))), (38, (.int .i64 x5)), (43, (.int .i64 (List.length a3 : Int))), (44, (.int .i64 x8))] ∧ Ctx [] w0 w [Item.own v5 (x7 : (List Int)), Item.own v3 (x4 : (List (List Int))), Item.own v1 (x3.1 : (List Int)), Item.box b3 [u3], Item.box b2 [u2], Item.box b1 [u1]] ∧ M.removals_l2 a3 x5 k x7 x8 = some r3) FUEL ⟨(.slice (some ⟨b5, 0, none⟩) 0 0), ([] : List Int), 0, rfl, hC19, hr5⟩ ?_
     clear hr5
     rintro k2 _ w11 ⟨v5, x7, x8, rfl, hC20, hL2⟩
     cases k2 with
     | zero => rw [M.removals_l2] at hL2; cases hL2
     | succ k2 =>
      rw [M.removals_l2] at hL2
      refine W_seq_reg ?_
      refine WL_lss rfl rfl rfl ?_
      refine WL_nil ?_
      refine W_seq ?_
      refine W_cond rfl (fun hc5 => ?_) (fun hc5 => ?_)
      ·replace hL2 := ite_t hL2 hc5
       refine W_skip ?_
       refine nrm_normal ?_
       refine W_seq ?_
       refine W_block ?_
       refine W_seq_reg ?_
       refine WL_move rfl rfl ?_
       refine WL_assign rfl rfl ?_
       refine WL_nil ?_
       refine W_seq_reg ?_
       refine WL_move rfl rfl ?_
       refine WL_move rfl rfl ?_
       obtain ⟨_, hx2, hL2⟩ := bind_some hL2
       refine WL_shr (nn_some hx2) rfl rfl rfl ?_
       refine WL_band rfl rfl rfl ?_
       refine WL_eql rfl rfl rfl ?_
       refine WL_nil ?_
       obtain ⟨r4, hr6, hL2⟩ := bind_some hL2
       refine W_norm (fun l w => ∃ v7 : Value, ∃ x10 : (List Int), x10 = r4 ∧ l = [(5, (ptr b3 0)), (8, (.func (.func 158) #[] #[(ptr b1 0), (ptr b2 0), (ptr b3 0)])), (9, v1), (11, v3), (12, (.int .i64 x5)), (13, v7), (37, (.int .i64 (shl 1 (List.length a3 : Int)))), (38, (.int .i64 x5)), (43, (.int .i64 (List.length a3 : Int))), (44, (.int .i64 x8))] ∧ Ctx [] w0 w [Item.own v7 (x10 : (List Int)), Item.own v3 (x4 : (List (List Int))), Item.own v1 (x3.1 : (List Int)), Item.box b3 [u3], Item.box b2 [u2], Item.box b1 [u1]]) ?_ ?_
       ·refine W_cond rfl (fun hc6 => ?_) (fun hc6 => ?_)
        ·replace hr6 := ite_t hr6 hc6
         refine W_reg ?_
         refine WL_move rfl rfl ?_
         refine WL_move rfl rfl ?_
         refine WL_buildSlice (vs := [(.int .i64 x8)]) hC20 Tryz.underlying24 ty3 rfl rfl rfl rfl (by intro v hv; simp only [List.mem_cons, List.not_mem_nil, or_false] at hv; rcases hv with rfl <;> rfl) rfl rfl (fun b6 w13 hC22 hB12 => ?_)
         have hC23 := hC22.row0 (α := Int)
         have hC24 := hC23.triv (int_val (x8))
         have hC25 := hC24.row1
         have hC26 := hC25.front 1 rfl
         dsimp only [List.eraseIdx, List.cons_append, List.nil_append, List.append_nil] at hC26
         have hC27 : Ctx [] w0 w13 (Item.own (.slice (some ⟨b6, 0, none⟩) 1 1) ([x8] : List Int) :: [Item.own v5 (x7 : (List Int)), Item.own v3 (x4 : (List (List Int))), Item.own v1 (x3.1 : (List Int)), Item.box b3 [u3], Item.box b2 [u2], Item.box b1 [u1]]) := hC26.rowOwn (by simp [maxLen])
         obtain ⟨x11, hx3, hr6⟩ := bind_some hr6
         refine WL_append_flat (α := Int) hC27 1 rfl (hC27.ro 0 rfl) (Keep.refl _ _) Tryz.underlying24 ty3 rfl hx3 rfl rfl rfl (fun v8 w14 hC28 => ?_)
         try dsimp only [List.set] at hC28
         refine WL_assign rfl rfl ?_
         refine WL_nil ?_
         have hq5 := Option.some.inj hr6
         subst hq5
         have hC29 := hC28.f6
         have hC30 := hC29.f6
         have hC31 := hC30.f6
         have hC32 := hC31.f6
         have hC33 := hC32.f6
         have hC34 := hC33.f6
         have hC35 := hC34.h6
         refine nrm_sub (l' := [(5, (ptr b3 0)), (8, (.func (.func 158) #[] #[(ptr b1 0), (ptr b2 0), (ptr b3 0)])), (9, v1), (11, v3), (12, (.int .i64 x5)), (13, v8), (37, (.int .i64 (shl 1 (List.length a3 : Int)))), (38, (.int .i64 x5)), (43, (.int .i64 (List.length a3 : Int))), (44, (.int .i64 x8))]) ⟨rfl, rfl, rfl, rfl, rfl, rfl, rfl, rfl, rfl, rfl, trivial⟩ ?_
         exact ⟨v8, x11, rfl, rfl, hC35⟩
        replace hr6 := ite_f hr6 hc6
        refine W_skip ?_
        have hq6 := Option.some.inj hr6
        subst hq6
        refine nrm_sub (l' := [(5, (ptr b3 0)), (8, (.func (.func 158) #[] #[(ptr b1 0), (ptr b2 0), (ptr b3 0)])), (9, v1), (11, v3), (12, (.int .i64 x5)), (13, v5), (37, (.int .i64 (shl 1 (List.length a3 : Int)))), (38, (.int .i64 x5)), (43, (.int .i64 (List.length a3 : Int))), (44, (.int .i64 x8))]) ⟨rfl, rfl, rfl, rfl, rfl, rfl, rfl, rfl, rfl, rfl, trivial⟩ ?_
        exact ⟨v5, x7, rfl, rfl, hC20⟩
       rintro l4 _ w12 hs4 ⟨v7, x10, rfl, rfl, hC21⟩
       try dsimp only at hL2
       refine blk_normal ?_
       refine nrm_sub' hs4 ?_
       clear hs4
       refine W_reg ?_
       refine WL_add rfl rfl rfl ?_
       refine WL_move rfl rfl ?_
       refine WL_nil ?_
       refine nrm_sub (l' := [(5, (ptr b3 0)), (8, (.func (.func 158) #[] #[(ptr b1 0), (ptr b2 0), (ptr b3 0)])), (9, v1), (11, v3), (12, (.int .i64 x5)), (13, v7), (37, (.int .i64 (shl 1 (List.length a3 : Int)))), (38, (.int .i64 x5)), (43, (.int .i64 (List.length a3 : Int))), (44, (.int .i64 (w64 (x8 + 1))))]) ⟨rfl, rfl, rfl, rfl, rfl, rfl, rfl, rfl, rfl, rfl, trivial⟩ ?_
       exact ⟨k2, Nat.lt_succ_self _, v7, x10, w64 (x8 + 1), rfl, hC21, hL2⟩
      replace hL2 := ite_f hL2 hc5
      refine W_exit ?_
      refine nrm_exit ?_
      refine nrm_exit ?_
      refine blk_exit ?_
      have hq7 := Option.some.inj hL2
      subst hq7
      refine nrm_sub (l' := [(5, (ptr b3 0)), (8, (.func (.func 158) #[] #[(ptr b1 0), (ptr b2 0), (ptr b3 0)])), (9, v1), (11, v3), (13, v5), (37, (.int .i64 (shl 1 (List.length a3 : Int)))), (38, (.int .i64 x5))]) ⟨rfl, rfl, rfl, rfl, rfl, rfl, rfl, trivial⟩ ?_
      exact ⟨v5, x7, rfl, rfl, hC20⟩
    rintro l5 _ w15 hs5 ⟨v6, x9, rfl, rfl, hC36⟩
    try dsimp only at hL1
    refine nrm_sub' hs5 ?_
    clear hs5
    obtain ⟨r5, hr7, hL1⟩ := bind_some hL1
    refine W_cut (fun l w => ∃ x12 : Bool, x12 = r5 ∧ l = [(5, (ptr b3 0)), (8, (.func (.func 158) #[] #[(ptr b1 0), (ptr b2 0), (ptr b3 0)])), (9, v1), (11, v3), (13, v6), (37, (.int .i64 (shl 1 (List.length a3 : Int)))), (38, (.int .i64 x5)), (66, (.bool x12))] ∧ Below w15.heap.size w15 w ∧ Ctx [] w0 w [Item.own v6 (x9 : (List Int)), Item.own v3 (x4 : (List (List Int))), Item.own v1 (x3.1 : (List Int)), Item.box b3 [u3], Item.box b2 [u2], Item.box b1 [u1]]) ?_ ?_
    ·refine W_reg ?_
     refine WL_move rfl rfl ?_
     refine WL_len Tryz.underlying24 (hC36.ro 0 rfl) rfl rfl ?_
     refine WL_move rfl rfl ?_
     refine WL_len Tryz.underlying24 (hC36.ro 2 rfl) rfl rfl ?_
     refine WL_eql rfl rfl rfl ?_
     refine WL_move rfl rfl ?_
     refine WL_fork (fun hc7 => ?_) (fun hc7 => ?_)
     ·replace hr7 := ite_t hr7 hc7
      refine WL_guard rfl rfl ?_
      refine WL_move rfl rfl ?_
      refine WL_guard rfl rfl ?_
      refine WL_move rfl rfl ?_
      obtain ⟨x13, hr8, hr7⟩ := bind_some hr7
      refine WL_guard rfl rfl ?_
      refine WL_callv (cap := [(ptr b1 0), (ptr b2 0), (ptr b3 0)]) Tryz.call158 rfl rfl rfl (c_M_removals_c1 x9 v6 ((hC36.ro 0 rfl).now (Keep.refl _ _)) b1 a1 (hC36.boxAt 5 rfl (repw_slice (g1.now hC36.keep))) b2 a2 (hC36.boxAt 4 rfl (repw_slice (g2.now hC36.keep))) b3 a3 (hC36.boxAt 3 rfl (repw_slice (g3.now hC36.keep))) x13 hr8) ?_
      intro _ w17 hv4
      obtain ⟨rfl, hB15⟩ := res_bool hv4
      have hC38 := hC36.grow hB15
      refine WL_pick_t rfl rfl rfl ?_
      refine WL_nil ?_
      have hq8 := Option.some.inj hr7
      subst hq8
      refine nrm_sub (l' := [(5, (ptr b3 0)), (8, (.func (.func 158) #[] #[(ptr b1 0), (ptr b2 0), (ptr b3 0)])), (9, v1), (11, v3), (13, v6), (37, (.int .i64 (shl 1 (List.length a3 : Int)))), (38, (.int .i64 x5)), (66, (.bool x13))]) ⟨rfl, rfl, rfl, rfl, rfl, rfl, rfl, rfl, trivial⟩ ?_
      exact ⟨x13, rfl, rfl, (Keep.of hB15).below, hC38⟩
     replace hr7 := ite_f hr7 hc7
     refine WL_guard_skip rfl rfl (by simp) rfl ?_
     refine WL_guard_skip rfl rfl (by simp) rfl ?_
     refine WL_guard_skip rfl rfl (by simp) rfl ?_
     refine WL_pick_f rfl rfl rfl ?_
     refine WL_nil ?_
     have hq9 := Option.some.inj hr7
     subst hq9
     refine nrm_sub (l' := [(5, (ptr b3 0)), (8, (.func (.func 158) #[] #[(ptr b1 0), (ptr b2 0), (ptr b3 0)])), (9, v1), (11, v3), (13, v6), (37, (.int .i64 (shl 1 (List.length a3 : Int)))), (38, (.int .i64 x5)), (66, (.bool false))]) ⟨rfl, rfl, rfl, rfl, rfl, rfl, rfl, rfl, trivial⟩ ?_
     exact ⟨false, rfl, rfl, (Below.refl _ _), hC36⟩
    rintro _ w16 ⟨x12, rfl, rfl, hB14, hC37⟩
    try dsimp only at hL1
    obtain ⟨r6, hr9, hL1⟩ := bind_some hL1
    refine W_norm (fun l w => ∃ v9 : Value, ∃ x14 : (List (List Int)), x14 = r6 ∧ l = [(5, (ptr b3 0)), (8, (.func (.func 158) #[] #[(ptr b1 0), (ptr b2 0), (ptr b3 0)])), (9, v1), (11, v9), (37, (.int .i64 (shl 1 (List.length a3 : Int)))), (38, (.int .i64 x5))] ∧ Ctx [] w0 w [Item.own v9 (x14 : (List (List Int))), Item.own v1 (x3.1 : (List Int)), Item.box b3 [u3], Item.box b2 [u2], Item.box b1 [u1]]) ?_ ?_
    ·refine W_cond rfl (fun hc8 => ?_) (fun hc8 => ?_)
     ·replace hr9 := ite_t hr9 hc8
      refine W_reg ?_
      refine WL_move rfl rfl ?_
      refine WL_move rfl rfl ?_
      obtain ⟨x15, hr10, hr9⟩ := bind_some hr9
      have hC40 := hC37.f1
      obtain ⟨Fs1, hH1, hn2, hF1, hO1, hb2⟩ := Ctx.lend2 (As := [Item.own v6 (x9 : (List Int)), Item.own v1 (x3.1 : (List Int)), Item.box b3 [u3], Item.box b2 [u2], Item.box b1 [u1]]) [Item.own v3 (x4 : (List (List Int)))] hC40
      refine WL_call Tryz.call161 rfl rfl (c_M_addedTuple x4 v3 x9 v6 (hO1 0 _ _ _ rfl) hH1 hn2 x15 hr10) ?_
      rintro v10 w19 ⟨_, rfl, hq10⟩
      have hC41 : Ctx [] w0 w19 [Item.own v10 (x15 : (List (List Int))), Item.own v6 (x9 : (List Int)), Item.own v1 (x3.1 : (List Int)), Item.box b3 [u3], Item.box b2 [u2], Item.box b1 [u1]] := hb2 _ _ hq10
      refine WL_assign rfl rfl ?_
      refine WL_nil ?_
      have hq11 := Option.some.inj hr9
      subst hq11
      have hC42 := hC41.f5
      have hC43 := hC42.f5
      have hC44 := hC43.f5
      have hC45 := hC44.f5
      have hC46 := hC45.f4
      have hC47 := hC46.h5
      refine nrm_sub (l' := [(5, (ptr b3 0)), (8, (.func (.func 158) #[] #[(ptr b1 0), (ptr b2 0), (ptr b3 0)])), (9, v1), (11, v10), (37, (.int .i64 (shl 1 (List.length a3 : Int)))), (38, (.int .i64 x5))]) ⟨rfl, rfl, rfl, rfl, rfl, rfl, trivial⟩ ?_
      exact ⟨v10, x15, rfl, rfl, hC47⟩
     replace hr9 := ite_f hr9 hc8
     refine W_skip ?_
     have hq12 := Option.some.inj hr9
     subst hq12
     have hC48 := hC37.f5
     have hC49 := hC48.f5
     have hC50 := hC49.f5
     have hC51 := hC50.f5
     have hC52 := hC51.f5
     have hC53 := hC52.h5
     refine nrm_sub (l' := [(5, (ptr b3 0)), (8, (.func (.func 158) #[] #[(ptr b1 0), (ptr b2 0), (ptr b3 0)])), (9, v1), (11, v3), (37, (.int .i64 (shl 1 (List.length a3 : Int)))), (38, (.int .i64 x5))]) ⟨rfl, rfl, rfl, rfl, rfl, rfl, trivial⟩ ?_
     exact ⟨v3, x4, rfl, rfl, hC53⟩
    rintro l7 _ w18 hs7 ⟨v9, x14, rfl, rfl, hC39⟩
    try dsimp only at hL1
    refine blk_normal ?_
    refine nrm_sub' hs7 ?_
    clear hs7
    refine W_reg ?_
    refine WL_add rfl rfl rfl ?_
    refine WL_move rfl rfl ?_
    refine WL_nil ?_
    refine nrm_sub (l' := [(5, (ptr b3 0)), (8, (.func (.func 158) #[] #[(ptr b1 0), (ptr b2 0), (ptr b3 0)])), (9, v1), (11, v9), (37, (.int .i64 (shl 1 (List.length a3 : Int)))), (38, (.int .i64 (w64 (x5 + 1))))]) ⟨rfl, rfl, rfl, rfl, rfl, rfl, trivial⟩ ?_
    exact ⟨k1, Nat.lt_succ_self _, v9, x14, w64 (x5 + 1), rfl, hC39, hL1⟩
   replace hL1 := ite_f hL1 hc4
   refine W_exit ?_
   refine nrm_exit ?_
   refine nrm_exit ?_
   refine blk_exit ?_
   have hq13 := Option.some.inj hL1
   subst hq13
   have hC54 := hC15.h1
   refine nrm_sub (l' := [(11, v3)]) ⟨rfl, trivial⟩ ?_
   exact ⟨v3, x4, rfl, rfl, hC54⟩
 rintro l8 _ w20 hs8 ⟨v4, x6, rfl, rfl, hC55⟩
 try dsimp only at hF
 refine nrm_sub' hs8 ?_
 clear hs8
 refine W_seq_reg ?_
 refine WL_move rfl rfl ?_
 refine WL_assign rfl rfl ?_
 refine WL_assign rfl rfl ?_
 refine WL_nil ?_
 refine W_ret ?_
 have hq14 := Option.some.inj hF
 subst hq14
 refine fn_ret2 rfl rfl rfl ?_
 have hC56 := hC55.triv (bool_val (true))
 have hC57 := hC56.f1
 exact ⟨_, rfl, res2_of hC57⟩

theorem c_M_SmallestRemoval {w0 : World} (a1 : (List Int)) (u1 : Value) (g1 : RO [] w0 u1 a1) (a2 : (List (Int × (List Int) × Int × Int × Int))) (u2 : Value) (g2 : RO [] w0 u2 a2) (a3 : (List ((Int × (List Int)) × (List (Int × (List Int)))))) (u3 : Value) (g3 : RO [] w0 u3 a3) (rr : ((List Int) × Bool)) (hF : M.SmallestRemoval a1 a2 a3 = some rr) :
 Calls Tryz.prog 40 [u1, u2, u3].toArray w0 fun e w' => ∃ v, e = .returned v ∧ Res2 w0 rr.1 rr.2 v w' := by
 refine calls_of_W Tryz.func40 rfl rfl ?_
 have hC0 := Ctx.start w0
 unfold M.SmallestRemoval at hF
 refine W_seq_reg ?_
 refine WL_assign rfl rfl ?_
 refine WL_assign rfl rfl ?_
 refine WL_nil ?_
 refine W_seq_reg ?_
 refine WL_move rfl rfl ?_
 refine WL_move rfl rfl ?_
 refine WL_move rfl rfl ?_
 obtain ⟨x1, hr1, hF⟩ := bind_some hF
 refine WL_call Tryz.call110 rfl rfl (c_M_removals a1 u1 (g1.now hC0.keep) a2 u2 (g2.now hC0.keep) a3 u3 (g3.now hC0.keep) x1 hr1) ?_
 rintro _ w1 ⟨hB1, v1, v2, F1, F2, rfl, hv1, hv2, hn1, hb1⟩
 obtain ⟨rfl, rfl⟩ := val_bool hv2
 have hC1 := hC0.pushL hB1 (Bs := [Item.own v1 x1.1]) (Fs := [F1]) ⟨F1, _, rfl, hv1, rfl⟩ (by simpa using hn1) (fun b h => hb1 b (by simpa using h))
 refine WL_move rfl rfl ?_
 refine WL_extract rfl rfl rfl ?_
 refine WL_extract rfl rfl rfl ?_
 refine WL_assign rfl rfl ?_
 refine WL_assign rfl rfl ?_
 refine WL_nil ?_
 refine W_seq ?_
 refine W_seq_reg ?_
 refine WL_move rfl rfl ?_
 refine WL_not rfl rfl ?_
 refine WL_nil ?_
 refine W_cond rfl (fun hc1 => ?_) (fun hc1 => ?_)
 ·replace hF := ite_t hF hc1
  refine W_seq_reg ?_
  refine WL_assign rfl rfl ?_
  refine WL_assign rfl rfl ?_
  refine WL_nil ?_
  refine W_ret ?_
  refine nrm_ret ?_
  have hq1 := Option.some.inj hF
  subst hq1
  refine fn_ret2 rfl rfl rfl ?_
  have hC2 := hC1.triv (bool_val (false))
  have hC3 := hC2.triv (nil_val (α := Int))
  exact ⟨_, rfl, res2_of hC3⟩
 replace hF := ite_f hF hc1
 refine W_skip ?_
 refine nrm_normal ?_
 refine W_seq_reg ?_
 obtain ⟨x2, hx1, hF⟩ := bind_some hF
 obtain ⟨b1, hE1⟩ := hC1.eb hx1
 obtain ⟨cs1, hC4⟩ := hC1.openElem hx1
 obtain ⟨v3, rfl, hC5⟩ := hC4.cellsSlice
 refine WL_move rfl rfl ?_
 refine WL_index_hole hC5 1 rfl Tryz.underlying77 ty24 hE1 hx1 rfl rfl rfl ?_
 refine WL_load_hole (fo := 0) hC5 1 rfl hE1 rfl rfl Tryz.isAgg24 rfl rfl ?_
 refine WL_assign rfl rfl ?_
 refine WL_assign rfl rfl ?_
 refine WL_nil ?_
 refine W_ret ?_
 have hq2 := Option.some.inj hF
 subst hq2
 refine fn_ret2 rfl rfl rfl ?_
 have hC6 := hC5.triv (bool_val (true))
 have hC7 := hC6.f1
 exact ⟨_, rfl, res2_of hC7⟩

theorem c_Q_eqIntS {w0 : World} (a1 : (List Int)) (u1 : Value) (g1 : RO [] w0 u1 a1) (a2 : (List Int)) (u2 : Value) (g2 : RO [] w0 u2 a2) (rr : Bool) (hF : Q.eqIntS a1 a2 = some rr) :
 Calls Tryz.prog 41 [u1, u2].toArray w0 fun e w' => ∃ v, e = .returned v ∧ Res w0 rr v w' := by
 refine calls_of_W Tryz.func41 rfl rfl ?_
 have hC0 := Ctx.start w0
 unfold Q.eqIntS at hF
 refine W_seq_reg ?_
 refine WL_assign rfl rfl ?_
 refine WL_nil ?_
 refine W_seq ?_
 refine W_seq_reg ?_
 refine WL_move rfl rfl ?_
 refine WL_len Tryz.underlying24 g1 rfl rfl ?_
 refine WL_move rfl rfl ?_
 refine WL_len Tryz.underlying24 g2 rfl rfl ?_
 refine WL_neq rfl rfl rfl ?_
 refine WL_nil ?_
 refine W_cond rfl (fun hc1 => ?_) (fun hc1 => ?_)
 ·replace hF := ite_t hF hc1
  refine W_seq_reg ?_
  refine WL_assign rfl rfl ?_
  refine WL_nil ?_
  refine W_ret ?_
  refine nrm_ret ?_
  have hq1 := Option.some.inj hF
  subst hq1
  refine fn_ret1 rfl rfl ?_
  exact ⟨_, rfl, bool_res hC0 _⟩
 replace hF := ite_f hF hc1
 refine W_skip ?_
 refine nrm_normal ?_
 refine W_seq ?_
 refine W_seq_reg ?_
 refine WL_assign rfl rfl ?_
 refine WL_nil ?_
 obtain ⟨r1, hr1, hF⟩ := bind_some hF
 refine W_norm (fun l w => .inl () = r1 ∧ l = [] ∧ Below w0.heap.size w0 w ∧ Ctx [] w0 w []) ?_ ?_
 ·refine W_block ?_
  refine W.sub (l' := [(0, u1), (1, u2), (5, (.int .i64 0))]) ?_ ⟨rfl, rfl, rfl, trivial⟩
  refine W_loop (fun k l w => ∃ x1 : Int, l = [(0, u1), (1, u2), (5, (.int .i64 x1))] ∧ Below w0.heap.size w0 w ∧ Ctx [] w0 w [] ∧ Q.eqIntS_l1 a1 a2 k x1 = some r1) FUEL ⟨0, rfl, (Below.refl _ _), hC0, hr1⟩ ?_
  clear hr1
  rintro k1 _ w1 ⟨x1, rfl, hB1, hC1, hL1⟩
  cases k1 with
  | zero => rw [Q.eqIntS_l1] at hL1; cases hL1
  | succ k1 =>
   rw [Q.eqIntS_l1] at hL1
   refine W_seq ?_
   refine W_seq_reg ?_
   refine WL_move rfl rfl ?_
   refine WL_move rfl rfl ?_
   refine WL_len Tryz.underlying24 g1 rfl rfl ?_
   refine WL_lss rfl rfl rfl ?_
   refine WL_nil ?_
   refine W_cond rfl (fun hc2 => ?_) (fun hc2 => ?_)
   ·replace hL1 := ite_t hL1 hc2
    refine W_skip ?_
    refine nrm_normal ?_
    refine W_seq ?_
    refine W_block ?_
    refine W_seq ?_
    refine W_drawn 9 rfl hmix (fun w2 hB2 => ?_)
    have hC2 := hC1.grow hB2
    refine WA_tk 0 (by kernel_rfl) rfl rfl (fl_move rfl) ?_
    refine WL_move rfl rfl ?_
    refine WL_nil ?_
    refine WA_tk 1 (by kernel_rfl) rfl rfl (fl_move rfl) ?_
    refine WL_move rfl rfl ?_
    refine WL_nil ?_
    obtain ⟨x2, hx1, hL1⟩ := bind_some hL1
    refine WA_tk 2 (by kernel_rfl) rfl rfl (fl_index Tryz.underlying24 ty3 g1 hx1 rfl rfl) ?_
    refine WL_index Tryz.underlying24 ty3 g1 hx1 rfl rfl rfl (fun b1 o1 h1 => ?_)
    refine WL_nil ?_
    refine WA_tk 4 (by kernel_rfl) rfl rfl (fl_move rfl) ?_
    refine WL_move rfl rfl ?_
    refine WL_nil ?_
    refine WA_tk 5 (by kernel_rfl) rfl rfl (fl_move rfl) ?_
    refine WL_move rfl rfl ?_
    refine WL_nil ?_
    obtain ⟨x3, hx2, hL1⟩ := bind_some hL1
    refine WA_tk 6 (by kernel_rfl) rfl rfl (fl_index Tryz.underlying24 ty3 g2 hx2 rfl rfl) ?_
    refine WL_index Tryz.underlying24 ty3 g2 hx2 rfl rfl rfl (fun b2 o2 h2 => ?_)
    refine WL_nil ?_
    refine WA.sub (l' := [(0, u1), (1, u2), (5, (.int .i64 x1)), (11, (.int .i64 x1)), (12, u1), (13, (.int .i64 (List.length a1 : Int))), (14, (.bool (decide (x1 < (List.length a1 : Int))))), (17, u1), (18, (.int .i64 x1)), (19, (ptr b1 o1)), (21, u2), (22, (.int .i64 x1)), (23, (ptr b2 o2))]) ?_ ⟨rfl, rfl, rfl, rfl, rfl, rfl, rfl, rfl, rfl, rfl, rfl, rfl, rfl, trivial⟩
    refine WA_postsE [⟨3, [], fun vs => PW.val (.int .i64 x2), []⟩, ⟨7, [], fun vs => PW.val (.int .i64 x3), []⟩] [[], []] 1 rfl (by kernel_rfl) (by kernel_rfl) rfl ?_ ?_
    ·refine StepsE_cons rfl ?_ ?_
     ·intro w3 hB3
      refine DepsE_nil ?_
      refine ⟨_, rfl, ?_⟩
      refine WL_load ty3 h1 (hC2.keep.then hB3) rfl rfl (fun v1 h3 => ?_)
      obtain rfl := ro_int h3
      refine WL_nil ?_
      exact FinE_val (Below.refl _ _) rfl rfl ⟨rfl, rfl⟩
     refine StepsE_cons rfl ?_ ?_
     ·intro w3 hB3
      refine DepsE_nil ?_
      refine ⟨_, rfl, ?_⟩
      refine WL_load ty3 h2 (hC2.keep.then hB3) rfl rfl (fun v2 h4 => ?_)
      obtain rfl := ro_int h4
      refine WL_nil ?_
      exact FinE_val (Below.refl _ _) rfl rfl ⟨rfl, rfl⟩
     exact StepsE_nil
    intro w4 hB4
    refine AllE_cons rfl rfl rfl ?_
    rintro _ _ ⟨rfl, rfl⟩
    refine AllE_cons rfl rfl rfl ?_
    rintro _ _ ⟨rfl, rfl⟩
    refine AllE_nil ?_
    intro hn1 hb1
    have hC3 := hC2.grow hB4
    refine WA_tk 8 (by kernel_rfl) rfl rfl (fl_neq rfl rfl) ?_
    refine WL_neq rfl rfl rfl ?_
    refine WL_nil ?_
    refine WA_done (by kernel_rfl) ?_
    refine nrm_normal ?_
    refine W_cond rfl (fun hc3 => ?_) (fun hc3 => ?_)
    ·replace hL1 := ite_t hL1 hc3
     refine W_seq_reg ?_
     refine WL_assign rfl rfl ?_
     refine WL_nil ?_
     refine W_ret ?_
     refine blk_ret ?_
     refine nrm_ret ?_
     refine nrm_ret ?_
     refine blk_ret ?_
     refine nrm_ret ?_
     refine nrm_ret ?_
     have hq2 := Option.some.inj hL1
     subst hq2
     dsimp only at hF
     have hq3 := Option.some.inj hF
     subst hq3
     refine fn_ret1 rfl rfl ?_
     exact ⟨_, rfl, bool_res hC3 _⟩
    replace hL1 := ite_f hL1 hc3
    refine W_skip ?_
    refine blk_normal ?_
    refine nrm_normal ?_
    refine W_reg ?_
    refine WL_move rfl rfl ?_
    refine WL_add rfl rfl rfl ?_
    refine WL_assign rfl rfl ?_
    refine WL_nil ?_
    refine nrm_sub (l' := [(0, u1), (1, u2), (5, (.int .i64 (w64 (x1 + 1))))]) ⟨rfl, rfl, rfl, trivial⟩ ?_
    exact ⟨k1, Nat.lt_succ_self _, w64 (x1 + 1), rfl, (((Keep.of hB1).then hB2).then hB4).below, hC3, hL1⟩
   replace hL1 := ite_f hL1 hc2
   refine W_exit ?_
   refine nrm_exit ?_
   refine nrm_exit ?_
   refine blk_exit ?_
   have hq4 := Option.some.inj hL1
   subst hq4
   refine nrm_sub (l' := []) trivial ?_
   exact ⟨rfl, rfl, (Keep.of hB1).below, hC1⟩
 rintro l2 _ w5 hs2 ⟨rfl, rfl, hB5, hC4⟩
 try dsimp only at hF
 refine nrm_sub' hs2 ?_
 clear hs2
 refine W_seq_reg ?_
 refine WL_assign rfl rfl ?_
 refine WL_nil ?_
 refine W_ret ?_
 have hq5 := Option.some.inj hF
 subst hq5
 refine fn_ret1 rfl rfl ?_
 exact ⟨_, rfl, bool_res hC4 _⟩

theorem c_Q_eqMethod {w0 : World} (a1 : (Int × (List Int) × Int × Int × Int)) (u1 : Value) (g1 : RO [] w0 u1 a1.2.1) (a2 : (Int × (List Int) × Int × Int × Int)) (u2 : Value) (g2 : RO [] w0 u2 a2.2.1) (rr : Bool) (hF : Q.eqMethod a1 a2 = some rr) :
 Calls Tryz.prog 111 [(.agg #[(.int .i64 a1.1), u1, (.int .i64 a1.2.2.1), (.int .i64 a1.2.2.2.1), (.int .i64 a1.2.2.2.2)]), (.agg #[(.int .i64 a2.1), u2, (.int .i64 a2.2.2.1), (.int .i64 a2.2.2.2.1), (.int .i64 a2.2.2.2.2)])].toArray w0 fun e w' => ∃ v, e = .returned v ∧ Res w0 rr v w' := by
 refine calls_of_W Tryz.func111 rfl rfl ?_
 have hC0 := Ctx.start w0
 unfold Q.eqMethod at hF
 refine W_seq_reg ?_
 refine WL_boxK (cs := [(.int .i64 a1.1), u1, (.int .i64 a1.2.2.1), (.int .i64 a1.2.2.2.1), (.int .i64 a1.2.2.2.2)]) hC0 rfl rfl rfl (fun b1 w1 hC1 hB1 hN1 => ?_)
 refine WL_boxK (cs := [(.int .i64 a2.1), u2, (.int .i64 a2.2.2.1), (.int .i64 a2.2.2.2.1), (.int .i64 a2.2.2.2.2)]) hC1 rfl rfl rfl (fun b2 w2 hC2 hB2 hN2 => ?_)
 refine WL_assign rfl rfl ?_
 refine WL_nil ?_
 refine W_seq ?_
 refine W_seq_reg ?_
 refine WL_field Tryz.underlying93 rfl rfl (fun w => ⟨_, Tryz.sizeOf3 w⟩) rfl rfl ?_
 refine WL_load_box hC2 1 rfl rfl Tryz.isAgg3 rfl rfl ?_
 refine WL_field Tryz.underlying93 rfl rfl (fun w => ⟨_, Tryz.sizeOf3 w⟩) rfl rfl ?_
 refine WL_load_box hC2 0 rfl rfl Tryz.isAgg3 rfl rfl ?_
 refine WL_neq rfl rfl rfl ?_
 refine WL_nil ?_
 refine W_cond rfl (fun hc1 => ?_) (fun hc1 => ?_)
 ·replace hF := ite_t hF hc1
  refine W_seq_reg ?_
  refine WL_assign rfl rfl ?_
  refine WL_nil ?_
  refine W_ret ?_
  refine nrm_ret ?_
  have hq1 := Option.some.inj hF
  subst hq1
  refine fn_ret1 rfl rfl ?_
  exact ⟨_, rfl, bool_res hC2 _⟩
 replace hF := ite_f hF hc1
 refine W_skip ?_
 refine nrm_normal ?_
 refine W_seq ?_
 refine W_seq_reg ?_
 refine WL_field Tryz.underlying93 rfl rfl (fun w => ⟨_, Tryz.sizeOf24 w⟩) rfl rfl ?_
 refine WL_load_box hC2 1 rfl rfl Tryz.isAgg24 rfl rfl ?_
 refine WL_field Tryz.underlying93 rfl rfl (fun w => ⟨_, Tryz.sizeOf24 w⟩) rfl rfl ?_
 refine WL_load_box hC2 0 rfl rfl Tryz.isAgg24 rfl rfl ?_
 obtain ⟨x1, hr1, hF⟩ := bind_some hF
 refine WL_call Tryz.call41 rfl rfl (c_Q_eqIntS a1.2.1 u1 (g1.now hC2.keep) a2.2.1 u2 (g2.now hC2.keep) x1 hr1) ?_
 intro _ w3 hv1
 obtain ⟨rfl, hB3⟩ := res_bool hv1
 have hC3 := hC2.grow hB3
 refine WL_not rfl rfl ?_
 refine WL_nil ?_
 refine W_cond rfl (fun hc2 => ?_) (fun hc2 => ?_)
 ·replace hF := ite_t hF hc2
  refine W_seq_reg ?_
  refine WL_assign rfl rfl ?_
  refine WL_nil ?_
  refine W_ret ?_
  refine nrm_ret ?_
  have hq2 := Option.some.inj hF
  subst hq2
  refine fn_ret1 rfl rfl ?_
  exact ⟨_, rfl, bool_res hC3 _⟩
 replace hF := ite_f hF hc2
 refine W_skip ?_
 refine nrm_normal ?_
 refine W_seq ?_
 refine W_seq_reg ?_
 refine WL_field Tryz.underlying93 rfl rfl (fun w => ⟨_, Tryz.sizeOf3 w⟩) rfl rfl ?_
 refine WL_load_box hC3 1 rfl rfl Tryz.isAgg3 rfl rfl ?_
 refine WL_field Tryz.underlying93 rfl rfl (fun w => ⟨_, Tryz.sizeOf3 w⟩) rfl rfl ?_
 refine WL_load_box hC3 0 rfl rfl Tryz.isAgg3 rfl rfl ?_
 refine WL_neq rfl rfl rfl ?_
 refine WL_nil ?_
 refine W_cond rfl (fun hc3 => ?_) (fun hc3 => ?_)
 ·replace hF := ite_t hF hc3
  refine W_seq_reg ?_
  refine WL_assign rfl rfl ?_
  refine WL_nil ?_
  refine W_ret ?_
  refine nrm_ret ?_
  have hq3 := Option.some.inj hF
  subst hq3
  refine fn_ret1 rfl rfl ?_
  exact ⟨_, rfl, bool_res hC3 _⟩
 replace hF := ite_f hF hc3
 refine W_skip ?_
 refine nrm_normal ?_
 refine W_seq ?_
 refine W_seq_reg ?_
 refine WL_field Tryz.underlying93 rfl rfl (fun w => ⟨_, Tryz.sizeOf3 w⟩) rfl rfl ?_
 refine WL_load_box hC3 1 rfl rfl Tryz.isAgg3 rfl rfl ?_
 refine WL_field Tryz.underlying93 rfl rfl (fun w => ⟨_, Tryz.sizeOf3 w⟩) rfl rfl ?_
 refine WL_load_box hC3 0 rfl rfl Tryz.isAgg3 rfl rfl ?_
 refine WL_neq rfl rfl rfl ?_
 refine WL_nil ?_
 refine W_cond rfl (fun hc4 => ?_) (fun hc4 => ?_)
 ·replace hF := ite_t hF hc4
  refine W_seq_reg ?_
  refine WL_assign rfl rfl ?_
  refine WL_nil ?_
  refine W_ret ?_
  refine nrm_ret ?_
  have hq4 := Option.some.inj hF
  subst hq4
  refine fn_ret1 rfl rfl ?_
  exact ⟨_, rfl, bool_res hC3 _⟩
 replace hF := ite_f hF hc4
 refine W_skip ?_
 refine nrm_normal ?_
 refine W_seq ?_
 refine W_seq_reg ?_
 refine WL_field Tryz.underlying93 rfl rfl (fun w => ⟨_, Tryz.sizeOf3 w⟩) rfl rfl ?_
 refine WL_load_box hC3 1 rfl rfl Tryz.isAgg3 rfl rfl ?_
 refine WL_field Tryz.underlying93 rfl rfl (fun w => ⟨_, Tryz.sizeOf3 w⟩) rfl rfl ?_
 refine WL_load_box hC3 0 rfl rfl Tryz.isAgg3 rfl rfl ?_
 refine WL_neq rfl rfl rfl ?_
 refine WL_nil ?_
 refine W_cond rfl (fun hc5 => ?_) (fun hc5 => ?_)
 ·replace hF := ite_t hF hc5
  refine W_seq_reg ?_
  refine WL_assign rfl rfl ?_
  refine WL_nil ?_
  refine W_ret ?_
  refine nrm_ret ?_
  have hq5 := Option.some.inj hF
  subst hq5
  refine fn_ret1 rfl rfl ?_
  exact ⟨_, rfl, bool_res hC3 _⟩
 replace hF := ite_f hF hc5
 refine W_skip ?_
 refine nrm_normal ?_
 refine W_seq_reg ?_
 refine WL_assign rfl rfl ?_
 refine WL_nil ?_
 refine W_ret ?_
 have hq6 := Option.some.inj hF
 subst hq6
 refine fn_ret1 rfl rfl ?_
 exact ⟨_, rfl, bool_res hC3 _⟩

theorem c_Q_eqMethodS {w0 : World} (a1 : (List (Int × (List Int) × Int × Int × Int))) (u1 : Value) (g1 : RO [] w0 u1 a1) (a2 : (List (Int × (List Int) × Int × Int × Int))) (u2 : Value) (g2 : RO [] w0 u2 a2) (rr : Bool) (hF : Q.eqMethodS a1 a2 = some rr) :
 Calls Tryz.prog 42 [u1, u2].toArray w0 fun e w' => ∃ v, e = .returned v ∧ Res w0 rr v w' := by
 refine calls_of_W Tryz.func42 rfl rfl ?_
 have hC0 := Ctx.start w0
 unfold Q.eqMethodS at hF
 refine W_seq_reg ?_
 refine WL_assign rfl rfl ?_
 refine WL_nil ?_
 refine W_seq ?_
 refine W_seq_reg ?_
 refine WL_move rfl rfl ?_
 refine WL_len Tryz.underlying25 g1 rfl rfl ?_
 refine WL_move rfl rfl ?_
 refine WL_len Tryz.underlying25 g2 rfl rfl ?_
 refine WL_neq rfl rfl rfl ?_
 refine WL_nil ?_
 refine W_cond rfl (fun hc1 => ?_) (fun hc1 => ?_)
 ·replace hF := ite_t hF hc1
  refine W_seq_reg ?_
  refine WL_assign rfl rfl ?_
  refine WL_nil ?_
  refine W_ret ?_
  refine nrm_ret ?_
  have hq1 := Option.some.inj hF
  subst hq1
  refine fn_ret1 rfl rfl ?_
  exact ⟨_, rfl, bool_res hC0 _⟩
 replace hF := ite_f hF hc1
 refine W_skip ?_
 refine nrm_normal ?_
 refine W_seq ?_
 refine W_seq_reg ?_
 refine WL_assign rfl rfl ?_
 refine WL_nil ?_
 obtain ⟨r1, hr1, hF⟩ := bind_some hF
 refine W_norm (fun l w => .inl () = r1 ∧ l = [] ∧ Below w0.heap.size w0 w ∧ Ctx [] w0 w []) ?_ ?_
 ·refine W_block ?_
  refine W.sub (l' := [(0, u1), (1, u2), (5, (.int .i64 0))]) ?_ ⟨rfl, rfl, rfl, trivial⟩
  refine W_loop (fun k l w => ∃ x1 : Int, l = [(0, u1), (1, u2), (5, (.int .i64 x1))] ∧ Below w0.heap.size w0 w ∧ Ctx [] w0 w [] ∧ Q.eqMethodS_l1 a1 a2 k x1 = some r1) FUEL ⟨0, rfl, (Below.refl _ _), hC0, hr1⟩ ?_
  clear hr1
  rintro k1 _ w1 ⟨x1, rfl, hB1, hC1, hL1⟩
  cases k1 with
  | zero => rw [Q.eqMethodS_l1] at hL1; cases hL1
  | succ k1 =>
   rw [Q.eqMethodS_l1] at hL1
   refine W_seq ?_
   refine W_seq_reg ?_
   refine WL_move rfl rfl ?_
   refine WL_move rfl rfl ?_
   refine WL_len Tryz.underlying25 g1 rfl rfl ?_
   refine WL_lss rfl rfl rfl ?_
   refine WL_nil ?_
   refine W_cond rfl (fun hc2 => ?_) (fun hc2 => ?_)
   ·replace hL1 := ite_t hL1 hc2
    refine W_skip ?_
    refine nrm_normal ?_
    refine W_seq ?_
    refine W_block ?_
    refine W_seq ?_
    refine W_drawn 10 rfl hmix (fun w2 hB2 => ?_)
    have hC2 := hC1.grow hB2
    refine WA_tk 0 (by kernel_rfl) rfl rfl (fl_move rfl) ?_
    refine WL_move rfl rfl ?_
    refine WL_nil ?_
    refine WA_tk 1 (by kernel_rfl) rfl rfl (fl_move rfl) ?_
    refine WL_move rfl rfl ?_
    refine WL_nil ?_
    obtain ⟨x2, hx1, hL1⟩ := bind_some hL1
    refine WA_tk 2 (by kernel_rfl) rfl rfl (fl_index Tryz.underlying25 ty93 g1 hx1 rfl rfl) ?_
    refine WL_index Tryz.underlying25 ty93 g1 hx1 rfl rfl rfl (fun b1 o1 h1 => ?_)
    refine WL_nil ?_
    refine WA_tk 4 (by kernel_rfl) rfl rfl (fl_move rfl) ?_
    refine WL_move rfl rfl ?_
    refine WL_nil ?_
    refine WA_tk 5 (by kernel_rfl) rfl rfl (fl_move rfl) ?_
    refine WL_move rfl rfl ?_
    refine WL_nil ?_
    obtain ⟨x3, hx2, hL1⟩ := bind_some hL1
    refine WA_tk 6 (by kernel_rfl) rfl rfl (fl_index Tryz.underlying25 ty93 g2 hx2 rfl rfl) ?_
    refine WL_index Tryz.underlying25 ty93 g2 hx2 rfl rfl rfl (fun b2 o2 h2 => ?_)
    refine WL_nil ?_
    refine WA.sub (l' := [(0, u1), (1, u2), (5, (.int .i64 x1)), (11, (.int .i64 x1)), (12, u1), (13, (.int .i64 (List.length a1 : Int))), (14, (.bool (decide (x1 < (List.length a1 : Int))))), (17, u1), (18, (.int .i64 x1)), (19, (ptr b1 o1)), (21, u2), (22, (.int .i64 x1)), (23, (ptr b2 o2))]) ?_ ⟨rfl, rfl, rfl, rfl, rfl, rfl, rfl, rfl, rfl, rfl, rfl, rfl, rfl, trivial⟩
    refine WA_postsE [⟨3, [], fun vs => PW.ro [] w0 x2, []⟩, ⟨7, [], fun vs => PW.ro [] w0 x3, []⟩] [[], []] 2 rfl (by kernel_rfl) (by kernel_rfl) rfl ?_ ?_
    ·refine StepsE_cons rfl ?_ ?_
     ·intro w3 hB3
      refine DepsE_nil ?_
      refine ⟨_, rfl, ?_⟩
      refine WL_load ty93 h1 (hC2.keep.then hB3) rfl rfl (fun v3 h5 => ?_)
      refine WL_nil ?_
      exact FinE_val (Below.refl _ _) rfl rfl ⟨rfl, h5⟩
     refine StepsE_cons rfl ?_ ?_
     ·intro w3 hB3
      refine DepsE_nil ?_
      refine ⟨_, rfl, ?_⟩
      refine WL_load ty93 h2 (hC2.keep.then hB3) rfl rfl (fun v6 h8 => ?_)
      refine WL_nil ?_
      exact FinE_val (Below.refl _ _) rfl rfl ⟨rfl, h8⟩
     exact StepsE_nil
    intro w4 hB4
    refine AllE_cons rfl rfl rfl ?_
    rintro v3 _ ⟨rfl, h5⟩
    obtain ⟨v2, rfl, h4⟩ := ro_st93 h5
    refine AllE_cons rfl rfl rfl ?_
    rintro v6 _ ⟨rfl, h8⟩
    obtain ⟨v5, rfl, h7⟩ := ro_st93 h8
    refine AllE_nil ?_
    intro hn1 hb1
    have hC3 := hC2.grow hB4
    obtain ⟨x4, hr2, hL1⟩ := bind_some hL1
    refine WA_one 8 (by kernel_rfl) rfl ?_
    refine WL_call Tryz.call111 rfl rfl (c_Q_eqMethod x2 v2 (h4.now hC3.keep) x3 v5 (h7.now hC3.keep) x4 hr2) ?_
    intro _ w5 hv1
    obtain ⟨rfl, hB5⟩ := res_bool hv1
    have hC4 := hC3.grow hB5
    refine WL_nil ?_
    refine WA_tk 9 (by kernel_rfl) rfl rfl (fl_not rfl) ?_
    refine WL_not rfl rfl ?_
    refine WL_nil ?_
    refine WA_done (by kernel_rfl) ?_
    refine nrm_normal ?_
    refine W_cond rfl (fun hc3 => ?_) (fun hc3 => ?_)
    ·replace hL1 := ite_t hL1 hc3
     refine W_seq_reg ?_
     refine WL_assign rfl rfl ?_
     refine WL_nil ?_
     refine W_ret ?_
     refine blk_ret ?_
     refine nrm_ret ?_
     refine nrm_ret ?_
     refine blk_ret ?_
     refine nrm_ret ?_
     refine nrm_ret ?_
     have hq2 := Option.some.inj hL1
     subst hq2
     dsimp only at hF
     have hq3 := Option.some.inj hF
     subst hq3
     refine fn_ret1 rfl rfl ?_
     exact ⟨_, rfl, bool_res hC4 _⟩
    replace hL1 := ite_f hL1 hc3
    refine W_skip ?_
    refine blk_normal ?_
    refine nrm_normal ?_
    refine W_reg ?_
    refine WL_move rfl rfl ?_
    refine WL_add rfl rfl rfl ?_
    refine WL_assign rfl rfl ?_
    refine WL_nil ?_
    refine nrm_sub (l' := [(0, u1), (1, u2), (5, (.int .i64 (w64 (x1 + 1))))]) ⟨rfl, rfl, rfl, trivial⟩ ?_
    exact ⟨k1, Nat.lt_succ_self _, w64 (x1 + 1), rfl, ((((Keep.of hB1).then hB2).then hB4).then hB5).below, hC4, hL1⟩
   replace hL1 := ite_f hL1 hc2
   refine W_exit ?_
   refine nrm_exit ?_
   refine nrm_exit ?_
   refine blk_exit ?_
   have hq4 := Option.some.inj hL1
   subst hq4
   refine nrm_sub (l' := []) trivial ?_
   exact ⟨rfl, rfl, (Keep.of hB1).below, hC1⟩
 rintro l2 _ w6 hs2 ⟨rfl, rfl, hB6, hC5⟩
 try dsimp only at hF
 refine nrm_sub' hs2 ?_
 clear hs2
 refine W_seq_reg ?_
 refine WL_assign rfl rfl ?_
 refine WL_nil ?_
 refine W_ret ?_
 have hq5 := Option.some.inj hF
 subst hq5
 refine fn_ret1 rfl rfl ?_
 exact ⟨_, rfl, bool_res hC5 _⟩

theorem c_Q_eqFact {w0 : World} (a1 : (Int × (List Int))) (u1 : Value) (g1 : RO [] w0 u1 a1.2) (a2 : (Int × (List Int))) (u2 : Value) (g2 : RO [] w0 u2 a2.2) (rr : Bool) (hF : Q.eqFact a1 a2 = some rr) :
 Calls Tryz.prog 115 [(.agg #[(.int .i64 a1.1), u1]), (.agg #[(.int .i64 a2.1), u2])].toArray w0 fun e w' => ∃ v, e = .returned v ∧ Res w0 rr v w' := by
 refine calls_of_W Tryz.func115 rfl rfl ?_
 have hC0 := Ctx.start w0
 unfold Q.eqFact at hF
 refine W_seq_reg ?_
 refine WL_boxK (cs := [(.int .i64 a1.1), u1]) hC0 rfl rfl rfl (fun b1 w1 hC1 hB1 hN1 => ?_)
 refine WL_boxK (cs := [(.int .i64 a2.1), u2]) hC1 rfl rfl rfl (fun b2 w2 hC2 hB2 hN2 => ?_)
 refine WL_assign rfl rfl ?_
 refine WL_nil ?_
 refine W_seq ?_
 refine W_seq_reg ?_
 refine WL_field Tryz.underlying88 rfl rfl (fun w => ⟨_, Tryz.sizeOf3 w⟩) rfl rfl ?_
 refine WL_load_box hC2 1 rfl rfl Tryz.isAgg3 rfl rfl ?_
 refine WL_field Tryz.underlying88 rfl rfl (fun w => ⟨_, Tryz.sizeOf3 w⟩) rfl rfl ?_
 refine WL_load_box hC2 0 rfl rfl Tryz.isAgg3 rfl rfl ?_
 refine WL_neq rfl rfl rfl ?_
 refine WL_nil ?_
 refine W_cond rfl (fun hc1 => ?_) (fun hc1 => ?_)
 ·replace hF := ite_t hF hc1
  refine W_seq_reg ?_
  refine WL_assign rfl rfl ?_
  refine WL_nil ?_
  refine W_ret ?_
  refine nrm_ret ?_
  have hq1 := Option.some.inj hF
  subst hq1
  refine fn_ret1 rfl rfl ?_
  exact ⟨_, rfl, bool_res hC2 _⟩
 replace hF := ite_f hF hc1
 refine W_skip ?_
 refine nrm_normal ?_
 refine W_seq ?_
 refine W_seq_reg ?_
 refine WL_field Tryz.underlying88 rfl rfl (fun w => ⟨_, Tryz.sizeOf24 w⟩) rfl rfl ?_
 refine WL_load_box hC2 1 rfl rfl Tryz.isAgg24 rfl rfl ?_
 refine WL_field Tryz.underlying88 rfl rfl (fun w => ⟨_, Tryz.sizeOf24 w⟩) rfl rfl ?_
 refine WL_load_box hC2 0 rfl rfl Tryz.isAgg24 rfl rfl ?_
 obtain ⟨x1, hr1, hF⟩ := bind_some hF
 refine WL_call Tryz.call41 rfl rfl (c_Q_eqIntS a1.2 u1 (g1.now hC2.keep) a2.2 u2 (g2.now hC2.keep) x1 hr1) ?_
 intro _ w3 hv1
 obtain ⟨rfl, hB3⟩ := res_bool hv1
 have hC3 := hC2.grow hB3
 refine WL_not rfl rfl ?_
 refine WL_nil ?_
 refine W_cond rfl (fun hc2 => ?_) (fun hc2 => ?_)
 ·replace hF := ite_t hF hc2
  refine W_seq_reg ?_
  refine WL_assign rfl rfl ?_
  refine WL_nil ?_
  refine W_ret ?_
  refine nrm_ret ?_
  have hq2 := Option.some.inj hF
  subst hq2
  refine fn_ret1 rfl rfl ?_
  exact ⟨_, rfl, bool_res hC3 _⟩
 replace hF := ite_f hF hc2
 refine W_skip ?_
 refine nrm_normal ?_
 refine W_seq_reg ?_
 refine WL_assign rfl rfl ?_
 refine WL_nil ?_
 refine W_ret ?_
 have hq3 := Option.some.inj hF
 subst hq3
 refine fn_ret1 rfl rfl ?_
 exact ⟨_, rfl, bool_res hC3 _⟩

theorem c_Q_eqFactS {w0 : World} (a1 : (List (Int × (List Int)))) (u1 : Value) (g1 : RO [] w0 u1 a1) (a2 : (List (Int × (List Int)))) (u2 : Value) (g2 : RO [] w0 u2 a2) (rr : Bool) (hF : Q.eqFactS a1 a2 = some rr) :
 Calls Tryz.prog 50 [u1, u2].toArray w0 fun e w' => ∃ v, e = .returned v ∧ Res w0 rr v w' := by
 refine calls_of_W Tryz.func50 rfl rfl ?_
 have hC0 := Ctx.start w0
 unfold Q.eqFactS at hF
 refine W_seq_reg ?_
 refine WL_assign rfl rfl ?_
 refine WL_nil ?_
 refine W_seq ?_
 refine W_seq_reg ?_
 refine WL_move rfl rfl ?_
 refine WL_len Tryz.underlying31 g1 rfl rfl ?_
 refine WL_move rfl rfl ?_
 refine WL_len Tryz.underlying31 g2 rfl rfl ?_
 refine WL_neq rfl rfl rfl ?_
 refine WL_nil ?_
 refine W_cond rfl (fun hc1 => ?_) (fun hc1 => ?_)
 ·replace hF := ite_t hF hc1
  refine W_seq_reg ?_
  refine WL_assign rfl rfl ?_
  refine WL_nil ?_
  refine W_ret ?_
  refine nrm_ret ?_
  have hq1 := Option.some.inj hF
  subst hq1
  refine fn_ret1 rfl rfl ?_
  exact ⟨_, rfl, bool_res hC0 _⟩
 replace hF := ite_f hF hc1
 refine W_skip ?_
 refine nrm_normal ?_
 refine W_seq ?_
 refine W_seq_reg ?_
 refine WL_assign rfl rfl ?_
 refine WL_nil ?_
 obtain ⟨r1, hr1, hF⟩ := bind_some hF
 refine W_norm (fun l w => .inl () = r1 ∧ l = [] ∧ Below w0.heap.size w0 w ∧ Ctx [] w0 w []) ?_ ?_
 ·refine W_block ?_
  refine W.sub (l' := [(0, u1), (1, u2), (5, (.int .i64 0))]) ?_ ⟨rfl, rfl, rfl, trivial⟩
  refine W_loop (fun k l w => ∃ x1 : Int, l = [(0, u1), (1, u2), (5, (.int .i64 x1))] ∧ Below w0.heap.size w0 w ∧ Ctx [] w0 w [] ∧ Q.eqFactS_l1 a1 a2 k x1 = some r1) FUEL ⟨0, rfl, (Below.refl _ _), hC0, hr1⟩ ?_
  clear hr1
  rintro k1 _ w1 ⟨x1, rfl, hB1, hC1, hL1⟩
  cases k1 with
  | zero => rw [Q.eqFactS_l1] at hL1; cases hL1
  | succ k1 =>
   rw [Q.eqFactS_l1] at hL1
   refine W_seq ?_
   refine W_seq_reg ?_
   refine WL_move rfl rfl ?_
   refine WL_move rfl rfl ?_
   refine WL_len Tryz.underlying31 g1 rfl rfl ?_
   refine WL_lss rfl rfl rfl ?_
   refine WL_nil ?_
   refine W_cond rfl (fun hc2 => ?_) (fun hc2 => ?_)
   ·replace hL1 := ite_t hL1 hc2
    refine W_skip ?_
    refine nrm_normal ?_
    refine W_seq ?_
    refine W_block ?_
    refine W_seq ?_
    refine W_drawn 10 rfl hmix (fun w2 hB2 => ?_)
    have hC2 := hC1.grow hB2
    refine WA_tk 0 (by kernel_rfl) rfl rfl (fl_move rfl) ?_
    refine WL_move rfl rfl ?_
    refine WL_nil ?_
    refine WA_tk 1 (by kernel_rfl) rfl rfl (fl_move rfl) ?_
    refine WL_move rfl rfl ?_
    refine WL_nil ?_
    obtain ⟨x2, hx1, hL1⟩ := bind_some hL1
    refine WA_tk 2 (by kernel_rfl) rfl rfl (fl_index Tryz.underlying31 ty88 g1 hx1 rfl rfl) ?_
    refine WL_index Tryz.underlying31 ty88 g1 hx1 rfl rfl rfl (fun b1 o1 h1 => ?_)
    refine WL_nil ?_
    refine WA_tk 4 (by kernel_rfl) rfl rfl (fl_move rfl) ?_
    refine WL_move rfl rfl ?_
    refine WL_nil ?_
    refine WA_tk 5 (by kernel_rfl) rfl rfl (fl_move rfl) ?_
    refine WL_move rfl rfl ?_
    refine WL_nil ?_
    obtain ⟨x3, hx2, hL1⟩ := bind_some hL1
    refine WA_tk 6 (by kernel_rfl) rfl rfl (fl_index Tryz.underlying31 ty88 g2 hx2 rfl rfl) ?_
    refine WL_index Tryz.underlying31 ty88 g2 hx2 rfl rfl rfl (fun b2 o2 h2 => ?_)
    refine WL_nil ?_
    refine WA.sub (l' := [(0, u1), (1, u2), (5, (.int .i64 x1)), (11, (.int .i64 x1)), (12, u1), (13, (.int .i64 (List.length a1 : Int))), (14, (.bool (decide (x1 < (List.length a1 : Int))))), (17, u1), (18, (.int .i64 x1)), (19, (ptr b1 o1)), (21, u2), (22, (.int .i64 x1)), (23, (ptr b2 o2))]) ?_ ⟨rfl, rfl, rfl, rfl, rfl, rfl, rfl, rfl, rfl, rfl, rfl, rfl, rfl, trivial⟩
    refine WA_postsE [⟨3, [], fun vs => PW.ro [] w0 x2, []⟩, ⟨7, [], fun vs => PW.ro [] w0 x3, []⟩] [[], []] 2 rfl (by kernel_rfl) (by kernel_rfl) rfl ?_ ?_
    ·refine StepsE_cons rfl ?_ ?_
     ·intro w3 hB3
      refine DepsE_nil ?_
      refine ⟨_, rfl, ?_⟩
      refine WL_load ty88 h1 (hC2.keep.then hB3) rfl rfl (fun v3 h5 => ?_)
      refine WL_nil ?_
      exact FinE_val (Below.refl _ _) rfl rfl ⟨rfl, h5⟩
     refine StepsE_cons rfl ?_ ?_
     ·intro w3 hB3
      refine DepsE_nil ?_
      refine ⟨_, rfl, ?_⟩
      refine WL_load ty88 h2 (hC2.keep.then hB3) rfl rfl (fun v6 h8 => ?_)
      refine WL_nil ?_
      exact FinE_val (Below.refl _ _) rfl rfl ⟨rfl, h8⟩
     exact StepsE_nil
    intro w4 hB4
    refine AllE_cons rfl rfl rfl ?_
    rintro v3 _ ⟨rfl, h5⟩
    obtain ⟨v2, rfl, h4⟩ := ro_st88 h5
    refine AllE_cons rfl rfl rfl ?_
    rintro v6 _ ⟨rfl, h8⟩
    obtain ⟨v5, rfl, h7⟩ := ro_st88 h8
    refine AllE_nil ?_
    intro hn1 hb1
    have hC3 := hC2.grow hB4
    obtain ⟨x4, hr2, hL1⟩ := bind_some hL1
    refine WA_one 8 (by kernel_rfl) rfl ?_
    refine WL_call Tryz.call115 rfl rfl (c_Q_eqFact x2 v2 (h4.now hC3.keep) x3 v5 (h7.now hC3.keep) x4 hr2) ?_
    intro _ w5 hv1
    obtain ⟨rfl, hB5⟩ := res_bool hv1
    have hC4 := hC3.grow hB5
    refine WL_nil ?_
    refine WA_tk 9 (by kernel_rfl) rfl rfl (fl_not rfl) ?_
    refine WL_not rfl rfl ?_
    refine WL_nil ?_
    refine WA_done (by kernel_rfl) ?_
    refine nrm_normal ?_
    refine W_cond rfl (fun hc3 => ?_) (fun hc3 => ?_)
    ·replace hL1 := ite_t hL1 hc3
     refine W_seq_reg ?_
     refine WL_assign rfl rfl ?_
     refine WL_nil ?_
     refine W_ret ?_
     refine blk_ret ?_
     refine nrm_ret ?_
     refine nrm_ret ?_
     refine blk_ret ?_
     refine nrm_ret ?_
     refine nrm_ret ?_
     have hq2 := Option.some.inj hL1
     subst hq2
     dsimp only at hF
     have hq3 := Option.some.inj hF
     subst hq3
     refine fn_ret1 rfl rfl ?_
     exact ⟨_, rfl, bool_res hC4 _⟩
    replace hL1 := ite_f hL1 hc3
    refine W_skip ?_
    refine blk_normal ?_
    refine nrm_normal ?_
    refine W_reg ?_
    refine WL_move rfl rfl ?_
    refine WL_add rfl rfl rfl ?_
    refine WL_assign rfl rfl ?_
    refine WL_nil ?_
    refine nrm_sub (l' := [(0, u1), (1, u2), (5, (.int .i64 (w64 (x1 + 1))))]) ⟨rfl, rfl, rfl, trivial⟩ ?_
    exact ⟨k1, Nat.lt_succ_self _, w64 (x1 + 1), rfl, ((((Keep.of hB1).then hB2).then hB4).then hB5).below, hC4, hL1⟩
   replace hL1 := ite_f hL1 hc2
   refine W_exit ?_
   refine nrm_exit ?_
   refine nrm_exit ?_
   refine blk_exit ?_
   have hq4 := Option.some.inj hL1
   subst hq4
   refine nrm_sub (l' := []) trivial ?_
   exact ⟨rfl, rfl, (Keep.of hB1).below, hC1⟩
 rintro l2 _ w6 hs2 ⟨rfl, rfl, hB6, hC5⟩
 try dsimp only at hF
 refine nrm_sub' hs2 ?_
 clear hs2
 refine W_seq_reg ?_
 refine WL_assign rfl rfl ?_
 refine WL_nil ?_
 refine W_ret ?_
 have hq5 := Option.some.inj hF
 subst hq5
 refine fn_ret1 rfl rfl ?_
 exact ⟨_, rfl, bool_res hC5 _⟩

theorem c_Q_eqAccess {w0 : World} (a1 : (Int × (List Int))) (u1 : Value) (g1 : RO [] w0 u1 a1.2) (a2 : (Int × (List Int))) (u2 : Value) (g2 : RO [] w0 u2 a2.2) (rr : Bool) (hF : Q.eqAccess a1 a2 = some rr) :
 Calls Tryz.prog 162 [(.agg #[(.int .i64 a1.1), u1]), (.agg #[(.int .i64 a2.1), u2])].toArray w0 fun e w' => ∃ v, e = .returned v ∧ Res w0 rr v w' := by
 refine calls_of_W Tryz.func162 rfl rfl ?_
 have hC0 := Ctx.start w0
 unfold Q.eqAccess at hF
 refine W_seq_reg ?_
 refine WL_boxK (cs := [(.int .i64 a1.1), u1]) hC0 rfl rfl rfl (fun b1 w1 hC1 hB1 hN1 => ?_)
 refine WL_boxK (cs := [(.int .i64 a2.1), u2]) hC1 rfl rfl rfl (fun b2 w2 hC2 hB2 hN2 => ?_)
 refine WL_assign rfl rfl ?_
 refine WL_nil ?_
 refine W_seq ?_
 refine W_seq_reg ?_
 refine WL_field Tryz.underlying44 rfl rfl (fun w => ⟨_, Tryz.sizeOf3 w⟩) rfl rfl ?_
 refine WL_load_box hC2 1 rfl rfl Tryz.isAgg3 rfl rfl ?_
 refine WL_field Tryz.underlying44 rfl rfl (fun w => ⟨_, Tryz.sizeOf3 w⟩) rfl rfl ?_
 refine WL_load_box hC2 0 rfl rfl Tryz.isAgg3 rfl rfl ?_
 refine WL_neq rfl rfl rfl ?_
 refine WL_nil ?_
 refine W_cond rfl (fun hc1 => ?_) (fun hc1 => ?_)
 ·replace hF := ite_t hF hc1
  refine W_seq_reg ?_
  refine WL_assign rfl rfl ?_
  refine WL_nil ?_
  refine W_ret ?_
  refine nrm_ret ?_
  have hq1 := Option.some.inj hF
  subst hq1
  refine fn_ret1 rfl rfl ?_
  exact ⟨_, rfl, bool_res hC2 _⟩
 replace hF := ite_f hF hc1
 refine W_skip ?_
 refine nrm_normal ?_
 refine W_seq ?_
 refine W_seq_reg ?_
 refine WL_field Tryz.underlying44 rfl rfl (fun w => ⟨_, Tryz.sizeOf24 w⟩) rfl rfl ?_
 refine WL_load_box hC2 1 rfl rfl Tryz.isAgg24 rfl rfl ?_
 refine WL_field Tryz.underlying44 rfl rfl (fun w => ⟨_, Tryz.sizeOf24 w⟩) rfl rfl ?_
 refine WL_load_box hC2 0 rfl rfl Tryz.isAgg24 rfl rfl ?_
 obtain ⟨x1, hr1, hF⟩ := bind_some hF
 refine WL_call Tryz.call41 rfl rfl (c_Q_eqIntS a1.2 u1 (g1.now hC2.keep) a2.2 u2 (g2.now hC2.keep) x1 hr1) ?_
 intro _ w3 hv1
 obtain ⟨rfl, hB3⟩ := res_bool hv1
 have hC3 := hC2.grow hB3
 refine WL_not rfl rfl ?_
 refine WL_nil ?_
 refine W_cond rfl (fun hc2 => ?_) (fun hc2 => ?_)
 ·replace hF := ite_t hF hc2
  refine W_seq_reg ?_
  refine WL_assign rfl rfl ?_
  refine WL_nil ?_
  refine W_ret ?_
  refine nrm_ret ?_
  have hq2 := Option.some.inj hF
  subst hq2
  refine fn_ret1 rfl rfl ?_
  exact ⟨_, rfl, bool_res hC3 _⟩
 replace hF := ite_f hF hc2
 refine W_skip ?_
 refine nrm_normal ?_
 refine W_seq_reg ?_
 refine WL_assign rfl rfl ?_
 refine WL_nil ?_
 refine W_ret ?_
 have hq3 := Option.some.inj hF
 subst hq3
 refine fn_ret1 rfl rfl ?_
 exact ⟨_, rfl, bool_res hC3 _⟩

theorem c_Q_eqTold {w0 : World} (a1 : ((Int × (List Int)) × (List (Int × (List Int))))) (u1 : Value) (g1 : RO [] w0 u1 a1.1.2) (u2 : Value) (g2 : RO [] w0 u2 a1.2) (a2 : ((Int × (List Int)) × (List (Int × (List Int))))) (u3 : Value) (g3 : RO [] w0 u3 a2.1.2) (u4 : Value) (g4 : RO [] w0 u4 a2.2) (rr : Bool) (hF : Q.eqTold a1 a2 = some rr) :
 Calls Tryz.prog 112 [(.agg #[(.int .i64 a1.1.1), u1, u2]), (.agg #[(.int .i64 a2.1.1), u3, u4])].toArray w0 fun e w' => ∃ v, e = .returned v ∧ Res w0 rr v w' := by
 refine calls_of_W Tryz.func112 rfl rfl ?_
 have hC0 := Ctx.start w0
 unfold Q.eqTold at hF
 refine W_seq_reg ?_
 refine WL_boxK (cs := [(.int .i64 a1.1.1), u1, u2]) hC0 rfl rfl rfl (fun b1 w1 hC1 hB1 hN1 => ?_)
 refine WL_boxK (cs := [(.int .i64 a2.1.1), u3, u4]) hC1 rfl rfl rfl (fun b2 w2 hC2 hB2 hN2 => ?_)
 refine WL_assign rfl rfl ?_
 refine WL_nil ?_
 refine W_seq ?_
 refine W_seq_reg ?_
 refine WL_field Tryz.underlying46 rfl rfl (fun w => ⟨_, Tryz.sizeOf44 w⟩) rfl rfl ?_
 refine WL_load_box_agg [(.int .i64 a1.1.1), u1] hC2 1 rfl rfl rfl Tryz.isAgg44 Tryz.sizeOf44 rfl rfl ?_
 refine WL_field Tryz.underlying46 rfl rfl (fun w => ⟨_, Tryz.sizeOf44 w⟩) rfl rfl ?_
 refine WL_load_box_agg [(.int .i64 a2.1.1), u3] hC2 0 rfl rfl rfl Tryz.isAgg44 Tryz.sizeOf44 rfl rfl ?_
 obtain ⟨x1, hr1, hF⟩ := bind_some hF
 refine WL_call Tryz.call162 rfl rfl (c_Q_eqAccess (a1.1.1, a1.1.2) u1 (g1.now hC2.keep) (a2.1.1, a2.1.2) u3 (g3.now hC2.keep) x1 hr1) ?_
 intro _ w3 hv1
 obtain ⟨rfl, hB3⟩ := res_bool hv1
 have hC3 := hC2.grow hB3
 refine WL_not rfl rfl ?_
 refine WL_nil ?_
 refine W_cond rfl (fun hc1 => ?_) (fun hc1 => ?_)
 ·replace hF := ite_t hF hc1
  refine W_seq_reg ?_
  refine WL_assign rfl rfl ?_
  refine WL_nil ?_
  refine W_ret ?_
  refine nrm_ret ?_
  have hq1 := Option.some.inj hF
  subst hq1
  refine fn_ret1 rfl rfl ?_
  exact ⟨_, rfl, bool_res hC3 _⟩
 replace hF := ite_f hF hc1
 refine W_skip ?_
 refine nrm_normal ?_
 refine W_seq ?_
 refine W_seq_reg ?_
 refine WL_field Tryz.underlying46 rfl rfl (fun w => ⟨_, Tryz.sizeOf31 w⟩) rfl rfl ?_
 refine WL_load_box hC3 1 rfl rfl Tryz.isAgg31 rfl rfl ?_
 refine WL_field Tryz.underlying46 rfl rfl (fun w => ⟨_, Tryz.sizeOf31 w⟩) rfl rfl ?_
 refine WL_load_box hC3 0 rfl rfl Tryz.isAgg31 rfl rfl ?_
 obtain ⟨x2, hr2, hF⟩ := bind_some hF
 refine WL_call Tryz.call50 rfl rfl (c_Q_eqFactS a1.2 u2 (g2.now hC3.keep) a2.2 u4 (g4.now hC3.keep) x2 hr2) ?_
 intro _ w4 hv2
 obtain ⟨rfl, hB4⟩ := res_bool hv2
 have hC4 := hC3.grow hB4
 refine WL_not rfl rfl ?_
 refine WL_nil ?_
 refine W_cond rfl (fun hc2 => ?_) (fun hc2 => ?_)
 ·replace hF := ite_t hF hc2
  refine W_seq_reg ?_
  refine WL_assign rfl rfl ?_
  refine WL_nil ?_
  refine W_ret ?_
  refine nrm_ret ?_
  have hq2 := Option.some.inj hF
  subst hq2
  refine fn_ret1 rfl rfl ?_
  exact ⟨_, rfl, bool_res hC4 _⟩
 replace hF := ite_f hF hc2
 refine W_skip ?_
 refine nrm_normal ?_
 refine W_seq_reg ?_
 refine WL_assign rfl rfl ?_
 refine WL_nil ?_
 refine W_ret ?_
 have hq3 := Option.some.inj hF
 subst hq3
 refine fn_ret1 rfl rfl ?_
 exact ⟨_, rfl, bool_res hC4 _⟩

theorem c_Q_eqToldS {w0 : World} (a1 : (List ((Int × (List Int)) × (List (Int × (List Int)))))) (u1 : Value) (g1 : RO [] w0 u1 a1) (a2 : (List ((Int × (List Int)) × (List (Int × (List Int)))))) (u2 : Value) (g2 : RO [] w0 u2 a2) (rr : Bool) (hF : Q.eqToldS a1 a2 = some rr) :
 Calls Tryz.prog 43 [u1, u2].toArray w0 fun e w' => ∃ v, e = .returned v ∧ Res w0 rr v w' := by
 refine calls_of_W Tryz.func43 rfl rfl ?_
 have hC0 := Ctx.start w0
 unfold Q.eqToldS at hF
 refine W_seq_reg ?_
 refine WL_assign rfl rfl ?_
 refine WL_nil ?_
 refine W_seq ?_
 refine W_seq_reg ?_
 refine WL_move rfl rfl ?_
 refine WL_len Tryz.underlying26 g1 rfl rfl ?_
 refine WL_move rfl rfl ?_
 refine WL_len Tryz.underlying26 g2 rfl rfl ?_
 refine WL_neq rfl rfl rfl ?_
 refine WL_nil ?_
 refine W_cond rfl (fun hc1 => ?_) (fun hc1 => ?_)
 ·replace hF := ite_t hF hc1
  refine W_seq_reg ?_
  refine WL_assign rfl rfl ?_
  refine WL_nil ?_
  refine W_ret ?_
  refine nrm_ret ?_
  have hq1 := Option.some.inj hF
  subst hq1
  refine fn_ret1 rfl rfl ?_
  exact ⟨_, rfl, bool_res hC0 _⟩
 replace hF := ite_f hF hc1
 refine W_skip ?_
 refine nrm_normal ?_
 refine W_seq ?_
 refine W_seq_reg ?_
 refine WL_assign rfl rfl ?_
 refine WL_nil ?_
 obtain ⟨r1, hr1, hF⟩ := bind_some hF
 refine W_norm (fun l w => .inl () = r1 ∧ l = [] ∧ Below w0.heap.size w0 w ∧ Ctx [] w0 w []) ?_ ?_
 ·refine W_block ?_
  refine W.sub (l' := [(0, u1), (1, u2), (5, (.int .i64 0))]) ?_ ⟨rfl, rfl, rfl, trivial⟩
  refine W_loop (fun k l w => ∃ x1 : Int, l = [(0, u1), (1, u2), (5, (.int .i64 x1))] ∧ Below w0.heap.size w0 w ∧ Ctx [] w0 w [] ∧ Q.eqToldS_l1 a1 a2 k x1 = some r1) FUEL ⟨0, rfl, (Below.refl _ _), hC0, hr1⟩ ?_
  clear hr1
  rintro k1 _ w1 ⟨x1, rfl, hB1, hC1, hL1⟩
  cases k1 with
  | zero => rw [Q.eqToldS_l1] at hL1; cases hL1
  | succ k1 =>
   rw [Q.eqToldS_l1] at hL1
   refine W_seq ?_
   refine W_seq_reg ?_
   refine WL_move rfl rfl ?_
   refine WL_move rfl rfl ?_
   refine WL_len Tryz.underlying26 g1 rfl rfl ?_
   refine WL_lss rfl rfl rfl ?_
   refine WL_nil ?_
   refine W_cond rfl (fun hc2 => ?_) (fun hc2 => ?_)
   ·replace hL1 := ite_t hL1 hc2
    refine W_skip ?_
    refine nrm_normal ?_
    refine W_seq ?_
    refine W_block ?_
    refine W_seq ?_
    refine W_drawn 10 rfl hmix (fun w2 hB2 => ?_)
    have hC2 := hC1.grow hB2
    refine WA_tk 0 (by kernel_rfl) rfl rfl (fl_move rfl) ?_
    refine WL_move rfl rfl ?_
    refine WL_nil ?_
    refine WA_tk 1 (by kernel_rfl) rfl rfl (fl_move rfl) ?_
    refine WL_move rfl rfl ?_
    refine WL_nil ?_
    obtain ⟨x2, hx1, hL1⟩ := bind_some hL1
    refine WA_tk 2 (by kernel_rfl) rfl rfl (fl_index Tryz.underlying26 ty46 g1 hx1 rfl rfl) ?_
    refine WL_index Tryz.underlying26 ty46 g1 hx1 rfl rfl rfl (fun b1 o1 h1 => ?_)
    refine WL_nil ?_
    refine WA_tk 4 (by kernel_rfl) rfl rfl (fl_move rfl) ?_
    refine WL_move rfl rfl ?_
    refine WL_nil ?_
    refine WA_tk 5 (by kernel_rfl) rfl rfl (fl_move rfl) ?_
    refine WL_move rfl rfl ?_
    refine WL_nil ?_
    obtain ⟨x3, hx2, hL1⟩ := bind_some hL1
    refine WA_tk 6 (by kernel_rfl) rfl rfl (fl_index Tryz.underlying26 ty46 g2 hx2 rfl rfl) ?_
    refine WL_index Tryz.underlying26 ty46 g2 hx2 rfl rfl rfl (fun b2 o2 h2 => ?_)
    refine WL_nil ?_
    refine WA.sub (l' := [(0, u1), (1, u2), (5, (.int .i64 x1)), (11, (.int .i64 x1)), (12, u1), (13, (.int .i64 (List.length a1 : Int))), (14, (.bool (decide (x1 < (List.length a1 : Int))))), (17, u1), (18, (.int .i64 x1)), (19, (ptr b1 o1)), (21, u2), (22, (.int .i64 x1)), (23, (ptr b2 o2))]) ?_ ⟨rfl, rfl, rfl, rfl, rfl, rfl, rfl, rfl, rfl, rfl, rfl, rfl, rfl, trivial⟩
    refine WA_postsE [⟨3, [], fun vs => PW.ro [] w0 x2, []⟩, ⟨7, [], fun vs => PW.ro [] w0 x3, []⟩] [[], []] 2 rfl (by kernel_rfl) (by kernel_rfl) rfl ?_ ?_
    ·refine StepsE_cons rfl ?_ ?_
     ·intro w3 hB3
      refine DepsE_nil ?_
      refine ⟨_, rfl, ?_⟩
      refine WL_load ty46 h1 (hC2.keep.then hB3) rfl rfl (fun v4 h6 => ?_)
      refine WL_nil ?_
      exact FinE_val (Below.refl _ _) rfl rfl ⟨rfl, h6⟩
     refine StepsE_cons rfl ?_ ?_
     ·intro w3 hB3
      refine DepsE_nil ?_
      refine ⟨_, rfl, ?_⟩
      refine WL_load ty46 h2 (hC2.keep.then hB3) rfl rfl (fun v8 h10 => ?_)
      refine WL_nil ?_
      exact FinE_val (Below.refl _ _) rfl rfl ⟨rfl, h10⟩
     exact StepsE_nil
    intro w4 hB4
    refine AllE_cons rfl rfl rfl ?_
    rintro v4 _ ⟨rfl, h6⟩
    obtain ⟨v2, v3, rfl, h4, h5⟩ := ro_st46 h6
    refine AllE_cons rfl rfl rfl ?_
    rintro v8 _ ⟨rfl, h10⟩
    obtain ⟨v6, v7, rfl, h8, h9⟩ := ro_st46 h10
    refine AllE_nil ?_
    intro hn1 hb1
    have hC3 := hC2.grow hB4
    obtain ⟨x4, hr2, hL1⟩ := bind_some hL1
    refine WA_one 8 (by kernel_rfl) rfl ?_
    refine WL_call Tryz.call112 rfl rfl (c_Q_eqTold x2 v2 (h4.now hC3.keep) v3 (h5.now hC3.keep) x3 v6 (h8.now hC3.keep) v7 (h9.now hC3.keep) x4 hr2) ?_
    intro _ w5 hv1
    obtain ⟨rfl, hB5⟩ := res_bool hv1
    have hC4 := hC3.grow hB5
    refine WL_nil ?_
    refine WA_tk 9 (by kernel_rfl) rfl rfl (fl_not rfl) ?_
    refine WL_not rfl rfl ?_
    refine WL_nil ?_
    refine WA_done (by kernel_rfl) ?_
    refine nrm_normal ?_
    refine W_cond rfl (fun hc3 => ?_) (fun hc3 => ?_)
    ·replace hL1 := ite_t hL1 hc3
     refine W_seq_reg ?_
     refine WL_assign rfl rfl ?_
     refine WL_nil ?_
     refine W_ret ?_
     refine blk_ret ?_
     refine nrm_ret ?_
     refine nrm_ret ?_
     refine blk_ret ?_
     refine nrm_ret ?_
     refine nrm_ret ?_
     have hq2 := Option.some.inj hL1
     subst hq2
     dsimp only at hF
     have hq3 := Option.some.inj hF
     subst hq3
     refine fn_ret1 rfl rfl ?_
     exact ⟨_, rfl, bool_res hC4 _⟩
    replace hL1 := ite_f hL1 hc3
    refine W_skip ?_
    refine blk_normal ?_
    refine nrm_normal ?_
    refine W_reg ?_
    refine WL_move rfl rfl ?_
    refine WL_add rfl rfl rfl ?_
    refine WL_assign rfl rfl ?_
    refine WL_nil ?_
    refine nrm_sub (l' := [(0, u1), (1, u2), (5, (.int .i64 (w64 (x1 + 1))))]) ⟨rfl, rfl, rfl, trivial⟩ ?_
    exact ⟨k1, Nat.lt_succ_self _, w64 (x1 + 1), rfl, ((((Keep.of hB1).then hB2).then hB4).then hB5).below, hC4, hL1⟩
   replace hL1 := ite_f hL1 hc2
   refine W_exit ?_
   refine nrm_exit ?_
   refine nrm_exit ?_
   refine blk_exit ?_
   have hq4 := Option.some.inj hL1
   subst hq4
   refine nrm_sub (l' := []) trivial ?_
   exact ⟨rfl, rfl, (Keep.of hB1).below, hC1⟩
 rintro l2 _ w6 hs2 ⟨rfl, rfl, hB6, hC5⟩
 try dsimp only at hF
 refine nrm_sub' hs2 ?_
 clear hs2
 refine W_seq_reg ?_
 refine WL_assign rfl rfl ?_
 refine WL_nil ?_
 refine W_ret ?_
 have hq5 := Option.some.inj hF
 subst hq5
 refine fn_ret1 rfl rfl ?_
 exact ⟨_, rfl, bool_res hC5 _⟩

theorem c_Q_markIntS {w0 : World} {Fs : List (List Nat)} (a1 : (List Int)) (u1 : Value) (a2 : Int) (hH : Hold [Item.own u1 (a1 : (List Int))] w0 Fs) (hn : Fs.flatten.Nodup) (rr : (Int × (List Int))) (hF : Q.markIntS a1 a2 = some rr) :
 Calls Tryz.prog 44 [u1, (.int .i64 a2)].toArray w0 fun e w' => ∃ v, e = .returned v ∧ v = (.int .i64 rr.1) ∧ Ctx Fs.flatten w0 w' [Item.own u1 (rr.2 : (List Int))] := by
 refine calls_of_W Tryz.func44 rfl rfl ?_
 have hC0 := Ctx.startIn hH hn
 unfold Q.markIntS at hF
 refine W_seq_reg ?_
 refine WL_assign rfl rfl ?_
 refine WL_nil ?_
 refine W_seq ?_
 refine W_seq_reg ?_
 refine WL_assign rfl rfl ?_
 refine WL_nil ?_
 obtain ⟨r1, hr1, hF⟩ := bind_some hF
 refine W_norm (fun l w => ∃ x4 : (List Int), ∃ x5 : Int, (x4, x5) = r1 ∧ l = [(1, (.int .i64 x5))] ∧ Ctx Fs.flatten w0 w [Item.own u1 (x4 : (List Int))]) ?_ ?_
 ·refine W_block ?_
  refine W.sub (l' := [(0, u1), (1, (.int .i64 a2)), (5, (.int .i64 0))]) ?_ ⟨rfl, rfl, rfl, trivial⟩
  refine W_loop (fun k l w => ∃ x1 : (List Int), ∃ x2 : Int, ∃ x3 : Int, l = [(0, u1), (1, (.int .i64 x2)), (5, (.int .i64 x3))] ∧ Ctx Fs.flatten w0 w [Item.own u1 (x1 : (List Int))] ∧ Q.markIntS_l1 k x1 x2 x3 = some r1) FUEL ⟨a1, a2, 0, rfl, hC0, hr1⟩ ?_
  clear hr1
  rintro k1 _ w1 ⟨x1, x2, x3, rfl, hC1, hL1⟩
  cases k1 with
  | zero => rw [Q.markIntS_l1] at hL1; cases hL1
  | succ k1 =>
   rw [Q.markIntS_l1] at hL1
   refine W_seq ?_
   refine W_seq_reg ?_
   refine WL_move rfl rfl ?_
   refine WL_move rfl rfl ?_
   refine WL_len Tryz.underlying24 (hC1.ro 0 rfl) rfl rfl ?_
   refine WL_lss rfl rfl rfl ?_
   refine WL_nil ?_
   refine W_cond rfl (fun hc1 => ?_) (fun hc1 => ?_)
   ·replace hL1 := ite_t hL1 hc1
    refine W_skip ?_
    refine nrm_normal ?_
    refine W_seq ?_
    refine W_block ?_
    refine W_seq_reg ?_
    refine WL_move rfl rfl ?_
    refine WL_move rfl rfl ?_
    refine WL_move rfl rfl ?_
    obtain ⟨x6, hx1, hL1⟩ := bind_some hL1
    refine WL_index_own hC1 0 rfl Tryz.underlying24 ty3 hx1 rfl rfl rfl (fun b1 hE1 => ?_)
    have hC3 := hC1.triv (int_val (x2))
    refine WL_store_elem hC3 0 rfl ty3 hE1 hx1 rfl rfl rfl (fun w2 hC2 => ?_)
    try dsimp only [List.set] at hC2
    refine WL_nil ?_
    refine W_reg ?_
    refine WL_move rfl rfl ?_
    refine WL_add rfl rfl rfl ?_
    refine WL_assign rfl rfl ?_
    refine WL_nil ?_
    refine blk_normal ?_
    refine nrm_normal ?_
    refine W_reg ?_
    refine WL_move rfl rfl ?_
    refine WL_add rfl rfl rfl ?_
    refine WL_assign rfl rfl ?_
    refine WL_nil ?_
    refine nrm_sub (l' := [(0, u1), (1, (.int .i64 (w64 (x2 + 1)))), (5, (.int .i64 (w64 (x3 + 1))))]) ⟨rfl, rfl, rfl, trivial⟩ ?_
    exact ⟨k1, Nat.lt_succ_self _, (List.set x1 (Int.toNat x3) x2), w64 (x2 + 1), w64 (x3 + 1), rfl, hC2, hL1⟩
   replace hL1 := ite_f hL1 hc1
   refine W_exit ?_
   refine nrm_exit ?_
   refine nrm_exit ?_
   refine blk_exit ?_
   have hq1 := Option.some.inj hL1
   subst hq1
   refine nrm_sub (l' := [(1, (.int .i64 x2))]) ⟨rfl, trivial⟩ ?_
   exact ⟨x1, x2, rfl, rfl, hC1⟩
 rintro l2 _ w3 hs2 ⟨x4, x5, rfl, rfl, hC4⟩
 try dsimp only at hF
 refine nrm_sub' hs2 ?_
 clear hs2
 refine W_seq_reg ?_
 refine WL_move rfl rfl ?_
 refine WL_assign rfl rfl ?_
 refine WL_nil ?_
 refine W_ret ?_
 have hq2 := Option.some.inj hF
 subst hq2
 refine fn_ret1 rfl rfl ?_
 exact ⟨_, rfl, rfl, hC4⟩

theorem c_Q_markMethodS {w0 : World} {Fs : List (List Nat)} (a1 : (List (Int × (List Int) × Int × Int × Int))) (u1 : Value) (a2 : Int) (hH : Hold [Item.own u1 (a1 : (List (Int × (List Int) × Int × Int × Int)))] w0 Fs) (hn : Fs.flatten.Nodup) (rr : (Int × (List (Int × (List Int) × Int × Int × Int)))) (hF : Q.markMethodS a1 a2 = some rr) :
 Calls Tryz.prog 45 [u1, (.int .i64 a2)].toArray w0 fun e w' => ∃ v, e = .returned v ∧ v = (.int .i64 rr.1) ∧ Ctx Fs.flatten w0 w' [Item.own u1 (rr.2 : (List (Int × (List Int) × Int × Int × Int)))] := by
 refine calls_of_W Tryz.func45 rfl rfl ?_
 have hC0 := Ctx.startIn hH hn
 unfold Q.markMethodS at hF
 refine W_seq_reg ?_
 refine WL_assign rfl rfl ?_
 refine WL_nil ?_
 refine W_seq ?_
 refine W_seq_reg ?_
 refine WL_assign rfl rfl ?_
 refine WL_nil ?_
 obtain ⟨r1, hr1, hF⟩ := bind_some hF
 refine W_norm (fun l w => ∃ x4 : (List (Int × (List Int) × Int × Int × Int)), ∃ x5 : Int, (x4, x5) = r1 ∧ l = [(1, (.int .i64 x5))] ∧ Ctx Fs.flatten w0 w [Item.own u1 (x4 : (List (Int × (List Int) × Int × Int × Int)))]) ?_ ?_
 ·refine W_block ?_
  refine W.sub (l' := [(0, u1), (1, (.int .i64 a2)), (5, (.int .i64 0))]) ?_ ⟨rfl, rfl, rfl, trivial⟩
  refine W_loop (fun k l w => ∃ x1 : (List (Int × (List Int) × Int × Int × Int)), ∃ x2 : Int, ∃ x3 : Int, l = [(0, u1), (1, (.int .i64 x2)), (5, (.int .i64 x3))] ∧ Ctx Fs.flatten w0 w [Item.own u1 (x1 : (List (Int × (List Int) × Int × Int × Int)))] ∧ Q.markMethodS_l1 k x1 x2 x3 = some r1) FUEL ⟨a1, a2, 0, rfl, hC0, hr1⟩ ?_
  clear hr1
  rintro k1 _ w1 ⟨x1, x2, x3, rfl, hC1, hL1⟩
  cases k1 with
  | zero => rw [Q.markMethodS_l1] at hL1; cases hL1
  | succ k1 =>
   rw [Q.markMethodS_l1] at hL1
   refine W_seq ?_
   refine W_seq_reg ?_
   refine WL_move rfl rfl ?_
   refine WL_move rfl rfl ?_
   refine WL_len Tryz.underlying25 (hC1.ro 0 rfl) rfl rfl ?_
   refine WL_lss rfl rfl rfl ?_
   refine WL_nil ?_
   refine W_cond rfl (fun hc1 => ?_) (fun hc1 => ?_)
   ·replace hL1 := ite_t hL1 hc1
    refine W_skip ?_
    refine nrm_normal ?_
    refine W_seq ?_
    refine W_block ?_
    refine W_seq_reg ?_
    refine WL_move rfl rfl ?_
    refine WL_move rfl rfl ?_
    refine WL_move rfl rfl ?_
    obtain ⟨x6, hx1, hL1⟩ := bind_some hL1
    refine WL_index_own hC1 0 rfl Tryz.underlying25 ty93 hx1 rfl rfl rfl (fun b1 hE1 => ?_)
    refine WL_field Tryz.underlying93 rfl rfl (fun w => ⟨_, Tryz.sizeOf3 w⟩) rfl rfl ?_
    obtain ⟨cs1, hC3⟩ := hC1.openElem hx1
    obtain ⟨v1, he1, hC4⟩ := st93_own (hC3.cellsOwn rfl)
    obtain rfl := cells_of_agg he1
    refine WL_store_hole (fo := 0) (cs' := [(.int .i64 x2), v1, (.int .i64 x6.2.2.1), (.int .i64 x6.2.2.2.1), (.int .i64 x6.2.2.2.2)]) hC4 1 rfl hE1 rfl rfl rfl rfl Tryz.sizeOf3 rfl rfl (fun w2 hC2 => ?_)
    try dsimp only [List.set] at hC2
    have hC5 := hC2.f1
    have hC7 := hC5.f1
    have hC6 := own_st93 x2 v1 x6.2.1 x6.2.2.1 x6.2.2.2.1 x6.2.2.2.2 hC7
    have hC8 := hC6.ownCells.closeElem
    refine WL_nil ?_
    refine W_seq_reg ?_
    refine WL_move rfl rfl ?_
    refine WL_add rfl rfl rfl ?_
    refine WL_assign rfl rfl ?_
    refine WL_nil ?_
    refine W_seq_reg ?_
    refine WL_move rfl rfl ?_
    refine WL_move rfl rfl ?_
    obtain ⟨x7, hx2, hL1⟩ := bind_some hL1
    refine WL_index_own hC8 0 rfl Tryz.underlying25 ty93 hx2 rfl rfl rfl (fun b2 hE2 => ?_)
    refine WL_field Tryz.underlying93 rfl rfl (fun w => ⟨_, Tryz.sizeOf24 w⟩) rfl rfl ?_
    obtain ⟨cs2, hC9⟩ := hC8.openElem hx2
    obtain ⟨v2, he2, hC10⟩ := st93_own (hC9.cellsOwn rfl)
    obtain rfl := cells_of_agg he2
    refine WL_load_hole (fo := 1) hC10 1 rfl hE2 rfl rfl Tryz.isAgg24 rfl rfl ?_
    refine WL_move rfl rfl ?_
    obtain ⟨x8, hr2, hL1⟩ := bind_some hL1
    obtain ⟨Fs1, hH1, hn1, hF1, hO1, hb1⟩ := Ctx.lend2 (As := [Item.hole u1 ((List.set x1 (Int.toNat x3) (x2, x6.2.1, x6.2.2.1, x6.2.2.2.1, x6.2.2.2.2)) : (List (Int × (List Int) × Int × Int × Int))) (Int.toNat x3) [(.int .i64 x7.1), v2, (.int .i64 x7.2.2.1), (.int .i64 x7.2.2.2.1), (.int .i64 x7.2.2.2.2)]]) [Item.own v2 (x7.2.1 : (List Int))] hC10
    refine WL_call Tryz.call44 rfl rfl (c_Q_markIntS x7.2.1 v2 (w64 (x2 + 1)) hH1 hn1 x8 hr2) ?_
    rintro _ w3 ⟨rfl, hq1⟩
    have hC12 : Ctx Fs.flatten w0 w3 [Item.own v2 (x8.2 : (List Int)), Item.hole u1 ((List.set x1 (Int.toNat x3) (x2, x6.2.1, x6.2.2.1, x6.2.2.2.1, x6.2.2.2.2)) : (List (Int × (List Int) × Int × Int × Int))) (Int.toNat x3) [(.int .i64 x7.1), v2, (.int .i64 x7.2.2.1), (.int .i64 x7.2.2.2.1), (.int .i64 x7.2.2.2.2)]] := hb1 _ _ hq1
    have hC13 := hC12.f1
    have hC15 := hC13.f1
    have hC14 := own_st93 x7.1 v2 x8.2 x7.2.2.1 x7.2.2.2.1 x7.2.2.2.2 hC15
    have hC16 := hC14.ownCells.closeElem
    refine WL_assign rfl rfl ?_
    refine WL_nil ?_
    refine W_seq_reg ?_
    refine WL_move rfl rfl ?_
    refine WL_move rfl rfl ?_
    refine WL_move rfl rfl ?_
    obtain ⟨x9, hx3, hL1⟩ := bind_some hL1
    refine WL_index_own hC16 0 rfl Tryz.underlying25 ty93 hx3 rfl rfl rfl (fun b3 hE3 => ?_)
    refine WL_field Tryz.underlying93 rfl rfl (fun w => ⟨_, Tryz.sizeOf3 w⟩) rfl rfl ?_
    obtain ⟨cs3, hC18⟩ := hC16.openElem hx3
    obtain ⟨v3, he3, hC19⟩ := st93_own (hC18.cellsOwn rfl)
    obtain rfl := cells_of_agg he3
    refine WL_store_hole (fo := 2) (cs' := [(.int .i64 x9.1), v3, (.int .i64 x8.1), (.int .i64 x9.2.2.2.1), (.int .i64 x9.2.2.2.2)]) hC19 1 rfl hE3 rfl rfl rfl rfl Tryz.sizeOf3 rfl rfl (fun w4 hC17 => ?_)
    try dsimp only [List.set] at hC17
    have hC20 := hC17.f1
    have hC22 := hC20.f1
    have hC21 := own_st93 x9.1 v3 x9.2.1 x8.1 x9.2.2.2.1 x9.2.2.2.2 hC22
    have hC23 := hC21.ownCells.closeElem
    refine WL_nil ?_
    refine W_seq_reg ?_
    refine WL_move rfl rfl ?_
    refine WL_add rfl rfl rfl ?_
    refine WL_assign rfl rfl ?_
    refine WL_nil ?_
    refine W_seq_reg ?_
    refine WL_move rfl rfl ?_
    refine WL_move rfl rfl ?_
    refine WL_move rfl rfl ?_
    obtain ⟨x10, hx4, hL1⟩ := bind_some hL1
    refine WL_index_own hC23 0 rfl Tryz.underlying25 ty93 hx4 rfl rfl rfl (fun b4 hE4 => ?_)
    refine WL_field Tryz.underlying93 rfl rfl (fun w => ⟨_, Tryz.sizeOf3 w⟩) rfl rfl ?_
    obtain ⟨cs4, hC25⟩ := hC23.openElem hx4
    obtain ⟨v4, he4, hC26⟩ := st93_own (hC25.cellsOwn rfl)
    obtain rfl := cells_of_agg he4
    refine WL_store_hole (fo := 3) (cs' := [(.int .i64 x10.1), v4, (.int .i64 x10.2.2.1), (.int .i64 (w64 (x8.1 + 1))), (.int .i64 x10.2.2.2.2)]) hC26 1 rfl hE4 rfl rfl rfl rfl Tryz.sizeOf3 rfl rfl (fun w5 hC24 => ?_)
    try dsimp only [List.set] at hC24
    have hC27 := hC24.f1
    have hC29 := hC27.f1
    have hC28 := own_st93 x10.1 v4 x10.2.1 x10.2.2.1 (w64 (x8.1 + 1)) x10.2.2.2.2 hC29
    have hC30 := hC28.ownCells.closeElem
    refine WL_nil ?_
    refine W_seq_reg ?_
    refine WL_move rfl rfl ?_
    refine WL_add rfl rfl rfl ?_
    refine WL_assign rfl rfl ?_
    refine WL_nil ?_
    refine W_seq_reg ?_
    refine WL_move rfl rfl ?_
    refine WL_move rfl rfl ?_
    refine WL_move rfl rfl ?_
    obtain ⟨x11, hx5, hL1⟩ := bind_some hL1
    refine WL_index_own hC30 0 rfl Tryz.underlying25 ty93 hx5 rfl rfl rfl (fun b5 hE5 => ?_)
    refine WL_field Tryz.underlying93 rfl rfl (fun w => ⟨_, Tryz.sizeOf3 w⟩) rfl rfl ?_
    obtain ⟨cs5, hC32⟩ := hC30.openElem hx5
    obtain ⟨v5, he5, hC33⟩ := st93_own (hC32.cellsOwn rfl)
    obtain rfl := cells_of_agg he5
    refine WL_store_hole (fo := 4) (cs' := [(.int .i64 x11.1), v5, (.int .i64 x11.2.2.1), (.int .i64 x11.2.2.2.1), (.int .i64 (w64 ((w64 (x8.1 + 1)) + 1)))]) hC33 1 rfl hE5 rfl rfl rfl rfl Tryz.sizeOf3 rfl rfl (fun w6 hC31 => ?_)
    try dsimp only [List.set] at hC31
    have hC34 := hC31.f1
    have hC36 := hC34.f1
    have hC35 := own_st93 x11.1 v5 x11.2.1 x11.2.2.1 x11.2.2.2.1 (w64 ((w64 (x8.1 + 1)) + 1)) hC36
    have hC37 := hC35.ownCells.closeElem
    refine WL_nil ?_
    refine W_reg ?_
    refine WL_move rfl rfl ?_
    refine WL_add rfl rfl rfl ?_
    refine WL_assign rfl rfl ?_
    refine WL_nil ?_
    refine blk_normal ?_
    refine nrm_normal ?_
    refine W_reg ?_
    refine WL_move rfl rfl ?_
    refine WL_add rfl rfl rfl ?_
    refine WL_assign rfl rfl ?_
    refine WL_nil ?_
    refine nrm_sub (l' := [(0, u1), (1, (.int .i64 (w64 ((w64 ((w64 (x8.1 + 1)) + 1)) + 1)))), (5, (.int .i64 (w64 (x3 + 1))))]) ⟨rfl, rfl, rfl, trivial⟩ ?_
    exact ⟨k1, Nat.lt_succ_self _, (List.set (List.set (List.set (List.set (List.set x1 (Int.toNat x3) (x2, x6.2.1, x6.2.2.1, x6.2.2.2.1, x6.2.2.2.2)) (Int.toNat x3) (x7.1, x8.2, x7.2.2.1, x7.2.2.2.1, x7.2.2.2.2)) (Int.toNat x3) (x9.1, x9.2.1, x8.1, x9.2.2.2.1, x9.2.2.2.2)) (Int.toNat x3) (x10.1, x10.2.1, x10.2.2.1, w64 (x8.1 + 1), x10.2.2.2.2)) (Int.toNat x3) (x11.1, x11.2.1, x11.2.2.1, x11.2.2.2.1, w64 ((w64 (x8.1 + 1)) + 1))), w64 ((w64 ((w64 (x8.1 + 1)) + 1)) + 1), w64 (x3 + 1), rfl, hC37, hL1⟩
   replace hL1 := ite_f hL1 hc1
   refine W_exit ?_
   refine nrm_exit ?_
   refine nrm_exit ?_
   refine blk_exit ?_
   have hq2 := Option.some.inj hL1
   subst hq2
   refine nrm_sub (l' := [(1, (.int .i64 x2))]) ⟨rfl, trivial⟩ ?_
   exact ⟨x1, x2, rfl, rfl, hC1⟩
 rintro l2 _ w7 hs2 ⟨x4, x5, rfl, rfl, hC38⟩
 try dsimp only at hF
 refine nrm_sub' hs2 ?_
 clear hs2
 refine W_seq_reg ?_
 refine WL_move rfl rfl ?_
 refine WL_assign rfl rfl ?_
 refine WL_nil ?_
 refine W_ret ?_
 have hq3 := Option.some.inj hF
 subst hq3
 refine fn_ret1 rfl rfl ?_
 exact ⟨_, rfl, rfl, hC38⟩

theorem c_Q_markFactS {w0 : World} {Fs : List (List Nat)} (a1 : (List (Int × (List Int)))) (u1 : Value) (a2 : Int) (hH : Hold [Item.own u1 (a1 : (List (Int × (List Int))))] w0 Fs) (hn : Fs.flatten.Nodup) (rr : (Int × (List (Int × (List Int))))) (hF : Q.markFactS a1 a2 = some rr) :
 Calls Tryz.prog 53 [u1, (.int .i64 a2)].toArray w0 fun e w' => ∃ v, e = .returned v ∧ v = (.int .i64 rr.1) ∧ Ctx Fs.flatten w0 w' [Item.own u1 (rr.2 : (List (Int × (List Int))))] := by
 refine calls_of_W Tryz.func53 rfl rfl ?_
 have hC0 := Ctx.startIn hH hn
 unfold Q.markFactS at hF
 refine W_seq_reg ?_
 refine WL_assign rfl rfl ?_
 refine WL_nil ?_
 refine W_seq ?_
 refine W_seq_reg ?_
 refine WL_assign rfl rfl ?_
 refine WL_nil ?_
 obtain ⟨r1, hr1, hF⟩ := bind_some hF
 refine W_norm (fun l w => ∃ x4 : (List (Int × (List Int))), ∃ x5 : Int, (x4, x5) = r1 ∧ l = [(1, (.int .i64 x5))] ∧ Ctx Fs.flatten w0 w [Item.own u1 (x4 : (List (Int × (List Int))))]) ?_ ?_
 ·refine W_block ?_
  refine W.sub (l' := [(0, u1), (1, (.int .i64 a2)), (5, (.int .i64 0))]) ?_ ⟨rfl, rfl, rfl, trivial⟩
  refine W_loop (fun k l w => ∃ x1 : (List (Int × (List Int))), ∃ x2 : Int, ∃ x3 : Int, l = [(0, u1), (1, (.int .i64 x2)), (5, (.int .i64 x3))] ∧ Ctx Fs.flatten w0 w [Item.own u1 (x1 : (List (Int × (List Int))))] ∧ Q.markFactS_l1 k x1 x2 x3 = some r1) FUEL ⟨a1, a2, 0, rfl, hC0, hr1⟩ ?_
  clear hr1
  rintro k1 _ w1 ⟨x1, x2, x3, rfl, hC1, hL1⟩
  cases k1 with
  | zero => rw [Q.markFactS_l1] at hL1; cases hL1
  | succ k1 =>
   rw [Q.markFactS_l1] at hL1
   refine W_seq ?_
   refine W_seq_reg ?_
   refine WL_move rfl rfl ?_
   refine WL_move rfl rfl ?_
   refine WL_len Tryz.underlying31 (hC1.ro 0 rfl) rfl rfl ?_
   refine WL_lss rfl rfl rfl ?_
   refine WL_nil ?_
   refine W_cond rfl (fun hc1 => ?_) (fun hc1 => ?_)
   ·replace hL1 := ite_t hL1 hc1
    refine W_skip ?_
    refine nrm_normal ?_
    refine W_seq ?_
    refine W_block ?_
    refine W_seq_reg ?_
    refine WL_move rfl rfl ?_
    refine WL_move rfl rfl ?_
    refine WL_move rfl rfl ?_
    obtain ⟨x6, hx1, hL1⟩ := bind_some hL1
    refine WL_index_own hC1 0 rfl Tryz.underlying31 ty88 hx1 rfl rfl rfl (fun b1 hE1 => ?_)
    refine WL_field Tryz.underlying88 rfl rfl (fun w => ⟨_, Tryz.sizeOf3 w⟩) rfl rfl ?_
    obtain ⟨cs1, hC3⟩ := hC1.openElem hx1
    obtain ⟨v1, he1, hC4⟩ := st88_own (hC3.cellsOwn rfl)
    obtain rfl := cells_of_agg he1
    refine WL_store_hole (fo := 0) (cs' := [(.int .i64 x2), v1]) hC4 1 rfl hE1 rfl rfl rfl rfl Tryz.sizeOf3 rfl rfl (fun w2 hC2 => ?_)
    try dsimp only [List.set] at hC2
    have hC5 := hC2.f1
    have hC7 := hC5.f1
    have hC6 := own_st88 x2 v1 x6.2 hC7
    have hC8 := hC6.ownCells.closeElem
    refine WL_nil ?_
    refine W_seq_reg ?_
    refine WL_move rfl rfl ?_
    refine WL_add rfl rfl rfl ?_
    refine WL_assign rfl rfl ?_
    refine WL_nil ?_
    refine W_reg ?_
    refine WL_move rfl rfl ?_
    refine WL_move rfl rfl ?_
    obtain ⟨x7, hx2, hL1⟩ := bind_some hL1
    refine WL_index_own hC8 0 rfl Tryz.underlying31 ty88 hx2 rfl rfl rfl (fun b2 hE2 => ?_)
    refine WL_field Tryz.underlying88 rfl rfl (fun w => ⟨_, Tryz.sizeOf24 w⟩) rfl rfl ?_
    obtain ⟨cs2, hC9⟩ := hC8.openElem hx2
    obtain ⟨v2, he2, hC10⟩ := st88_own (hC9.cellsOwn rfl)
    obtain rfl := cells_of_agg he2
    refine WL_load_hole (fo := 1) hC10 1 rfl hE2 rfl rfl Tryz.isAgg24 rfl rfl ?_
    refine WL_move rfl rfl ?_
    obtain ⟨x8, hr2, hL1⟩ := bind_some hL1
    obtain ⟨Fs1, hH1, hn1, hF1, hO1, hb1⟩ := Ctx.lend2 (As := [Item.hole u1 ((List.set x1 (Int.toNat x3) (x2, x6.2)) : (List (Int × (List Int)))) (Int.toNat x3) [(.int .i64 x7.1), v2]]) [Item.own v2 (x7.2 : (List Int))] hC10
    refine WL_call Tryz.call44 rfl rfl (c_Q_markIntS x7.2 v2 (w64 (x2 + 1)) hH1 hn1 x8 hr2) ?_
    rintro _ w3 ⟨rfl, hq1⟩
    have hC12 : Ctx Fs.flatten w0 w3 [Item.own v2 (x8.2 : (List Int)), Item.hole u1 ((List.set x1 (Int.toNat x3) (x2, x6.2)) : (List (Int × (List Int)))) (Int.toNat x3) [(.int .i64 x7.1), v2]] := hb1 _ _ hq1
    have hC13 := hC12.f1
    have hC15 := hC13.f1
    have hC14 := own_st88 x7.1 v2 x8.2 hC15
    have hC16 := hC14.ownCells.closeElem
    refine WL_assign rfl rfl ?_
    refine WL_nil ?_
    refine blk_normal ?_
    refine nrm_normal ?_
    refine W_reg ?_
    refine WL_move rfl rfl ?_
    refine WL_add rfl rfl rfl ?_
    refine WL_assign rfl rfl ?_
    refine WL_nil ?_
    refine nrm_sub (l' := [(0, u1), (1, (.int .i64 x8.1)), (5, (.int .i64 (w64 (x3 + 1))))]) ⟨rfl, rfl, rfl, trivial⟩ ?_
    exact ⟨k1, Nat.lt_succ_self _, (List.set (List.set x1 (Int.toNat x3) (x2, x6.2)) (Int.toNat x3) (x7.1, x8.2)), x8.1, w64 (x3 + 1), rfl, hC16, hL1⟩
   replace hL1 := ite_f hL1 hc1
   refine W_exit ?_
   refine nrm_exit ?_
   refine nrm_exit ?_
   refine blk_exit ?_
   have hq2 := Option.some.inj hL1
   subst hq2
   refine nrm_sub (l' := [(1, (.int .i64 x2))]) ⟨rfl, trivial⟩ ?_
   exact ⟨x1, x2, rfl, rfl, hC1⟩
 rintro l2 _ w4 hs2 ⟨x4, x5, rfl, rfl, hC17⟩
 try dsimp only at hF
 refine nrm_sub' hs2 ?_
 clear hs2
 refine W_seq_reg ?_
 refine WL_move rfl rfl ?_
 refine WL_assign rfl rfl ?_
 refine WL_nil ?_
 refine W_ret ?_
 have hq3 := Option.some.inj hF
 subst hq3
 refine fn_ret1 rfl rfl ?_
 exact ⟨_, rfl, rfl, hC17⟩

theorem c_Q_markToldS {w0 : World} {Fs : List (List Nat)} (a1 : (List ((Int × (List Int)) × (List (Int × (List Int)))))) (u1 : Value) (a2 : Int) (hH : Hold [Item.own u1 (a1 : (List ((Int × (List Int)) × (List (Int × (List Int))))))] w0 Fs) (hn : Fs.flatten.Nodup) (rr : (Int × (List ((Int × (List Int)) × (List (Int × (List Int))))))) (hF : Q.markToldS a1 a2 = some rr) :
 Calls Tryz.prog 46 [u1, (.int .i64 a2)].toArray w0 fun e w' => ∃ v, e = .returned v ∧ v = (.int .i64 rr.1) ∧ Ctx Fs.flatten w0 w' [Item.own u1 (rr.2 : (List ((Int × (List Int)) × (List (Int × (List Int))))))] := by
 refine calls_of_W Tryz.func46 rfl rfl ?_
 have hC0 := Ctx.startIn hH hn
 unfold Q.markToldS at hF
 refine W_seq_reg ?_
 refine WL_assign rfl rfl ?_
 refine WL_nil ?_
 refine W_seq ?_
 refine W_seq_reg ?_
 refine WL_assign rfl rfl ?_
 refine WL_nil ?_
 obtain ⟨r1, hr1, hF⟩ := bind_some hF
 refine W_norm (fun l w => ∃ x4 : (List ((Int × (List Int)) × (List (Int × (List Int))))), ∃ x5 : Int, (x4, x5) = r1 ∧ l = [(1, (.int .i64 x5))] ∧ Ctx Fs.flatten w0 w [Item.own u1 (x4 : (List ((Int × (List Int)) × (List (Int × (List Int))))))]) ?_ ?_
 ·refine W_block ?_
  refine W.sub (l' := [(0, u1), (1, (.int .i64 a2)), (5, (.int .i64 0))]) ?_ ⟨rfl, rfl, rfl, trivial⟩
  refine W_loop (fun k l w => ∃ x1 : (List ((Int × (List Int)) × (List (Int × (List Int))))), ∃ x2 : Int, ∃ x3 : Int, l = [(0, u1), (1, (.int .i64 x2)), (5, (.int .i64 x3))] ∧ Ctx Fs.flatten w0 w [Item.own u1 (x1 : (List ((Int × (List Int)) × (List (Int × (List Int))))))] ∧ Q.markToldS_l1 k x1 x2 x3 = some r1) FUEL ⟨a1, a2, 0, rfl, hC0, hr1⟩ ?_
  clear hr1
  rintro k1 _ w1 ⟨x1, x2, x3, rfl, hC1, hL1⟩
  cases k1 with
  | zero => rw [Q.markToldS_l1] at hL1; cases hL1
  | succ k1 =>
   rw [Q.markToldS_l1] at hL1
   refine W_seq ?_
   refine W_seq_reg ?_
   refine WL_move rfl rfl ?_
   refine WL_move rfl rfl ?_
   refine WL_len Tryz.underlying26 (hC1.ro 0 rfl) rfl rfl ?_
   refine WL_lss rfl rfl rfl ?_
   refine WL_nil ?_
   refine W_cond rfl (fun hc1 => ?_) (fun hc1 => ?_)
   ·replace hL1 := ite_t hL1 hc1
    refine W_skip ?_
    refine nrm_normal ?_
    refine W_seq ?_
    refine W_block ?_
    refine W_seq_reg ?_
    refine WL_move rfl rfl ?_
    refine WL_move rfl rfl ?_
    refine WL_move rfl rfl ?_
    obtain ⟨x6, hx1, hL1⟩ := bind_some hL1
    refine WL_index_own hC1 0 rfl Tryz.underlying26 ty46 hx1 rfl rfl rfl (fun b1 hE1 => ?_)
    refine WL_field Tryz.underlying46 rfl rfl (fun w => ⟨_, Tryz.sizeOf44 w⟩) rfl rfl ?_
    refine WL_field Tryz.underlying44 rfl rfl (fun w => ⟨_, Tryz.sizeOf3 w⟩) rfl rfl ?_
    obtain ⟨cs1, hC3⟩ := hC1.openElem hx1
    obtain ⟨v1, v2, he1, hC4⟩ := st46_own (hC3.cellsOwn rfl)
    obtain rfl := cells_of_agg he1
    refine WL_store_hole (fo := 0) (cs' := [(.int .i64 x2), v1, v2]) hC4 2 rfl hE1 rfl rfl rfl rfl Tryz.sizeOf3 rfl rfl (fun w2 hC2 => ?_)
    try dsimp only [List.set] at hC2
    have hC5 := hC2.f2
    have hC7 := hC5.f2
    have hC8 := hC7.f2
    have hC6 := own_st46 x2 v1 x6.1.2 v2 x6.2 hC8
    have hC9 := hC6.ownCells.closeElem
    refine WL_nil ?_
    refine W_seq_reg ?_
    refine WL_move rfl rfl ?_
    refine WL_add rfl rfl rfl ?_
    refine WL_assign rfl rfl ?_
    refine WL_nil ?_
    refine W_seq_reg ?_
    refine WL_move rfl rfl ?_
    refine WL_move rfl rfl ?_
    obtain ⟨x7, hx2, hL1⟩ := bind_some hL1
    refine WL_index_own hC9 0 rfl Tryz.underlying26 ty46 hx2 rfl rfl rfl (fun b2 hE2 => ?_)
    refine WL_field Tryz.underlying46 rfl rfl (fun w => ⟨_, Tryz.sizeOf44 w⟩) rfl rfl ?_
    refine WL_field Tryz.underlying44 rfl rfl (fun w => ⟨_, Tryz.sizeOf24 w⟩) rfl rfl ?_
    obtain ⟨cs2, hC10⟩ := hC9.openElem hx2
    obtain ⟨v3, v4, he2, hC11⟩ := st46_own (hC10.cellsOwn rfl)
    obtain rfl := cells_of_agg he2
    refine WL_load_hole (fo := 1) hC11 2 rfl hE2 rfl rfl Tryz.isAgg24 rfl rfl ?_
    refine WL_move rfl rfl ?_
    obtain ⟨x8, hr2, hL1⟩ := bind_some hL1
    obtain ⟨Fs1, hH1, hn1, hF1, hO1, hb1⟩ := Ctx.lend2 (As := [Item.own v4 (x7.2 : (List (Int × (List Int)))), Item.hole u1 ((List.set x1 (Int.toNat x3) ((x2, x6.1.2), x6.2)) : (List ((Int × (List Int)) × (List (Int × (List Int)))))) (Int.toNat x3) [(.int .i64 x7.1.1), v3, v4]]) [Item.own v3 (x7.1.2 : (List Int))] hC11
    refine WL_call Tryz.call44 rfl rfl (c_Q_markIntS x7.1.2 v3 (w64 (x2 + 1)) hH1 hn1 x8 hr2) ?_
    rintro _ w3 ⟨rfl, hq1⟩
    have hC13 : Ctx Fs.flatten w0 w3 [Item.own v3 (x8.2 : (List Int)), Item.own v4 (x7.2 : (List (Int × (List Int)))), Item.hole u1 ((List.set x1 (Int.toNat x3) ((x2, x6.1.2), x6.2)) : (List ((Int × (List Int)) × (List (Int × (List Int)))))) (Int.toNat x3) [(.int .i64 x7.1.1), v3, v4]] := hb1 _ _ hq1
    have hC14 := hC13.f2
    have hC16 := hC14.f2
    have hC17 := hC16.f2
    have hC15 := own_st46 x7.1.1 v3 x8.2 v4 x7.2 hC17
    have hC18 := hC15.ownCells.closeElem
    refine WL_assign rfl rfl ?_
    refine WL_nil ?_
    refine W_reg ?_
    refine WL_move rfl rfl ?_
    refine WL_move rfl rfl ?_
    obtain ⟨x9, hx3, hL1⟩ := bind_some hL1
    refine WL_index_own hC18 0 rfl Tryz.underlying26 ty46 hx3 rfl rfl rfl (fun b3 hE3 => ?_)
    refine WL_field Tryz.underlying46 rfl rfl (fun w => ⟨_, Tryz.sizeOf31 w⟩) rfl rfl ?_
    obtain ⟨cs3, hC19⟩ := hC18.openElem hx3
    obtain ⟨v5, v6, he3, hC20⟩ := st46_own (hC19.cellsOwn rfl)
    obtain rfl := cells_of_agg he3
    refine WL_load_hole (fo := 2) hC20 2 rfl hE3 rfl rfl Tryz.isAgg31 rfl rfl ?_
    refine WL_move rfl rfl ?_
    obtain ⟨x10, hr3, hL1⟩ := bind_some hL1
    have hC21 := hC20.f1
    obtain ⟨Fs2, hH2, hn2, hF2, hO2, hb2⟩ := Ctx.lend2 (As := [Item.own v5 (x9.1.2 : (List Int)), Item.hole u1 ((List.set (List.set x1 (Int.toNat x3) ((x2, x6.1.2), x6.2)) (Int.toNat x3) ((x7.1.1, x8.2), x7.2)) : (List ((Int × (List Int)) × (List (Int × (List Int)))))) (Int.toNat x3) [(.int .i64 x9.1.1), v5, v6]]) [Item.own v6 (x9.2 : (List (Int × (List Int))))] hC21
    refine WL_call Tryz.call53 rfl rfl (c_Q_markFactS x9.2 v6 x8.1 hH2 hn2 x10 hr3) ?_
    rintro _ w4 ⟨rfl, hq2⟩
    have hC22 : Ctx Fs.flatten w0 w4 [Item.own v6 (x10.2 : (List (Int × (List Int)))), Item.own v5 (x9.1.2 : (List Int)), Item.hole u1 ((List.set (List.set x1 (Int.toNat x3) ((x2, x6.1.2), x6.2)) (Int.toNat x3) ((x7.1.1, x8.2), x7.2)) : (List ((Int × (List Int)) × (List (Int × (List Int)))))) (Int.toNat x3) [(.int .i64 x9.1.1), v5, v6]] := hb2 _ _ hq2
    have hC23 := hC22.f2
    have hC25 := hC23.f1
    have hC26 := hC25.f2
    have hC24 := own_st46 x9.1.1 v5 x9.1.2 v6 x10.2 hC26
    have hC27 := hC24.ownCells.closeElem
    refine WL_assign rfl rfl ?_
    refine WL_nil ?_
    refine blk_normal ?_
    refine nrm_normal ?_
    refine W_reg ?_
    refine WL_move rfl rfl ?_
    refine WL_add rfl rfl rfl ?_
    refine WL_assign rfl rfl ?_
    refine WL_nil ?_
    refine nrm_sub (l' := [(0, u1), (1, (.int .i64 x10.1)), (5, (.int .i64 (w64 (x3 + 1))))]) ⟨rfl, rfl, rfl, trivial⟩ ?_
    exact ⟨k1, Nat.lt_succ_self _, (List.set (List.set (List.set x1 (Int.toNat x3) ((x2, x6.1.2), x6.2)) (Int.toNat x3) ((x7.1.1, x8.2), x7.2)) (Int.toNat x3) ((x9.1.1, x9.1.2), x10.2)), x10.1, w64 (x3 + 1), rfl, hC27, hL1⟩
   replace hL1 := ite_f hL1 hc1
   refine W_exit ?_
   refine nrm_exit ?_
   refine nrm_exit ?_
   refine blk_exit ?_
   have hq3 := Option.some.inj hL1
   subst hq3
   refine nrm_sub (l' := [(1, (.int .i64 x2))]) ⟨rfl, trivial⟩ ?_
   exact ⟨x1, x2, rfl, rfl, hC1⟩
 rintro l2 _ w5 hs2 ⟨x4, x5, rfl, rfl, hC28⟩
 try dsimp only at hF
 refine nrm_sub' hs2 ?_
 clear hs2
 refine W_seq_reg ?_
 refine WL_move rfl rfl ?_
 refine WL_assign rfl rfl ?_
 refine WL_nil ?_
 refine W_ret ?_
 have hq4 := Option.some.inj hF
 subst hq4
 refine fn_ret1 rfl rfl ?_
 exact ⟨_, rfl, rfl, hC28⟩

theorem c_Q_heldIntS {w0 : World} (a1 : (List Int)) (u1 : Value) (g1 : RO [] w0 u1 a1) (a2 : Int) (rr : Int) (hF : Q.heldIntS a1 a2 = some rr) :
 Calls Tryz.prog 47 [u1, (.int .i64 a2)].toArray w0 fun e w' => ∃ v, e = .returned v ∧ Res w0 rr v w' := by
 refine calls_of_W Tryz.func47 rfl rfl ?_
 have hC0 := Ctx.start w0
 unfold Q.heldIntS at hF
 refine W_seq_reg ?_
 refine WL_assign rfl rfl ?_
 refine WL_nil ?_
 refine W_seq ?_
 refine W_seq_reg ?_
 refine WL_assign rfl rfl ?_
 refine WL_nil ?_
 obtain ⟨r1, hr1, hF⟩ := bind_some hF
 refine W_norm (fun l w => ∃ x3 : Int, .inl x3 = r1 ∧ l = [(1, (.int .i64 x3))] ∧ Below w0.heap.size w0 w ∧ Ctx [] w0 w []) ?_ ?_
 ·refine W_block ?_
  refine W.sub (l' := [(0, u1), (1, (.int .i64 a2)), (5, (.int .i64 0))]) ?_ ⟨rfl, rfl, rfl, trivial⟩
  refine W_loop (fun k l w => ∃ x1 : Int, ∃ x2 : Int, l = [(0, u1), (1, (.int .i64 x1)), (5, (.int .i64 x2))] ∧ Below w0.heap.size w0 w ∧ Ctx [] w0 w [] ∧ Q.heldIntS_l1 a1 k x1 x2 = some r1) FUEL ⟨a2, 0, rfl, (Below.refl _ _), hC0, hr1⟩ ?_
  clear hr1
  rintro k1 _ w1 ⟨x1, x2, rfl, hB1, hC1, hL1⟩
  cases k1 with
  | zero => rw [Q.heldIntS_l1] at hL1; cases hL1
  | succ k1 =>
   rw [Q.heldIntS_l1] at hL1
   refine W_seq ?_
   refine W_seq_reg ?_
   refine WL_move rfl rfl ?_
   refine WL_move rfl rfl ?_
   refine WL_len Tryz.underlying24 g1 rfl rfl ?_
   refine WL_lss rfl rfl rfl ?_
   refine WL_nil ?_
   refine W_cond rfl (fun hc1 => ?_) (fun hc1 => ?_)
   ·replace hL1 := ite_t hL1 hc1
    refine W_skip ?_
    refine nrm_normal ?_
    refine W_seq ?_
    refine W_block ?_
    refine W_seq ?_
    refine W_seq_reg ?_
    refine WL_move rfl rfl ?_
    refine WL_move rfl rfl ?_
    obtain ⟨x4, hx1, hL1⟩ := bind_some hL1
    refine WL_index Tryz.underlying24 ty3 g1 hx1 rfl rfl rfl (fun b1 o1 h1 => ?_)
    refine WL_load ty3 h1 hC1.keep rfl rfl (fun v1 h2 => ?_)
    obtain rfl := ro_int h2
    refine WL_move rfl rfl ?_
    refine WL_neq rfl rfl rfl ?_
    refine WL_nil ?_
    refine W_cond rfl (fun hc2 => ?_) (fun hc2 => ?_)
    ·replace hL1 := ite_t hL1 hc2
     refine W_seq_reg ?_
     refine WL_assign rfl rfl ?_
     refine WL_nil ?_
     refine W_ret ?_
     refine nrm_ret ?_
     refine blk_ret ?_
     refine nrm_ret ?_
     refine nrm_ret ?_
     refine blk_ret ?_
     refine nrm_ret ?_
     refine nrm_ret ?_
     have hq1 := Option.some.inj hL1
     subst hq1
     dsimp only at hF
     have hq2 := Option.some.inj hF
     subst hq2
     refine fn_ret1 rfl rfl ?_
     exact ⟨_, rfl, int_res hC1 _⟩
    replace hL1 := ite_f hL1 hc2
    refine W_skip ?_
    refine nrm_normal ?_
    refine W_reg ?_
    refine WL_move rfl rfl ?_
    refine WL_add rfl rfl rfl ?_
    refine WL_assign rfl rfl ?_
    refine WL_nil ?_
    refine blk_normal ?_
    refine nrm_normal ?_
    refine W_reg ?_
    refine WL_move rfl rfl ?_
    refine WL_add rfl rfl rfl ?_
    refine WL_assign rfl rfl ?_
    refine WL_nil ?_
    refine nrm_sub (l' := [(0, u1), (1, (.int .i64 (w64 (x1 + 1)))), (5, (.int .i64 (w64 (x2 + 1))))]) ⟨rfl, rfl, rfl, trivial⟩ ?_
    exact ⟨k1, Nat.lt_succ_self _, w64 (x1 + 1), w64 (x2 + 1), rfl, (Keep.of hB1).below, hC1, hL1⟩
   replace hL1 := ite_f hL1 hc1
   refine W_exit ?_
   refine nrm_exit ?_
   refine nrm_exit ?_
   refine blk_exit ?_
   have hq3 := Option.some.inj hL1
   subst hq3
   refine nrm_sub (l' := [(1, (.int .i64 x1))]) ⟨rfl, trivial⟩ ?_
   exact ⟨x1, rfl, rfl, (Keep.of hB1).below, hC1⟩
 rintro l2 _ w2 hs2 ⟨x3, rfl, rfl, hB2, hC2⟩
 try dsimp only at hF
 refine nrm_sub' hs2 ?_
 clear hs2
 refine W_seq_reg ?_
 refine WL_move rfl rfl ?_
 refine WL_assign rfl rfl ?_
 refine WL_nil ?_
 refine W_ret ?_
 have hq4 := Option.some.inj hF
 subst hq4
 refine fn_ret1 rfl rfl ?_
 exact ⟨_, rfl, int_res hC2 _⟩

theorem c_Q_FnExactSmallestRemoval {w0 : World} (a1 : (List Int)) (u1 : Value) (g1 : RO [] w0 u1 a1) (a2 : (List (Int × (List Int) × Int × Int × Int))) (u2 : Value) (g2 : RO [] w0 u2 a2) (a3 : (List ((Int × (List Int)) × (List (Int × (List Int)))))) (u3 : Value) (g3 : RO [] w0 u3 a3) (rr : Bool) (hF : Q.FnExactSmallestRemoval a1 a2 a3 = some rr) :
 Calls Tryz.prog 4 [u1, u2, u3].toArray w0 fun e w' => ∃ v, e = .returned v ∧ Res w0 rr v w' := by
 refine calls_of_W Tryz.func4 rfl rfl ?_
 have hC0 := Ctx.start w0
 unfold Q.FnExactSmallestRemoval at hF
 refine W_seq_reg ?_
 refine WL_assign rfl rfl ?_
 refine WL_nil ?_
 refine W_seq ?_
 refine W_seq_reg ?_
 refine WL_move rfl rfl ?_
 refine WL_len Tryz.underlying24 g1 rfl rfl ?_
 refine WL_gtr rfl rfl rfl ?_
 refine WL_nil ?_
 refine W_cond rfl (fun hc1 => ?_) (fun hc1 => ?_)
 ·replace hF := ite_t hF hc1
  refine W_seq_reg ?_
  refine WL_assign rfl rfl ?_
  refine WL_nil ?_
  refine W_ret ?_
  refine nrm_ret ?_
  have hq1 := Option.some.inj hF
  subst hq1
  refine fn_ret1 rfl rfl ?_
  exact ⟨_, rfl, bool_res hC0 _⟩
 replace hF := ite_f hF hc1
 refine W_skip ?_
 refine nrm_normal ?_
 refine W_seq_reg ?_
 refine WL_assign rfl rfl ?_
 refine WL_nil ?_
 refine W_seq_reg ?_
 refine WL_move rfl rfl ?_
 refine WL_move rfl rfl ?_
 obtain ⟨x1, hr1, hF⟩ := bind_some hF
 refine WL_call Tryz.call34 rfl rfl (c_Q_szMethodS a2 u2 (g2.now hC0.keep) 1048576 x1 hr1) ?_
 intro _ w1 hv1
 obtain ⟨rfl, hB1⟩ := res_int hv1
 have hC1 := hC0.grow hB1
 refine WL_assign rfl rfl ?_
 refine WL_nil ?_
 refine W_seq ?_
 refine W_seq_reg ?_
 refine WL_move rfl rfl ?_
 refine WL_lss rfl rfl rfl ?_
 refine WL_nil ?_
 refine W_cond rfl (fun hc2 => ?_) (fun hc2 => ?_)
 ·replace hF := ite_t hF hc2
  refine W_seq_reg ?_
  refine WL_assign rfl rfl ?_
  refine WL_nil ?_
  refine W_ret ?_
  refine nrm_ret ?_
  have hq2 := Option.some.inj hF
  subst hq2
  refine fn_ret1 rfl rfl ?_
  exact ⟨_, rfl, bool_res hC1 _⟩
 replace hF := ite_f hF hc2
 refine W_skip ?_
 refine nrm_normal ?_
 refine W_seq_reg ?_
 refine WL_move rfl rfl ?_
 refine WL_move rfl rfl ?_
 obtain ⟨x2, hr2, hF⟩ := bind_some hF
 refine WL_call Tryz.call35 rfl rfl (c_Q_szToldS a3 u3 (g3.now hC1.keep) x1 x2 hr2) ?_
 intro _ w2 hv2
 obtain ⟨rfl, hB2⟩ := res_int hv2
 have hC2 := hC1.grow hB2
 refine WL_assign rfl rfl ?_
 refine WL_nil ?_
 refine W_seq ?_
 refine W_seq_reg ?_
 refine WL_move rfl rfl ?_
 refine WL_lss rfl rfl rfl ?_
 refine WL_nil ?_
 refine W_cond rfl (fun hc3 => ?_) (fun hc3 => ?_)
 ·replace hF := ite_t hF hc3
  refine W_seq_reg ?_
  refine WL_assign rfl rfl ?_
  refine WL_nil ?_
  refine W_ret ?_
  refine nrm_ret ?_
  have hq3 := Option.some.inj hF
  subst hq3
  refine fn_ret1 rfl rfl ?_
  exact ⟨_, rfl, bool_res hC2 _⟩
 replace hF := ite_f hF hc3
 refine W_skip ?_
 refine nrm_normal ?_
 refine W_seq_reg ?_
 refine WL_move rfl rfl ?_
 obtain ⟨x3, hr3, hF⟩ := bind_some hF
 refine WL_call Tryz.call37 rfl rfl (c_Q_toIntS a1 u1 (g1.now hC2.keep) x3 hr3) ?_
 rintro v1 w3 ⟨hB3, F1, hv3, hn1, hb1⟩
 have hC3 := hC2.push hB3 (A := Item.own v1 x3) hv3 hn1 hb1
 refine WL_move rfl rfl ?_
 obtain ⟨x4, hr4, hF⟩ := bind_some hF
 refine WL_call Tryz.call38 rfl rfl (c_Q_toMethodS a2 u2 (g2.now hC3.keep) x4 hr4) ?_
 rintro v2 w4 ⟨hB4, F2, hv4, hn2, hb2⟩
 have hC4 := hC3.push hB4 (A := Item.own v2 x4) hv4 hn2 hb2
 refine WL_move rfl rfl ?_
 obtain ⟨x5, hr5, hF⟩ := bind_some hF
 refine WL_call Tryz.call39 rfl rfl (c_Q_toToldS a3 u3 (g3.now hC4.keep) x5 hr5) ?_
 rintro v3 w5 ⟨hB5, F3, hv5, hn3, hb3⟩
 have hC5 := hC4.push hB5 (A := Item.own v3 x5) hv5 hn3 hb3
 obtain ⟨x6, hr6, hF⟩ := bind_some hF
 refine WL_call Tryz.call36 rfl rfl (c_S_SmallestRemoval x3 v1 ((hC5.ro 2 rfl).now (Keep.refl _ _)) x4 v2 ((hC5.ro 1 rfl).now (Keep.refl _ _)) x5 v3 ((hC5.ro 0 rfl).now (Keep.refl _ _)) x6 hr6) ?_
 rintro _ w6 ⟨hB6, v4, v5, F4, F5, rfl, hv6, hv7, hn4, hb4⟩
 obtain ⟨rfl, rfl⟩ := val_bool hv7
 have hC6 := hC5.pushL hB6 (Bs := [Item.own v4 x6.1]) (Fs := [F4]) ⟨F4, _, rfl, hv6, rfl⟩ (by simpa using hn4) (fun b h => hb4 b (by simpa using h))
 refine WL_move rfl rfl ?_
 refine WL_extract rfl rfl rfl ?_
 refine WL_extract rfl rfl rfl ?_
 refine WL_assign rfl rfl ?_
 refine WL_assign rfl rfl ?_
 refine WL_nil ?_
 refine W_seq_reg ?_
 refine WL_move rfl rfl ?_
 obtain ⟨x7, hr7, hF⟩ := bind_some hF
 refine WL_call Tryz.call37 rfl rfl (c_Q_toIntS a1 u1 (g1.now hC6.keep) x7 hr7) ?_
 rintro v6 w7 ⟨hB7, F6, hv8, hn5, hb5⟩
 have hC7 := hC6.push hB7 (A := Item.own v6 x7) hv8 hn5 hb5
 refine WL_assign rfl rfl ?_
 refine WL_nil ?_
 refine W_seq_reg ?_
 refine WL_move rfl rfl ?_
 obtain ⟨x8, hr8, hF⟩ := bind_some hF
 refine WL_call Tryz.call38 rfl rfl (c_Q_toMethodS a2 u2 (g2.now hC7.keep) x8 hr8) ?_
 rintro v7 w9 ⟨hB8, F7, hv9, hn6, hb6⟩
 have hC8 := hC7.push hB8 (A := Item.own v7 x8) hv9 hn6 hb6
 refine WL_assign rfl rfl ?_
 refine WL_nil ?_
 refine W_seq_reg ?_
 refine WL_move rfl rfl ?_
 obtain ⟨x9, hr9, hF⟩ := bind_some hF
 refine WL_call Tryz.call39 rfl rfl (c_Q_toToldS a3 u3 (g3.now hC8.keep) x9 hr9) ?_
 rintro v8 w10 ⟨hB9, F8, hv10, hn7, hb7⟩
 have hC9 := hC8.push hB9 (A := Item.own v8 x9) hv10 hn7 hb7
 refine WL_assign rfl rfl ?_
 refine WL_nil ?_
 refine W_seq_reg ?_
 refine WL_move rfl rfl ?_
 refine WL_move rfl rfl ?_
 refine WL_move rfl rfl ?_
 obtain ⟨x10, hr10, hF⟩ := bind_some hF
 refine WL_call Tryz.call40 rfl rfl (c_M_SmallestRemoval x7 v6 ((hC9.ro 2 rfl).now (Keep.refl _ _)) x8 v7 ((hC9.ro 1 rfl).now (Keep.refl _ _)) x9 v8 ((hC9.ro 0 rfl).now (Keep.refl _ _)) x10 hr10) ?_
 rintro _ w11 ⟨hB10, v9, v10, F9, F10, rfl, hv11, hv12, hn8, hb8⟩
 obtain ⟨rfl, rfl⟩ := val_bool hv12
 have hC10 := hC9.pushL hB10 (Bs := [Item.own v9 x10.1]) (Fs := [F9]) ⟨F9, _, rfl, hv11, rfl⟩ (by simpa using hn8) (fun b h => hb8 b (by simpa using h))
 refine WL_move rfl rfl ?_
 refine WL_extract rfl rfl rfl ?_
 refine WL_extract rfl rfl rfl ?_
 refine WL_assign rfl rfl ?_
 refine WL_assign rfl rfl ?_
 refine WL_nil ?_
 refine W_seq ?_
 obtain ⟨r1, hr11, hF⟩ := bind_some hF
 refine W_cut (fun l w => ∃ x11 : Bool, x11 = r1 ∧ l = [(0, u1), (1, u2), (2, u3), (8, v4), (9, (.bool x6.2)), (10, v6), (11, v7), (12, v8), (13, v9), (14, (.bool x10.2)), (64, (.bool x11))] ∧ Below w11.heap.size w11 w ∧ Ctx [] w0 w [Item.own v9 (x10.1 : (List Int)), Item.own v8 (x9 : (List ((Int × (List Int)) × (List (Int × (List Int)))))), Item.own v7 (x8 : (List (Int × (List Int) × Int × Int × Int))), Item.own v6 (x7 : (List Int)), Item.own v4 (x6.1 : (List Int))]) ?_ ?_
 ·refine W_reg ?_
  refine WL_move rfl rfl ?_
  refine WL_move rfl rfl ?_
  obtain ⟨x12, hr12, hr11⟩ := bind_some hr11
  refine WL_call Tryz.call41 rfl rfl (c_Q_eqIntS x10.1 v9 ((hC10.ro 0 rfl).now (Keep.refl _ _)) x6.1 v4 ((hC10.ro 4 rfl).now (Keep.refl _ _)) x12 hr12) ?_
  intro _ w13 hv13
  obtain ⟨rfl, hB12⟩ := res_bool hv13
  have hC12 := hC10.grow hB12
  refine WL_not rfl rfl ?_
  refine WL_move rfl rfl ?_
  refine WL_fork (fun hc4 => ?_) (fun hc4 => ?_)
  ·replace hr11 := ite_t hr11 hc4
   refine WL_guard_skip rfl rfl (by simp) rfl ?_
   refine WL_guard_skip rfl rfl (by simp) rfl ?_
   refine WL_guard_skip rfl rfl (by simp) rfl ?_
   refine WL_pick_t rfl rfl rfl ?_
   refine WL_nil ?_
   have hq4 := Option.some.inj hr11
   subst hq4
   have hC13 := hC12.f4
   have hC14 := hC13.f4
   have hC15 := hC14.f4
   have hC16 := hC15.f4
   have hC17 := hC16.f4
   have hC18 := hC17.h5
   refine nrm_sub (l' := [(0, u1), (1, u2), (2, u3), (8, v4), (9, (.bool x6.2)), (10, v6), (11, v7), (12, v8), (13, v9), (14, (.bool x10.2)), (64, (.bool true))]) ⟨rfl, rfl, rfl, rfl, rfl, rfl, rfl, rfl, rfl, rfl, rfl, trivial⟩ ?_
   exact ⟨true, rfl, rfl, (Keep.of hB12).below, hC18⟩
  replace hr11 := ite_f hr11 hc4
  refine WL_guard rfl rfl ?_
  refine WL_move rfl rfl ?_
  refine WL_guard rfl rfl ?_
  refine WL_move rfl rfl ?_
  refine WL_guard rfl rfl ?_
  refine WL_bool_neq Tryz.underlying4 rfl rfl rfl ?_
  refine WL_pick_f rfl rfl rfl ?_
  refine WL_nil ?_
  have hq5 := Option.some.inj hr11
  subst hq5
  have hC19 := hC12.f4
  have hC20 := hC19.f4
  have hC21 := hC20.f4
  have hC22 := hC21.f4
  have hC23 := hC22.f4
  have hC24 := hC23.h5
  refine nrm_sub (l' := [(0, u1), (1, u2), (2, u3), (8, v4), (9, (.bool x6.2)), (10, v6), (11, v7), (12, v8), (13, v9), (14, (.bool x10.2)), (64, (.bool (!decide (x10.2 = x6.2))))]) ⟨rfl, rfl, rfl, rfl, rfl, rfl, rfl, rfl, rfl, rfl, rfl, trivial⟩ ?_
  exact ⟨(!decide (x10.2 = x6.2)), rfl, rfl, (Keep.of hB12).below, hC24⟩
 rintro _ w12 ⟨x11, rfl, rfl, hB11, hC11⟩
 try dsimp only at hF
 refine W_cond rfl (fun hc5 => ?_) (fun hc5 => ?_)
 ·replace hF := ite_t hF hc5
  refine W_seq_reg ?_
  refine WL_assign rfl rfl ?_
  refine WL_nil ?_
  refine W_ret ?_
  refine nrm_ret ?_
  have hq6 := Option.some.inj hF
  subst hq6
  refine fn_ret1 rfl rfl ?_
  exact ⟨_, rfl, bool_res hC11 _⟩
 replace hF := ite_f hF hc5
 refine W_skip ?_
 refine nrm_normal ?_
 refine W_seq ?_
 refine W_seq_reg ?_
 refine WL_move rfl rfl ?_
 refine WL_move rfl rfl ?_
 obtain ⟨x13, hr13, hF⟩ := bind_some hF
 refine WL_call Tryz.call37 rfl rfl (c_Q_toIntS a1 u1 (g1.now hC11.keep) x13 hr13) ?_
 rintro v11 w14 ⟨hB13, F11, hv14, hn9, hb9⟩
 have hC25 := hC11.push hB13 (A := Item.own v11 x13) hv14 hn9 hb9
 obtain ⟨x14, hr14, hF⟩ := bind_some hF
 refine WL_call Tryz.call41 rfl rfl (c_Q_eqIntS x7 v6 ((hC25.ro 4 rfl).now (Keep.refl _ _)) x13 v11 ((hC25.ro 0 rfl).now (Keep.refl _ _)) x14 hr14) ?_
 intro _ w15 hv15
 obtain ⟨rfl, hB14⟩ := res_bool hv15
 have hC26 := hC25.grow hB14
 refine WL_not rfl rfl ?_
 refine WL_nil ?_
 refine W_cond rfl (fun hc6 => ?_) (fun hc6 => ?_)
 ·replace hF := ite_t hF hc6
  refine W_seq_reg ?_
  refine WL_assign rfl rfl ?_
  refine WL_nil ?_
  refine W_ret ?_
  refine nrm_ret ?_
  have hq7 := Option.some.inj hF
  subst hq7
  refine fn_ret1 rfl rfl ?_
  exact ⟨_, rfl, bool_res hC26 _⟩
 replace hF := ite_f hF hc6
 refine W_skip ?_
 refine nrm_normal ?_
 refine W_seq ?_
 refine W_seq_reg ?_
 refine WL_move rfl rfl ?_
 refine WL_move rfl rfl ?_
 obtain ⟨x15, hr15, hF⟩ := bind_some hF
 refine WL_call Tryz.call38 rfl rfl (c_Q_toMethodS a2 u2 (g2.now hC26.keep) x15 hr15) ?_
 rintro v12 w16 ⟨hB15, F12, hv16, hn10, hb10⟩
 have hC27 := hC26.push hB15 (A := Item.own v12 x15) hv16 hn10 hb10
 obtain ⟨x16, hr16, hF⟩ := bind_some hF
 refine WL_call Tryz.call42 rfl rfl (c_Q_eqMethodS x8 v7 ((hC27.ro 4 rfl).now (Keep.refl _ _)) x15 v12 ((hC27.ro 0 rfl).now (Keep.refl _ _)) x16 hr16) ?_
 intro _ w17 hv17
 obtain ⟨rfl, hB16⟩ := res_bool hv17
 have hC28 := hC27.grow hB16
 refine WL_not rfl rfl ?_
 refine WL_nil ?_
 refine W_cond rfl (fun hc7 => ?_) (fun hc7 => ?_)
 ·replace hF := ite_t hF hc7
  refine W_seq_reg ?_
  refine WL_assign rfl rfl ?_
  refine WL_nil ?_
  refine W_ret ?_
  refine nrm_ret ?_
  have hq8 := Option.some.inj hF
  subst hq8
  refine fn_ret1 rfl rfl ?_
  exact ⟨_, rfl, bool_res hC28 _⟩
 replace hF := ite_f hF hc7
 refine W_skip ?_
 refine nrm_normal ?_
 refine W_seq ?_
 refine W_seq_reg ?_
 refine WL_move rfl rfl ?_
 refine WL_move rfl rfl ?_
 obtain ⟨x17, hr17, hF⟩ := bind_some hF
 refine WL_call Tryz.call39 rfl rfl (c_Q_toToldS a3 u3 (g3.now hC28.keep) x17 hr17) ?_
 rintro v13 w18 ⟨hB17, F13, hv18, hn11, hb11⟩
 have hC29 := hC28.push hB17 (A := Item.own v13 x17) hv18 hn11 hb11
 obtain ⟨x18, hr18, hF⟩ := bind_some hF
 refine WL_call Tryz.call43 rfl rfl (c_Q_eqToldS x9 v8 ((hC29.ro 4 rfl).now (Keep.refl _ _)) x17 v13 ((hC29.ro 0 rfl).now (Keep.refl _ _)) x18 hr18) ?_
 intro _ w19 hv19
 obtain ⟨rfl, hB18⟩ := res_bool hv19
 have hC30 := hC29.grow hB18
 refine WL_not rfl rfl ?_
 refine WL_nil ?_
 refine W_cond rfl (fun hc8 => ?_) (fun hc8 => ?_)
 ·replace hF := ite_t hF hc8
  refine W_seq_reg ?_
  refine WL_assign rfl rfl ?_
  refine WL_nil ?_
  refine W_ret ?_
  refine nrm_ret ?_
  have hq9 := Option.some.inj hF
  subst hq9
  refine fn_ret1 rfl rfl ?_
  exact ⟨_, rfl, bool_res hC30 _⟩
 replace hF := ite_f hF hc8
 refine W_skip ?_
 refine nrm_normal ?_
 refine W_seq_reg ?_
 refine WL_assign rfl rfl ?_
 refine WL_nil ?_
 refine W_seq_reg ?_
 refine WL_move rfl rfl ?_
 refine WL_move rfl rfl ?_
 obtain ⟨x19, hr19, hF⟩ := bind_some hF
 have hC31 := hC30.f6
 obtain ⟨Fs1, hH1, hn12, hF1, hO1, hb12⟩ := Ctx.lend2 (As := [Item.own v13 (x17 : (List ((Int × (List Int)) × (List (Int × (List Int)))))), Item.own v12 (x15 : (List (Int × (List Int) × Int × Int × Int))), Item.own v11 (x13 : (List Int)), Item.own v9 (x10.1 : (List Int)), Item.own v8 (x9 : (List ((Int × (List Int)) × (List (Int × (List Int)))))), Item.own v7 (x8 : (List (Int × (List Int) × Int × Int × Int))), Item.own v4 (x6.1 : (List Int))]) [Item.own v6 (x7 : (List Int))] hC31
 refine WL_call Tryz.call44 rfl rfl (c_Q_markIntS x7 v6 1 hH1 hn12 x19 hr19) ?_
 rintro _ w20 ⟨rfl, hq10⟩
 have hC32 : Ctx [] w0 w20 [Item.own v6 (x19.2 : (List Int)), Item.own v13 (x17 : (List ((Int × (List Int)) × (List (Int × (List Int)))))), Item.own v12 (x15 : (List (Int × (List Int) × Int × Int × Int))), Item.own v11 (x13 : (List Int)), Item.own v9 (x10.1 : (List Int)), Item.own v8 (x9 : (List ((Int × (List Int)) × (List (Int × (List Int)))))), Item.own v7 (x8 : (List (Int × (List Int) × Int × Int × Int))), Item.own v4 (x6.1 : (List Int))] := hb12 _ _ hq10
 refine WL_assign rfl rfl ?_
 refine WL_nil ?_
 refine W_seq_reg ?_
 refine WL_move rfl rfl ?_
 refine WL_move rfl rfl ?_
 obtain ⟨x20, hr20, hF⟩ := bind_some hF
 have hC33 := hC32.f6
 obtain ⟨Fs2, hH2, hn13, hF2, hO2, hb13⟩ := Ctx.lend2 (As := [Item.own v6 (x19.2 : (List Int)), Item.own v13 (x17 : (List ((Int × (List Int)) × (List (Int × (List Int)))))), Item.own v12 (x15 : (List (Int × (List Int) × Int × Int × Int))), Item.own v11 (x13 : (List Int)), Item.own v9 (x10.1 : (List Int)), Item.own v8 (x9 : (List ((Int × (List Int)) × (List (Int × (List Int)))))), Item.own v4 (x6.1 : (List Int))]) [Item.own v7 (x8 : (List (Int × (List Int) × Int × Int × Int)))] hC33
 refine WL_call Tryz.call45 rfl rfl (c_Q_markMethodS x8 v7 x19.1 hH2 hn13 x20 hr20) ?_
 rintro _ w21 ⟨rfl, hq11⟩
 have hC34 : Ctx [] w0 w21 [Item.own v7 (x20.2 : (List (Int × (List Int) × Int × Int × Int))), Item.own v6 (x19.2 : (List Int)), Item.own v13 (x17 : (List ((Int × (List Int)) × (List (Int × (List Int)))))), Item.own v12 (x15 : (List (Int × (List Int) × Int × Int × Int))), Item.own v11 (x13 : (List Int)), Item.own v9 (x10.1 : (List Int)), Item.own v8 (x9 : (List ((Int × (List Int)) × (List (Int × (List Int)))))), Item.own v4 (x6.1 : (List Int))] := hb13 _ _ hq11
 refine WL_assign rfl rfl ?_
 refine WL_nil ?_
 refine W_seq_reg ?_
 refine WL_move rfl rfl ?_
 refine WL_move rfl rfl ?_
 obtain ⟨x21, hr21, hF⟩ := bind_some hF
 have hC35 := hC34.f6
 obtain ⟨Fs3, hH3, hn14, hF3, hO3, hb14⟩ := Ctx.lend2 (As := [Item.own v7 (x20.2 : (List (Int × (List Int) × Int × Int × Int))), Item.own v6 (x19.2 : (List Int)), Item.own v13 (x17 : (List ((Int × (List Int)) × (List (Int × (List Int)))))), Item.own v12 (x15 : (List (Int × (List Int) × Int × Int × Int))), Item.own v11 (x13 : (List Int)), Item.own v9 (x10.1 : (List Int)), Item.own v4 (x6.1 : (List Int))]) [Item.own v8 (x9 : (List ((Int × (List Int)) × (List (Int × (List Int))))))] hC35
 refine WL_call Tryz.call46 rfl rfl (c_Q_markToldS x9 v8 x20.1 hH3 hn14 x21 hr21) ?_
 rintro _ w22 ⟨rfl, hq12⟩
 have hC36 : Ctx [] w0 w22 [Item.own v8 (x21.2 : (List ((Int × (List Int)) × (List (Int × (List Int)))))), Item.own v7 (x20.2 : (List (Int × (List Int) × Int × Int × Int))), Item.own v6 (x19.2 : (List Int)), Item.own v13 (x17 : (List ((Int × (List Int)) × (List (Int × (List Int)))))), Item.own v12 (x15 : (List (Int × (List Int) × Int × Int × Int))), Item.own v11 (x13 : (List Int)), Item.own v9 (x10.1 : (List Int)), Item.own v4 (x6.1 : (List Int))] := hb14 _ _ hq12
 refine WL_assign rfl rfl ?_
 refine WL_nil ?_
 refine W_seq ?_
 obtain ⟨r2, hr22, hF⟩ := bind_some hF
 refine W_cut (fun l w => ∃ x22 : Bool, x22 = r2 ∧ l = [(0, u1), (1, u2), (2, u3), (8, v4), (9, (.bool x6.2)), (13, v9), (101, (.bool x22))] ∧ Below w22.heap.size w22 w ∧ Ctx [] w0 w [Item.own v9 (x10.1 : (List Int)), Item.own v4 (x6.1 : (List Int))]) ?_ ?_
 ·refine W_reg ?_
  refine WL_move rfl rfl ?_
  refine WL_lss rfl rfl rfl ?_
  refine WL_move rfl rfl ?_
  refine WL_fork (fun hc9 => ?_) (fun hc9 => ?_)
  ·replace hr22 := ite_t hr22 hc9
   refine WL_guard_skip rfl rfl (by simp) rfl ?_
   refine WL_guard_skip rfl rfl (by simp) rfl ?_
   refine WL_guard_skip rfl rfl (by simp) rfl ?_
   refine WL_guard_skip rfl rfl (by simp) rfl ?_
   refine WL_pick_t rfl rfl rfl ?_
   refine WL_move rfl rfl ?_
   refine WL_guard_skip rfl rfl (by simp) rfl ?_
   refine WL_guard_skip rfl rfl (by simp) rfl ?_
   refine WL_guard_skip rfl rfl (by simp) rfl ?_
   refine WL_pick_t rfl rfl rfl ?_
   refine WL_nil ?_
   have hq13 := Option.some.inj hr22
   subst hq13
   have hC38 := hC36.f7
   have hC39 := hC38.f7
   have hC40 := hC39.h2
   refine nrm_sub (l' := [(0, u1), (1, u2), (2, u3), (8, v4), (9, (.bool x6.2)), (13, v9), (101, (.bool true))]) ⟨rfl, rfl, rfl, rfl, rfl, rfl, rfl, trivial⟩ ?_
   exact ⟨true, rfl, rfl, (Below.refl _ _), hC40⟩
  replace hr22 := ite_f hr22 hc9
  refine WL_guard rfl rfl ?_
  refine WL_move rfl rfl ?_
  refine WL_guard rfl rfl ?_
  refine WL_move rfl rfl ?_
  obtain ⟨x23, hr23, hr22⟩ := bind_some hr22
  refine WL_guard rfl rfl ?_
  refine WL_call Tryz.call41 rfl rfl (c_Q_eqIntS x10.1 v9 ((hC36.ro 6 rfl).now (Keep.refl _ _)) x6.1 v4 ((hC36.ro 7 rfl).now (Keep.refl _ _)) x23 hr23) ?_
  intro _ w24 hv20
  obtain ⟨rfl, hB20⟩ := res_bool hv20
  have hC41 := hC36.grow hB20
  refine WL_guard rfl rfl ?_
  refine WL_not rfl rfl ?_
  refine WL_pick_f rfl rfl rfl ?_
  refine WL_move rfl rfl ?_
  refine WL_fork (fun hc10 => ?_) (fun hc10 => ?_)
  ·replace hr22 := ite_t hr22 hc10
   refine WL_guard_skip rfl rfl (by simp) rfl ?_
   refine WL_guard_skip rfl rfl (by simp) rfl ?_
   refine WL_guard_skip rfl rfl (by simp) rfl ?_
   refine WL_pick_t rfl rfl rfl ?_
   refine WL_nil ?_
   have hq14 := Option.some.inj hr22
   subst hq14
   have hC42 := hC41.f7
   have hC43 := hC42.f7
   have hC44 := hC43.h2
   refine nrm_sub (l' := [(0, u1), (1, u2), (2, u3), (8, v4), (9, (.bool x6.2)), (13, v9), (101, (.bool true))]) ⟨rfl, rfl, rfl, rfl, rfl, rfl, rfl, trivial⟩ ?_
   exact ⟨true, rfl, rfl, (Keep.of hB20).below, hC44⟩
  replace hr22 := ite_f hr22 hc10
  refine WL_guard rfl rfl ?_
  refine WL_move rfl rfl ?_
  refine WL_guard rfl rfl ?_
  refine WL_move rfl rfl ?_
  refine WL_guard rfl rfl ?_
  refine WL_bool_neq Tryz.underlying4 rfl rfl rfl ?_
  refine WL_pick_f rfl rfl rfl ?_
  refine WL_nil ?_
  have hq15 := Option.some.inj hr22
  subst hq15
  have hC45 := hC41.f7
  have hC46 := hC45.f7
  have hC47 := hC46.h2
  refine nrm_sub (l' := [(0, u1), (1, u2), (2, u3), (8, v4), (9, (.bool x6.2)), (13, v9), (101, (.bool (!decide (x10.2 = x6.2))))]) ⟨rfl, rfl, rfl, rfl, rfl, rfl, rfl, trivial⟩ ?_
  exact ⟨(!decide (x10.2 = x6.2)), rfl, rfl, (Keep.of hB20).below, hC47⟩
 rintro _ w23 ⟨x22, rfl, rfl, hB19, hC37⟩
 try dsimp only at hF
 refine W_cond rfl (fun hc11 => ?_) (fun hc11 => ?_)
 ·replace hF := ite_t hF hc11
  refine W_seq_reg ?_
  refine WL_assign rfl rfl ?_
  refine WL_nil ?_
  refine W_ret ?_
  refine nrm_ret ?_
  have hq16 := Option.some.inj hF
  subst hq16
  refine fn_ret1 rfl rfl ?_
  exact ⟨_, rfl, bool_res hC37 _⟩
 replace hF := ite_f hF hc11
 refine W_skip ?_
 refine nrm_normal ?_
 refine W_seq_reg ?_
 refine WL_assign rfl rfl ?_
 refine WL_nil ?_
 refine W_seq_reg ?_
 refine WL_move rfl rfl ?_
 refine WL_move rfl rfl ?_
 obtain ⟨x24, hr24, hF⟩ := bind_some hF
 obtain ⟨Fs4, hH4, hn15, hF4, hO4, hb15⟩ := Ctx.lend2 (As := [Item.own v4 (x6.1 : (List Int))]) [Item.own v9 (x10.1 : (List Int))] hC37
 refine WL_call Tryz.call44 rfl rfl (c_Q_markIntS x10.1 v9 1 hH4 hn15 x24 hr24) ?_
 rintro _ w25 ⟨rfl, hq17⟩
 have hC49 : Ctx [] w0 w25 [Item.own v9 (x24.2 : (List Int)), Item.own v4 (x6.1 : (List Int))] := hb15 _ _ hq17
 refine WL_assign rfl rfl ?_
 refine WL_nil ?_
 refine W_seq_reg ?_
 refine WL_assign rfl rfl ?_
 refine WL_nil ?_
 refine W_seq_reg ?_
 refine WL_move rfl rfl ?_
 refine WL_move rfl rfl ?_
 obtain ⟨x25, hr25, hF⟩ := bind_some hF
 refine WL_call Tryz.call47 rfl rfl (c_Q_heldIntS x24.2 v9 ((hC49.ro 0 rfl).now (Keep.refl _ _)) 1 x25 hr25) ?_
 intro _ w26 hv21
 obtain ⟨rfl, hB21⟩ := res_int hv21
 have hC50 := hC49.grow hB21
 refine WL_assign rfl rfl ?_
 refine WL_nil ?_
 refine W_seq ?_
 refine W_seq_reg ?_
 refine WL_move rfl rfl ?_
 refine WL_lss rfl rfl rfl ?_
 refine WL_nil ?_
 refine W_cond rfl (fun hc12 => ?_) (fun hc12 => ?_)
 ·replace hF := ite_t hF hc12
  refine W_seq_reg ?_
  refine WL_assign rfl rfl ?_
  refine WL_nil ?_
  refine W_ret ?_
  refine nrm_ret ?_
  have hq18 := Option.some.inj hF
  subst hq18
  refine fn_ret1 rfl rfl ?_
  exact ⟨_, rfl, bool_res hC50 _⟩
 replace hF := ite_f hF hc12
 refine W_skip ?_
 refine nrm_normal ?_
 refine W_seq ?_
 refine W_seq_reg ?_
 refine WL_move rfl rfl ?_
 refine WL_move rfl rfl ?_
 refine WL_neq rfl rfl rfl ?_
 refine WL_nil ?_
 refine W_cond rfl (fun hc13 => ?_) (fun hc13 => ?_)
 ·replace hF := ite_t hF hc13
  refine W_seq_reg ?_
  refine WL_assign rfl rfl ?_
  refine WL_nil ?_
  refine W_ret ?_
  refine nrm_ret ?_
  have hq19 := Option.some.inj hF
  subst hq19
  refine fn_ret1 rfl rfl ?_
  exact ⟨_, rfl, bool_res hC50 _⟩
 replace hF := ite_f hF hc13
 refine W_skip ?_
 refine nrm_normal ?_
 refine W_seq_reg ?_
 refine WL_move rfl rfl ?_
 obtain ⟨x26, hr26, hF⟩ := bind_some hF
 refine WL_call Tryz.call37 rfl rfl (c_Q_toIntS a1 u1 (g1.now hC50.keep) x26 hr26) ?_
 rintro v14 w27 ⟨hB22, F14, hv22, hn16, hb16⟩
 have hC51 := hC50.push hB22 (A := Item.own v14 x26) hv22 hn16 hb16
 refine WL_move rfl rfl ?_
 obtain ⟨x27, hr27, hF⟩ := bind_some hF
 refine WL_call Tryz.call38 rfl rfl (c_Q_toMethodS a2 u2 (g2.now hC51.keep) x27 hr27) ?_
 rintro v15 w28 ⟨hB23, F15, hv23, hn17, hb17⟩
 have hC52 := hC51.push hB23 (A := Item.own v15 x27) hv23 hn17 hb17
 refine WL_move rfl rfl ?_
 obtain ⟨x28, hr28, hF⟩ := bind_some hF
 refine WL_call Tryz.call39 rfl rfl (c_Q_toToldS a3 u3 (g3.now hC52.keep) x28 hr28) ?_
 rintro v16 w29 ⟨hB24, F16, hv24, hn18, hb18⟩
 have hC53 := hC52.push hB24 (A := Item.own v16 x28) hv24 hn18 hb18
 obtain ⟨x29, hr29, hF⟩ := bind_some hF
 refine WL_call Tryz.call40 rfl rfl (c_M_SmallestRemoval x26 v14 ((hC53.ro 2 rfl).now (Keep.refl _ _)) x27 v15 ((hC53.ro 1 rfl).now (Keep.refl _ _)) x28 v16 ((hC53.ro 0 rfl).now (Keep.refl _ _)) x29 hr29) ?_
 rintro _ w30 ⟨hB25, v17, v18, F17, F18, rfl, hv25, hv26, hn19, hb19⟩
 obtain ⟨rfl, rfl⟩ := val_bool hv26
 have hC54 := hC53.pushL hB25 (Bs := [Item.own v17 x29.1]) (Fs := [F17]) ⟨F17, _, rfl, hv25, rfl⟩ (by simpa using hn19) (fun b h => hb19 b (by simpa using h))
 refine WL_move rfl rfl ?_
 refine WL_extract rfl rfl rfl ?_
 refine WL_extract rfl rfl rfl ?_
 refine WL_assign rfl rfl ?_
 refine WL_assign rfl rfl ?_
 refine WL_nil ?_
 refine W_seq ?_
 obtain ⟨r3, hr30, hF⟩ := bind_some hF
 refine W_cut (fun l w => ∃ x30 : Bool, x30 = r3 ∧ l = [(13, v9), (16, (.int .i64 x24.1)), (131, (.bool x30))] ∧ Below w30.heap.size w30 w ∧ Ctx [] w0 w [Item.own v9 (x24.2 : (List Int))]) ?_ ?_
 ·refine W_reg ?_
  refine WL_move rfl rfl ?_
  refine WL_move rfl rfl ?_
  obtain ⟨x31, hr31, hr30⟩ := bind_some hr30
  refine WL_call Tryz.call41 rfl rfl (c_Q_eqIntS x29.1 v17 ((hC54.ro 0 rfl).now (Keep.refl _ _)) x6.1 v4 ((hC54.ro 5 rfl).now (Keep.refl _ _)) x31 hr31) ?_
  intro _ w32 hv27
  obtain ⟨rfl, hB27⟩ := res_bool hv27
  have hC56 := hC54.grow hB27
  refine WL_not rfl rfl ?_
  refine WL_move rfl rfl ?_
  refine WL_fork (fun hc14 => ?_) (fun hc14 => ?_)
  ·replace hr30 := ite_t hr30 hc14
   refine WL_guard_skip rfl rfl (by simp) rfl ?_
   refine WL_guard_skip rfl rfl (by simp) rfl ?_
   refine WL_guard_skip rfl rfl (by simp) rfl ?_
   refine WL_pick_t rfl rfl rfl ?_
   refine WL_nil ?_
   have hq20 := Option.some.inj hr30
   subst hq20
   have hC57 := hC56.f4
   have hC58 := hC57.h1
   refine nrm_sub (l' := [(13, v9), (16, (.int .i64 x24.1)), (131, (.bool true))]) ⟨rfl, rfl, rfl, trivial⟩ ?_
   exact ⟨true, rfl, rfl, (Keep.of hB27).below, hC58⟩
  replace hr30 := ite_f hr30 hc14
  refine WL_guard rfl rfl ?_
  refine WL_move rfl rfl ?_
  refine WL_guard rfl rfl ?_
  refine WL_move rfl rfl ?_
  refine WL_guard rfl rfl ?_
  refine WL_bool_neq Tryz.underlying4 rfl rfl rfl ?_
  refine WL_pick_f rfl rfl rfl ?_
  refine WL_nil ?_
  have hq21 := Option.some.inj hr30
  subst hq21
  have hC59 := hC56.f4
  have hC60 := hC59.h1
  refine nrm_sub (l' := [(13, v9), (16, (.int .i64 x24.1)), (131, (.bool (!decide (x29.2 = x6.2))))]) ⟨rfl, rfl, rfl, trivial⟩ ?_
  exact ⟨(!decide (x29.2 = x6.2)), rfl, rfl, (Keep.of hB27).below, hC60⟩
 rintro _ w31 ⟨x30, rfl, rfl, hB26, hC55⟩
 try dsimp only at hF
 refine W_cond rfl (fun hc15 => ?_) (fun hc15 => ?_)
 ·replace hF := ite_t hF hc15
  refine W_seq_reg ?_
  refine WL_assign rfl rfl ?_
  refine WL_nil ?_
  refine W_ret ?_
  refine nrm_ret ?_
  have hq22 := Option.some.inj hF
  subst hq22
  refine fn_ret1 rfl rfl ?_
  exact ⟨_, rfl, bool_res hC55 _⟩
 replace hF := ite_f hF hc15
 refine W_skip ?_
 refine nrm_normal ?_
 refine W_seq_reg ?_
 refine WL_assign rfl rfl ?_
 refine WL_nil ?_
 refine W_seq_reg ?_
 refine WL_move rfl rfl ?_
 refine WL_move rfl rfl ?_
 obtain ⟨x32, hr32, hF⟩ := bind_some hF
 refine WL_call Tryz.call47 rfl rfl (c_Q_heldIntS x24.2 v9 ((hC55.ro 0 rfl).now (Keep.refl _ _)) 1 x32 hr32) ?_
 intro _ w33 hv28
 obtain ⟨rfl, hB28⟩ := res_int hv28
 have hC61 := hC55.grow hB28
 refine WL_assign rfl rfl ?_
 refine WL_nil ?_
 refine W_seq ?_
 refine W_seq_reg ?_
 refine WL_move rfl rfl ?_
 refine WL_lss rfl rfl rfl ?_
 refine WL_nil ?_
 refine W_cond rfl (fun hc16 => ?_) (fun hc16 => ?_)
 ·replace hF := ite_t hF hc16
  refine W_seq_reg ?_
  refine WL_assign rfl rfl ?_
  refine WL_nil ?_
  refine W_ret ?_
  refine nrm_ret ?_
  have hq23 := Option.some.inj hF
  subst hq23
  refine fn_ret1 rfl rfl ?_
  exact ⟨_, rfl, bool_res hC61 _⟩
 replace hF := ite_f hF hc16
 refine W_skip ?_
 refine nrm_normal ?_
 refine W_seq ?_
 refine W_seq_reg ?_
 refine WL_move rfl rfl ?_
 refine WL_move rfl rfl ?_
 refine WL_neq rfl rfl rfl ?_
 refine WL_nil ?_
 refine W_cond rfl (fun hc17 => ?_) (fun hc17 => ?_)
 ·replace hF := ite_t hF hc17
  refine W_seq_reg ?_
  refine WL_assign rfl rfl ?_
  refine WL_nil ?_
  refine W_ret ?_
  refine nrm_ret ?_
  have hq24 := Option.some.inj hF
  subst hq24
  refine fn_ret1 rfl rfl ?_
  exact ⟨_, rfl, bool_res hC61 _⟩
 replace hF := ite_f hF hc17
 refine W_skip ?_
 refine nrm_normal ?_
 refine W_seq_reg ?_
 refine WL_assign rfl rfl ?_
 refine WL_nil ?_
 refine W_ret ?_
 have hq25 := Option.some.inj hF
 subst hq25
 refine fn_ret1 rfl rfl ?_
 exact ⟨_, rfl, bool_res hC61 _⟩

end Go.Gx.Px
