/- The contracts of the Go functions against the pure functions, printed by program. Conditions: each says them. -/
import Derived.Test.YtngpabaocflipaaGreatC4
set_option linter.unusedVariables false
set_option linter.unusedSimpArgs false
set_option maxRecDepth 100000
set_option maxHeartbeats 4000000
namespace Go.Gx.Px
open Go.Proofs Go.RowKit

theorem c_M_smallest_M_removals_c1 {w0 : World} (a1 : Int) (pb1 : Nat) (ax1 : (List Int)) (g1 : ROAt [] w0 pb1 0 ax1) (pb2 : Nat) (ax2 : (List (Int × (List Int) × Int × Int × Int))) (g2 : ROAt [] w0 pb2 0 ax2) (pb3 : Nat) (ax3 : (List ((Int × (List Int)) × (List (Int × (List Int)))))) (g3 : ROAt [] w0 pb3 0 ax3) (rr : ((List Int) × Bool)) (hF : M.smallest_M_removals_c1 a1 ax1 ax2 ax3 = some rr) :
 Calls Tryz.prog 160 [(.int .i64 a1), (.func (.func 158) #[] #[(ptr pb1 0), (ptr pb2 0), (ptr pb3 0)])].toArray w0 fun e w' => ∃ v, e = .returned v ∧ Res2 w0 rr.1 rr.2 v w' := by
 refine calls_of_W Tryz.func160 rfl rfl ?_
 have hC0 := Ctx.start w0
 unfold M.smallest_M_removals_c1 at hF
 refine W_seq_reg ?_
 refine WL_assign rfl rfl ?_
 refine WL_assign rfl rfl ?_
 refine WL_nil (W_seq_reg ?_)
 refine WL_assign rfl rfl ?_
 refine WL_nil (W_seq (W_seq_reg ?_))
 refine WL_move rfl rfl ?_
 obtain ⟨_, hx1, hF⟩ := bind_some hF
 refine WL_shl (nn_some hx1) rfl rfl rfl ?_
 refine WL_move rfl rfl ?_
 refine WL_nil ?_
 obtain ⟨r1, hr1, hF⟩ := bind_some hF
 refine W_norm (fun l w => ∃ v2 : Value, ∃ x4 : (List Int), ∃ x5 : Bool, (x4, x5) = r1 ∧ l = [(6, v2)] ∧ Ctx [] w0 w [Item.own v2 (x4 : (List Int))] ∧ NilB v2 x5) ?_ ?_
 ·refine W_block ?_
  have hC28 := hC0.triv (nil_val (α := Int))
  refine W.sub (l' := [(0, (.int .i64 a1)), (1, (.func (.func 158) #[] #[(ptr pb1 0), (ptr pb2 0), (ptr pb3 0)])), (6, (.slice none 0 0)), (11, (.int .i64 (shl 1 a1))), (12, (.int .i64 0))]) ?_ ⟨rfl, rfl, rfl, rfl, rfl, trivial⟩
  refine W_loop (fun k l w => ∃ v1 : Value, ∃ x1 : (List Int), ∃ x2 : Bool, ∃ x3 : Int, l = [(0, (.int .i64 a1)), (1, (.func (.func 158) #[] #[(ptr pb1 0), (ptr pb2 0), (ptr pb3 0)])), (6, v1), (11, (.int .i64 (shl 1 a1))), (12, (.int .i64 x3))] ∧ Ctx [] w0 w [Item.own v1 (x1 : (List Int))] ∧ NilB v1 x2 ∧ M.smallest_M_removals_c1_l1 a1 ax1 ax2 ax3 k x1 x2 x3 = some r1) FUEL ⟨(.slice none 0 0), [], true, 0, rfl, hC28, nilB_nil, hr1⟩ ?_
  clear hr1
  rintro k1 _ w1 ⟨v1, x1, x2, x3, rfl, hC1, hnb1, hL1⟩
  cases k1 with
  | zero => rw [M.smallest_M_removals_c1_l1] at hL1; cases hL1
  | succ k1 =>
   rw [M.smallest_M_removals_c1_l1] at hL1
   refine W_seq_reg ?_
   refine WL_lss rfl rfl rfl ?_
   refine WL_nil (W_seq ?_)
   refine W_cond rfl (fun hc1 => ?_) (fun hc1 => ?_)
   ·replace hL1 := ite_t hL1 hc1
    refine W_skip (nrm_normal (W_seq (W_block (W_seq_reg ?_))))
    refine WL_move rfl rfl ?_
    refine WL_assign rfl rfl ?_
    refine WL_nil (W_seq_reg ?_)
    refine WL_buildSlice (vs := []) hC1 Tryz.underlying24 ty3 rfl rfl rfl rfl (by simp) rfl rfl (fun b1 w2 hC2 hB2 => ?_)
    have hC3 := hC2.row0 (α := Int)
    have hC4 := hC3.front 1 rfl
    dsimp only [List.eraseIdx, List.cons_append, List.nil_append, List.append_nil] at hC4
    have hC5 : Ctx [] w0 w2 (Item.own (.slice (some ⟨b1, 0, none⟩) 0 0) (([] : List Int) : List Int) :: [Item.own v1 (x1 : (List Int))]) := hC4.rowOwn (by simp [maxLen])
    refine WL_assign rfl rfl ?_
    refine WL_nil (W_seq (W_seq_reg ?_))
    refine WL_move rfl rfl ?_
    refine WL_move rfl rfl ?_
    refine WL_nil ?_
    obtain ⟨r2, hr2, hL1⟩ := bind_some hL1
    refine W_norm (fun l w => ∃ v4 : Value, ∃ x9 : (List Int), ∃ x10 : Bool, (x9, x10) = r2 ∧ l = [(0, (.int .i64 a1)), (1, (.func (.func 158) #[] #[(ptr pb1 0), (ptr pb2 0), (ptr pb3 0)])), (6, v1), (8, v4), (11, (.int .i64 (shl 1 a1))), (12, (.int .i64 x3))] ∧ Ctx [] w0 w [Item.own v4 (x9 : (List Int)), Item.own v1 (x1 : (List Int))] ∧ NilB v4 x10) ?_ ?_
    ·refine W_block ?_
     refine W.sub (l' := [(0, (.int .i64 a1)), (1, (.func (.func 158) #[] #[(ptr pb1 0), (ptr pb2 0), (ptr pb3 0)])), (6, v1), (7, (.int .i64 x3)), (8, (.slice (some ⟨b1, 0, none⟩) 0 0)), (11, (.int .i64 (shl 1 a1))), (12, (.int .i64 x3)), (16, (.int .i64 a1)), (17, (.int .i64 0))]) ?_ ⟨rfl, rfl, rfl, rfl, rfl, rfl, rfl, rfl, rfl, trivial⟩
     refine W_loop (fun k l w => ∃ v3 : Value, ∃ x6 : (List Int), ∃ x7 : Bool, ∃ x8 : Int, l = [(0, (.int .i64 a1)), (1, (.func (.func 158) #[] #[(ptr pb1 0), (ptr pb2 0), (ptr pb3 0)])), (6, v1), (7, (.int .i64 x3)), (8, v3), (11, (.int .i64 (shl 1 a1))), (12, (.int .i64 x3)), (16, (.int .i64 a1)), (17, (.int .i64 x8))] ∧ Ctx [] w0 w [Item.own v3 (x6 : (List Int)), Item.own v1 (x1 : (List Int))] ∧ NilB v3 x7 ∧ M.smallest_M_removals_c1_l2 a1 x3 k x6 x7 x8 = some r2) FUEL ⟨(.slice (some ⟨b1, 0, none⟩) 0 0), ([] : List Int), false, 0, rfl, hC5, nilB_some, hr2⟩ ?_
     clear hr2
     rintro k2 _ w3 ⟨v3, x6, x7, x8, rfl, hC6, hnb3, hL2⟩
     cases k2 with
     | zero => rw [M.smallest_M_removals_c1_l2] at hL2; cases hL2
     | succ k2 =>
      rw [M.smallest_M_removals_c1_l2] at hL2
      refine W_seq_reg ?_
      refine WL_lss rfl rfl rfl ?_
      refine WL_nil (W_seq ?_)
      refine W_cond rfl (fun hc2 => ?_) (fun hc2 => ?_)
      ·replace hL2 := ite_t hL2 hc2
       refine W_skip (nrm_normal (W_seq (W_block (W_seq_reg ?_))))
       refine WL_move rfl rfl ?_
       refine WL_assign rfl rfl ?_
       refine WL_nil (W_seq_reg ?_)
       refine WL_move rfl rfl ?_
       refine WL_move rfl rfl ?_
       obtain ⟨_, hx2, hL2⟩ := bind_some hL2
       refine WL_shr (nn_some hx2) rfl rfl rfl ?_
       refine WL_band rfl rfl rfl ?_
       refine WL_eql rfl rfl rfl ?_
       refine WL_nil ?_
       obtain ⟨r3, hr3, hL2⟩ := bind_some hL2
       refine W_norm (fun l w => ∃ v5 : Value, ∃ x11 : (List Int), ∃ x12 : Bool, (x11, x12) = r3 ∧ l = [(0, (.int .i64 a1)), (1, (.func (.func 158) #[] #[(ptr pb1 0), (ptr pb2 0), (ptr pb3 0)])), (6, v1), (7, (.int .i64 x3)), (8, v5), (11, (.int .i64 (shl 1 a1))), (12, (.int .i64 x3)), (16, (.int .i64 a1)), (17, (.int .i64 x8))] ∧ Ctx [] w0 w [Item.own v5 (x11 : (List Int)), Item.own v1 (x1 : (List Int))] ∧ NilB v5 x12) ?_ ?_
       ·refine W_cond rfl (fun hc3 => ?_) (fun hc3 => ?_)
        ·replace hr3 := ite_t hr3 hc3
         refine W_reg ?_
         refine WL_move rfl rfl ?_
         refine WL_move rfl rfl ?_
         refine WL_buildSlice (vs := [(.int .i64 x8)]) hC6 Tryz.underlying24 ty3 rfl rfl rfl rfl (by intro v hv; simp only [List.mem_cons, List.not_mem_nil, or_false] at hv; rcases hv with rfl <;> rfl) rfl rfl (fun b2 w5 hC8 hB5 => ?_)
         have hC9 := hC8.row0 (α := Int)
         have hC10 := hC9.triv (int_val (x8))
         have hC11 := hC10.row1
         have hC12 := hC11.front 1 rfl
         dsimp only [List.eraseIdx, List.cons_append, List.nil_append, List.append_nil] at hC12
         have hC13 : Ctx [] w0 w5 (Item.own (.slice (some ⟨b2, 0, none⟩) 1 1) ([x8] : List Int) :: [Item.own v3 (x6 : (List Int)), Item.own v1 (x1 : (List Int))]) := hC12.rowOwn (by simp [maxLen])
         obtain ⟨x13, hx3, hr3⟩ := bind_some hr3
         refine WL_append_flat (α := Int) hC13 1 rfl (hC13.ro 0 rfl) (Keep.refl _ _) Tryz.underlying24 ty3 rfl hx3 rfl rfl rfl (fun v6 w6 hC14 => ?_)
         try dsimp only [List.set] at hC14
         refine WL_assign rfl rfl ?_
         refine WL_nil ?_
         have hq1 := Option.some.inj hr3
         subst hq1
         have hC15 := hC14.f2
         have hC16 := hC15.f2
         have hC17 := hC16.h2
         refine nrm_sub (l' := [(0, (.int .i64 a1)), (1, (.func (.func 158) #[] #[(ptr pb1 0), (ptr pb2 0), (ptr pb3 0)])), (6, v1), (7, (.int .i64 x3)), (8, v6), (11, (.int .i64 (shl 1 a1))), (12, (.int .i64 x3)), (16, (.int .i64 a1)), (17, (.int .i64 x8))]) ⟨rfl, rfl, rfl, rfl, rfl, rfl, rfl, rfl, rfl, trivial⟩ ?_
         exact ⟨v6, x13, false, rfl, rfl, hC17, (nilB_own hC14 1 rfl (app_ne hx3))⟩
        replace hr3 := ite_f hr3 hc3
        refine W_skip ?_
        have hq2 := Option.some.inj hr3
        subst hq2
        refine nrm_sub (l' := [(0, (.int .i64 a1)), (1, (.func (.func 158) #[] #[(ptr pb1 0), (ptr pb2 0), (ptr pb3 0)])), (6, v1), (7, (.int .i64 x3)), (8, v3), (11, (.int .i64 (shl 1 a1))), (12, (.int .i64 x3)), (16, (.int .i64 a1)), (17, (.int .i64 x8))]) ⟨rfl, rfl, rfl, rfl, rfl, rfl, rfl, rfl, rfl, trivial⟩ ?_
        exact ⟨v3, x6, x7, rfl, rfl, hC6, hnb3⟩
       rintro l3 _ w4 hs3 ⟨v5, x11, x12, rfl, rfl, hC7, hnb5⟩
       try dsimp only at hL2
       refine blk_normal ?_
       refine nrm_sub' hs3 ?_
       clear hs3
       refine W_reg ?_
       refine WL_add rfl rfl rfl ?_
       refine WL_move rfl rfl ?_
       refine WL_nil ?_
       refine nrm_sub (l' := [(0, (.int .i64 a1)), (1, (.func (.func 158) #[] #[(ptr pb1 0), (ptr pb2 0), (ptr pb3 0)])), (6, v1), (7, (.int .i64 x3)), (8, v5), (11, (.int .i64 (shl 1 a1))), (12, (.int .i64 x3)), (16, (.int .i64 a1)), (17, (.int .i64 (w64 (x8 + 1))))]) ⟨rfl, rfl, rfl, rfl, rfl, rfl, rfl, rfl, rfl, trivial⟩ ?_
       exact ⟨k2, Nat.lt_succ_self _, v5, x11, x12, w64 (x8 + 1), rfl, hC7, hnb5, hL2⟩
      replace hL2 := ite_f hL2 hc2
      refine W_exit (nrm_exit (nrm_exit (blk_exit ?_)))
      have hq3 := Option.some.inj hL2
      subst hq3
      refine nrm_sub (l' := [(0, (.int .i64 a1)), (1, (.func (.func 158) #[] #[(ptr pb1 0), (ptr pb2 0), (ptr pb3 0)])), (6, v1), (8, v3), (11, (.int .i64 (shl 1 a1))), (12, (.int .i64 x3))]) ⟨rfl, rfl, rfl, rfl, rfl, rfl, trivial⟩ ?_
      exact ⟨v3, x6, x7, rfl, rfl, hC6, hnb3⟩
    rintro l4 _ w7 hs4 ⟨v4, x9, x10, rfl, rfl, hC18, hnb4⟩
    try dsimp only at hL1
    refine nrm_sub' hs4 ?_
    clear hs4
    obtain ⟨r4, hr4, hL1⟩ := bind_some hL1
    refine W_cut (fun l w => ∃ x14 : Bool, x14 = r4 ∧ l = [(0, (.int .i64 a1)), (1, (.func (.func 158) #[] #[(ptr pb1 0), (ptr pb2 0), (ptr pb3 0)])), (6, v1), (8, v4), (11, (.int .i64 (shl 1 a1))), (12, (.int .i64 x3)), (56, (.bool x14))] ∧ Below w7.heap.size w7 w ∧ Ctx [] w0 w [Item.own v4 (x9 : (List Int)), Item.own v1 (x1 : (List Int))]) ?_ ?_
    ·refine W_reg ?_
     refine WL_move rfl rfl ?_
     refine WL_nil_eql Tryz.underlying24 hnb1 rfl rfl ?_
     refine WL_move rfl rfl ?_
     refine WL_fork (fun hc4 => ?_) (fun hc4 => ?_)
     ·replace hr4 := ite_t hr4 hc4
      refine WL_guard_skip rfl rfl (by simp) rfl ?_
      refine WL_guard_skip rfl rfl (by simp) rfl ?_
      refine WL_guard_skip rfl rfl (by simp) rfl ?_
      refine WL_guard_skip rfl rfl (by simp) rfl ?_
      refine WL_guard_skip rfl rfl (by simp) rfl ?_
      refine WL_pick_t rfl rfl rfl ?_
      refine WL_move rfl rfl ?_
      refine WL_guard_skip rfl rfl (by simp) rfl ?_
      refine WL_guard_skip rfl rfl (by simp) rfl ?_
      refine WL_guard_skip rfl rfl (by simp) rfl ?_
      refine WL_guard_skip rfl rfl (by simp) rfl ?_
      refine WL_guard_skip rfl rfl (by simp) rfl ?_
      refine WL_guard_skip rfl rfl (by simp) rfl ?_
      refine WL_guard_skip rfl rfl (by simp [undef]) rfl ?_
      refine WL_guard_skip rfl rfl (by simp [undef]) rfl ?_
      refine WL_guard_skip rfl rfl (by simp [undef]) rfl ?_
      refine WL_guard_skip rfl rfl (by simp [undef]) rfl ?_
      refine WL_guard_skip rfl rfl (by simp) rfl ?_
      refine WL_pick_t rfl rfl rfl ?_
      refine WL_move rfl rfl ?_
      refine WL_guard rfl rfl ?_
      refine WL_move rfl rfl ?_
      refine WL_guard rfl rfl ?_
      refine WL_move rfl rfl ?_
      obtain ⟨x15, hr5, hr4⟩ := bind_some hr4
      refine WL_guard rfl rfl ?_
      refine WL_callv (cap := [(ptr pb1 0), (ptr pb2 0), (ptr pb3 0)]) Tryz.call158 rfl rfl rfl (c_M_removals_c1 x9 v4 ((hC18.ro 0 rfl).now (Keep.refl _ _)) pb1 ax1 (g1.now hC18.keep) pb2 ax2 (g2.now hC18.keep) pb3 ax3 (g3.now hC18.keep) x15 hr5) ?_
      intro _ w10 hv1
      obtain ⟨rfl, hB8⟩ := res_bool hv1
      have hC20 := hC18.grow hB8
      refine WL_pick_t rfl rfl rfl ?_
      refine WL_nil ?_
      have hq4 := Option.some.inj hr4
      subst hq4
      refine nrm_sub (l' := [(0, (.int .i64 a1)), (1, (.func (.func 158) #[] #[(ptr pb1 0), (ptr pb2 0), (ptr pb3 0)])), (6, v1), (8, v4), (11, (.int .i64 (shl 1 a1))), (12, (.int .i64 x3)), (56, (.bool x15))]) ⟨rfl, rfl, rfl, rfl, rfl, rfl, rfl, trivial⟩ ?_
      exact ⟨x15, rfl, rfl, (Keep.of hB8).below, hC20⟩
     replace hr4 := ite_f hr4 hc4
     refine WL_guard rfl rfl ?_
     refine WL_move rfl rfl ?_
     refine WL_guard rfl rfl ?_
     refine WL_len Tryz.underlying24 (hC18.ro 0 rfl) rfl rfl ?_
     refine WL_guard rfl rfl ?_
     refine WL_move rfl rfl ?_
     refine WL_guard rfl rfl ?_
     refine WL_len Tryz.underlying24 (hC18.ro 1 rfl) rfl rfl ?_
     refine WL_guard rfl rfl ?_
     refine WL_lss rfl rfl rfl ?_
     refine WL_pick_f rfl rfl rfl ?_
     refine WL_move rfl rfl ?_
     refine WL_fork (fun hc5 => ?_) (fun hc5 => ?_)
     ·replace hr4 := ite_t hr4 hc5
      refine WL_guard_skip rfl rfl (by simp) rfl ?_
      refine WL_guard_skip rfl rfl (by simp) rfl ?_
      refine WL_guard_skip rfl rfl (by simp) rfl ?_
      refine WL_guard_skip rfl rfl (by simp) rfl ?_
      refine WL_guard_skip rfl rfl (by simp) rfl ?_
      refine WL_guard_skip rfl rfl (by simp) rfl ?_
      refine WL_guard_skip rfl rfl (by simp [undef]) rfl ?_
      refine WL_guard_skip rfl rfl (by simp [undef]) rfl ?_
      refine WL_guard_skip rfl rfl (by simp [undef]) rfl ?_
      refine WL_guard_skip rfl rfl (by simp [undef]) rfl ?_
      refine WL_guard_skip rfl rfl (by simp) rfl ?_
      refine WL_pick_t rfl rfl rfl ?_
      refine WL_move rfl rfl ?_
      refine WL_guard rfl rfl ?_
      refine WL_move rfl rfl ?_
      refine WL_guard rfl rfl ?_
      refine WL_move rfl rfl ?_
      obtain ⟨x16, hr6, hr4⟩ := bind_some hr4
      refine WL_guard rfl rfl ?_
      refine WL_callv (cap := [(ptr pb1 0), (ptr pb2 0), (ptr pb3 0)]) Tryz.call158 rfl rfl rfl (c_M_removals_c1 x9 v4 ((hC18.ro 0 rfl).now (Keep.refl _ _)) pb1 ax1 (g1.now hC18.keep) pb2 ax2 (g2.now hC18.keep) pb3 ax3 (g3.now hC18.keep) x16 hr6) ?_
      intro _ w11 hv2
      obtain ⟨rfl, hB9⟩ := res_bool hv2
      have hC21 := hC18.grow hB9
      refine WL_pick_t rfl rfl rfl ?_
      refine WL_nil ?_
      have hq5 := Option.some.inj hr4
      subst hq5
      refine nrm_sub (l' := [(0, (.int .i64 a1)), (1, (.func (.func 158) #[] #[(ptr pb1 0), (ptr pb2 0), (ptr pb3 0)])), (6, v1), (8, v4), (11, (.int .i64 (shl 1 a1))), (12, (.int .i64 x3)), (56, (.bool x16))]) ⟨rfl, rfl, rfl, rfl, rfl, rfl, rfl, trivial⟩ ?_
      exact ⟨x16, rfl, rfl, (Keep.of hB9).below, hC21⟩
     replace hr4 := ite_f hr4 hc5
     refine WL_guard rfl rfl ?_
     refine WL_move rfl rfl ?_
     refine WL_guard rfl rfl ?_
     refine WL_len Tryz.underlying24 (hC18.ro 0 rfl) rfl rfl ?_
     refine WL_guard rfl rfl ?_
     refine WL_move rfl rfl ?_
     refine WL_guard rfl rfl ?_
     refine WL_len Tryz.underlying24 (hC18.ro 1 rfl) rfl rfl ?_
     refine WL_guard rfl rfl ?_
     refine WL_eql rfl rfl rfl ?_
     refine WL_guard rfl rfl ?_
     refine WL_move rfl rfl ?_
     refine WL_fork (fun hc6 => ?_) (fun hc6 => ?_)
     ·replace hr4 := ite_t hr4 hc6
      refine WL_guard rfl rfl ?_
      refine WL_move rfl rfl ?_
      refine WL_guard rfl rfl ?_
      refine WL_move rfl rfl ?_
      obtain ⟨x17, hr7, hr4⟩ := bind_some hr4
      refine WL_guard rfl rfl ?_
      refine WL_call Tryz.call178 rfl rfl (c_Slices_Compare_Lint_int x9 v4 ((hC18.ro 0 rfl).now (Keep.refl _ _)) x1 v1 ((hC18.ro 1 rfl).now (Keep.refl _ _)) x17 hr7) ?_
      intro _ w12 hv3
      obtain ⟨rfl, hB10⟩ := res_int hv3
      have hC22 := hC18.grow hB10
      refine WL_guard rfl rfl ?_
      refine WL_lss rfl rfl rfl ?_
      refine WL_guard rfl rfl ?_
      refine WL_pick_t rfl rfl rfl ?_
      refine WL_pick_f rfl rfl rfl ?_
      refine WL_move rfl rfl ?_
      refine WL_fork (fun hc7 => ?_) (fun hc7 => ?_)
      ·replace hr4 := ite_t hr4 hc7
       refine WL_guard rfl rfl ?_
       refine WL_move rfl rfl ?_
       refine WL_guard rfl rfl ?_
       refine WL_move rfl rfl ?_
       obtain ⟨x18, hr8, hr4⟩ := bind_some hr4
       refine WL_guard rfl rfl ?_
       refine WL_callv (cap := [(ptr pb1 0), (ptr pb2 0), (ptr pb3 0)]) Tryz.call158 rfl rfl rfl (c_M_removals_c1 x9 v4 ((hC22.ro 0 rfl).now (Keep.refl _ _)) pb1 ax1 (g1.now hC22.keep) pb2 ax2 (g2.now hC22.keep) pb3 ax3 (g3.now hC22.keep) x18 hr8) ?_
       intro _ w13 hv4
       obtain ⟨rfl, hB11⟩ := res_bool hv4
       have hC23 := hC22.grow hB11
       refine WL_pick_t rfl rfl rfl ?_
       refine WL_nil ?_
       have hq6 := Option.some.inj hr4
       subst hq6
       refine nrm_sub (l' := [(0, (.int .i64 a1)), (1, (.func (.func 158) #[] #[(ptr pb1 0), (ptr pb2 0), (ptr pb3 0)])), (6, v1), (8, v4), (11, (.int .i64 (shl 1 a1))), (12, (.int .i64 x3)), (56, (.bool x18))]) ⟨rfl, rfl, rfl, rfl, rfl, rfl, rfl, trivial⟩ ?_
       exact ⟨x18, rfl, rfl, ((Keep.of hB10).then hB11).below, hC23⟩
      replace hr4 := ite_f hr4 hc7
      refine WL_guard_skip rfl rfl (by simp) rfl ?_
      refine WL_guard_skip rfl rfl (by simp) rfl ?_
      refine WL_guard_skip rfl rfl (by simp) rfl ?_
      refine WL_pick_f rfl rfl rfl ?_
      refine WL_nil ?_
      have hq7 := Option.some.inj hr4
      subst hq7
      refine nrm_sub (l' := [(0, (.int .i64 a1)), (1, (.func (.func 158) #[] #[(ptr pb1 0), (ptr pb2 0), (ptr pb3 0)])), (6, v1), (8, v4), (11, (.int .i64 (shl 1 a1))), (12, (.int .i64 x3)), (56, (.bool false))]) ⟨rfl, rfl, rfl, rfl, rfl, rfl, rfl, trivial⟩ ?_
      exact ⟨false, rfl, rfl, (Keep.of hB10).below, hC22⟩
     replace hr4 := ite_f hr4 hc6
     refine WL_guard_skip rfl rfl (by simp) rfl ?_
     refine WL_guard_skip rfl rfl (by simp) rfl ?_
     refine WL_guard_skip rfl rfl (by simp) rfl ?_
     refine WL_guard_skip rfl rfl (by simp) rfl ?_
     refine WL_guard rfl rfl ?_
     refine WL_pick_f rfl rfl rfl ?_
     refine WL_pick_f rfl rfl rfl ?_
     refine WL_move rfl rfl ?_
     refine WL_guard_skip rfl rfl (by simp) rfl ?_
     refine WL_guard_skip rfl rfl (by simp) rfl ?_
     refine WL_guard_skip rfl rfl (by simp) rfl ?_
     refine WL_pick_f rfl rfl rfl ?_
     refine WL_nil ?_
     have hq8 := Option.some.inj hr4
     subst hq8
     refine nrm_sub (l' := [(0, (.int .i64 a1)), (1, (.func (.func 158) #[] #[(ptr pb1 0), (ptr pb2 0), (ptr pb3 0)])), (6, v1), (8, v4), (11, (.int .i64 (shl 1 a1))), (12, (.int .i64 x3)), (56, (.bool false))]) ⟨rfl, rfl, rfl, rfl, rfl, rfl, rfl, trivial⟩ ?_
     exact ⟨false, rfl, rfl, (Below.refl _ _), hC18⟩
    rintro _ w9 ⟨x14, rfl, rfl, hB7, hC19⟩
    try dsimp only at hL1
    obtain ⟨r5, hr9, hL1⟩ := bind_some hL1
    refine W_norm (fun l w => ∃ v7 : Value, ∃ x19 : (List Int), ∃ x20 : Bool, (x19, x20) = r5 ∧ l = [(0, (.int .i64 a1)), (1, (.func (.func 158) #[] #[(ptr pb1 0), (ptr pb2 0), (ptr pb3 0)])), (6, v7), (11, (.int .i64 (shl 1 a1))), (12, (.int .i64 x3))] ∧ Below w9.heap.size w9 w ∧ Ctx [] w0 w [Item.own v7 (x19 : (List Int))] ∧ NilB v7 x20) ?_ ?_
    ·refine W_cond rfl (fun hc8 => ?_) (fun hc8 => ?_)
     ·replace hr9 := ite_t hr9 hc8
      refine W_reg ?_
      refine WL_move rfl rfl ?_
      refine WL_assign rfl rfl ?_
      refine WL_nil ?_
      have hq9 := Option.some.inj hr9
      subst hq9
      have hC25 := hC19.h1
      refine nrm_sub (l' := [(0, (.int .i64 a1)), (1, (.func (.func 158) #[] #[(ptr pb1 0), (ptr pb2 0), (ptr pb3 0)])), (6, v4), (11, (.int .i64 (shl 1 a1))), (12, (.int .i64 x3))]) ⟨rfl, rfl, rfl, rfl, rfl, trivial⟩ ?_
      exact ⟨v4, x9, x10, rfl, rfl, (Below.refl _ _), hC25, hnb4⟩
     replace hr9 := ite_f hr9 hc8
     refine W_skip ?_
     have hq10 := Option.some.inj hr9
     subst hq10
     have hC26 := hC19.f1
     have hC27 := hC26.h1
     refine nrm_sub (l' := [(0, (.int .i64 a1)), (1, (.func (.func 158) #[] #[(ptr pb1 0), (ptr pb2 0), (ptr pb3 0)])), (6, v1), (11, (.int .i64 (shl 1 a1))), (12, (.int .i64 x3))]) ⟨rfl, rfl, rfl, rfl, rfl, trivial⟩ ?_
     exact ⟨v1, x1, x2, rfl, rfl, (Below.refl _ _), hC27, hnb1⟩
    rintro l6 _ w14 hs6 ⟨v7, x19, x20, rfl, rfl, hB12, hC24, hnb6⟩
    try dsimp only at hL1
    refine blk_normal ?_
    refine nrm_sub' hs6 ?_
    clear hs6
    refine W_reg ?_
    refine WL_add rfl rfl rfl ?_
    refine WL_move rfl rfl ?_
    refine WL_nil ?_
    refine nrm_sub (l' := [(0, (.int .i64 a1)), (1, (.func (.func 158) #[] #[(ptr pb1 0), (ptr pb2 0), (ptr pb3 0)])), (6, v7), (11, (.int .i64 (shl 1 a1))), (12, (.int .i64 (w64 (x3 + 1))))]) ⟨rfl, rfl, rfl, rfl, rfl, trivial⟩ ?_
    exact ⟨k1, Nat.lt_succ_self _, v7, x19, x20, w64 (x3 + 1), rfl, hC24, hnb6, hL1⟩
   replace hL1 := ite_f hL1 hc1
   refine W_exit (nrm_exit (nrm_exit (blk_exit ?_)))
   have hq11 := Option.some.inj hL1
   subst hq11
   refine nrm_sub (l' := [(6, v1)]) ⟨rfl, trivial⟩ ?_
   exact ⟨v1, x1, x2, rfl, rfl, hC1, hnb1⟩
 rintro l7 _ w15 hs7 ⟨v2, x4, x5, rfl, rfl, hC29, hnb2⟩
 try dsimp only at hF
 refine nrm_sub' hs7 ?_
 clear hs7
 refine W_seq_reg ?_
 refine WL_move rfl rfl ?_
 refine WL_move rfl rfl ?_
 refine WL_nil_neq Tryz.underlying24 hnb2 rfl rfl ?_
 refine WL_assign rfl rfl ?_
 refine WL_assign rfl rfl ?_
 refine WL_nil (W_ret ?_)
 have hq12 := Option.some.inj hF
 subst hq12
 refine fn_ret2 rfl rfl rfl ?_
 have hC30 := hC29.triv (bool_val ((!x5)))
 have hC31 := hC30.f1
 exact ⟨_, rfl, res2_of hC31⟩

theorem c_M_removals {w0 : World} (a1 : (List Int)) (u1 : Value) (g1 : RO [] w0 u1 a1) (a2 : (List (Int × (List Int) × Int × Int × Int))) (u2 : Value) (g2 : RO [] w0 u2 a2) (a3 : (List ((Int × (List Int)) × (List (Int × (List Int)))))) (u3 : Value) (g3 : RO [] w0 u3 a3) (rr : ((List (List Int)) × Bool)) (hF : M.removals a1 a2 a3 = some rr) :
 Calls Tryz.prog 110 [u1, u2, u3].toArray w0 fun e w' => ∃ v, e = .returned v ∧ Res2 w0 rr.1 rr.2 v w' := by
 refine calls_of_W Tryz.func110 rfl rfl ?_
 have hC0 := Ctx.start w0
 unfold M.removals at hF
 refine W_seq_reg ?_
 refine WL_boxK (cs := [u1]) hC0 (ro_cells g1) rfl rfl (fun b1 w1 hC1 hB1 hN1 => ?_)
 refine WL_boxK (cs := [u2]) hC1 (ro_cells g2) rfl rfl (fun b2 w2 hC2 hB2 hN2 => ?_)
 refine WL_boxK (cs := [u3]) hC2 (ro_cells g3) rfl rfl (fun b3 w3 hC3 hB3 hN3 => ?_)
 refine WL_assign rfl rfl ?_
 refine WL_assign rfl rfl ?_
 refine WL_nil (W_seq ?_)
 obtain ⟨r1, hr1, hF⟩ := bind_some hF
 refine W_cut (fun l w => ∃ x1 : Bool, x1 = r1 ∧ l = [(3, (ptr b1 0)), (4, (ptr b2 0)), (5, (ptr b3 0)), (23, (.bool x1))] ∧ Below w3.heap.size w3 w ∧ Ctx [] w0 w [Item.box b3 [u3], Item.box b2 [u2], Item.box b1 [u1]]) ?_ ?_
 ·refine W_reg ?_
  refine WL_load_box hC3 2 rfl rfl Tryz.isAgg24 rfl rfl ?_
  refine WL_load_box hC3 1 rfl rfl Tryz.isAgg25 rfl rfl ?_
  obtain ⟨x2, hr2, hr1⟩ := bind_some hr1
  refine WL_call Tryz.call71 rfl rfl (c_M_AreMethods a1 u1 (g1.now hC3.keep) a2 u2 (g2.now hC3.keep) x2 hr2) ?_
  intro _ w5 hv1
  obtain ⟨rfl, hB5⟩ := res_bool hv1
  have hC5 := hC3.grow hB5
  refine WL_not rfl rfl ?_
  refine WL_move rfl rfl ?_
  refine WL_fork (fun hc1 => ?_) (fun hc1 => ?_)
  ·replace hr1 := ite_t hr1 hc1
   refine WL_guard_skip rfl rfl (by simp) rfl ?_
   refine WL_guard_skip rfl rfl (by simp) rfl ?_
   refine WL_guard_skip rfl rfl (by simp) rfl ?_
   refine WL_pick_t rfl rfl rfl ?_
   refine WL_nil ?_
   have hq1 := Option.some.inj hr1
   subst hq1
   refine nrm_sub (l' := [(3, (ptr b1 0)), (4, (ptr b2 0)), (5, (ptr b3 0)), (23, (.bool true))]) ⟨rfl, rfl, rfl, rfl, trivial⟩ ?_
   exact ⟨true, rfl, rfl, (Keep.of hB5).below, hC5⟩
  replace hr1 := ite_f hr1 hc1
  refine WL_guard rfl rfl ?_
  refine WL_load_box hC5 0 rfl rfl Tryz.isAgg26 rfl rfl ?_
  refine WL_guard rfl rfl ?_
  refine WL_len Tryz.underlying26 g3 rfl rfl ?_
  refine WL_guard rfl rfl ?_
  refine WL_gtr rfl rfl rfl ?_
  refine WL_pick_f rfl rfl rfl ?_
  refine WL_nil ?_
  have hq2 := Option.some.inj hr1
  subst hq2
  refine nrm_sub (l' := [(3, (ptr b1 0)), (4, (ptr b2 0)), (5, (ptr b3 0)), (23, (.bool (decide (8 < (List.length a3 : Int)))))]) ⟨rfl, rfl, rfl, rfl, trivial⟩ ?_
  exact ⟨(decide (8 < (List.length a3 : Int))), rfl, rfl, (Keep.of hB5).below, hC5⟩
 rintro _ w4 ⟨x1, rfl, rfl, hB4, hC4⟩
 try dsimp only at hF
 refine W_cond rfl (fun hc2 => ?_) (fun hc2 => ?_)
 ·replace hF := ite_t hF hc2
  refine W_seq_reg ?_
  refine WL_assign rfl rfl ?_
  refine WL_assign rfl rfl ?_
  refine WL_nil (W_ret (nrm_ret ?_))
  have hq3 := Option.some.inj hF
  subst hq3
  refine fn_ret2 rfl rfl rfl ?_
  have hC6 := hC4.triv (bool_val (false))
  have hC7 := hC6.triv (nil_val (α := (List Int)))
  exact ⟨_, rfl, res2_of hC7⟩
 replace hF := ite_f hF hc2
 refine W_skip (nrm_normal (W_seq_reg ?_))
 refine WL_makeFunc rfl rfl ?_
 refine WL_assign rfl rfl ?_
 refine WL_nil (W_seq_reg ?_)
 refine WL_load_box hC4 0 rfl rfl Tryz.isAgg26 rfl rfl ?_
 refine WL_len Tryz.underlying26 g3 rfl rfl ?_
 refine WL_move rfl rfl ?_
 obtain ⟨x3, hr3, hF⟩ := bind_some hF
 refine WL_call Tryz.call160 rfl rfl (c_M_smallest_M_removals_c1 (List.length a3 : Int) b1 a1 (hC4.boxAt 2 rfl (repw_slice (g1.now hC4.keep))) b2 a2 (hC4.boxAt 1 rfl (repw_slice (g2.now hC4.keep))) b3 a3 (hC4.boxAt 0 rfl (repw_slice (g3.now hC4.keep))) x3 hr3) ?_
 rintro _ w6 ⟨hB6, v1, v2, F1, F2, rfl, hv2, hv3, hn1, hb1⟩
 obtain ⟨rfl, rfl⟩ := val_bool hv3
 have hC8 := hC4.pushL hB6 (Bs := [Item.own v1 x3.1]) (Fs := [F1]) ⟨F1, _, rfl, hv2, rfl⟩ (by simpa using hn1) (fun b h => hb1 b (by simpa using h))
 refine WL_move rfl rfl ?_
 refine WL_extract rfl rfl rfl ?_
 refine WL_extract rfl rfl rfl ?_
 refine WL_assign rfl rfl ?_
 refine WL_assign rfl rfl ?_
 refine WL_nil (W_seq (W_seq_reg ?_))
 refine WL_move rfl rfl ?_
 refine WL_not rfl rfl ?_
 refine WL_nil ?_
 refine W_cond rfl (fun hc3 => ?_) (fun hc3 => ?_)
 ·replace hF := ite_t hF hc3
  refine W_seq_reg ?_
  refine WL_assign rfl rfl ?_
  refine WL_assign rfl rfl ?_
  refine WL_nil (W_ret (nrm_ret ?_))
  have hq4 := Option.some.inj hF
  subst hq4
  refine fn_ret2 rfl rfl rfl ?_
  have hC9 := hC8.triv (bool_val (false))
  have hC10 := hC9.triv (nil_val (α := (List Int)))
  exact ⟨_, rfl, res2_of hC10⟩
 replace hF := ite_f hF hc3
 refine W_skip (nrm_normal (W_seq_reg ?_))
 refine WL_buildSlice (vs := []) hC8 Tryz.underlying77 ty24 rfl rfl rfl rfl (by simp) rfl rfl (fun b4 w7 hC11 hB7 => ?_)
 have hC12 := hC11.row0 (α := (List Int))
 have hC13 := hC12.front 1 rfl
 dsimp only [List.eraseIdx, List.cons_append, List.nil_append, List.append_nil] at hC13
 have hC14 : Ctx [] w0 w7 (Item.own (.slice (some ⟨b4, 0, none⟩) 0 0) (([] : List (List Int)) : List (List Int)) :: [Item.own v1 (x3.1 : (List Int)), Item.box b3 [u3], Item.box b2 [u2], Item.box b1 [u1]]) := hC13.rowOwn (by simp [maxLen])
 refine WL_assign rfl rfl ?_
 refine WL_nil (W_seq (W_seq_reg ?_))
 refine WL_load_box hC14 2 rfl rfl Tryz.isAgg26 rfl rfl ?_
 refine WL_len Tryz.underlying26 g3 rfl rfl ?_
 obtain ⟨_, hx1, hF⟩ := bind_some hF
 refine WL_shl (nn_some hx1) rfl rfl rfl ?_
 refine WL_move rfl rfl ?_
 refine WL_nil ?_
 obtain ⟨r2, hr4, hF⟩ := bind_some hF
 refine W_norm (fun l w => ∃ v4 : Value, ∃ x6 : (List (List Int)), x6 = r2 ∧ l = [(11, v4)] ∧ Ctx [] w0 w [Item.own v4 (x6 : (List (List Int)))]) ?_ ?_
 ·refine W_block ?_
  refine W.sub (l' := [(5, (ptr b3 0)), (8, (.func (.func 158) #[] #[(ptr b1 0), (ptr b2 0), (ptr b3 0)])), (9, v1), (11, (.slice (some ⟨b4, 0, none⟩) 0 0)), (37, (.int .i64 (shl 1 (List.length a3 : Int)))), (38, (.int .i64 0))]) ?_ ⟨rfl, rfl, rfl, rfl, rfl, rfl, trivial⟩
  refine W_loop (fun k l w => ∃ v3 : Value, ∃ x4 : (List (List Int)), ∃ x5 : Int, l = [(5, (ptr b3 0)), (8, (.func (.func 158) #[] #[(ptr b1 0), (ptr b2 0), (ptr b3 0)])), (9, v1), (11, v3), (37, (.int .i64 (shl 1 (List.length a3 : Int)))), (38, (.int .i64 x5))] ∧ Ctx [] w0 w [Item.own v3 (x4 : (List (List Int))), Item.own v1 (x3.1 : (List Int)), Item.box b3 [u3], Item.box b2 [u2], Item.box b1 [u1]] ∧ M.removals_l1 a3 x3 a1 a2 k x4 x5 = some r2) FUEL ⟨(.slice (some ⟨b4, 0, none⟩) 0 0), ([] : List (List Int)), 0, rfl, hC14, hr4⟩ ?_
  clear hr4
  rintro k1 _ w9 ⟨v3, x4, x5, rfl, hC15, hL1⟩
  cases k1 with
  | zero => rw [M.removals_l1] at hL1; cases hL1
  | succ k1 =>
   rw [M.removals_l1] at hL1
   refine W_seq_reg ?_
   refine WL_lss rfl rfl rfl ?_
   refine WL_nil (W_seq ?_)
   refine W_cond rfl (fun hc4 => ?_) (fun hc4 => ?_)
   ·replace hL1 := ite_t hL1 hc4
    refine W_skip (nrm_normal (W_seq (W_block (W_seq_reg ?_))))
    refine WL_move rfl rfl ?_
    refine WL_assign rfl rfl ?_
    refine WL_nil (W_seq_reg ?_)
    refine WL_buildSlice (vs := []) hC15 Tryz.underlying24 ty3 rfl rfl rfl rfl (by simp) rfl rfl (fun b5 w10 hC16 hB9 => ?_)
    have hC17 := hC16.row0 (α := Int)
    have hC18 := hC17.front 1 rfl
    dsimp only [List.eraseIdx, List.cons_append, List.nil_append, List.append_nil] at hC18
    have hC19 : Ctx [] w0 w10 (Item.own (.slice (some ⟨b5, 0, none⟩) 0 0) (([] : List Int) : List Int) :: [Item.own v3 (x4 : (List (List Int))), Item.own v1 (x3.1 : (List Int)), Item.box b3 [u3], Item.box b2 [u2], Item.box b1 [u1]]) := hC18.rowOwn (by simp [maxLen])
    refine WL_assign rfl rfl ?_
    refine WL_nil (W_seq (W_seq_reg ?_))
    refine WL_load_box hC19 3 rfl rfl Tryz.isAgg26 rfl rfl ?_
    refine WL_len Tryz.underlying26 g3 rfl rfl ?_
    refine WL_move rfl rfl ?_
    refine WL_nil ?_
    obtain ⟨r3, hr5, hL1⟩ := bind_some hL1
    refine W_norm (fun l w => ∃ v6 : Value, ∃ x9 : (List Int), x9 = r3 ∧ l = [(5, (ptr b3 0)), (8, (.func (.func 158) #[] #[(ptr b1 0), (ptr b2 0), (ptr b3 0)])), (9, v1), (11, v3), (13, v6), (37, (.int .i64 (shl 1 (List.length a3 : Int)))), (38, (.int .i64 x5))] ∧ Ctx [] w0 w [Item.own v6 (x9 : (List Int)), Item.own v3 (x4 : (List (List Int))), Item.own v1 (x3.1 : (List Int)), Item.box b3 [u3], Item.box b2 [u2], Item.box b1 [u1]]) ?_ ?_
    ·refine W_block ?_
     refine W.sub (l' := [(5, (ptr b3 0)), (8, (.func (.func 158) #[] #[(ptr b1 0), (ptr b2 0), (ptr b3 0)])), (9, v1), (11, v3), (12, (.int .i64 x5)), (13, (.slice (some ⟨b5, 0, none⟩) 0 0)), (37, (.int .i64 (shl 1 (List.length a3 : Int)))), (38, (.int .i64 x5)), (43, (.int .i64 (List.length a3 : Int))), (44, (.int .i64 0))]) ?_ ⟨rfl, rfl, rfl, rfl, rfl, rfl, rfl, rfl, rfl, rfl, trivial⟩
     refine W_loop (fun k l w => ∃ v5 : Value, ∃ x7 : (List Int), ∃ x8 : Int, l = [(5, (ptr b3 0)), (8, (.func (.func 158) #[] #[(ptr b1 0), (ptr b2 0), (ptr b3 0)])), (9, v1), (11, v3), (12, (.int .i64 x5)), (13, v5), (37, (.int .i64 (shl 1 (List.length a3 : Int)))), (38, (.int .i64 x5)), (43, (.int .i64 (List.length a3 : Int))), (44, (.int .i64 x8))] ∧ Ctx [] w0 w [Item.own v5 (x7 : (List Int)), Item.own v3 (x4 : (List (List Int))), Item.own v1 (x3.1 : (List Int)), Item.box b3 [u3], Item.box b2 [u2], Item.box b1 [u1]] ∧ M.removals_l2 a3 x5 k x7 x8 = some r3) FUEL ⟨(.slice (some ⟨b5, 0, none⟩) 0 0), ([] : List Int), 0, rfl, hC19, hr5⟩ ?_
     clear hr5
     rintro k2 _ w11 ⟨v5, x7, x8, rfl, hC20, hL2⟩
     cases k2 with
     | zero => rw [M.removals_l2] at hL2; cases hL2
     | succ k2 =>
      rw [M.removals_l2] at hL2
      refine W_seq_reg ?_
      refine WL_lss rfl rfl rfl ?_
      refine WL_nil (W_seq ?_)
      refine W_cond rfl (fun hc5 => ?_) (fun hc5 => ?_)
      ·replace hL2 := ite_t hL2 hc5
       refine W_skip (nrm_normal (W_seq (W_block (W_seq_reg ?_))))
       refine WL_move rfl rfl ?_
       refine WL_assign rfl rfl ?_
       refine WL_nil (W_seq_reg ?_)
       refine WL_move rfl rfl ?_
       refine WL_move rfl rfl ?_
       obtain ⟨_, hx2, hL2⟩ := bind_some hL2
       refine WL_shr (nn_some hx2) rfl rfl rfl ?_
       refine WL_band rfl rfl rfl ?_
       refine WL_eql rfl rfl rfl ?_
       refine WL_nil ?_
       obtain ⟨r4, hr6, hL2⟩ := bind_some hL2
       refine W_norm (fun l w => ∃ v7 : Value, ∃ x10 : (List Int), x10 = r4 ∧ l = [(5, (ptr b3 0)), (8, (.func (.func 158) #[] #[(ptr b1 0), (ptr b2 0), (ptr b3 0)])), (9, v1), (11, v3), (12, (.int .i64 x5)), (13, v7), (37, (.int .i64 (shl 1 (List.length a3 : Int)))), (38, (.int .i64 x5)), (43, (.int .i64 (List.length a3 : Int))), (44, (.int .i64 x8))] ∧ Ctx [] w0 w [Item.own v7 (x10 : (List Int)), Item.own v3 (x4 : (List (List Int))), Item.own v1 (x3.1 : (List Int)), Item.box b3 [u3], Item.box b2 [u2], Item.box b1 [u1]]) ?_ ?_
       ·refine W_cond rfl (fun hc6 => ?_) (fun hc6 => ?_)
        ·replace hr6 := ite_t hr6 hc6
         refine W_reg ?_
         refine WL_move rfl rfl ?_
         refine WL_move rfl rfl ?_
         refine WL_buildSlice (vs := [(.int .i64 x8)]) hC20 Tryz.underlying24 ty3 rfl rfl rfl rfl (by intro v hv; simp only [List.mem_cons, List.not_mem_nil, or_false] at hv; rcases hv with rfl <;> rfl) rfl rfl (fun b6 w13 hC22 hB12 => ?_)
         have hC23 := hC22.row0 (α := Int)
         have hC24 := hC23.triv (int_val (x8))
         have hC25 := hC24.row1
         have hC26 := hC25.front 1 rfl
         dsimp only [List.eraseIdx, List.cons_append, List.nil_append, List.append_nil] at hC26
         have hC27 : Ctx [] w0 w13 (Item.own (.slice (some ⟨b6, 0, none⟩) 1 1) ([x8] : List Int) :: [Item.own v5 (x7 : (List Int)), Item.own v3 (x4 : (List (List Int))), Item.own v1 (x3.1 : (List Int)), Item.box b3 [u3], Item.box b2 [u2], Item.box b1 [u1]]) := hC26.rowOwn (by simp [maxLen])
         obtain ⟨x11, hx3, hr6⟩ := bind_some hr6
         refine WL_append_flat (α := Int) hC27 1 rfl (hC27.ro 0 rfl) (Keep.refl _ _) Tryz.underlying24 ty3 rfl hx3 rfl rfl rfl (fun v8 w14 hC28 => ?_)
         try dsimp only [List.set] at hC28
         refine WL_assign rfl rfl ?_
         refine WL_nil ?_
         have hq5 := Option.some.inj hr6
         subst hq5
         have hC29 := hC28.f6
         have hC30 := hC29.f6
         have hC31 := hC30.f6
         have hC32 := hC31.f6
         have hC33 := hC32.f6
         have hC34 := hC33.f6
         have hC35 := hC34.h6
         refine nrm_sub (l' := [(5, (ptr b3 0)), (8, (.func (.func 158) #[] #[(ptr b1 0), (ptr b2 0), (ptr b3 0)])), (9, v1), (11, v3), (12, (.int .i64 x5)), (13, v8), (37, (.int .i64 (shl 1 (List.length a3 : Int)))), (38, (.int .i64 x5)), (43, (.int .i64 (List.length a3 : Int))), (44, (.int .i64 x8))]) ⟨rfl, rfl, rfl, rfl, rfl, rfl, rfl, rfl, rfl, rfl, trivial⟩ ?_
         exact ⟨v8, x11, rfl, rfl, hC35⟩
        replace hr6 := ite_f hr6 hc6
        refine W_skip ?_
        have hq6 := Option.some.inj hr6
        subst hq6
        refine nrm_sub (l' := [(5, (ptr b3 0)), (8, (.func (.func 158) #[] #[(ptr b1 0), (ptr b2 0), (ptr b3 0)])), (9, v1), (11, v3), (12, (.int .i64 x5)), (13, v5), (37, (.int .i64 (shl 1 (List.length a3 : Int)))), (38, (.int .i64 x5)), (43, (.int .i64 (List.length a3 : Int))), (44, (.int .i64 x8))]) ⟨rfl, rfl, rfl, rfl, rfl, rfl, rfl, rfl, rfl, rfl, trivial⟩ ?_
        exact ⟨v5, x7, rfl, rfl, hC20⟩
       rintro l4 _ w12 hs4 ⟨v7, x10, rfl, rfl, hC21⟩
       try dsimp only at hL2
       refine blk_normal ?_
       refine nrm_sub' hs4 ?_
       clear hs4
       refine W_reg ?_
       refine WL_add rfl rfl rfl ?_
       refine WL_move rfl rfl ?_
       refine WL_nil ?_
       refine nrm_sub (l' := [(5, (ptr b3 0)), (8, (.func (.func 158) #[] #[(ptr b1 0), (ptr b2 0), (ptr b3 0)])), (9, v1), (11, v3), (12, (.int .i64 x5)), (13, v7), (37, (.int .i64 (shl 1 (List.length a3 : Int)))), (38, (.int .i64 x5)), (43, (.int .i64 (List.length a3 : Int))), (44, (.int .i64 (w64 (x8 + 1))))]) ⟨rfl, rfl, rfl, rfl, rfl, rfl, rfl, rfl, rfl, rfl, trivial⟩ ?_
       exact ⟨k2, Nat.lt_succ_self _, v7, x10, w64 (x8 + 1), rfl, hC21, hL2⟩
      replace hL2 := ite_f hL2 hc5
      refine W_exit (nrm_exit (nrm_exit (blk_exit ?_)))
      have hq7 := Option.some.inj hL2
      subst hq7
      refine nrm_sub (l' := [(5, (ptr b3 0)), (8, (.func (.func 158) #[] #[(ptr b1 0), (ptr b2 0), (ptr b3 0)])), (9, v1), (11, v3), (13, v5), (37, (.int .i64 (shl 1 (List.length a3 : Int)))), (38, (.int .i64 x5))]) ⟨rfl, rfl, rfl, rfl, rfl, rfl, rfl, trivial⟩ ?_
      exact ⟨v5, x7, rfl, rfl, hC20⟩
    rintro l5 _ w15 hs5 ⟨v6, x9, rfl, rfl, hC36⟩
    try dsimp only at hL1
    refine nrm_sub' hs5 ?_
    clear hs5
    obtain ⟨r5, hr7, hL1⟩ := bind_some hL1
    refine W_cut (fun l w => ∃ x12 : Bool, x12 = r5 ∧ l = [(5, (ptr b3 0)), (8, (.func (.func 158) #[] #[(ptr b1 0), (ptr b2 0), (ptr b3 0)])), (9, v1), (11, v3), (13, v6), (37, (.int .i64 (shl 1 (List.length a3 : Int)))), (38, (.int .i64 x5)), (66, (.bool x12))] ∧ Below w15.heap.size w15 w ∧ Ctx [] w0 w [Item.own v6 (x9 : (List Int)), Item.own v3 (x4 : (List (List Int))), Item.own v1 (x3.1 : (List Int)), Item.box b3 [u3], Item.box b2 [u2], Item.box b1 [u1]]) ?_ ?_
    ·refine W_reg ?_
     refine WL_move rfl rfl ?_
     refine WL_len Tryz.underlying24 (hC36.ro 0 rfl) rfl rfl ?_
     refine WL_move rfl rfl ?_
     refine WL_len Tryz.underlying24 (hC36.ro 2 rfl) rfl rfl ?_
     refine WL_eql rfl rfl rfl ?_
     refine WL_move rfl rfl ?_
     refine WL_fork (fun hc7 => ?_) (fun hc7 => ?_)
     ·replace hr7 := ite_t hr7 hc7
      refine WL_guard rfl rfl ?_
      refine WL_move rfl rfl ?_
      refine WL_guard rfl rfl ?_
      refine WL_move rfl rfl ?_
      obtain ⟨x13, hr8, hr7⟩ := bind_some hr7
      refine WL_guard rfl rfl ?_
      refine WL_callv (cap := [(ptr b1 0), (ptr b2 0), (ptr b3 0)]) Tryz.call158 rfl rfl rfl (c_M_removals_c1 x9 v6 ((hC36.ro 0 rfl).now (Keep.refl _ _)) b1 a1 (hC36.boxAt 5 rfl (repw_slice (g1.now hC36.keep))) b2 a2 (hC36.boxAt 4 rfl (repw_slice (g2.now hC36.keep))) b3 a3 (hC36.boxAt 3 rfl (repw_slice (g3.now hC36.keep))) x13 hr8) ?_
      intro _ w17 hv4
      obtain ⟨rfl, hB15⟩ := res_bool hv4
      have hC38 := hC36.grow hB15
      refine WL_pick_t rfl rfl rfl ?_
      refine WL_nil ?_
      have hq8 := Option.some.inj hr7
      subst hq8
      refine nrm_sub (l' := [(5, (ptr b3 0)), (8, (.func (.func 158) #[] #[(ptr b1 0), (ptr b2 0), (ptr b3 0)])), (9, v1), (11, v3), (13, v6), (37, (.int .i64 (shl 1 (List.length a3 : Int)))), (38, (.int .i64 x5)), (66, (.bool x13))]) ⟨rfl, rfl, rfl, rfl, rfl, rfl, rfl, rfl, trivial⟩ ?_
      exact ⟨x13, rfl, rfl, (Keep.of hB15).below, hC38⟩
     replace hr7 := ite_f hr7 hc7
     refine WL_guard_skip rfl rfl (by simp) rfl ?_
     refine WL_guard_skip rfl rfl (by simp) rfl ?_
     refine WL_guard_skip rfl rfl (by simp) rfl ?_
     refine WL_pick_f rfl rfl rfl ?_
     refine WL_nil ?_
     have hq9 := Option.some.inj hr7
     subst hq9
     refine nrm_sub (l' := [(5, (ptr b3 0)), (8, (.func (.func 158) #[] #[(ptr b1 0), (ptr b2 0), (ptr b3 0)])), (9, v1), (11, v3), (13, v6), (37, (.int .i64 (shl 1 (List.length a3 : Int)))), (38, (.int .i64 x5)), (66, (.bool false))]) ⟨rfl, rfl, rfl, rfl, rfl, rfl, rfl, rfl, trivial⟩ ?_
     exact ⟨false, rfl, rfl, (Below.refl _ _), hC36⟩
    rintro _ w16 ⟨x12, rfl, rfl, hB14, hC37⟩
    try dsimp only at hL1
    obtain ⟨r6, hr9, hL1⟩ := bind_some hL1
    refine W_norm (fun l w => ∃ v9 : Value, ∃ x14 : (List (List Int)), x14 = r6 ∧ l = [(5, (ptr b3 0)), (8, (.func (.func 158) #[] #[(ptr b1 0), (ptr b2 0), (ptr b3 0)])), (9, v1), (11, v9), (37, (.int .i64 (shl 1 (List.length a3 : Int)))), (38, (.int .i64 x5))] ∧ Ctx [] w0 w [Item.own v9 (x14 : (List (List Int))), Item.own v1 (x3.1 : (List Int)), Item.box b3 [u3], Item.box b2 [u2], Item.box b1 [u1]]) ?_ ?_
    ·refine W_cond rfl (fun hc8 => ?_) (fun hc8 => ?_)
     ·replace hr9 := ite_t hr9 hc8
      refine W_reg ?_
      refine WL_move rfl rfl ?_
      refine WL_move rfl rfl ?_
      obtain ⟨x15, hr10, hr9⟩ := bind_some hr9
      have hC40 := hC37.f1
      obtain ⟨Fs1, hH1, hn2, hF1, hO1, hb2⟩ := Ctx.lend2 (As := [Item.own v6 (x9 : (List Int)), Item.own v1 (x3.1 : (List Int)), Item.box b3 [u3], Item.box b2 [u2], Item.box b1 [u1]]) [Item.own v3 (x4 : (List (List Int)))] hC40
      refine WL_call Tryz.call161 rfl rfl (c_M_addedTuple x4 v3 x9 v6 (hO1 0 _ _ _ rfl) hH1 hn2 x15 hr10) ?_
      rintro v10 w19 ⟨_, rfl, hq10⟩
      have hC41 : Ctx [] w0 w19 [Item.own v10 (x15 : (List (List Int))), Item.own v6 (x9 : (List Int)), Item.own v1 (x3.1 : (List Int)), Item.box b3 [u3], Item.box b2 [u2], Item.box b1 [u1]] := hb2 _ _ hq10
      refine WL_assign rfl rfl ?_
      refine WL_nil ?_
      have hq11 := Option.some.inj hr9
      subst hq11
      have hC42 := hC41.f5
      have hC43 := hC42.f5
      have hC44 := hC43.f5
      have hC45 := hC44.f5
      have hC46 := hC45.f4
      have hC47 := hC46.h5
      refine nrm_sub (l' := [(5, (ptr b3 0)), (8, (.func (.func 158) #[] #[(ptr b1 0), (ptr b2 0), (ptr b3 0)])), (9, v1), (11, v10), (37, (.int .i64 (shl 1 (List.length a3 : Int)))), (38, (.int .i64 x5))]) ⟨rfl, rfl, rfl, rfl, rfl, rfl, trivial⟩ ?_
      exact ⟨v10, x15, rfl, rfl, hC47⟩
     replace hr9 := ite_f hr9 hc8
     refine W_skip ?_
     have hq12 := Option.some.inj hr9
     subst hq12
     have hC48 := hC37.f5
     have hC49 := hC48.f5
     have hC50 := hC49.f5
     have hC51 := hC50.f5
     have hC52 := hC51.f5
     have hC53 := hC52.h5
     refine nrm_sub (l' := [(5, (ptr b3 0)), (8, (.func (.func 158) #[] #[(ptr b1 0), (ptr b2 0), (ptr b3 0)])), (9, v1), (11, v3), (37, (.int .i64 (shl 1 (List.length a3 : Int)))), (38, (.int .i64 x5))]) ⟨rfl, rfl, rfl, rfl, rfl, rfl, trivial⟩ ?_
     exact ⟨v3, x4, rfl, rfl, hC53⟩
    rintro l7 _ w18 hs7 ⟨v9, x14, rfl, rfl, hC39⟩
    try dsimp only at hL1
    refine blk_normal ?_
    refine nrm_sub' hs7 ?_
    clear hs7
    refine W_reg ?_
    refine WL_add rfl rfl rfl ?_
    refine WL_move rfl rfl ?_
    refine WL_nil ?_
    refine nrm_sub (l' := [(5, (ptr b3 0)), (8, (.func (.func 158) #[] #[(ptr b1 0), (ptr b2 0), (ptr b3 0)])), (9, v1), (11, v9), (37, (.int .i64 (shl 1 (List.length a3 : Int)))), (38, (.int .i64 (w64 (x5 + 1))))]) ⟨rfl, rfl, rfl, rfl, rfl, rfl, trivial⟩ ?_
    exact ⟨k1, Nat.lt_succ_self _, v9, x14, w64 (x5 + 1), rfl, hC39, hL1⟩
   replace hL1 := ite_f hL1 hc4
   refine W_exit (nrm_exit (nrm_exit (blk_exit ?_)))
   have hq13 := Option.some.inj hL1
   subst hq13
   have hC54 := hC15.h1
   refine nrm_sub (l' := [(11, v3)]) ⟨rfl, trivial⟩ ?_
   exact ⟨v3, x4, rfl, rfl, hC54⟩
 rintro l8 _ w20 hs8 ⟨v4, x6, rfl, rfl, hC55⟩
 try dsimp only at hF
 refine nrm_sub' hs8 ?_
 clear hs8
 refine W_seq_reg ?_
 refine WL_move rfl rfl ?_
 refine WL_assign rfl rfl ?_
 refine WL_assign rfl rfl ?_
 refine WL_nil (W_ret ?_)
 have hq14 := Option.some.inj hF
 subst hq14
 refine fn_ret2 rfl rfl rfl ?_
 have hC56 := hC55.triv (bool_val (true))
 have hC57 := hC56.f1
 exact ⟨_, rfl, res2_of hC57⟩

theorem c_M_parted_c1 {w0 : World} (a1 : (List Int)) (u1 : Value) (g1 : RO [] w0 u1 a1) (pb1 : Nat) (ax1 : (List ((Int × (List Int)) × (List (Int × (List Int)))))) (g2 : ROAt [] w0 pb1 0 ax1) (pb2 : Nat) (ax2 : (Int × (List Int))) (g3 : ROAt [] w0 pb2 0 ax2) (rr : Bool) (hF : M.parted_c1 a1 ax1 ax2 = some rr) :
 Calls Tryz.prog 165 [u1, (ptr pb1 0), (ptr pb2 0)].toArray w0 fun e w' => ∃ v, e = .returned v ∧ Res w0 rr v w' := by
 refine calls_of_W Tryz.func165 rfl rfl ?_
 have hC0 := Ctx.start w0
 unfold M.parted_c1 at hF
 refine W_seq_reg ?_
 refine WL_assign rfl rfl ?_
 refine WL_nil (W_seq ?_)
 refine W_drawn 8 rfl hmix (fun w1 hB1 => ?_)
 have hC1 := hC0.grow hB1
 refine WA_tk 1 (by kernel_rfl) rfl rfl (fl_move rfl) ?_
 refine WL_move rfl rfl ?_
 refine WL_nil ?_
 obtain ⟨x1, hr1, hF⟩ := bind_some hF
 obtain ⟨x2, hr2, hF⟩ := bind_some hF
 refine WA.sub (l' := [(0, u1), (1, (ptr pb1 0)), (2, (ptr pb2 0)), (4, (.bool false)), (6, u1)]) ?_ ⟨rfl, rfl, rfl, rfl, rfl, trivial⟩
 refine WA_postsE [⟨0, [], fun vs => PW.ro [] w0 ax1, []⟩, ⟨2, [], fun vs => PW.own x1, []⟩, ⟨3, [], fun vs => PW.own x2, []⟩, ⟨4, [], fun vs => PW.ro [] w0 ax2, []⟩] [[], [0], [2], []] 3 rfl (by kernel_rfl) (by kernel_rfl) rfl ?_ ?_
 ·refine StepsE_cons rfl ?_ ?_
  ·intro w4 hB4
   refine DepsE_nil ?_
   refine ⟨_, rfl, ?_⟩
   refine WL_load ty26 g2 (hC1.keep.then hB4) rfl rfl (fun v1 h1 => ?_)
   refine WL_nil ?_
   exact FinE_val (Below.refl _ _) rfl rfl ⟨rfl, h1⟩
  refine StepsE_cons rfl ?_ ?_
  ·intro w4 hB4
   refine DepsE_cons rfl rfl rfl ?_
   rintro v1 _ ⟨rfl, h1⟩ _
   refine DepsE_nil ?_
   refine ⟨_, rfl, ?_⟩
   refine WL_call Tryz.call159 rfl rfl (c_M_Without ax1 v1 (h1.now (hC1.keep.then hB4)) a1 u1 (g1.now (hC1.keep.then hB4)) x1 hr1) ?_
   rintro v2 w2 ⟨hB2, F1, hv1, hn1, hb1⟩
   refine WL_nil ?_
   exact FinE_own hB2 rfl rfl hv1 hn1 hb1 (Val.inh hv1)
  refine StepsE_cons rfl ?_ ?_
  ·intro w4 hB4
   refine DepsE_cons rfl rfl rfl ?_
   intro v2 F1 hv1 _
   refine DepsE_nil ?_
   refine ⟨_, rfl, ?_⟩
   refine WL_call Tryz.call13 rfl rfl (c_M_UnionOf x1 v2 (ro_of_own hv1) x2 hr2) ?_
   rintro v3 w3 ⟨hB3, F2, hv2, hn2, hb2⟩
   refine WL_nil ?_
   exact FinE_own hB3 rfl rfl hv2 hn2 hb2 (Val.inh hv2)
  refine StepsE_cons rfl ?_ ?_
  ·intro w4 hB4
   refine DepsE_nil ?_
   refine ⟨_, rfl, ?_⟩
   refine WL_load ty88 g3 (hC1.keep.then hB4) rfl rfl (fun v6 h4 => ?_)
   refine WL_nil ?_
   exact FinE_val (Below.refl _ _) rfl rfl ⟨rfl, h4⟩
  exact StepsE_nil
 intro w5 hB5
 refine AllE_cons rfl rfl rfl ?_
 rintro v1 _ ⟨rfl, h1⟩
 refine AllE_cons rfl rfl rfl ?_
 intro v2 F1 hv1
 refine AllE_cons rfl rfl rfl ?_
 intro v3 F2 hv2
 refine AllE_cons rfl rfl rfl ?_
 rintro v6 _ ⟨rfl, h4⟩
 obtain ⟨v5, rfl, h3⟩ := ro_st88 h4
 refine AllE_nil ?_
 intro hn3 hb3
 have hC2 := hC1.pushL hB5 (Bs := [Item.own v3 (x2 : (List (Int × (List Int)))), Item.own v2 (x1 : (List ((Int × (List Int)) × (List (Int × (List Int))))))]) (Fs := [F2, F1]) ⟨F2, _, rfl, hv2, F1, _, rfl, hv1, rfl⟩ (by simpa using hn3) (fun b h => (hb3 b (by simpa using h)).1)
 obtain ⟨x3, hr3, hF⟩ := bind_some hF
 refine WA_one 5 (by kernel_rfl) rfl ?_
 refine WL_call Tryz.call125 rfl rfl (c_M_HasFact x2 v3 ((hC2.ro 0 rfl).now (Keep.refl _ _)) ax2 v5 (h3.now hC2.keep) x3 hr3) ?_
 intro _ w6 hv3
 obtain ⟨rfl, hB6⟩ := res_bool hv3
 have hC3 := hC2.grow hB6
 refine WL_nil ?_
 refine WA_tk 6 (by kernel_rfl) rfl rfl (fl_not rfl) ?_
 refine WL_not rfl rfl ?_
 refine WL_nil ?_
 refine WA_tk 7 (by kernel_rfl) rfl rfl (fl_assign rfl) ?_
 refine WL_assign rfl rfl ?_
 refine WL_nil ?_
 refine WA_done (by kernel_rfl) ?_
 refine nrm_normal (W_ret ?_)
 have hq1 := Option.some.inj hF
 subst hq1
 refine fn_ret1 rfl rfl ?_
 exact ⟨_, rfl, bool_res hC3 _⟩

theorem c_Slices_IndexFunc_LLint_Lint_M_parted_c1 {w0 : World} (a1 : (List (List Int))) (u1 : Value) (g1 : RO [] w0 u1 a1) (pb1 : Nat) (ax1 : (List ((Int × (List Int)) × (List (Int × (List Int)))))) (g2 : ROAt [] w0 pb1 0 ax1) (pb2 : Nat) (ax2 : (Int × (List Int))) (g3 : ROAt [] w0 pb2 0 ax2) (rr : Int) (hF : Slices.IndexFunc_LLint_Lint_M_parted_c1 a1 ax1 ax2 = some rr) :
 Calls Tryz.prog 198 [u1, (.func (.func 165) #[] #[(ptr pb1 0), (ptr pb2 0)])].toArray w0 fun e w' => ∃ v, e = .returned v ∧ Res w0 rr v w' := by
 refine calls_of_W Tryz.func198 rfl rfl ?_
 have hC0 := Ctx.start w0
 unfold Slices.IndexFunc_LLint_Lint_M_parted_c1 at hF
 refine W_seq_reg ?_
 refine WL_assign rfl rfl ?_
 refine WL_nil (W_seq (W_seq_reg ?_))
 refine WL_move rfl rfl ?_
 refine WL_len Tryz.underlying77 g1 rfl rfl ?_
 refine WL_move rfl rfl ?_
 refine WL_nil ?_
 obtain ⟨r1, hr1, hF⟩ := bind_some hF
 refine W_norm (fun l w => .inl () = r1 ∧ l = [] ∧ Below w0.heap.size w0 w ∧ Ctx [] w0 w []) ?_ ?_
 ·refine W_block ?_
  refine W.sub (l' := [(0, u1), (1, (.func (.func 165) #[] #[(ptr pb1 0), (ptr pb2 0)])), (7, (.int .i64 (List.length a1 : Int))), (8, (.int .i64 0))]) ?_ ⟨rfl, rfl, rfl, rfl, trivial⟩
  refine W_loop (fun k l w => ∃ x1 : Int, l = [(0, u1), (1, (.func (.func 165) #[] #[(ptr pb1 0), (ptr pb2 0)])), (7, (.int .i64 (List.length a1 : Int))), (8, (.int .i64 x1))] ∧ Below w0.heap.size w0 w ∧ Ctx [] w0 w [] ∧ Slices.IndexFunc_LLint_Lint_M_parted_c1_l1 a1 ax1 ax2 k x1 = some r1) FUEL ⟨0, rfl, (Below.refl _ _), hC0, hr1⟩ ?_
  clear hr1
  rintro k1 _ w1 ⟨x1, rfl, hB1, hC1, hL1⟩
  cases k1 with
  | zero => rw [Slices.IndexFunc_LLint_Lint_M_parted_c1_l1] at hL1; cases hL1
  | succ k1 =>
   rw [Slices.IndexFunc_LLint_Lint_M_parted_c1_l1] at hL1
   refine W_seq_reg ?_
   refine WL_lss rfl rfl rfl ?_
   refine WL_nil (W_seq ?_)
   refine W_cond rfl (fun hc1 => ?_) (fun hc1 => ?_)
   ·replace hL1 := ite_t hL1 hc1
    refine W_skip (nrm_normal (W_seq (W_block (W_seq_reg ?_))))
    refine WL_move rfl rfl ?_
    refine WL_assign rfl rfl ?_
    refine WL_nil (W_seq_reg ?_)
    refine WL_move rfl rfl ?_
    refine WL_move rfl rfl ?_
    refine WL_move rfl rfl ?_
    obtain ⟨x2, hx1, hL1⟩ := bind_some hL1
    refine WL_index Tryz.underlying77 ty24 g1 hx1 rfl rfl rfl (fun b1 o1 h1 => ?_)
    refine WL_load ty24 h1 hC1.keep rfl rfl (fun v1 h2 => ?_)
    obtain ⟨x3, hr2, hL1⟩ := bind_some hL1
    refine WL_callv (cap := [(ptr pb1 0), (ptr pb2 0)]) Tryz.call165 rfl rfl rfl (c_M_parted_c1 x2 v1 (h2.now hC1.keep) pb1 ax1 (g2.now hC1.keep) pb2 ax2 (g3.now hC1.keep) x3 hr2) ?_
    intro _ w2 hv1
    obtain ⟨rfl, hB2⟩ := res_bool hv1
    have hC2 := hC1.grow hB2
    refine WL_nil ?_
    refine W_cond rfl (fun hc2 => ?_) (fun hc2 => ?_)
    ·replace hL1 := ite_t hL1 hc2
     refine W_seq_reg ?_
     refine WL_move rfl rfl ?_
     refine WL_assign rfl rfl ?_
     refine WL_nil (W_ret (blk_ret (nrm_ret (nrm_ret (blk_ret (nrm_ret (nrm_ret ?_)))))))
     have hq1 := Option.some.inj hL1
     subst hq1
     dsimp only at hF
     have hq2 := Option.some.inj hF
     subst hq2
     refine fn_ret1 rfl rfl ?_
     exact ⟨_, rfl, int_res hC2 _⟩
    replace hL1 := ite_f hL1 hc2
    refine W_skip (blk_normal (nrm_normal (W_reg ?_)))
    refine WL_add rfl rfl rfl ?_
    refine WL_move rfl rfl ?_
    refine WL_nil ?_
    refine nrm_sub (l' := [(0, u1), (1, (.func (.func 165) #[] #[(ptr pb1 0), (ptr pb2 0)])), (7, (.int .i64 (List.length a1 : Int))), (8, (.int .i64 (w64 (x1 + 1))))]) ⟨rfl, rfl, rfl, rfl, trivial⟩ ?_
    exact ⟨k1, Nat.lt_succ_self _, w64 (x1 + 1), rfl, ((Keep.of hB1).then hB2).below, hC2, hL1⟩
   replace hL1 := ite_f hL1 hc1
   refine W_exit (nrm_exit (nrm_exit (blk_exit ?_)))
   have hq3 := Option.some.inj hL1
   subst hq3
   refine nrm_sub (l' := []) trivial ?_
   exact ⟨rfl, rfl, (Keep.of hB1).below, hC1⟩
 rintro l2 _ w3 hs2 ⟨rfl, rfl, hB3, hC3⟩
 try dsimp only at hF
 refine nrm_sub' hs2 ?_
 clear hs2
 refine W_seq_reg ?_
 refine WL_assign rfl rfl ?_
 refine WL_nil (W_ret ?_)
 have hq4 := Option.some.inj hF
 subst hq4
 refine fn_ret1 rfl rfl ?_
 exact ⟨_, rfl, int_res hC3 _⟩

theorem c_Slices_ContainsFunc_LLint_Lint_M_parted_c1 {w0 : World} (a1 : (List (List Int))) (u1 : Value) (g1 : RO [] w0 u1 a1) (pb1 : Nat) (ax1 : (List ((Int × (List Int)) × (List (Int × (List Int)))))) (g2 : ROAt [] w0 pb1 0 ax1) (pb2 : Nat) (ax2 : (Int × (List Int))) (g3 : ROAt [] w0 pb2 0 ax2) (rr : Bool) (hF : Slices.ContainsFunc_LLint_Lint_M_parted_c1 a1 ax1 ax2 = some rr) :
 Calls Tryz.prog 164 [u1, (.func (.func 165) #[] #[(ptr pb1 0), (ptr pb2 0)])].toArray w0 fun e w' => ∃ v, e = .returned v ∧ Res w0 rr v w' := by
 refine calls_of_W Tryz.func164 rfl rfl ?_
 have hC0 := Ctx.start w0
 unfold Slices.ContainsFunc_LLint_Lint_M_parted_c1 at hF
 refine W_seq_reg ?_
 refine WL_assign rfl rfl ?_
 refine WL_nil (W_seq_reg ?_)
 refine WL_move rfl rfl ?_
 refine WL_move rfl rfl ?_
 obtain ⟨x1, hr1, hF⟩ := bind_some hF
 refine WL_call Tryz.call198 rfl rfl (c_Slices_IndexFunc_LLint_Lint_M_parted_c1 a1 u1 (g1.now hC0.keep) pb1 ax1 (g2.now hC0.keep) pb2 ax2 (g3.now hC0.keep) x1 hr1) ?_
 intro _ w1 hv1
 obtain ⟨rfl, hB1⟩ := res_int hv1
 have hC1 := hC0.grow hB1
 refine WL_geq rfl rfl rfl ?_
 refine WL_assign rfl rfl ?_
 refine WL_nil (W_ret ?_)
 have hq1 := Option.some.inj hF
 subst hq1
 refine fn_ret1 rfl rfl ?_
 exact ⟨_, rfl, bool_res hC1 _⟩

theorem c_M_parted {w0 : World} (a1 : (List Int)) (u1 : Value) (g1 : RO [] w0 u1 a1) (a2 : (List (Int × (List Int) × Int × Int × Int))) (u2 : Value) (g2 : RO [] w0 u2 a2) (a3 : (List ((Int × (List Int)) × (List (Int × (List Int)))))) (u3 : Value) (g3 : RO [] w0 u3 a3) (rr : ((List (Int × (List Int))) × (List (Int × (List Int))) × Bool)) (hF : M.parted a1 a2 a3 = some rr) :
 Calls Tryz.prog 118 [u1, u2, u3].toArray w0 fun e w' => ∃ v, e = .returned v ∧ Res3 w0 rr.1 rr.2.1 rr.2.2 v w' := by
 refine calls_of_W Tryz.func118 rfl rfl ?_
 have hC0 := Ctx.start w0
 unfold M.parted at hF
 refine W_seq_reg ?_
 refine WL_boxK (cs := [u3]) hC0 (ro_cells g3) rfl rfl (fun b1 w1 hC1 hB1 hN1 => ?_)
 refine WL_assign rfl rfl ?_
 refine WL_assign rfl rfl ?_
 refine WL_assign rfl rfl ?_
 refine WL_nil (W_seq_reg ?_)
 refine WL_move rfl rfl ?_
 refine WL_move rfl rfl ?_
 refine WL_load_box hC1 0 rfl rfl Tryz.isAgg26 rfl rfl ?_
 obtain ⟨x1, hr1, hF⟩ := bind_some hF
 refine WL_call Tryz.call110 rfl rfl (c_M_removals a1 u1 (g1.now hC1.keep) a2 u2 (g2.now hC1.keep) a3 u3 (g3.now hC1.keep) x1 hr1) ?_
 rintro _ w2 ⟨hB2, v1, v2, F1, F2, rfl, hv1, hv2, hn1, hb1⟩
 obtain ⟨rfl, rfl⟩ := val_bool hv2
 have hC2 := hC1.pushL hB2 (Bs := [Item.own v1 x1.1]) (Fs := [F1]) ⟨F1, _, rfl, hv1, rfl⟩ (by simpa using hn1) (fun b h => hb1 b (by simpa using h))
 refine WL_move rfl rfl ?_
 refine WL_extract rfl rfl rfl ?_
 refine WL_extract rfl rfl rfl ?_
 refine WL_assign rfl rfl ?_
 refine WL_assign rfl rfl ?_
 refine WL_nil (W_seq (W_seq_reg ?_))
 refine WL_move rfl rfl ?_
 refine WL_not rfl rfl ?_
 refine WL_nil ?_
 refine W_cond rfl (fun hc1 => ?_) (fun hc1 => ?_)
 ·replace hF := ite_t hF hc1
  refine W_seq_reg ?_
  refine WL_assign rfl rfl ?_
  refine WL_assign rfl rfl ?_
  refine WL_assign rfl rfl ?_
  refine WL_nil (W_ret (nrm_ret ?_))
  have hq1 := Option.some.inj hF
  subst hq1
  refine fn_ret3 rfl rfl rfl rfl ?_
  have hC3 := hC2.triv (bool_val (false))
  have hC4 := hC3.triv (nil_val (α := (Int × (List Int))))
  have hC5 := hC4.triv (nil_val (α := (Int × (List Int))))
  exact ⟨_, rfl, res3_of hC5⟩
 replace hF := ite_f hF hc1
 refine W_skip (nrm_normal (W_seq_reg ?_))
 refine WL_buildSlice (vs := []) hC2 Tryz.underlying31 ty88 rfl rfl rfl rfl (by simp) rfl rfl (fun b2 w3 hC6 hB3 => ?_)
 have hC7 := hC6.row0 (α := (Int × (List Int)))
 have hC8 := hC7.front 1 rfl
 dsimp only [List.eraseIdx, List.cons_append, List.nil_append, List.append_nil] at hC8
 have hC9 : Ctx [] w0 w3 (Item.own (.slice (some ⟨b2, 0, none⟩) 0 0) (([] : List (Int × (List Int))) : List (Int × (List Int))) :: [Item.own v1 (x1.1 : (List (List Int))), Item.box b1 [u3]]) := hC8.rowOwn (by simp [maxLen])
 refine WL_buildSlice (vs := []) hC9 Tryz.underlying31 ty88 rfl rfl rfl rfl (by simp) rfl rfl (fun b3 w4 hC10 hB4 => ?_)
 have hC11 := hC10.row0 (α := (Int × (List Int)))
 have hC12 := hC11.front 1 rfl
 dsimp only [List.eraseIdx, List.cons_append, List.nil_append, List.append_nil] at hC12
 have hC13 : Ctx [] w0 w4 (Item.own (.slice (some ⟨b3, 0, none⟩) 0 0) (([] : List (Int × (List Int))) : List (Int × (List Int))) :: [Item.own (.slice (some ⟨b2, 0, none⟩) 0 0) (([] : List (Int × (List Int))) : (List (Int × (List Int)))), Item.own v1 (x1.1 : (List (List Int))), Item.box b1 [u3]]) := hC12.rowOwn (by simp [maxLen])
 refine WL_assign rfl rfl ?_
 refine WL_assign rfl rfl ?_
 refine WL_nil (W_seq (W_seq_reg ?_))
 refine WL_load_box hC13 3 rfl rfl Tryz.isAgg26 rfl rfl ?_
 obtain ⟨x2, hr2, hF⟩ := bind_some hF
 refine WL_call Tryz.call13 rfl rfl (c_M_UnionOf a3 u3 (g3.now hC13.keep) x2 hr2) ?_
 rintro v3 w5 ⟨hB5, F3, hv3, hn2, hb2⟩
 have hC14 := hC13.push hB5 (A := Item.own v3 x2) hv3 hn2 hb2
 refine WL_len Tryz.underlying31 (hC14.ro 0 rfl) rfl rfl ?_
 refine WL_move rfl rfl ?_
 refine WL_nil ?_
 obtain ⟨r1, hr3, hF⟩ := bind_some hF
 have hC15 := hC14.ownRest
 refine W_norm (fun l w => ∃ v6 : Value, ∃ x6 : (List (Int × (List Int))), ∃ v7 : Value, ∃ x7 : (List (Int × (List Int))), (x6, x7) = r1 ∧ l = [(11, v6), (12, v7)] ∧ Ctx [] w0 w [Item.own v7 (x7 : (List (Int × (List Int)))), Item.own v6 (x6 : (List (Int × (List Int))))]) ?_ ?_
 ·refine W_block ?_
  refine W.sub (l' := [(5, (ptr b1 0)), (9, v1), (11, (.slice (some ⟨b2, 0, none⟩) 0 0)), (12, (.slice (some ⟨b3, 0, none⟩) 0 0)), (27, v3), (28, (.int .i64 (List.length x2 : Int))), (29, (.int .i64 0))]) ?_ ⟨rfl, rfl, rfl, rfl, rfl, rfl, rfl, trivial⟩
  refine W_loop (fun k l w => ∃ v4 : Value, ∃ x3 : (List (Int × (List Int))), ∃ v5 : Value, ∃ x4 : (List (Int × (List Int))), ∃ x5 : Int, l = [(5, (ptr b1 0)), (9, v1), (11, v4), (12, v5), (27, v3), (28, (.int .i64 (List.length x2 : Int))), (29, (.int .i64 x5))] ∧ Ctx [] w0 w [Item.rest v3 (x2 : (List (Int × (List Int)))) (Int.toNat x5), Item.own v5 (x4 : (List (Int × (List Int)))), Item.own v4 (x3 : (List (Int × (List Int)))), Item.own v1 (x1.1 : (List (List Int))), Item.box b1 [u3]] ∧ M.parted_l1 x2 x1 a3 k x3 x4 x5 = some r1) FUEL ⟨(.slice (some ⟨b2, 0, none⟩) 0 0), ([] : List (Int × (List Int))), (.slice (some ⟨b3, 0, none⟩) 0 0), ([] : List (Int × (List Int))), 0, rfl, hC15, hr3⟩ ?_
  clear hr3
  rintro k1 _ w6 ⟨v4, x3, v5, x4, x5, rfl, hC16, hL1⟩
  cases k1 with
  | zero => rw [M.parted_l1] at hL1; cases hL1
  | succ k1 =>
   rw [M.parted_l1] at hL1
   refine W_seq_reg ?_
   refine WL_lss rfl rfl rfl ?_
   refine WL_nil (W_seq ?_)
   refine W_cond rfl (fun hc2 => ?_) (fun hc2 => ?_)
   ·replace hL1 := ite_t hL1 hc2
    refine W_skip (nrm_normal (W_seq (W_block ?_)))
    obtain ⟨x8, hx1, hL1⟩ := bind_some hL1
    obtain ⟨b4, cs1, hE1, hC17⟩ := hC16.openRest hx1
    obtain ⟨v8, he1, hC18⟩ := st88_own (hC17.cellsOwn rfl)
    obtain rfl := cells_of_agg he1
    refine W_seq_reg ?_
    refine WL_index_rhole hC18 1 rfl Tryz.underlying31 ty88 hE1 hx1 rfl rfl rfl ?_
    refine WL_load_rhole_agg (fo := 0) (cs' := [(.int .i64 x8.1), v8]) hC18 1 rfl hE1 rfl rfl rfl Tryz.isAgg88 Tryz.sizeOf88 rfl rfl ?_
    refine WL_allocK hC18 zero88 rfl rfl (fun b5 w7 hC19 hB7 hN2 => ?_)
    refine WL_store_box_aggK (cs' := [(.int .i64 x8.1), v8]) (new := [(.int .i64 x8.1), v8]) hC19 0 rfl rfl (by intro v hv; simp only [List.mem_cons, List.not_mem_nil, or_false] at hv; rcases hv with rfl | rfl; exact rfl; exact (ro_one (hC19.ro 1 rfl))) rfl Tryz.sizeOf88 rfl rfl (fun w9 hC20 hKp1 => ?_)
    try dsimp only [List.set] at hC20
    have hk1 := Keep.over (Keep.of hB7) hN2 hKp1
    refine WL_nil (W_seq_reg ?_)
    refine WL_move rfl rfl ?_
    refine WL_makeFunc rfl rfl ?_
    obtain ⟨x9, hr4, hL1⟩ := bind_some hL1
    refine WL_call Tryz.call164 rfl rfl (c_Slices_ContainsFunc_LLint_Lint_M_parted_c1 x1.1 v1 ((hC20.ro 5 rfl).now (Keep.refl _ _)) b1 a3 (hC20.boxAt 6 rfl (repw_slice (g3.now hC20.keep))) b5 (x8.1, x8.2) (hC20.boxAt 0 rfl (repw_pair repw_int (repw_slice (hC20.ro 1 rfl)))) x9 hr4) ?_
    intro _ w10 hv4
    obtain ⟨rfl, hB8⟩ := res_bool hv4
    have hC21 := hC20.grow hB8
    refine WL_nil ?_
    obtain ⟨r2, hr5, hL1⟩ := bind_some hL1
    refine W_norm (fun l w => ∃ v9 : Value, ∃ x10 : (List (Int × (List Int))), ∃ v10 : Value, ∃ x11 : (List (Int × (List Int))), (x10, x11) = r2 ∧ l = [(5, (ptr b1 0)), (9, v1), (11, v9), (12, v10), (27, v3), (28, (.int .i64 (List.length x2 : Int))), (29, (.int .i64 x5))] ∧ Ctx [] w0 w [Item.rhole v3 (x2 : (List (Int × (List Int)))) (Int.toNat x5) [(.int .i64 x8.1), v8], Item.own v10 (x11 : (List (Int × (List Int)))), Item.own v9 (x10 : (List (Int × (List Int)))), Item.own v1 (x1.1 : (List (List Int))), Item.box b1 [u3]]) ?_ ?_
    ·refine W_cond rfl (fun hc3 => ?_) (fun hc3 => ?_)
     ·replace hr5 := ite_t hr5 hc3
      refine W_reg ?_
      refine WL_move rfl rfl ?_
      refine WL_load_box_agg [(.int .i64 x8.1), v8] hC21 0 rfl rfl rfl Tryz.isAgg88 Tryz.sizeOf88 rfl rfl ?_
      refine WL_buildSlice (vs := [(.agg #[(.int .i64 x8.1), v8])]) hC21 Tryz.underlying31 ty88 rfl rfl rfl rfl (by intro v hv; simp only [List.mem_cons, List.not_mem_nil, or_false] at hv; rcases hv with rfl <;> rfl) rfl rfl (fun b6 w12 hC23 hB10 => ?_)
      have hC24 := hC23.row0 (α := (Int × (List Int)))
      have hC26 := hC24.f3
      have hC25 := own_st88 x8.1 v8 x8.2 hC26
      have hC27 := hC25.row1
      have hC28 := hC27.front 1 rfl
      dsimp only [List.eraseIdx, List.cons_append, List.nil_append, List.append_nil] at hC28
      have hC29 : Ctx [] w0 w12 (Item.own (.slice (some ⟨b6, 0, none⟩) 1 1) ([(x8.1, x8.2)] : List (Int × (List Int))) :: [Item.box b5 [(.int .i64 x8.1), v8], Item.rhole v3 (x2 : (List (Int × (List Int)))) (Int.toNat x5) [(.int .i64 x8.1), v8], Item.own v5 (x4 : (List (Int × (List Int)))), Item.own v4 (x3 : (List (Int × (List Int)))), Item.own v1 (x1.1 : (List (List Int))), Item.box b1 [u3]]) := hC28.rowOwn (by simp [maxLen])
      obtain ⟨x12, hx2, hr5⟩ := bind_some hr5
      refine WL_append_head hC29 2 rfl Tryz.underlying31 ty88 rfl hx2 rfl rfl rfl (fun v11 w13 hC30 => ?_)
      try dsimp only [List.set] at hC30
      refine WL_assign rfl rfl ?_
      refine WL_nil ?_
      have hq2 := Option.some.inj hr5
      subst hq2
      have hC32 := hC30.f5
      have hC33 := hC32.f5
      have hC34 := hC33.f5
      have hC35 := hC34.f5
      have hC36 := hC35.f5
      have hC37 := hC36.h5
      refine nrm_sub (l' := [(5, (ptr b1 0)), (9, v1), (11, v4), (12, v11), (27, v3), (28, (.int .i64 (List.length x2 : Int))), (29, (.int .i64 x5))]) ⟨rfl, rfl, rfl, rfl, rfl, rfl, rfl, trivial⟩ ?_
      exact ⟨v4, x3, v11, x12, rfl, rfl, hC37⟩
     replace hr5 := ite_f hr5 hc3
     refine W_reg ?_
     refine WL_move rfl rfl ?_
     refine WL_load_box_agg [(.int .i64 x8.1), v8] hC21 0 rfl rfl rfl Tryz.isAgg88 Tryz.sizeOf88 rfl rfl ?_
     refine WL_buildSlice (vs := [(.agg #[(.int .i64 x8.1), v8])]) hC21 Tryz.underlying31 ty88 rfl rfl rfl rfl (by intro v hv; simp only [List.mem_cons, List.not_mem_nil, or_false] at hv; rcases hv with rfl <;> rfl) rfl rfl (fun b7 w14 hC38 hB11 => ?_)
     have hC39 := hC38.row0 (α := (Int × (List Int)))
     have hC41 := hC39.f3
     have hC40 := own_st88 x8.1 v8 x8.2 hC41
     have hC42 := hC40.row1
     have hC43 := hC42.front 1 rfl
     dsimp only [List.eraseIdx, List.cons_append, List.nil_append, List.append_nil] at hC43
     have hC44 : Ctx [] w0 w14 (Item.own (.slice (some ⟨b7, 0, none⟩) 1 1) ([(x8.1, x8.2)] : List (Int × (List Int))) :: [Item.box b5 [(.int .i64 x8.1), v8], Item.rhole v3 (x2 : (List (Int × (List Int)))) (Int.toNat x5) [(.int .i64 x8.1), v8], Item.own v5 (x4 : (List (Int × (List Int)))), Item.own v4 (x3 : (List (Int × (List Int)))), Item.own v1 (x1.1 : (List (List Int))), Item.box b1 [u3]]) := hC43.rowOwn (by simp [maxLen])
     obtain ⟨x13, hx3, hr5⟩ := bind_some hr5
     refine WL_append_head hC44 3 rfl Tryz.underlying31 ty88 rfl hx3 rfl rfl rfl (fun v12 w15 hC45 => ?_)
     try dsimp only [List.set] at hC45
     refine WL_assign rfl rfl ?_
     refine WL_nil ?_
     have hq3 := Option.some.inj hr5
     subst hq3
     have hC47 := hC45.f5
     have hC48 := hC47.f5
     have hC49 := hC48.f5
     have hC50 := hC49.f5
     have hC51 := hC50.f5
     have hC52 := hC51.h5
     refine nrm_sub (l' := [(5, (ptr b1 0)), (9, v1), (11, v12), (12, v5), (27, v3), (28, (.int .i64 (List.length x2 : Int))), (29, (.int .i64 x5))]) ⟨rfl, rfl, rfl, rfl, rfl, rfl, rfl, trivial⟩ ?_
     exact ⟨v12, x13, v5, x4, rfl, rfl, hC52⟩
    rintro l2 _ w11 hs2 ⟨v9, x10, v10, x11, rfl, rfl, hC22⟩
    try dsimp only at hL1
    refine blk_normal ?_
    refine nrm_sub' hs2 ?_
    clear hs2
    refine W_reg ?_
    refine WL_add rfl rfl rfl ?_
    refine WL_move rfl rfl ?_
    refine WL_nil ?_
    have hC53 := Ctx.rholeNext hx1 hC22
    refine nrm_sub (l' := [(5, (ptr b1 0)), (9, v1), (11, v9), (12, v10), (27, v3), (28, (.int .i64 (List.length x2 : Int))), (29, (.int .i64 (w64 (x5 + 1))))]) ⟨rfl, rfl, rfl, rfl, rfl, rfl, rfl, trivial⟩ ?_
    exact ⟨k1, Nat.lt_succ_self _, v9, x10, v10, x11, w64 (x5 + 1), rfl, hC53, hL1⟩
   replace hL1 := ite_f hL1 hc2
   refine W_exit (nrm_exit (nrm_exit (blk_exit ?_)))
   have hq4 := Option.some.inj hL1
   subst hq4
   have hC54 := hC16.f2
   have hC55 := hC54.f2
   have hC56 := hC55.h2
   refine nrm_sub (l' := [(11, v4), (12, v5)]) ⟨rfl, rfl, trivial⟩ ?_
   exact ⟨v4, x3, v5, x4, rfl, rfl, hC56⟩
 rintro l3 _ w16 hs3 ⟨v6, x6, v7, x7, rfl, rfl, hC57⟩
 try dsimp only at hF
 refine nrm_sub' hs3 ?_
 clear hs3
 refine W_seq_reg ?_
 refine WL_move rfl rfl ?_
 refine WL_move rfl rfl ?_
 refine WL_assign rfl rfl ?_
 refine WL_assign rfl rfl ?_
 refine WL_assign rfl rfl ?_
 refine WL_nil (W_ret ?_)
 have hq5 := Option.some.inj hF
 subst hq5
 refine fn_ret3 rfl rfl rfl rfl ?_
 have hC58 := hC57.triv (bool_val (true))
 have hC59 := hC58.f1
 have hC60 := hC59.f2
 exact ⟨_, rfl, res3_of hC60⟩

theorem c_M_DoubtedFacts {w0 : World} (a1 : (List Int)) (u1 : Value) (g1 : RO [] w0 u1 a1) (a2 : (List (Int × (List Int) × Int × Int × Int))) (u2 : Value) (g2 : RO [] w0 u2 a2) (a3 : (List ((Int × (List Int)) × (List (Int × (List Int)))))) (u3 : Value) (g3 : RO [] w0 u3 a3) (rr : (List (Int × (List Int)))) (hF : M.DoubtedFacts a1 a2 a3 = some rr) :
 Calls Tryz.prog 63 [u1, u2, u3].toArray w0 fun e w' => ∃ v, e = .returned v ∧ Res w0 rr v w' := by
 refine calls_of_W Tryz.func63 rfl rfl ?_
 have hC0 := Ctx.start w0
 unfold M.DoubtedFacts at hF
 refine W_seq_reg ?_
 refine WL_assign rfl rfl ?_
 refine WL_nil (W_seq_reg ?_)
 refine WL_move rfl rfl ?_
 refine WL_move rfl rfl ?_
 refine WL_move rfl rfl ?_
 obtain ⟨x1, hr1, hF⟩ := bind_some hF
 refine WL_call Tryz.call118 rfl rfl (c_M_parted a1 u1 (g1.now hC0.keep) a2 u2 (g2.now hC0.keep) a3 u3 (g3.now hC0.keep) x1 hr1) ?_
 rintro _ w1 ⟨hB1, v1, v2, v3, F1, F2, F3, rfl, hv1, hv2, hv3, hn1, hb1⟩
 obtain ⟨rfl, rfl⟩ := val_bool hv3
 have hC1 := hC0.pushL hB1 (Bs := [Item.own v1 x1.1, Item.own v2 x1.2.1]) (Fs := [F1, F2]) ⟨F1, _, rfl, hv1, F2, _, rfl, hv2, rfl⟩ (by simpa using hn1) (fun b h => hb1 b (by simpa using h))
 refine WL_move rfl rfl ?_
 refine WL_extract rfl rfl rfl ?_
 refine WL_extract rfl rfl rfl ?_
 refine WL_extract rfl rfl rfl ?_
 refine WL_assign rfl rfl ?_
 refine WL_assign rfl rfl ?_
 refine WL_assign rfl rfl ?_
 refine WL_nil (W_seq_reg ?_)
 refine WL_move rfl rfl ?_
 refine WL_assign rfl rfl ?_
 refine WL_nil (W_ret ?_)
 have hq1 := Option.some.inj hF
 subst hq1
 refine fn_ret1 rfl rfl ?_
 exact ⟨_, rfl, own_res hC1 1 rfl⟩

theorem c_Q_FnExactDoubtedFacts {w0 : World} (a1 : (List Int)) (u1 : Value) (g1 : RO [] w0 u1 a1) (a2 : (List (Int × (List Int) × Int × Int × Int))) (u2 : Value) (g2 : RO [] w0 u2 a2) (a3 : (List ((Int × (List Int)) × (List (Int × (List Int)))))) (u3 : Value) (g3 : RO [] w0 u3 a3) (rr : Bool) (hF : Q.FnExactDoubtedFacts a1 a2 a3 = some rr) :
 Calls Tryz.prog 8 [u1, u2, u3].toArray w0 fun e w' => ∃ v, e = .returned v ∧ Res w0 rr v w' := by
 refine calls_of_W Tryz.func8 rfl rfl ?_
 have hC0 := Ctx.start w0
 unfold Q.FnExactDoubtedFacts at hF
 refine W_seq_reg ?_
 refine WL_assign rfl rfl ?_
 refine WL_nil (W_seq (W_seq_reg ?_))
 refine WL_move rfl rfl ?_
 refine WL_len Tryz.underlying24 g1 rfl rfl ?_
 refine WL_gtr rfl rfl rfl ?_
 refine WL_nil ?_
 refine W_cond rfl (fun hc1 => ?_) (fun hc1 => ?_)
 ·replace hF := ite_t hF hc1
  refine W_seq_reg ?_
  refine WL_assign rfl rfl ?_
  refine WL_nil (W_ret (nrm_ret ?_))
  have hq1 := Option.some.inj hF
  subst hq1
  refine fn_ret1 rfl rfl ?_
  exact ⟨_, rfl, bool_res hC0 _⟩
 replace hF := ite_f hF hc1
 refine W_skip (nrm_normal (W_seq_reg ?_))
 refine WL_assign rfl rfl ?_
 refine WL_nil (W_seq_reg ?_)
 refine WL_move rfl rfl ?_
 refine WL_move rfl rfl ?_
 obtain ⟨x1, hr1, hF⟩ := bind_some hF
 refine WL_call Tryz.call34 rfl rfl (c_Q_szMethodS a2 u2 (g2.now hC0.keep) 1048576 x1 hr1) ?_
 intro _ w1 hv1
 obtain ⟨rfl, hB1⟩ := res_int hv1
 have hC1 := hC0.grow hB1
 refine WL_assign rfl rfl ?_
 refine WL_nil (W_seq (W_seq_reg ?_))
 refine WL_move rfl rfl ?_
 refine WL_lss rfl rfl rfl ?_
 refine WL_nil ?_
 refine W_cond rfl (fun hc2 => ?_) (fun hc2 => ?_)
 ·replace hF := ite_t hF hc2
  refine W_seq_reg ?_
  refine WL_assign rfl rfl ?_
  refine WL_nil (W_ret (nrm_ret ?_))
  have hq2 := Option.some.inj hF
  subst hq2
  refine fn_ret1 rfl rfl ?_
  exact ⟨_, rfl, bool_res hC1 _⟩
 replace hF := ite_f hF hc2
 refine W_skip (nrm_normal (W_seq_reg ?_))
 refine WL_move rfl rfl ?_
 refine WL_move rfl rfl ?_
 obtain ⟨x2, hr2, hF⟩ := bind_some hF
 refine WL_call Tryz.call35 rfl rfl (c_Q_szToldS a3 u3 (g3.now hC1.keep) x1 x2 hr2) ?_
 intro _ w2 hv2
 obtain ⟨rfl, hB2⟩ := res_int hv2
 have hC2 := hC1.grow hB2
 refine WL_assign rfl rfl ?_
 refine WL_nil (W_seq (W_seq_reg ?_))
 refine WL_move rfl rfl ?_
 refine WL_lss rfl rfl rfl ?_
 refine WL_nil ?_
 refine W_cond rfl (fun hc3 => ?_) (fun hc3 => ?_)
 ·replace hF := ite_t hF hc3
  refine W_seq_reg ?_
  refine WL_assign rfl rfl ?_
  refine WL_nil (W_ret (nrm_ret ?_))
  have hq3 := Option.some.inj hF
  subst hq3
  refine fn_ret1 rfl rfl ?_
  exact ⟨_, rfl, bool_res hC2 _⟩
 replace hF := ite_f hF hc3
 refine W_skip (nrm_normal (W_seq_reg ?_))
 refine WL_move rfl rfl ?_
 obtain ⟨x3, hr3, hF⟩ := bind_some hF
 refine WL_call Tryz.call37 rfl rfl (c_Q_toIntS a1 u1 (g1.now hC2.keep) x3 hr3) ?_
 rintro v1 w3 ⟨hB3, F1, hv3, hn1, hb1⟩
 have hC3 := hC2.push hB3 (A := Item.own v1 x3) hv3 hn1 hb1
 refine WL_move rfl rfl ?_
 obtain ⟨x4, hr4, hF⟩ := bind_some hF
 refine WL_call Tryz.call38 rfl rfl (c_Q_toMethodS a2 u2 (g2.now hC3.keep) x4 hr4) ?_
 rintro v2 w4 ⟨hB4, F2, hv4, hn2, hb2⟩
 have hC4 := hC3.push hB4 (A := Item.own v2 x4) hv4 hn2 hb2
 refine WL_move rfl rfl ?_
 obtain ⟨x5, hr5, hF⟩ := bind_some hF
 refine WL_call Tryz.call39 rfl rfl (c_Q_toToldS a3 u3 (g3.now hC4.keep) x5 hr5) ?_
 rintro v3 w5 ⟨hB5, F3, hv5, hn3, hb3⟩
 have hC5 := hC4.push hB5 (A := Item.own v3 x5) hv5 hn3 hb3
 obtain ⟨x6, hr6, hF⟩ := bind_some hF
 refine WL_call Tryz.call62 rfl rfl (c_S_DoubtedFacts x3 v1 ((hC5.ro 2 rfl).now (Keep.refl _ _)) x4 v2 ((hC5.ro 1 rfl).now (Keep.refl _ _)) x5 v3 ((hC5.ro 0 rfl).now (Keep.refl _ _)) x6 hr6) ?_
 rintro v4 w6 ⟨hB6, F4, hv6, hn4, hb4⟩
 have hC6 := hC5.push hB6 (A := Item.own v4 x6) hv6 hn4 hb4
 refine WL_assign rfl rfl ?_
 refine WL_nil (W_seq_reg ?_)
 refine WL_move rfl rfl ?_
 obtain ⟨x7, hr7, hF⟩ := bind_some hF
 refine WL_call Tryz.call37 rfl rfl (c_Q_toIntS a1 u1 (g1.now hC6.keep) x7 hr7) ?_
 rintro v5 w7 ⟨hB7, F5, hv7, hn5, hb5⟩
 have hC7 := hC6.push hB7 (A := Item.own v5 x7) hv7 hn5 hb5
 refine WL_assign rfl rfl ?_
 refine WL_nil (W_seq_reg ?_)
 refine WL_move rfl rfl ?_
 obtain ⟨x8, hr8, hF⟩ := bind_some hF
 refine WL_call Tryz.call38 rfl rfl (c_Q_toMethodS a2 u2 (g2.now hC7.keep) x8 hr8) ?_
 rintro v6 w9 ⟨hB8, F6, hv8, hn6, hb6⟩
 have hC8 := hC7.push hB8 (A := Item.own v6 x8) hv8 hn6 hb6
 refine WL_assign rfl rfl ?_
 refine WL_nil (W_seq_reg ?_)
 refine WL_move rfl rfl ?_
 obtain ⟨x9, hr9, hF⟩ := bind_some hF
 refine WL_call Tryz.call39 rfl rfl (c_Q_toToldS a3 u3 (g3.now hC8.keep) x9 hr9) ?_
 rintro v7 w10 ⟨hB9, F7, hv9, hn7, hb7⟩
 have hC9 := hC8.push hB9 (A := Item.own v7 x9) hv9 hn7 hb7
 refine WL_assign rfl rfl ?_
 refine WL_nil (W_seq_reg ?_)
 refine WL_move rfl rfl ?_
 refine WL_move rfl rfl ?_
 refine WL_move rfl rfl ?_
 obtain ⟨x10, hr10, hF⟩ := bind_some hF
 refine WL_call Tryz.call63 rfl rfl (c_M_DoubtedFacts x7 v5 ((hC9.ro 2 rfl).now (Keep.refl _ _)) x8 v6 ((hC9.ro 1 rfl).now (Keep.refl _ _)) x9 v7 ((hC9.ro 0 rfl).now (Keep.refl _ _)) x10 hr10) ?_
 rintro v8 w11 ⟨hB10, F8, hv10, hn8, hb8⟩
 have hC10 := hC9.push hB10 (A := Item.own v8 x10) hv10 hn8 hb8
 refine WL_assign rfl rfl ?_
 refine WL_nil (W_seq (W_seq_reg ?_))
 refine WL_move rfl rfl ?_
 refine WL_move rfl rfl ?_
 obtain ⟨x11, hr11, hF⟩ := bind_some hF
 refine WL_call Tryz.call50 rfl rfl (c_Q_eqFactS x10 v8 ((hC10.ro 0 rfl).now (Keep.refl _ _)) x6 v4 ((hC10.ro 4 rfl).now (Keep.refl _ _)) x11 hr11) ?_
 intro _ w12 hv11
 obtain ⟨rfl, hB11⟩ := res_bool hv11
 have hC11 := hC10.grow hB11
 refine WL_not rfl rfl ?_
 refine WL_nil ?_
 refine W_cond rfl (fun hc4 => ?_) (fun hc4 => ?_)
 ·replace hF := ite_t hF hc4
  refine W_seq_reg ?_
  refine WL_assign rfl rfl ?_
  refine WL_nil (W_ret (nrm_ret ?_))
  have hq4 := Option.some.inj hF
  subst hq4
  refine fn_ret1 rfl rfl ?_
  exact ⟨_, rfl, bool_res hC11 _⟩
 replace hF := ite_f hF hc4
 refine W_skip (nrm_normal (W_seq (W_seq_reg ?_)))
 refine WL_move rfl rfl ?_
 refine WL_move rfl rfl ?_
 obtain ⟨x12, hr12, hF⟩ := bind_some hF
 refine WL_call Tryz.call37 rfl rfl (c_Q_toIntS a1 u1 (g1.now hC11.keep) x12 hr12) ?_
 rintro v9 w13 ⟨hB12, F9, hv12, hn9, hb9⟩
 have hC12 := hC11.push hB12 (A := Item.own v9 x12) hv12 hn9 hb9
 obtain ⟨x13, hr13, hF⟩ := bind_some hF
 refine WL_call Tryz.call41 rfl rfl (c_Q_eqIntS x7 v5 ((hC12.ro 4 rfl).now (Keep.refl _ _)) x12 v9 ((hC12.ro 0 rfl).now (Keep.refl _ _)) x13 hr13) ?_
 intro _ w14 hv13
 obtain ⟨rfl, hB13⟩ := res_bool hv13
 have hC13 := hC12.grow hB13
 refine WL_not rfl rfl ?_
 refine WL_nil ?_
 refine W_cond rfl (fun hc5 => ?_) (fun hc5 => ?_)
 ·replace hF := ite_t hF hc5
  refine W_seq_reg ?_
  refine WL_assign rfl rfl ?_
  refine WL_nil (W_ret (nrm_ret ?_))
  have hq5 := Option.some.inj hF
  subst hq5
  refine fn_ret1 rfl rfl ?_
  exact ⟨_, rfl, bool_res hC13 _⟩
 replace hF := ite_f hF hc5
 refine W_skip (nrm_normal (W_seq (W_seq_reg ?_)))
 refine WL_move rfl rfl ?_
 refine WL_move rfl rfl ?_
 obtain ⟨x14, hr14, hF⟩ := bind_some hF
 refine WL_call Tryz.call38 rfl rfl (c_Q_toMethodS a2 u2 (g2.now hC13.keep) x14 hr14) ?_
 rintro v10 w15 ⟨hB14, F10, hv14, hn10, hb10⟩
 have hC14 := hC13.push hB14 (A := Item.own v10 x14) hv14 hn10 hb10
 obtain ⟨x15, hr15, hF⟩ := bind_some hF
 refine WL_call Tryz.call42 rfl rfl (c_Q_eqMethodS x8 v6 ((hC14.ro 4 rfl).now (Keep.refl _ _)) x14 v10 ((hC14.ro 0 rfl).now (Keep.refl _ _)) x15 hr15) ?_
 intro _ w16 hv15
 obtain ⟨rfl, hB15⟩ := res_bool hv15
 have hC15 := hC14.grow hB15
 refine WL_not rfl rfl ?_
 refine WL_nil ?_
 refine W_cond rfl (fun hc6 => ?_) (fun hc6 => ?_)
 ·replace hF := ite_t hF hc6
  refine W_seq_reg ?_
  refine WL_assign rfl rfl ?_
  refine WL_nil (W_ret (nrm_ret ?_))
  have hq6 := Option.some.inj hF
  subst hq6
  refine fn_ret1 rfl rfl ?_
  exact ⟨_, rfl, bool_res hC15 _⟩
 replace hF := ite_f hF hc6
 refine W_skip (nrm_normal (W_seq (W_seq_reg ?_)))
 refine WL_move rfl rfl ?_
 refine WL_move rfl rfl ?_
 obtain ⟨x16, hr16, hF⟩ := bind_some hF
 refine WL_call Tryz.call39 rfl rfl (c_Q_toToldS a3 u3 (g3.now hC15.keep) x16 hr16) ?_
 rintro v11 w17 ⟨hB16, F11, hv16, hn11, hb11⟩
 have hC16 := hC15.push hB16 (A := Item.own v11 x16) hv16 hn11 hb11
 obtain ⟨x17, hr17, hF⟩ := bind_some hF
 refine WL_call Tryz.call43 rfl rfl (c_Q_eqToldS x9 v7 ((hC16.ro 4 rfl).now (Keep.refl _ _)) x16 v11 ((hC16.ro 0 rfl).now (Keep.refl _ _)) x17 hr17) ?_
 intro _ w18 hv17
 obtain ⟨rfl, hB17⟩ := res_bool hv17
 have hC17 := hC16.grow hB17
 refine WL_not rfl rfl ?_
 refine WL_nil ?_
 refine W_cond rfl (fun hc7 => ?_) (fun hc7 => ?_)
 ·replace hF := ite_t hF hc7
  refine W_seq_reg ?_
  refine WL_assign rfl rfl ?_
  refine WL_nil (W_ret (nrm_ret ?_))
  have hq7 := Option.some.inj hF
  subst hq7
  refine fn_ret1 rfl rfl ?_
  exact ⟨_, rfl, bool_res hC17 _⟩
 replace hF := ite_f hF hc7
 refine W_skip (nrm_normal (W_seq_reg ?_))
 refine WL_assign rfl rfl ?_
 refine WL_nil (W_seq_reg ?_)
 refine WL_move rfl rfl ?_
 refine WL_move rfl rfl ?_
 obtain ⟨x18, hr18, hF⟩ := bind_some hF
 have hC18 := hC17.f6
 obtain ⟨Fs1, hH1, hn12, hF1, hO1, hb12⟩ := Ctx.lend2 (As := [Item.own v11 (x16 : (List ((Int × (List Int)) × (List (Int × (List Int)))))), Item.own v10 (x14 : (List (Int × (List Int) × Int × Int × Int))), Item.own v9 (x12 : (List Int)), Item.own v8 (x10 : (List (Int × (List Int)))), Item.own v7 (x9 : (List ((Int × (List Int)) × (List (Int × (List Int)))))), Item.own v6 (x8 : (List (Int × (List Int) × Int × Int × Int))), Item.own v4 (x6 : (List (Int × (List Int)))), Item.own v3 (x5 : (List ((Int × (List Int)) × (List (Int × (List Int)))))), Item.own v2 (x4 : (List (Int × (List Int) × Int × Int × Int))), Item.own v1 (x3 : (List Int))]) [Item.own v5 (x7 : (List Int))] hC18
 refine WL_call Tryz.call44 rfl rfl (c_Q_markIntS x7 v5 1 hH1 hn12 x18 hr18) ?_
 rintro _ w19 ⟨rfl, hq8⟩
 have hC19 : Ctx [] w0 w19 [Item.own v5 (x18.2 : (List Int)), Item.own v11 (x16 : (List ((Int × (List Int)) × (List (Int × (List Int)))))), Item.own v10 (x14 : (List (Int × (List Int) × Int × Int × Int))), Item.own v9 (x12 : (List Int)), Item.own v8 (x10 : (List (Int × (List Int)))), Item.own v7 (x9 : (List ((Int × (List Int)) × (List (Int × (List Int)))))), Item.own v6 (x8 : (List (Int × (List Int) × Int × Int × Int))), Item.own v4 (x6 : (List (Int × (List Int)))), Item.own v3 (x5 : (List ((Int × (List Int)) × (List (Int × (List Int)))))), Item.own v2 (x4 : (List (Int × (List Int) × Int × Int × Int))), Item.own v1 (x3 : (List Int))] := hb12 _ _ hq8
 refine WL_assign rfl rfl ?_
 refine WL_nil (W_seq_reg ?_)
 refine WL_move rfl rfl ?_
 refine WL_move rfl rfl ?_
 obtain ⟨x19, hr19, hF⟩ := bind_some hF
 have hC20 := hC19.f6
 obtain ⟨Fs2, hH2, hn13, hF2, hO2, hb13⟩ := Ctx.lend2 (As := [Item.own v5 (x18.2 : (List Int)), Item.own v11 (x16 : (List ((Int × (List Int)) × (List (Int × (List Int)))))), Item.own v10 (x14 : (List (Int × (List Int) × Int × Int × Int))), Item.own v9 (x12 : (List Int)), Item.own v8 (x10 : (List (Int × (List Int)))), Item.own v7 (x9 : (List ((Int × (List Int)) × (List (Int × (List Int)))))), Item.own v4 (x6 : (List (Int × (List Int)))), Item.own v3 (x5 : (List ((Int × (List Int)) × (List (Int × (List Int)))))), Item.own v2 (x4 : (List (Int × (List Int) × Int × Int × Int))), Item.own v1 (x3 : (List Int))]) [Item.own v6 (x8 : (List (Int × (List Int) × Int × Int × Int)))] hC20
 refine WL_call Tryz.call45 rfl rfl (c_Q_markMethodS x8 v6 x18.1 hH2 hn13 x19 hr19) ?_
 rintro _ w20 ⟨rfl, hq9⟩
 have hC21 : Ctx [] w0 w20 [Item.own v6 (x19.2 : (List (Int × (List Int) × Int × Int × Int))), Item.own v5 (x18.2 : (List Int)), Item.own v11 (x16 : (List ((Int × (List Int)) × (List (Int × (List Int)))))), Item.own v10 (x14 : (List (Int × (List Int) × Int × Int × Int))), Item.own v9 (x12 : (List Int)), Item.own v8 (x10 : (List (Int × (List Int)))), Item.own v7 (x9 : (List ((Int × (List Int)) × (List (Int × (List Int)))))), Item.own v4 (x6 : (List (Int × (List Int)))), Item.own v3 (x5 : (List ((Int × (List Int)) × (List (Int × (List Int)))))), Item.own v2 (x4 : (List (Int × (List Int) × Int × Int × Int))), Item.own v1 (x3 : (List Int))] := hb13 _ _ hq9
 refine WL_assign rfl rfl ?_
 refine WL_nil (W_seq_reg ?_)
 refine WL_move rfl rfl ?_
 refine WL_move rfl rfl ?_
 obtain ⟨x20, hr20, hF⟩ := bind_some hF
 have hC22 := hC21.f6
 obtain ⟨Fs3, hH3, hn14, hF3, hO3, hb14⟩ := Ctx.lend2 (As := [Item.own v6 (x19.2 : (List (Int × (List Int) × Int × Int × Int))), Item.own v5 (x18.2 : (List Int)), Item.own v11 (x16 : (List ((Int × (List Int)) × (List (Int × (List Int)))))), Item.own v10 (x14 : (List (Int × (List Int) × Int × Int × Int))), Item.own v9 (x12 : (List Int)), Item.own v8 (x10 : (List (Int × (List Int)))), Item.own v4 (x6 : (List (Int × (List Int)))), Item.own v3 (x5 : (List ((Int × (List Int)) × (List (Int × (List Int)))))), Item.own v2 (x4 : (List (Int × (List Int) × Int × Int × Int))), Item.own v1 (x3 : (List Int))]) [Item.own v7 (x9 : (List ((Int × (List Int)) × (List (Int × (List Int))))))] hC22
 refine WL_call Tryz.call46 rfl rfl (c_Q_markToldS x9 v7 x19.1 hH3 hn14 x20 hr20) ?_
 rintro _ w21 ⟨rfl, hq10⟩
 have hC23 : Ctx [] w0 w21 [Item.own v7 (x20.2 : (List ((Int × (List Int)) × (List (Int × (List Int)))))), Item.own v6 (x19.2 : (List (Int × (List Int) × Int × Int × Int))), Item.own v5 (x18.2 : (List Int)), Item.own v11 (x16 : (List ((Int × (List Int)) × (List (Int × (List Int)))))), Item.own v10 (x14 : (List (Int × (List Int) × Int × Int × Int))), Item.own v9 (x12 : (List Int)), Item.own v8 (x10 : (List (Int × (List Int)))), Item.own v4 (x6 : (List (Int × (List Int)))), Item.own v3 (x5 : (List ((Int × (List Int)) × (List (Int × (List Int)))))), Item.own v2 (x4 : (List (Int × (List Int) × Int × Int × Int))), Item.own v1 (x3 : (List Int))] := hb14 _ _ hq10
 refine WL_assign rfl rfl ?_
 refine WL_nil (W_seq ?_)
 obtain ⟨r1, hr21, hF⟩ := bind_some hF
 refine W_cut (fun l w => ∃ x21 : Bool, x21 = r1 ∧ l = [(0, u1), (1, u2), (2, u3), (8, v4), (12, v8), (82, (.bool x21))] ∧ Below w21.heap.size w21 w ∧ Ctx [] w0 w [Item.own v8 (x10 : (List (Int × (List Int)))), Item.own v4 (x6 : (List (Int × (List Int))))]) ?_ ?_
 ·refine W_reg ?_
  refine WL_move rfl rfl ?_
  refine WL_lss rfl rfl rfl ?_
  refine WL_move rfl rfl ?_
  refine WL_fork (fun hc8 => ?_) (fun hc8 => ?_)
  ·replace hr21 := ite_t hr21 hc8
   refine WL_guard_skip rfl rfl (by simp) rfl ?_
   refine WL_guard_skip rfl rfl (by simp) rfl ?_
   refine WL_guard_skip rfl rfl (by simp) rfl ?_
   refine WL_guard_skip rfl rfl (by simp) rfl ?_
   refine WL_pick_t rfl rfl rfl ?_
   refine WL_nil ?_
   have hq11 := Option.some.inj hr21
   subst hq11
   have hC25 := hC23.f7
   have hC26 := hC25.f7
   have hC27 := hC26.h2
   refine nrm_sub (l' := [(0, u1), (1, u2), (2, u3), (8, v4), (12, v8), (82, (.bool true))]) ⟨rfl, rfl, rfl, rfl, rfl, rfl, trivial⟩ ?_
   exact ⟨true, rfl, rfl, (Below.refl _ _), hC27⟩
  replace hr21 := ite_f hr21 hc8
  refine WL_guard rfl rfl ?_
  refine WL_move rfl rfl ?_
  refine WL_guard rfl rfl ?_
  refine WL_move rfl rfl ?_
  obtain ⟨x22, hr22, hr21⟩ := bind_some hr21
  refine WL_guard rfl rfl ?_
  refine WL_call Tryz.call50 rfl rfl (c_Q_eqFactS x10 v8 ((hC23.ro 6 rfl).now (Keep.refl _ _)) x6 v4 ((hC23.ro 7 rfl).now (Keep.refl _ _)) x22 hr22) ?_
  intro _ w23 hv18
  obtain ⟨rfl, hB19⟩ := res_bool hv18
  have hC28 := hC23.grow hB19
  refine WL_guard rfl rfl ?_
  refine WL_not rfl rfl ?_
  refine WL_pick_f rfl rfl rfl ?_
  refine WL_nil ?_
  have hq12 := Option.some.inj hr21
  subst hq12
  have hC29 := hC28.f7
  have hC30 := hC29.f7
  have hC31 := hC30.h2
  refine nrm_sub (l' := [(0, u1), (1, u2), (2, u3), (8, v4), (12, v8), (82, (.bool (!x22)))]) ⟨rfl, rfl, rfl, rfl, rfl, rfl, trivial⟩ ?_
  exact ⟨(!x22), rfl, rfl, (Keep.of hB19).below, hC31⟩
 rintro _ w22 ⟨x21, rfl, rfl, hB18, hC24⟩
 try dsimp only at hF
 refine W_cond rfl (fun hc9 => ?_) (fun hc9 => ?_)
 ·replace hF := ite_t hF hc9
  refine W_seq_reg ?_
  refine WL_assign rfl rfl ?_
  refine WL_nil (W_ret (nrm_ret ?_))
  have hq13 := Option.some.inj hF
  subst hq13
  refine fn_ret1 rfl rfl ?_
  exact ⟨_, rfl, bool_res hC24 _⟩
 replace hF := ite_f hF hc9
 refine W_skip (nrm_normal (W_seq_reg ?_))
 refine WL_assign rfl rfl ?_
 refine WL_nil (W_seq_reg ?_)
 refine WL_move rfl rfl ?_
 refine WL_move rfl rfl ?_
 obtain ⟨x23, hr23, hF⟩ := bind_some hF
 obtain ⟨Fs4, hH4, hn15, hF4, hO4, hb15⟩ := Ctx.lend2 (As := [Item.own v4 (x6 : (List (Int × (List Int))))]) [Item.own v8 (x10 : (List (Int × (List Int))))] hC24
 refine WL_call Tryz.call53 rfl rfl (c_Q_markFactS x10 v8 1 hH4 hn15 x23 hr23) ?_
 rintro _ w24 ⟨rfl, hq14⟩
 have hC33 : Ctx [] w0 w24 [Item.own v8 (x23.2 : (List (Int × (List Int)))), Item.own v4 (x6 : (List (Int × (List Int))))] := hb15 _ _ hq14
 refine WL_assign rfl rfl ?_
 refine WL_nil (W_seq_reg ?_)
 refine WL_assign rfl rfl ?_
 refine WL_nil (W_seq_reg ?_)
 refine WL_move rfl rfl ?_
 refine WL_move rfl rfl ?_
 obtain ⟨x24, hr24, hF⟩ := bind_some hF
 refine WL_call Tryz.call54 rfl rfl (c_Q_heldFactS x23.2 v8 ((hC33.ro 0 rfl).now (Keep.refl _ _)) 1 x24 hr24) ?_
 intro _ w25 hv19
 obtain ⟨rfl, hB20⟩ := res_int hv19
 have hC34 := hC33.grow hB20
 refine WL_assign rfl rfl ?_
 refine WL_nil (W_seq (W_seq_reg ?_))
 refine WL_move rfl rfl ?_
 refine WL_lss rfl rfl rfl ?_
 refine WL_nil ?_
 refine W_cond rfl (fun hc10 => ?_) (fun hc10 => ?_)
 ·replace hF := ite_t hF hc10
  refine W_seq_reg ?_
  refine WL_assign rfl rfl ?_
  refine WL_nil (W_ret (nrm_ret ?_))
  have hq15 := Option.some.inj hF
  subst hq15
  refine fn_ret1 rfl rfl ?_
  exact ⟨_, rfl, bool_res hC34 _⟩
 replace hF := ite_f hF hc10
 refine W_skip (nrm_normal (W_seq (W_seq_reg ?_)))
 refine WL_move rfl rfl ?_
 refine WL_move rfl rfl ?_
 refine WL_neq rfl rfl rfl ?_
 refine WL_nil ?_
 refine W_cond rfl (fun hc11 => ?_) (fun hc11 => ?_)
 ·replace hF := ite_t hF hc11
  refine W_seq_reg ?_
  refine WL_assign rfl rfl ?_
  refine WL_nil (W_ret (nrm_ret ?_))
  have hq16 := Option.some.inj hF
  subst hq16
  refine fn_ret1 rfl rfl ?_
  exact ⟨_, rfl, bool_res hC34 _⟩
 replace hF := ite_f hF hc11
 refine W_skip (nrm_normal (W_seq_reg ?_))
 refine WL_move rfl rfl ?_
 obtain ⟨x25, hr25, hF⟩ := bind_some hF
 refine WL_call Tryz.call37 rfl rfl (c_Q_toIntS a1 u1 (g1.now hC34.keep) x25 hr25) ?_
 rintro v12 w26 ⟨hB21, F12, hv20, hn16, hb16⟩
 have hC35 := hC34.push hB21 (A := Item.own v12 x25) hv20 hn16 hb16
 refine WL_move rfl rfl ?_
 obtain ⟨x26, hr26, hF⟩ := bind_some hF
 refine WL_call Tryz.call38 rfl rfl (c_Q_toMethodS a2 u2 (g2.now hC35.keep) x26 hr26) ?_
 rintro v13 w27 ⟨hB22, F13, hv21, hn17, hb17⟩
 have hC36 := hC35.push hB22 (A := Item.own v13 x26) hv21 hn17 hb17
 refine WL_move rfl rfl ?_
 obtain ⟨x27, hr27, hF⟩ := bind_some hF
 refine WL_call Tryz.call39 rfl rfl (c_Q_toToldS a3 u3 (g3.now hC36.keep) x27 hr27) ?_
 rintro v14 w28 ⟨hB23, F14, hv22, hn18, hb18⟩
 have hC37 := hC36.push hB23 (A := Item.own v14 x27) hv22 hn18 hb18
 obtain ⟨x28, hr28, hF⟩ := bind_some hF
 refine WL_call Tryz.call63 rfl rfl (c_M_DoubtedFacts x25 v12 ((hC37.ro 2 rfl).now (Keep.refl _ _)) x26 v13 ((hC37.ro 1 rfl).now (Keep.refl _ _)) x27 v14 ((hC37.ro 0 rfl).now (Keep.refl _ _)) x28 hr28) ?_
 rintro v15 w29 ⟨hB24, F15, hv23, hn19, hb19⟩
 have hC38 := hC37.push hB24 (A := Item.own v15 x28) hv23 hn19 hb19
 refine WL_assign rfl rfl ?_
 refine WL_nil (W_seq (W_seq_reg ?_))
 refine WL_move rfl rfl ?_
 refine WL_move rfl rfl ?_
 obtain ⟨x29, hr29, hF⟩ := bind_some hF
 refine WL_call Tryz.call50 rfl rfl (c_Q_eqFactS x28 v15 ((hC38.ro 0 rfl).now (Keep.refl _ _)) x6 v4 ((hC38.ro 5 rfl).now (Keep.refl _ _)) x29 hr29) ?_
 intro _ w30 hv24
 obtain ⟨rfl, hB25⟩ := res_bool hv24
 have hC39 := hC38.grow hB25
 refine WL_not rfl rfl ?_
 refine WL_nil ?_
 refine W_cond rfl (fun hc12 => ?_) (fun hc12 => ?_)
 ·replace hF := ite_t hF hc12
  refine W_seq_reg ?_
  refine WL_assign rfl rfl ?_
  refine WL_nil (W_ret (nrm_ret ?_))
  have hq17 := Option.some.inj hF
  subst hq17
  refine fn_ret1 rfl rfl ?_
  exact ⟨_, rfl, bool_res hC39 _⟩
 replace hF := ite_f hF hc12
 refine W_skip (nrm_normal (W_seq_reg ?_))
 refine WL_assign rfl rfl ?_
 refine WL_nil (W_seq_reg ?_)
 refine WL_move rfl rfl ?_
 refine WL_move rfl rfl ?_
 obtain ⟨x30, hr30, hF⟩ := bind_some hF
 refine WL_call Tryz.call54 rfl rfl (c_Q_heldFactS x23.2 v8 ((hC39.ro 4 rfl).now (Keep.refl _ _)) 1 x30 hr30) ?_
 intro _ w31 hv25
 obtain ⟨rfl, hB26⟩ := res_int hv25
 have hC40 := hC39.grow hB26
 refine WL_assign rfl rfl ?_
 refine WL_nil (W_seq (W_seq_reg ?_))
 refine WL_move rfl rfl ?_
 refine WL_lss rfl rfl rfl ?_
 refine WL_nil ?_
 refine W_cond rfl (fun hc13 => ?_) (fun hc13 => ?_)
 ·replace hF := ite_t hF hc13
  refine W_seq_reg ?_
  refine WL_assign rfl rfl ?_
  refine WL_nil (W_ret (nrm_ret ?_))
  have hq18 := Option.some.inj hF
  subst hq18
  refine fn_ret1 rfl rfl ?_
  exact ⟨_, rfl, bool_res hC40 _⟩
 replace hF := ite_f hF hc13
 refine W_skip (nrm_normal (W_seq (W_seq_reg ?_)))
 refine WL_move rfl rfl ?_
 refine WL_move rfl rfl ?_
 refine WL_neq rfl rfl rfl ?_
 refine WL_nil ?_
 refine W_cond rfl (fun hc14 => ?_) (fun hc14 => ?_)
 ·replace hF := ite_t hF hc14
  refine W_seq_reg ?_
  refine WL_assign rfl rfl ?_
  refine WL_nil (W_ret (nrm_ret ?_))
  have hq19 := Option.some.inj hF
  subst hq19
  refine fn_ret1 rfl rfl ?_
  exact ⟨_, rfl, bool_res hC40 _⟩
 replace hF := ite_f hF hc14
 refine W_skip (nrm_normal (W_seq_reg ?_))
 refine WL_assign rfl rfl ?_
 refine WL_nil (W_ret ?_)
 have hq20 := Option.some.inj hF
 subst hq20
 refine fn_ret1 rfl rfl ?_
 exact ⟨_, rfl, bool_res hC40 _⟩

end Go.Gx.Px
