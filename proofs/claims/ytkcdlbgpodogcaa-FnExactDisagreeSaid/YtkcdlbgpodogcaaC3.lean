/- The contracts of the Go functions against the pure functions, printed by program. Conditions: each says them. -/
import Derived.Test.YtkcdlbgpodogcaaC2
set_option linter.unusedVariables false
set_option linter.unusedSimpArgs false
set_option maxRecDepth 100000
set_option maxHeartbeats 4000000
namespace Go.Gx.Px
open Go.Proofs Go.RowKit

theorem c_Slices_DeleteFunc_Limpl_Fact_impl_Fact_M_matches_c1 {Fs : List (List Nat)} {w0 : World} (a1 : (List (Int × (List Int)))) (u1 : Value) (pb1 : Nat) (ax1 : (Int × (List Int) × Int × Int × Int)) (g1 : ROAt Fs.flatten w0 pb1 0 ax1) (pb2 : Nat) (ax2 : (Int × (List Int))) (g2 : ROAt Fs.flatten w0 pb2 0 ax2) (hH : Hold [Item.own u1 (a1 : (List (Int × (List Int))))] w0 Fs) (hn : Fs.flatten.Nodup) (rr : (List (Int × (List Int)))) (hF : Slices.DeleteFunc_Limpl_Fact_impl_Fact_M_matches_c1 a1 ax1 ax2 = some rr) :
    Calls Try.prog 107 [u1, (.func (.func 120) #[] #[(ptr pb1 0), (ptr pb2 0)])].toArray w0 fun e w' => ∃ v, e = .returned v ∧ ∃ q0 : Value, v = q0 ∧ Ctx Fs.flatten w0 w' [Item.own q0 (rr : (List (Int × (List Int))))] := by
  refine calls_of_W Try.func107 rfl rfl ?_
  have hC0 := Ctx.startIn hH hn
  unfold Slices.DeleteFunc_Limpl_Fact_impl_Fact_M_matches_c1 at hF
  obtain ⟨x, hx, hF⟩ := bind_some hF
  refine W_seq_reg ?_
  refine WL_assign rfl rfl ?_
  refine WL_nil ?_
  refine W_seq_reg ?_
  refine WL_move rfl rfl ?_
  refine WL_move rfl rfl ?_
  refine WL_call Try.call121 rfl rfl (c_Slices_IndexFunc_Limpl_Fact_impl_Fact_M_matches_c1 a1 u1 (hC0.ro 0 rfl) pb1 ax1 (g1.now (Keep.refl _ _)) pb2 ax2 (g2.now (Keep.refl _ _)) x hx) ?_
  intro _ w1 hv1
  obtain ⟨rfl, hB1⟩ := res_int hv1
  have hC1 := hC0.grow hB1
  refine WL_assign rfl rfl ?_
  refine WL_nil ?_
  refine W_seq ?_
  refine W_seq_reg ?_
  refine WL_move rfl rfl ?_
  refine WL_eql rfl rfl rfl ?_
  by_cases hx1 : x = -1
  · rw [if_pos hx1] at hF
    obtain rfl := Option.some.inj hF
    rw [decide_eq_true hx1]
    refine WL_nil ?_
    refine W_cond_t rfl ?_
    refine W_seq_reg ?_
    refine WL_move rfl rfl ?_
    refine WL_assign rfl rfl ?_
    refine WL_nil ?_
    refine W_ret ?_
    refine nrm_ret ?_
    refine fn_ret1 rfl rfl ?_
    exact ⟨_, rfl, _, rfl, hC1⟩
  · rw [if_neg hx1] at hF
    have hr : 0 ≤ x ∧ x < (a1.length : Int) := Classical.byContradiction fun h => by rw [if_neg h] at hF; cases hF
    rw [if_pos hr] at hF
    obtain ⟨m, rfl⟩ : ∃ m : Nat, x = m := ⟨x.toNat, by omega⟩
    have hm : m < a1.length := by omega
    have hlim := (hC0.ro 0 rfl).lt
    simp only [maxLen] at hlim
    rw [Int.toNat_natCast] at hF
    rw [decide_eq_false hx1]
    refine WL_nil ?_
    refine W_cond_f rfl ?_
    refine W_skip ?_
    refine nrm_normal ?_
    refine W_seq ?_
    refine W_seq_reg ?_
    refine WL_move rfl rfl ?_
    refine WL_add rfl rfl rfl ?_
    rw [show w64 ((m : Int) + 1) = ((m + 1 : Nat) : Int) by rw [w64_id (by omega) (by omega)]; omega]
    refine WL_assign rfl rfl ?_
    refine WL_nil ?_
    obtain ⟨b, c, rfl, hc1, hc2, hD0⟩ := hC1.del_open hm
    have hml : (a1.take m).length = m := by rw [List.length_take]; omega
    refine W_norm (fun l w => ∃ kept : List (Int × (List Int)), ∃ g : Nat, l = [(0, .slice (some ⟨b, 0, none⟩) a1.length c), (5, .int .i64 (kept.length : Int))] ∧ 0 < g ∧ kept.length + g = a1.length ∧ kept = rr ∧ Ctx Fs.flatten w0 w [Item.del b c kept g ([] : List (Int × (List Int)))]) ?_ ?_
    · refine W_block ?_
      refine W.sub (l' := [(0, .slice (some ⟨b, 0, none⟩) a1.length c), (1, (.func (.func 120) #[] #[(ptr pb1 0), (ptr pb2 0)])), (5, .int .i64 (m : Int)), (6, .int .i64 ((m + 1 : Nat) : Int))]) ?_ ⟨rfl, rfl, rfl, rfl, trivial⟩
      refine W_loop (fun k l w => ∃ kept : List (Int × (List Int)), ∃ g : Nat, ∃ rest : List (Int × (List Int)), l = [(0, .slice (some ⟨b, 0, none⟩) a1.length c), (1, (.func (.func 120) #[] #[(ptr pb1 0), (ptr pb2 0)])), (5, .int .i64 (kept.length : Int)), (6, .int .i64 ((kept.length + g : Nat) : Int))] ∧ 0 < g ∧ kept.length + g + rest.length = a1.length ∧ dfl (fun e => M.matches_c1 e ax1 ax2) kept rest = some rr ∧ k = rest.length ∧ Ctx Fs.flatten w0 w [Item.del b c kept g rest]) (a1.drop (m + 1)).length ⟨a1.take m, 1, a1.drop (m + 1), by rw [hml], by omega, by rw [hml, List.length_drop]; omega, hF, rfl, hD0⟩ ?_
      clear hF hD0
      rintro k1 _ w2 ⟨kept, g, rest, rfl, hg, hlen, hL, hk, hD⟩
      refine W_seq ?_
      refine W_seq_reg ?_
      refine WL_move rfl rfl ?_
      refine WL_move rfl rfl ?_
      refine WL_len_raw Try.underlying36 rfl rfl ?_
      refine WL_lss rfl rfl rfl ?_
      cases rest with
      | nil =>
        have hq := Option.some.inj hL
        simp only [List.length_nil, Nat.add_zero] at hlen
        rw [decide_eq_false (show ¬ ((kept.length + g : Nat) : Int) < (a1.length : Int) by omega)]
        refine WL_nil ?_
        refine W_cond_f rfl ?_
        refine W_exit ?_
        refine nrm_exit ?_
        refine nrm_exit ?_
        refine blk_exit ?_
        refine nrm_sub (l' := [(0, .slice (some ⟨b, 0, none⟩) a1.length c), (5, .int .i64 (kept.length : Int))]) ⟨rfl, rfl, trivial⟩ ?_
        exact ⟨kept, g, rfl, hg, hlen, hq, hD⟩
      | cons x rest =>
        simp only [List.length_cons] at hlen hk
        rw [decide_eq_true (show ((kept.length + g : Nat) : Int) < (a1.length : Int) by omega)]
        refine WL_nil ?_
        refine W_cond_t rfl ?_
        refine W_skip ?_
        refine nrm_normal ?_
        refine W_seq ?_
        refine W_block ?_
        refine W_seq_reg ?_
        refine WL_move rfl rfl ?_
        refine WL_move rfl rfl ?_
        refine WL_index_raw Try.underlying36 ty77 (show kept.length + g < a1.length by omega) rfl rfl rfl ?_
        obtain ⟨cs, hcs, hD1⟩ := hD.del_head
        obtain ⟨hro, row, T, hh, hrow⟩ := hD1.delh_row
        refine WL_load_raw ty77 hh (by rw [Nat.zero_add]; exact hrow) hcs rfl rfl ?_
        obtain ⟨e1, hce, _⟩ := ro_st77 hro
        obtain rfl := cells_of_agg (cs' := [(.int .i64 x.1), e1]) hce
        rw [show mkv (Rep.agg (Int × (List Int))) [(.int .i64 x.1), e1] = (.agg #[(.int .i64 x.1), e1]) from rfl]
        refine WL_alloc hD1 zero77 rfl rfl (fun b7 w3 hD2 hB2 => ?_)
        have phr := hD2.delh_ro (α := (Int × (List Int))) 1 rfl
        obtain ⟨pf0, phe, pg0⟩ := ro_st77 phr
        replace phe := cells_of_agg (cs := [(.int .i64 x.1), e1]) (cs' := [(.int .i64 x.1), pf0]) phe
        simp only [List.cons.injEq, and_true, true_and] at phe
        obtain rfl := phe
        refine WL_store_box_agg (cs' := [(.int .i64 x.1), e1]) (new := [(.int .i64 x.1), e1]) hD2 0 rfl rfl (by intro v hv; simp only [List.mem_cons, List.not_mem_nil, or_false] at hv; rcases hv with rfl | rfl; exact rfl; exact (ro_one pg0)) rfl Try.sizeOf77 rfl rfl (fun w4 hD3 => ?_)
        try dsimp only [List.set] at hD3
        refine WL_nil ?_
        refine W_seq_reg ?_
        refine WL_move rfl rfl ?_
        refine WL_load_box_agg [(.int .i64 x.1), e1] hD3 0 rfl rfl rfl Try.isAgg77 Try.sizeOf77 rfl rfl ?_
        have qhr := hD3.delh_ro (α := (Int × (List Int))) 1 rfl
        obtain ⟨qf0, qhe, qg0⟩ := ro_st77 qhr
        replace qhe := cells_of_agg (cs := [(.int .i64 x.1), e1]) (cs' := [(.int .i64 x.1), qf0]) qhe
        simp only [List.cons.injEq, and_true, true_and] at qhe
        obtain rfl := qhe
        obtain ⟨q, hq, hL⟩ := bind_some (show (M.matches_c1 x ax1 ax2).bind (fun b => dfl (fun e => M.matches_c1 e ax1 ax2) (if b then kept else kept ++ [x]) rest) = some rr from hL)
        refine WL_callv (cap := [(ptr pb1 0), (ptr pb2 0)]) Try.call120 rfl rfl rfl (c_M_matches_c1 x e1 qg0 pb1 ax1 (g1.now hD3.keep) pb2 ax2 (g2.now hD3.keep) q hq) ?_
        intro _ w5 hv2
        obtain ⟨rfl, hB5⟩ := res_bool hv2
        have hD4 := hD3.grow hB5
        refine WL_not rfl rfl ?_
        refine WL_nil ?_
        refine W_cond rfl (fun hq1 => ?_) (fun hq1 => ?_)
        · have hqf : q = false := by simpa using hq1
          rw [hqf] at hL
          rw [if_neg (by simp)] at hL
          refine W_seq_reg ?_
          refine WL_move rfl rfl ?_
          refine WL_move rfl rfl ?_
          refine WL_load_box_agg [(.int .i64 x.1), e1] hD4 0 rfl rfl rfl Try.isAgg77 Try.sizeOf77 rfl rfl ?_
          refine WL_index_raw Try.underlying36 ty77 (show kept.length < a1.length by omega) rfl rfl rfl ?_
          refine WL_store_del hD4.swap hg ty77 rfl rfl rfl (fun w6 hD5 => ?_)
          refine WL_nil ?_
          refine W_reg ?_
          refine WL_move rfl rfl ?_
          refine WL_add rfl rfl rfl ?_
          rw [show w64 ((kept.length : Int) + 1) = ((kept ++ [x]).length : Int) by rw [w64_id (by omega) (by omega), List.length_append]; rfl]
          refine WL_assign rfl rfl ?_
          refine WL_nil ?_
          refine blk_normal ?_
          refine nrm_normal ?_
          refine W_reg ?_
          refine WL_move rfl rfl ?_
          refine WL_add rfl rfl rfl ?_
          rw [show w64 (((kept.length + g : Nat) : Int) + 1) = (((kept ++ [x]).length + g : Nat) : Int) by rw [w64_id (by omega) (by omega), List.length_append]; simp only [List.length_cons, List.length_nil]; omega]
          refine WL_assign rfl rfl ?_
          refine WL_nil ?_
          refine nrm_sub (l' := [(0, .slice (some ⟨b, 0, none⟩) a1.length c), (1, (.func (.func 120) #[] #[(ptr pb1 0), (ptr pb2 0)])), (5, .int .i64 ((kept ++ [x]).length : Int)), (6, .int .i64 (((kept ++ [x]).length + g : Nat) : Int))]) ⟨rfl, rfl, rfl, rfl, trivial⟩ ?_
          exact ⟨rest.length, by omega, kept ++ [x], g, rest, rfl, hg, by rw [List.length_append]; simp only [List.length_cons, List.length_nil]; omega, hL, rfl, hD5.headN 1⟩
        · have hqt : q = true := by simpa using hq1
          rw [hqt] at hL
          rw [if_pos rfl] at hL
          refine W_skip ?_
          refine blk_normal ?_
          refine nrm_normal ?_
          refine W_reg ?_
          refine WL_move rfl rfl ?_
          refine WL_add rfl rfl rfl ?_
          rw [show w64 (((kept.length + g : Nat) : Int) + 1) = ((kept.length + (g + 1) : Nat) : Int) by rw [w64_id (by omega) (by omega)]; omega]
          refine WL_assign rfl rfl ?_
          refine WL_nil ?_
          refine nrm_sub (l' := [(0, .slice (some ⟨b, 0, none⟩) a1.length c), (1, (.func (.func 120) #[] #[(ptr pb1 0), (ptr pb2 0)])), (5, .int .i64 (kept.length : Int)), (6, .int .i64 ((kept.length + (g + 1) : Nat) : Int))]) ⟨rfl, rfl, rfl, rfl, trivial⟩ ?_
          have hD5 := (hD4.swap.headN 1).del_skip
          exact ⟨rest.length, by omega, kept, g + 1, rest, rfl, by omega, by omega, hL, rfl, hD5⟩
    · rintro l2 _ w8 hs2 ⟨kept, g, rfl, hg, hlen, rfl, hD⟩
      refine nrm_sub' hs2 ?_
      clear hs2
      refine W_seq_reg ?_
      refine WL_move rfl rfl ?_
      refine WL_move rfl rfl ?_
      refine WL_sl_l Try.underlying36 ty77 (show kept.length < c by omega) (show kept.length ≤ a1.length by omega) hc1 rfl rfl rfl ?_
      refine WL_clear_del hD Try.underlying36 ty77 zc77 (by intro v hv; simp only [List.mem_cons, List.not_mem_nil, or_false] at hv; rcases hv with rfl | rfl <;> rfl) hlen.symm rfl hg (fun w9 hD9 => ?_)
      refine WL_nil ?_
      refine W_seq_reg ?_
      refine WL_move rfl rfl ?_
      refine WL_move rfl rfl ?_
      refine WL_sl_h Try.underlying36 ty77 (hi := kept.length) (by omega) (by omega) rfl rfl rfl ?_
      refine WL_assign rfl rfl ?_
      refine WL_nil ?_
      refine W_ret ?_
      refine fn_ret1 rfl rfl ?_
      exact ⟨_, rfl, _, rfl, hD9⟩

theorem c_M_matches {w0 : World} (a1 : (List (Int × (List Int) × Int × Int × Int))) (u1 : Value) (g1 : RO [] w0 u1 a1) (a2 : (List (Int × (List Int)))) (u2 : Value) (g2 : RO [] w0 u2 a2) (a3 : (Int × (List Int))) (u3 : Value) (g3 : RO [] w0 u3 a3.2) (rr : (List (Int × (List Int)))) (hF : M.matches a1 a2 a3 = some rr) :
    Calls Try.prog 74 [u1, u2, (.agg #[(.int .i64 a3.1), u3])].toArray w0 fun e w' => ∃ v, e = .returned v ∧ Res w0 rr v w' := by
  refine calls_of_W Try.func74 rfl rfl ?_
  have hC0 := Ctx.start w0
  unfold M.matches at hF
  refine W_seq_reg ?_
  refine WL_box (cs := [(.int .i64 a3.1), u3]) hC0 rfl rfl rfl (fun b1 w1 hC1 hB1 => ?_)
  refine WL_assign rfl rfl ?_
  refine WL_nil ?_
  refine W_seq_reg ?_
  refine WL_move rfl rfl ?_
  refine WL_field Try.underlying35 rfl rfl (fun w => ⟨_, Try.sizeOf3 w⟩) rfl rfl ?_
  refine WL_load_box hC1 0 rfl rfl Try.isAgg3 rfl rfl ?_
  obtain ⟨x1, hx1, hF⟩ := bind_some hF
  refine WL_index Try.underlying33 ty110 g1 hx1 rfl rfl rfl (fun b2 o1 h1 => ?_)
  refine WL_load ty110 h1 hC1.keep rfl rfl (fun v1 h2 => ?_)
  obtain ⟨v2, rfl, h3⟩ := ro_st110 h2
  refine WL_alloc hC1 zero110 rfl rfl (fun b3 w2 hC2 hB2 => ?_)
  refine WL_store_box_agg (cs' := [(.int .i64 x1.1), v2, (.int .i64 x1.2.2.1), (.int .i64 x1.2.2.2.1), (.int .i64 x1.2.2.2.2)]) (new := [(.int .i64 x1.1), v2, (.int .i64 x1.2.2.1), (.int .i64 x1.2.2.2.1), (.int .i64 x1.2.2.2.2)]) hC2 0 rfl rfl (by intro v hv; simp only [List.mem_cons, List.not_mem_nil, or_false] at hv; rcases hv with rfl | rfl | rfl | rfl | rfl; exact rfl; exact (ro_one h3); exact rfl; exact rfl; exact rfl) rfl Try.sizeOf110 rfl rfl (fun w3 hC3 => ?_)
  try dsimp only [List.set] at hC3
  refine WL_nil ?_
  refine W_seq_reg ?_
  refine WL_move rfl rfl ?_
  obtain ⟨x2, hr1, hF⟩ := bind_some hF
  refine WL_call Try.call119 rfl rfl (c_M_copyFacts a2 u2 (g2.now hC3.keep) x2 hr1) ?_
  rintro v3 w4 ⟨hB3, F1, hv1, hn1, hb1⟩
  have hC4 := hC3.push hB3 (A := Item.own v3 x2) hv1 hn1 hb1
  refine WL_makeFunc rfl rfl ?_
  obtain ⟨x3, hr2, hF⟩ := bind_some hF
  obtain ⟨Fs1, hH1, hn2, hF1, hO1, hX1, hb2⟩ := Ctx.lend3 (As := [Item.box b3 [(.int .i64 x1.1), v2, (.int .i64 x1.2.2.1), (.int .i64 x1.2.2.2.1), (.int .i64 x1.2.2.2.2)], Item.box b1 [(.int .i64 a3.1), u3]]) [Item.own v3 (x2 : (List (Int × (List Int))))] hC4
  refine WL_call Try.call107 rfl rfl (c_Slices_DeleteFunc_Limpl_Fact_impl_Fact_M_matches_c1 x2 v3 b3 (x1.1, x1.2.1, x1.2.2.1, x1.2.2.2.1, x1.2.2.2.2) (roat_box (hX1 0 _ _ rfl) (repd_pair repd_int (repd_pair (repd_slice (RO.lent h3 hC4.keep hF1)) (repd_pair repd_int (repd_pair repd_int repd_int))))) b1 (a3.1, a3.2) (roat_box (hX1 1 _ _ rfl) (repd_pair repd_int (repd_slice (RO.lent g3 hC4.keep hF1)))) hH1 hn2 x3 hr2) ?_
  rintro v4 w5 ⟨_, rfl, hq1⟩
  have hC6 : Ctx [] w0 w5 [Item.own v4 (x3 : (List (Int × (List Int)))), Item.box b3 [(.int .i64 x1.1), v2, (.int .i64 x1.2.2.1), (.int .i64 x1.2.2.2.1), (.int .i64 x1.2.2.2.2)], Item.box b1 [(.int .i64 a3.1), u3]] := hb2 _ _ hq1
  refine WL_assign rfl rfl ?_
  refine WL_nil ?_
  refine W_ret ?_
  have hq2 := Option.some.inj hF
  subst hq2
  refine fn_ret1 rfl rfl ?_
  exact ⟨_, rfl, own_res hC6 0 rfl⟩

theorem c_M_FitsSelf {w0 : World} (a1 : (List Int)) (u1 : Value) (g1 : RO [] w0 u1 a1) (a2 : (List (Int × (List Int) × Int × Int × Int))) (u2 : Value) (g2 : RO [] w0 u2 a2) (a3 : ((Int × (List Int)) × (List (Int × (List Int))))) (u3 : Value) (g3 : RO [] w0 u3 a3.1.2) (u4 : Value) (g4 : RO [] w0 u4 a3.2) (rr : Bool) (hF : M.FitsSelf a1 a2 a3 = some rr) :
    Calls Try.prog 18 [u1, u2, (.agg #[(.int .i64 a3.1.1), u3, u4])].toArray w0 fun e w' => ∃ v, e = .returned v ∧ Res w0 rr v w' := by
  refine calls_of_W Try.func18 rfl rfl ?_
  have hC0 := Ctx.start w0
  unfold M.FitsSelf at hF
  refine W_seq_reg ?_
  refine WL_box (cs := [(.int .i64 a3.1.1), u3, u4]) hC0 rfl rfl rfl (fun b1 w1 hC1 hB1 => ?_)
  refine WL_assign rfl rfl ?_
  refine WL_nil ?_
  refine W_seq ?_
  refine W_seq_reg ?_
  refine WL_move rfl rfl ?_
  refine WL_move rfl rfl ?_
  refine WL_load_box_agg [(.int .i64 a3.1.1), u3, u4] hC1 0 rfl rfl rfl Try.isAgg38 Try.sizeOf38 rfl rfl ?_
  obtain ⟨x1, hr1, hF⟩ := bind_some hF
  refine WL_call Try.call73 rfl rfl (c_M_IsTold a1 u1 (g1.now hC1.keep) a2 u2 (g2.now hC1.keep) ((a3.1.1, a3.1.2), a3.2) u3 (g3.now hC1.keep) u4 (g4.now hC1.keep) x1 hr1) ?_
  intro _ w2 hv1
  obtain ⟨rfl, hB2⟩ := res_bool hv1
  have hC2 := hC1.grow hB2
  refine WL_not rfl rfl ?_
  refine WL_nil ?_
  refine W_cond rfl (fun hc1 => ?_) (fun hc1 => ?_)
  · replace hF := ite_t hF hc1
    refine W_seq_reg ?_
    refine WL_assign rfl rfl ?_
    refine WL_nil ?_
    refine W_ret ?_
    refine nrm_ret ?_
    have hq1 := Option.some.inj hF
    subst hq1
    refine fn_ret1 rfl rfl ?_
    exact ⟨_, rfl, bool_res hC2 _⟩
  · replace hF := ite_f hF hc1
    refine W_skip ?_
    refine nrm_normal ?_
    refine W_seq_reg ?_
    refine WL_move rfl rfl ?_
    refine WL_field Try.underlying38 rfl rfl (fun w => ⟨_, Try.sizeOf35 w⟩) rfl rfl ?_
    refine WL_field Try.underlying35 rfl rfl (fun w => ⟨_, Try.sizeOf3 w⟩) rfl rfl ?_
    refine WL_load_box hC2 0 rfl rfl Try.isAgg3 rfl rfl ?_
    obtain ⟨x2, hx1, hF⟩ := bind_some hF
    refine WL_index Try.underlying33 ty110 g2 hx1 rfl rfl rfl (fun b2 o1 h1 => ?_)
    refine WL_field Try.underlying110 rfl rfl (fun w => ⟨_, Try.sizeOf3 w⟩) rfl rfl ?_
    refine WL_load ty3 h1.snd.snd.fst hC2.keep rfl rfl (fun v1 h2 => ?_)
    obtain rfl := ro_int h2
    refine WL_assign rfl rfl ?_
    refine WL_nil ?_
    obtain ⟨r1, hr2, hF⟩ := bind_some hF
    refine W_cut (fun l w => ∃ x3 : Bool, x3 = r1 ∧ l = [(6, (.bool x3))] ∧ Below w2.heap.size w2 w ∧ Ctx [] w0 w []) ?_ ?_
    · refine W_drawn 23 rfl hmix (fun w4 hB4 => ?_)
      have hC4 := hC2.grow hB4
      refine WA_take 0 rfl (by kernel_rfl) (by kernel_rfl) (by kernel_rfl) rfl (fl_move rfl) ?_
      refine WL_move rfl rfl ?_
      refine WL_nil ?_
      refine WA_take 1 rfl (by kernel_rfl) (by kernel_rfl) (by kernel_rfl) rfl (fl_field Try.underlying38 rfl rfl (fun w => ⟨_, Try.sizeOf36 w⟩) rfl) ?_
      refine WL_field Try.underlying38 rfl rfl (fun w => ⟨_, Try.sizeOf36 w⟩) rfl rfl ?_
      refine WL_nil ?_
      refine WA_take 3 rfl (by kernel_rfl) (by kernel_rfl) (by kernel_rfl) rfl (fl_field Try.underlying38 rfl rfl (fun w => ⟨_, Try.sizeOf35 w⟩) rfl) ?_
      refine WL_field Try.underlying38 rfl rfl (fun w => ⟨_, Try.sizeOf35 w⟩) rfl rfl ?_
      refine WL_nil ?_
      refine WA_take 7 rfl (by kernel_rfl) (by kernel_rfl) (by kernel_rfl) rfl (fl_field Try.underlying38 rfl rfl (fun w => ⟨_, Try.sizeOf36 w⟩) rfl) ?_
      refine WL_field Try.underlying38 rfl rfl (fun w => ⟨_, Try.sizeOf36 w⟩) rfl rfl ?_
      refine WL_nil ?_
      obtain ⟨x4, hr3, hr2⟩ := bind_some hr2
      refine WA.sub (l' := [(0, u1), (1, u2), (2, (.agg #[(.int .i64 a3.1.1), u3, u4])), (5, (ptr b1 0)), (6, (.bool false)), (7, (.int .i64 x2.2.2.1)), (8, u1), (9, u2), (10, (.agg #[(.int .i64 a3.1.1), u3, u4])), (11, (.bool x1)), (12, (.bool (!x1))), (13, u2), (14, (ptr b1 0)), (15, (ptr b1 0)), (16, (.int .i64 a3.1.1)), (17, (ptr b2 o1)), (18, (ptr b2 (o1 + 2))), (19, (.int .i64 x2.2.2.1)), (20, u2), (21, (ptr b1 2)), (23, (ptr b1 0)), (27, (ptr b1 2))]) ?_ ⟨rfl, rfl, rfl, rfl, rfl, rfl, rfl, rfl, rfl, rfl, rfl, rfl, rfl, rfl, rfl, rfl, rfl, rfl, rfl, rfl, rfl, rfl, trivial⟩
      refine WA_postsE [⟨2, [], fun vs => PW.val u4, []⟩, ⟨4, [], fun vs => PW.val (.agg #[(.int .i64 a3.1.1), u3]), []⟩, ⟨5, [], fun vs => PW.own x4, []⟩, ⟨6, [], fun vs => PW.val (.int .i64 (List.length x4 : Int)), []⟩, ⟨8, [], fun vs => PW.val u4, []⟩, ⟨9, [], fun vs => PW.val (.int .i64 (List.length a3.2 : Int)), []⟩] [[], [], [2, 4], [5], [], [8]] 13 rfl (by kernel_rfl) (by kernel_rfl) rfl ?_ ?_
      · refine StepsE_cons rfl ?_ ?_
        · intro w6 hB6
          refine DepsE_nil ?_
          refine ⟨_, rfl, ?_⟩
          refine WL_load_box (hC4.grow hB6) 0 rfl rfl Try.isAgg36 rfl rfl ?_
          refine WL_nil ?_
          exact FinE_val (Below.refl _ _) rfl rfl ⟨rfl, rfl⟩
        refine StepsE_cons rfl ?_ ?_
        · intro w6 hB6
          refine DepsE_nil ?_
          refine ⟨_, rfl, ?_⟩
          refine WL_load_box_agg [(.int .i64 a3.1.1), u3] (hC4.grow hB6) 0 rfl rfl rfl Try.isAgg35 Try.sizeOf35 rfl rfl ?_
          refine WL_nil ?_
          exact FinE_val (Below.refl _ _) rfl rfl ⟨rfl, rfl⟩
        refine StepsE_cons rfl ?_ ?_
        · intro w6 hB6
          refine DepsE_cons rfl rfl rfl ?_
          rintro _ _ ⟨rfl, rfl⟩ _
          refine DepsE_cons rfl rfl rfl ?_
          rintro _ _ ⟨rfl, rfl⟩ _
          refine DepsE_nil ?_
          refine ⟨_, rfl, ?_⟩
          refine WL_call Try.call74 rfl rfl (c_M_matches a2 u2 (g2.now (hC4.keep.then hB6)) a3.2 u4 (g4.now (hC4.keep.then hB6)) (a3.1.1, a3.1.2) u3 (g3.now (hC4.keep.then hB6)) x4 hr3) ?_
          rintro v2 w5 ⟨hB5, F1, hv2, hn1, hb1⟩
          refine WL_nil ?_
          exact FinE_own hB5 rfl rfl hv2 hn1 hb1 (Val.inh hv2)
        refine StepsE_cons rfl ?_ ?_
        · intro w6 hB6
          refine DepsE_cons rfl rfl rfl ?_
          intro v2 F1 hv2 _
          refine DepsE_nil ?_
          refine ⟨_, rfl, ?_⟩
          refine WL_len Try.underlying36 (ro_of_own hv2) rfl rfl ?_
          refine WL_nil ?_
          exact FinE_val (Below.refl _ _) rfl rfl ⟨rfl, rfl⟩
        refine StepsE_cons rfl ?_ ?_
        · intro w6 hB6
          refine DepsE_nil ?_
          refine ⟨_, rfl, ?_⟩
          refine WL_load_box (hC4.grow hB6) 0 rfl rfl Try.isAgg36 rfl rfl ?_
          refine WL_nil ?_
          exact FinE_val (Below.refl _ _) rfl rfl ⟨rfl, rfl⟩
        refine StepsE_cons rfl ?_ ?_
        · intro w6 hB6
          refine DepsE_cons rfl rfl rfl ?_
          rintro _ _ ⟨rfl, rfl⟩ _
          refine DepsE_nil ?_
          refine ⟨_, rfl, ?_⟩
          refine WL_len Try.underlying36 g4 rfl rfl ?_
          refine WL_nil ?_
          exact FinE_val (Below.refl _ _) rfl rfl ⟨rfl, rfl⟩
        exact StepsE_nil
      · intro w7 hB7
        refine AllE_cons rfl rfl rfl ?_
        rintro _ _ ⟨rfl, rfl⟩
        refine AllE_cons rfl rfl rfl ?_
        rintro _ _ ⟨rfl, rfl⟩
        refine AllE_cons rfl rfl rfl ?_
        intro v2 F1 hv2
        refine AllE_cons rfl rfl rfl ?_
        rintro _ _ ⟨rfl, rfl⟩
        refine AllE_cons rfl rfl rfl ?_
        rintro _ _ ⟨rfl, rfl⟩
        refine AllE_cons rfl rfl rfl ?_
        rintro _ _ ⟨rfl, rfl⟩
        refine AllE_nil ?_
        intro hn2 hb2
        have hC5 := hC4.pushL hB7 (Bs := [Item.own v2 (x4 : (List (Int × (List Int))))]) (Fs := [F1]) ⟨F1, _, rfl, hv2, rfl⟩ (by simpa using hn2) (fun b h => (hb2 b (by simpa using h)).1)
        refine WA_take 10 rfl (by kernel_rfl) (by kernel_rfl) (by kernel_rfl) rfl (fl_eql rfl rfl) ?_
        refine WL_eql rfl rfl rfl ?_
        refine WL_nil ?_
        refine WA_take 11 rfl (by kernel_rfl) (by kernel_rfl) (by kernel_rfl) rfl (fl_move rfl) ?_
        refine WL_move rfl rfl ?_
        refine WL_nil ?_
        refine WA_fork (fun hc2 => ?_) (fun hc2 => ?_)
        · replace hr2 := ite_t hr2 hc2
          refine WA_takeG 12 rfl (by kernel_rfl) (by kernel_rfl) (by kernel_rfl) rfl rfl rfl (fl_move rfl) ?_
          refine WL_guard rfl rfl ?_
          refine WL_move rfl rfl ?_
          refine WL_nil ?_
          refine WA_takeG 13 rfl (by kernel_rfl) (by kernel_rfl) (by kernel_rfl) rfl rfl rfl (fl_eql rfl rfl) ?_
          refine WL_guard rfl rfl ?_
          refine WL_eql rfl rfl rfl ?_
          refine WL_nil ?_
          refine WA_takeG 14 rfl (by kernel_rfl) (by kernel_rfl) (by kernel_rfl) rfl rfl rfl (fl_move rfl) ?_
          refine WL_guard rfl rfl ?_
          refine WL_move rfl rfl ?_
          refine WL_nil ?_
          refine WA_fork (fun hc3 => ?_) (fun hc3 => ?_)
          · replace hr2 := ite_t hr2 hc3
            refine WA_skip 15 rfl (by kernel_rfl) (by kernel_rfl) (by kernel_rfl) rfl rfl rfl (by simp) rfl rfl ?_
            refine WA_skip 16 rfl (by kernel_rfl) (by kernel_rfl) (by kernel_rfl) rfl rfl rfl (by simp) rfl rfl ?_
            refine WA_skip 17 rfl (by kernel_rfl) (by kernel_rfl) (by kernel_rfl) rfl rfl rfl (by simp) rfl rfl ?_
            refine WA_skip 18 rfl (by kernel_rfl) (by kernel_rfl) (by kernel_rfl) rfl rfl rfl (by simp) rfl rfl ?_
            refine WA_skip 19 rfl (by kernel_rfl) (by kernel_rfl) (by kernel_rfl) rfl rfl rfl (by simp) rfl rfl ?_
            refine WA_takeG 20 rfl (by kernel_rfl) (by kernel_rfl) (by kernel_rfl) rfl rfl rfl (fl_pick_t rfl rfl) ?_
            refine WL_guard rfl rfl ?_
            refine WL_pick_t rfl rfl rfl ?_
            refine WL_nil ?_
            refine WA_take 21 rfl (by kernel_rfl) (by kernel_rfl) (by kernel_rfl) rfl (fl_pick_t rfl rfl) ?_
            refine WL_pick_t rfl rfl rfl ?_
            refine WL_nil ?_
            refine WA_take 22 rfl (by kernel_rfl) (by kernel_rfl) (by kernel_rfl) rfl (fl_assign rfl) ?_
            refine WL_assign rfl rfl ?_
            refine WL_nil ?_
            refine WA_done (by kernel_rfl) ?_
            have hq2 := Option.some.inj hr2
            subst hq2
            have hC6 : Ctx [] w0 _ [] := hC5.headN 0
            refine nrm_sub (l' := [(6, (.bool true))]) ⟨rfl, trivial⟩ ?_
            exact ⟨true, rfl, rfl, ((Keep.of hB4).then hB7).below, hC6⟩
          · replace hr2 := ite_f hr2 hc3
            refine WA_takeG 15 rfl (by kernel_rfl) (by kernel_rfl) (by kernel_rfl) rfl rfl rfl (fl_field Try.underlying38 rfl rfl (fun w => ⟨_, Try.sizeOf36 w⟩) rfl) ?_
            refine WL_guard rfl rfl ?_
            refine WL_field Try.underlying38 rfl rfl (fun w => ⟨_, Try.sizeOf36 w⟩) rfl rfl ?_
            refine WL_nil ?_
            refine WA_takeG 18 rfl (by kernel_rfl) (by kernel_rfl) (by kernel_rfl) rfl rfl rfl (fl_move rfl) ?_
            refine WL_guard rfl rfl ?_
            refine WL_move rfl rfl ?_
            refine WL_nil ?_
            refine WA_one 16 (by kernel_rfl) rfl ?_
            refine WL_guard rfl rfl ?_
            refine WL_load_box hC5 1 rfl rfl Try.isAgg36 rfl rfl ?_
            refine WL_nil ?_
            refine WA_takeG 17 rfl (by kernel_rfl) (by kernel_rfl) (by kernel_rfl) rfl rfl rfl (fl_len Try.underlying36 g4 rfl) ?_
            refine WL_guard rfl rfl ?_
            refine WL_len Try.underlying36 g4 rfl rfl ?_
            refine WL_nil ?_
            refine WA_takeG 19 rfl (by kernel_rfl) (by kernel_rfl) (by kernel_rfl) rfl rfl rfl (fl_leq rfl rfl) ?_
            refine WL_guard rfl rfl ?_
            refine WL_leq rfl rfl rfl ?_
            refine WL_nil ?_
            refine WA_takeG 20 rfl (by kernel_rfl) (by kernel_rfl) (by kernel_rfl) rfl rfl rfl (fl_pick_f rfl rfl) ?_
            refine WL_guard rfl rfl ?_
            refine WL_pick_f rfl rfl rfl ?_
            refine WL_nil ?_
            refine WA_take 21 rfl (by kernel_rfl) (by kernel_rfl) (by kernel_rfl) rfl (fl_pick_t rfl rfl) ?_
            refine WL_pick_t rfl rfl rfl ?_
            refine WL_nil ?_
            refine WA_take 22 rfl (by kernel_rfl) (by kernel_rfl) (by kernel_rfl) rfl (fl_assign rfl) ?_
            refine WL_assign rfl rfl ?_
            refine WL_nil ?_
            refine WA_done (by kernel_rfl) ?_
            have hq3 := Option.some.inj hr2
            subst hq3
            have hC7 : Ctx [] w0 _ [] := hC5.headN 0
            refine nrm_sub (l' := [(6, (.bool (decide ((List.length a3.2 : Int) ≤ x2.2.2.1))))]) ⟨rfl, trivial⟩ ?_
            exact ⟨(decide ((List.length a3.2 : Int) ≤ x2.2.2.1)), rfl, rfl, ((Keep.of hB4).then hB7).below, hC7⟩
        · replace hr2 := ite_f hr2 hc2
          refine WA_skip 12 rfl (by kernel_rfl) (by kernel_rfl) (by kernel_rfl) rfl rfl rfl (by simp) rfl rfl ?_
          refine WA_skip 13 rfl (by kernel_rfl) (by kernel_rfl) (by kernel_rfl) rfl rfl rfl (by simp) rfl rfl ?_
          refine WA_skip 14 rfl (by kernel_rfl) (by kernel_rfl) (by kernel_rfl) rfl rfl rfl (by simp) rfl rfl ?_
          refine WA_skip 15 rfl (by kernel_rfl) (by kernel_rfl) (by kernel_rfl) rfl rfl rfl (by simp [undef]) rfl rfl ?_
          refine WA_skip 16 rfl (by kernel_rfl) (by kernel_rfl) (by kernel_rfl) rfl rfl rfl (by simp [undef]) rfl rfl ?_
          refine WA_skip 17 rfl (by kernel_rfl) (by kernel_rfl) (by kernel_rfl) rfl rfl rfl (by simp [undef]) rfl rfl ?_
          refine WA_skip 18 rfl (by kernel_rfl) (by kernel_rfl) (by kernel_rfl) rfl rfl rfl (by simp [undef]) rfl rfl ?_
          refine WA_skip 19 rfl (by kernel_rfl) (by kernel_rfl) (by kernel_rfl) rfl rfl rfl (by simp [undef]) rfl rfl ?_
          refine WA_skip 20 rfl (by kernel_rfl) (by kernel_rfl) (by kernel_rfl) rfl rfl rfl (by simp) rfl rfl ?_
          refine WA_take 21 rfl (by kernel_rfl) (by kernel_rfl) (by kernel_rfl) rfl (fl_pick_f rfl rfl) ?_
          refine WL_pick_f rfl rfl rfl ?_
          refine WL_nil ?_
          refine WA_take 22 rfl (by kernel_rfl) (by kernel_rfl) (by kernel_rfl) rfl (fl_assign rfl) ?_
          refine WL_assign rfl rfl ?_
          refine WL_nil ?_
          refine WA_done (by kernel_rfl) ?_
          have hq4 := Option.some.inj hr2
          subst hq4
          have hC8 : Ctx [] w0 _ [] := hC5.headN 0
          refine nrm_sub (l' := [(6, (.bool false))]) ⟨rfl, trivial⟩ ?_
          exact ⟨false, rfl, rfl, ((Keep.of hB4).then hB7).below, hC8⟩
    · rintro _ w3 ⟨x3, rfl, rfl, hB3, hC3⟩
      try dsimp only at hF
      refine W_ret ?_
      have hq5 := Option.some.inj hF
      subst hq5
      refine fn_ret1 rfl rfl ?_
      exact ⟨_, rfl, bool_res hC3 _⟩

theorem c_M_HasFact_c1 {w0 : World} (a1 : (Int × (List Int))) (u1 : Value) (g1 : RO [] w0 u1 a1.2) (pb1 : Nat) (ax1 : (Int × (List Int))) (g2 : ROAt [] w0 pb1 0 ax1) (rr : Bool) (hF : M.HasFact_c1 a1 ax1 = some rr) :
    Calls Try.prog 134 [(.agg #[(.int .i64 a1.1), u1]), (ptr pb1 0)].toArray w0 fun e w' => ∃ v, e = .returned v ∧ Res w0 rr v w' := by
  refine calls_of_W Try.func134 rfl rfl ?_
  have hC0 := Ctx.start w0
  unfold M.HasFact_c1 at hF
  refine W_seq_reg ?_
  refine WL_box (cs := [(.int .i64 a1.1), u1]) hC0 rfl rfl rfl (fun b1 w1 hC1 hB1 => ?_)
  refine WL_assign rfl rfl ?_
  refine WL_nil ?_
  refine W_seq_reg ?_
  refine WL_load_box_agg [(.int .i64 a1.1), u1] hC1 0 rfl rfl rfl Try.isAgg77 Try.sizeOf77 rfl rfl ?_
  refine WL_load ty77 g2 hC1.keep rfl rfl (fun v1 h1 => ?_)
  obtain ⟨v2, rfl, h2⟩ := ro_st77 h1
  obtain ⟨x1, hr1, hF⟩ := bind_some hF
  refine WL_call Try.call109 rfl rfl (c_M_CompareFacts (a1.1, a1.2) u1 (g1.now hC1.keep) ax1 v2 (h2.now hC1.keep) x1 hr1) ?_
  intro _ w2 hv1
  obtain ⟨rfl, hB2⟩ := res_int hv1
  have hC2 := hC1.grow hB2
  refine WL_eql rfl rfl rfl ?_
  refine WL_assign rfl rfl ?_
  refine WL_nil ?_
  refine W_ret ?_
  have hq1 := Option.some.inj hF
  subst hq1
  refine fn_ret1 rfl rfl ?_
  exact ⟨_, rfl, bool_res hC2 _⟩

theorem c_Slices_IndexFunc_Limpl_Fact_impl_Fact_M_HasFact_c1 {w0 : World} (a1 : (List (Int × (List Int)))) (u1 : Value) (g1 : RO [] w0 u1 a1) (pb1 : Nat) (ax1 : (Int × (List Int))) (g2 : ROAt [] w0 pb1 0 ax1) (rr : Int) (hF : Slices.IndexFunc_Limpl_Fact_impl_Fact_M_HasFact_c1 a1 ax1 = some rr) :
    Calls Try.prog 121 [u1, (.func (.func 134) #[] #[(ptr pb1 0)])].toArray w0 fun e w' => ∃ v, e = .returned v ∧ Res w0 rr v w' := by
  refine calls_of_W Try.func121 rfl rfl ?_
  have hC0 := Ctx.start w0
  unfold Slices.IndexFunc_Limpl_Fact_impl_Fact_M_HasFact_c1 at hF
  refine W_seq_reg ?_
  refine WL_assign rfl rfl ?_
  refine WL_nil ?_
  refine W_seq ?_
  refine W_seq_reg ?_
  refine WL_move rfl rfl ?_
  refine WL_len Try.underlying36 g1 rfl rfl ?_
  refine WL_move rfl rfl ?_
  refine WL_nil ?_
  obtain ⟨r1, hr1, hF⟩ := bind_some hF
  refine W_norm (fun l w => .inl () = r1 ∧ l = [] ∧ Below w0.heap.size w0 w ∧ Ctx [] w0 w []) ?_ ?_
  · refine W_block ?_
    refine W.sub (l' := [(0, u1), (1, (.func (.func 134) #[] #[(ptr pb1 0)])), (7, (.int .i64 (List.length a1 : Int))), (8, (.int .i64 0))]) ?_ ⟨rfl, rfl, rfl, rfl, trivial⟩
    refine W_loop (fun k l w => ∃ x1 : Int, l = [(0, u1), (1, (.func (.func 134) #[] #[(ptr pb1 0)])), (7, (.int .i64 (List.length a1 : Int))), (8, (.int .i64 x1))] ∧ Below w0.heap.size w0 w ∧ Ctx [] w0 w [] ∧ Slices.IndexFunc_Limpl_Fact_impl_Fact_M_HasFact_c1_l1 a1 ax1 k x1 = some r1) FUEL ⟨0, rfl, (Below.refl _ _), hC0, hr1⟩ ?_
    clear hr1
    rintro k1 _ w1 ⟨x1, rfl, hB1, hC1, hL1⟩
    cases k1 with
    | zero => rw [Slices.IndexFunc_Limpl_Fact_impl_Fact_M_HasFact_c1_l1] at hL1; cases hL1
    | succ k1 =>
      rw [Slices.IndexFunc_Limpl_Fact_impl_Fact_M_HasFact_c1_l1] at hL1
      refine W_seq_reg ?_
      refine WL_lss rfl rfl rfl ?_
      refine WL_nil ?_
      refine W_seq ?_
      refine W_cond rfl (fun hc1 => ?_) (fun hc1 => ?_)
      · replace hL1 := ite_t hL1 hc1
        refine W_skip ?_
        refine nrm_normal ?_
        refine W_seq ?_
        refine W_block ?_
        refine W_seq_reg ?_
        refine WL_move rfl rfl ?_
        refine WL_assign rfl rfl ?_
        refine WL_nil ?_
        refine W_seq_reg ?_
        refine WL_move rfl rfl ?_
        refine WL_move rfl rfl ?_
        refine WL_move rfl rfl ?_
        obtain ⟨x2, hx1, hL1⟩ := bind_some hL1
        refine WL_index Try.underlying36 ty77 g1 hx1 rfl rfl rfl (fun b1 o1 h1 => ?_)
        refine WL_load ty77 h1 hC1.keep rfl rfl (fun v1 h2 => ?_)
        obtain ⟨v2, rfl, h3⟩ := ro_st77 h2
        obtain ⟨x3, hr2, hL1⟩ := bind_some hL1
        refine WL_callv (cap := [(ptr pb1 0)]) Try.call134 rfl rfl rfl (c_M_HasFact_c1 x2 v2 (h3.now hC1.keep) pb1 ax1 (g2.now hC1.keep) x3 hr2) ?_
        intro _ w2 hv1
        obtain ⟨rfl, hB2⟩ := res_bool hv1
        have hC2 := hC1.grow hB2
        refine WL_nil ?_
        refine W_cond rfl (fun hc2 => ?_) (fun hc2 => ?_)
        · replace hL1 := ite_t hL1 hc2
          refine W_seq_reg ?_
          refine WL_move rfl rfl ?_
          refine WL_assign rfl rfl ?_
          refine WL_nil ?_
          refine W_ret ?_
          refine blk_ret ?_
          refine nrm_ret ?_
          refine nrm_ret ?_
          refine blk_ret ?_
          refine nrm_ret ?_
          refine nrm_ret ?_
          have hq1 := Option.some.inj hL1
          subst hq1
          dsimp only at hF
          have hq2 := Option.some.inj hF
          subst hq2
          refine fn_ret1 rfl rfl ?_
          exact ⟨_, rfl, int_res hC2 _⟩
        · replace hL1 := ite_f hL1 hc2
          refine W_skip ?_
          refine blk_normal ?_
          refine nrm_normal ?_
          refine W_reg ?_
          refine WL_add rfl rfl rfl ?_
          refine WL_move rfl rfl ?_
          refine WL_nil ?_
          refine nrm_sub (l' := [(0, u1), (1, (.func (.func 134) #[] #[(ptr pb1 0)])), (7, (.int .i64 (List.length a1 : Int))), (8, (.int .i64 (w64 (x1 + 1))))]) ⟨rfl, rfl, rfl, rfl, trivial⟩ ?_
          exact ⟨k1, Nat.lt_succ_self _, w64 (x1 + 1), rfl, ((Keep.of hB1).then hB2).below, hC2, hL1⟩
      · replace hL1 := ite_f hL1 hc1
        refine W_exit ?_
        refine nrm_exit ?_
        refine nrm_exit ?_
        refine blk_exit ?_
        have hq3 := Option.some.inj hL1
        subst hq3
        refine nrm_sub (l' := []) trivial ?_
        exact ⟨rfl, rfl, (Keep.of hB1).below, hC1⟩
  · rintro l2 _ w3 hs2 ⟨rfl, rfl, hB3, hC3⟩
    try dsimp only at hF
    refine nrm_sub' hs2 ?_
    clear hs2
    refine W_seq_reg ?_
    refine WL_assign rfl rfl ?_
    refine WL_nil ?_
    refine W_ret ?_
    have hq4 := Option.some.inj hF
    subst hq4
    refine fn_ret1 rfl rfl ?_
    exact ⟨_, rfl, int_res hC3 _⟩

theorem c_Slices_ContainsFunc_Limpl_Fact_impl_Fact_M_HasFact_c1 {w0 : World} (a1 : (List (Int × (List Int)))) (u1 : Value) (g1 : RO [] w0 u1 a1) (pb1 : Nat) (ax1 : (Int × (List Int))) (g2 : ROAt [] w0 pb1 0 ax1) (rr : Bool) (hF : Slices.ContainsFunc_Limpl_Fact_impl_Fact_M_HasFact_c1 a1 ax1 = some rr) :
    Calls Try.prog 81 [u1, (.func (.func 134) #[] #[(ptr pb1 0)])].toArray w0 fun e w' => ∃ v, e = .returned v ∧ Res w0 rr v w' := by
  refine calls_of_W Try.func81 rfl rfl ?_
  have hC0 := Ctx.start w0
  unfold Slices.ContainsFunc_Limpl_Fact_impl_Fact_M_HasFact_c1 at hF
  refine W_seq_reg ?_
  refine WL_assign rfl rfl ?_
  refine WL_nil ?_
  refine W_seq_reg ?_
  refine WL_move rfl rfl ?_
  refine WL_move rfl rfl ?_
  obtain ⟨x1, hr1, hF⟩ := bind_some hF
  refine WL_call Try.call121 rfl rfl (c_Slices_IndexFunc_Limpl_Fact_impl_Fact_M_HasFact_c1 a1 u1 (g1.now hC0.keep) pb1 ax1 (g2.now hC0.keep) x1 hr1) ?_
  intro _ w1 hv1
  obtain ⟨rfl, hB1⟩ := res_int hv1
  have hC1 := hC0.grow hB1
  refine WL_geq rfl rfl rfl ?_
  refine WL_assign rfl rfl ?_
  refine WL_nil ?_
  refine W_ret ?_
  have hq1 := Option.some.inj hF
  subst hq1
  refine fn_ret1 rfl rfl ?_
  exact ⟨_, rfl, bool_res hC1 _⟩

theorem c_M_HasFact {w0 : World} (a1 : (List (Int × (List Int)))) (u1 : Value) (g1 : RO [] w0 u1 a1) (a2 : (Int × (List Int))) (u2 : Value) (g2 : RO [] w0 u2 a2.2) (rr : Bool) (hF : M.HasFact a1 a2 = some rr) :
    Calls Try.prog 104 [u1, (.agg #[(.int .i64 a2.1), u2])].toArray w0 fun e w' => ∃ v, e = .returned v ∧ Res w0 rr v w' := by
  refine calls_of_W Try.func104 rfl rfl ?_
  have hC0 := Ctx.start w0
  unfold M.HasFact at hF
  refine W_seq_reg ?_
  refine WL_box (cs := [(.int .i64 a2.1), u2]) hC0 rfl rfl rfl (fun b1 w1 hC1 hB1 => ?_)
  refine WL_assign rfl rfl ?_
  refine WL_nil ?_
  refine W_seq_reg ?_
  refine WL_move rfl rfl ?_
  refine WL_makeFunc rfl rfl ?_
  obtain ⟨x1, hr1, hF⟩ := bind_some hF
  refine WL_call Try.call81 rfl rfl (c_Slices_ContainsFunc_Limpl_Fact_impl_Fact_M_HasFact_c1 a1 u1 (g1.now hC1.keep) b1 (a2.1, a2.2) (hC1.boxAt 0 rfl (repw_pair repw_int (repw_slice (g2.now hC1.keep)))) x1 hr1) ?_
  intro _ w2 hv1
  obtain ⟨rfl, hB2⟩ := res_bool hv1
  have hC2 := hC1.grow hB2
  refine WL_assign rfl rfl ?_
  refine WL_nil ?_
  refine W_ret ?_
  have hq1 := Option.some.inj hF
  subst hq1
  refine fn_ret1 rfl rfl ?_
  exact ⟨_, rfl, bool_res hC2 _⟩

theorem c_M_Told_denies {w0 : World} (a1 : ((Int × (List Int)) × (List (Int × (List Int))))) (u1 : Value) (g1 : RO [] w0 u1 a1.1.2) (u2 : Value) (g2 : RO [] w0 u2 a1.2) (a2 : (List (Int × (List Int) × Int × Int × Int))) (u3 : Value) (g3 : RO [] w0 u3 a2) (a3 : (Int × (List Int))) (u4 : Value) (g4 : RO [] w0 u4 a3.2) (rr : Bool) (hF : M.Told_denies a1 a2 a3 = some rr) :
    Calls Try.prog 83 [(.agg #[(.int .i64 a1.1.1), u1, u2]), u3, (.agg #[(.int .i64 a3.1), u4])].toArray w0 fun e w' => ∃ v, e = .returned v ∧ Res w0 rr v w' := by
  refine calls_of_W Try.func83 rfl rfl ?_
  have hC0 := Ctx.start w0
  unfold M.Told_denies at hF
  refine W_seq_reg ?_
  refine WL_box (cs := [(.int .i64 a1.1.1), u1, u2]) hC0 rfl rfl rfl (fun b1 w1 hC1 hB1 => ?_)
  refine WL_box (cs := [(.int .i64 a3.1), u4]) hC1 rfl rfl rfl (fun b2 w2 hC2 hB2 => ?_)
  refine WL_assign rfl rfl ?_
  refine WL_nil ?_
  refine W_seq_reg ?_
  refine WL_move rfl rfl ?_
  refine WL_field Try.underlying38 rfl rfl (fun w => ⟨_, Try.sizeOf35 w⟩) rfl rfl ?_
  refine WL_field Try.underlying35 rfl rfl (fun w => ⟨_, Try.sizeOf3 w⟩) rfl rfl ?_
  refine WL_load_box hC2 1 rfl rfl Try.isAgg3 rfl rfl ?_
  obtain ⟨x1, hx1, hF⟩ := bind_some hF
  refine WL_index Try.underlying33 ty110 g3 hx1 rfl rfl rfl (fun b3 o1 h1 => ?_)
  refine WL_field Try.underlying110 rfl rfl (fun w => ⟨_, Try.sizeOf3 w⟩) rfl rfl ?_
  refine WL_load ty3 h1.snd.snd.fst hC2.keep rfl rfl (fun v1 h2 => ?_)
  obtain rfl := ro_int h2
  refine WL_assign rfl rfl ?_
  refine WL_nil ?_
  obtain ⟨r1, hr1, hF⟩ := bind_some hF
  refine W_cut (fun l w => ∃ x2 : Bool, x2 = r1 ∧ l = [(6, (.bool x2))] ∧ Below w2.heap.size w2 w ∧ Ctx [] w0 w []) ?_ ?_
  · refine W_reg ?_
    refine WL_move rfl rfl ?_
    refine WL_load_box_agg [(.int .i64 a3.1), u4] hC2 0 rfl rfl rfl Try.isAgg77 Try.sizeOf77 rfl rfl ?_
    refine WL_buildSlice (vs := [(.agg #[(.int .i64 a3.1), u4])]) hC2 Try.underlying36 ty77 rfl rfl rfl rfl (by intro v hv; simp only [List.mem_cons, List.not_mem_nil, or_false] at hv; rcases hv with rfl <;> rfl) rfl rfl (fun b4 w4 hC4 hB4 => ?_)
    refine WL_field Try.underlying38 rfl rfl (fun w => ⟨_, Try.sizeOf35 w⟩) rfl rfl ?_
    refine WL_load_box_agg [(.int .i64 a1.1.1), u1] hC4 2 rfl rfl rfl Try.isAgg35 Try.sizeOf35 rfl rfl ?_
    obtain ⟨x3, hr2, hr1⟩ := bind_some hr1
    refine WL_call Try.call74 rfl rfl (c_M_matches a2 u3 (g3.now hC4.keep) ([(a3.1, a3.2)] : List (Int × (List Int))) (.slice (some ⟨b4, 0, none⟩) 1 1) ((hC4.litRO (m := 1) 0 rfl (rowro_cons (repw_pair repw_int (repw_slice (g4.now hC4.keep))) rowro_nil) rfl (by simp [maxLen]) (by decide)).now (Keep.refl _ _)) (a1.1.1, a1.1.2) u1 (g1.now hC4.keep) x3 hr2) ?_
    rintro v2 w5 ⟨hB5, F1, hv1, hn1, hb1⟩
    have hC5 := hC4.push hB5 (A := Item.own v2 x3) hv1 hn1 hb1
    refine WL_len Try.underlying36 (hC5.ro 0 rfl) rfl rfl ?_
    refine WL_gtr rfl rfl rfl ?_
    refine WL_move rfl rfl ?_
    refine WL_fork (fun hc1 => ?_) (fun hc1 => ?_)
    · replace hr1 := ite_t hr1 hc1
      refine WL_guard rfl rfl ?_
      refine WL_field Try.underlying38 rfl rfl (fun w => ⟨_, Try.sizeOf36 w⟩) rfl rfl ?_
      refine WL_guard rfl rfl ?_
      refine WL_load_box hC5 3 rfl rfl Try.isAgg36 rfl rfl ?_
      refine WL_guard rfl rfl ?_
      refine WL_load_box_agg [(.int .i64 a3.1), u4] hC5 2 rfl rfl rfl Try.isAgg77 Try.sizeOf77 rfl rfl ?_
      obtain ⟨x4, hr3, hr1⟩ := bind_some hr1
      refine WL_guard rfl rfl ?_
      refine WL_call Try.call104 rfl rfl (c_M_HasFact a1.2 u2 (g2.now hC5.keep) (a3.1, a3.2) u4 (g4.now hC5.keep) x4 hr3) ?_
      intro _ w6 hv2
      obtain ⟨rfl, hB6⟩ := res_bool hv2
      have hC6 := hC5.grow hB6
      refine WL_guard rfl rfl ?_
      refine WL_not rfl rfl ?_
      refine WL_pick_t rfl rfl rfl ?_
      refine WL_move rfl rfl ?_
      refine WL_fork (fun hc2 => ?_) (fun hc2 => ?_)
      · replace hr1 := ite_t hr1 hc2
        refine WL_guard rfl rfl ?_
        refine WL_move rfl rfl ?_
        refine WL_guard rfl rfl ?_
        refine WL_eql rfl rfl rfl ?_
        refine WL_guard rfl rfl ?_
        refine WL_move rfl rfl ?_
        refine WL_fork (fun hc3 => ?_) (fun hc3 => ?_)
        · replace hr1 := ite_t hr1 hc3
          refine WL_guard_skip rfl rfl (by simp) rfl ?_
          refine WL_guard_skip rfl rfl (by simp) rfl ?_
          refine WL_guard_skip rfl rfl (by simp) rfl ?_
          refine WL_guard_skip rfl rfl (by simp) rfl ?_
          refine WL_guard_skip rfl rfl (by simp) rfl ?_
          refine WL_guard rfl rfl ?_
          refine WL_pick_t rfl rfl rfl ?_
          refine WL_pick_t rfl rfl rfl ?_
          refine WL_assign rfl rfl ?_
          refine WL_nil ?_
          have hq1 := Option.some.inj hr1
          subst hq1
          have hC7 : Ctx [] w0 _ [] := hC6.headN 0
          refine nrm_sub (l' := [(6, (.bool true))]) ⟨rfl, trivial⟩ ?_
          exact ⟨true, rfl, rfl, (((Keep.of hB4).then hB5).then hB6).below, hC7⟩
        · replace hr1 := ite_f hr1 hc3
          refine WL_guard rfl rfl ?_
          refine WL_field Try.underlying38 rfl rfl (fun w => ⟨_, Try.sizeOf36 w⟩) rfl rfl ?_
          refine WL_guard rfl rfl ?_
          refine WL_load_box hC6 3 rfl rfl Try.isAgg36 rfl rfl ?_
          refine WL_guard rfl rfl ?_
          refine WL_len Try.underlying36 g2 rfl rfl ?_
          refine WL_guard rfl rfl ?_
          refine WL_move rfl rfl ?_
          refine WL_guard rfl rfl ?_
          refine WL_lss rfl rfl rfl ?_
          refine WL_guard rfl rfl ?_
          refine WL_pick_f rfl rfl rfl ?_
          refine WL_pick_t rfl rfl rfl ?_
          refine WL_assign rfl rfl ?_
          refine WL_nil ?_
          have hq2 := Option.some.inj hr1
          subst hq2
          have hC8 : Ctx [] w0 _ [] := hC6.headN 0
          refine nrm_sub (l' := [(6, (.bool (decide ((List.length a1.2 : Int) < x1.2.2.1))))]) ⟨rfl, trivial⟩ ?_
          exact ⟨(decide ((List.length a1.2 : Int) < x1.2.2.1)), rfl, rfl, (((Keep.of hB4).then hB5).then hB6).below, hC8⟩
      · replace hr1 := ite_f hr1 hc2
        refine WL_guard_skip rfl rfl (by simp) rfl ?_
        refine WL_guard_skip rfl rfl (by simp) rfl ?_
        refine WL_guard_skip rfl rfl (by simp) rfl ?_
        refine WL_guard_skip rfl rfl (by simp [undef]) rfl ?_
        refine WL_guard_skip rfl rfl (by simp [undef]) rfl ?_
        refine WL_guard_skip rfl rfl (by simp [undef]) rfl ?_
        refine WL_guard_skip rfl rfl (by simp [undef]) rfl ?_
        refine WL_guard_skip rfl rfl (by simp [undef]) rfl ?_
        refine WL_guard_skip rfl rfl (by simp) rfl ?_
        refine WL_pick_f rfl rfl rfl ?_
        refine WL_assign rfl rfl ?_
        refine WL_nil ?_
        have hq3 := Option.some.inj hr1
        subst hq3
        have hC9 : Ctx [] w0 _ [] := hC6.headN 0
        refine nrm_sub (l' := [(6, (.bool false))]) ⟨rfl, trivial⟩ ?_
        exact ⟨false, rfl, rfl, (((Keep.of hB4).then hB5).then hB6).below, hC9⟩
    · replace hr1 := ite_f hr1 hc1
      refine WL_guard_skip rfl rfl (by simp) rfl ?_
      refine WL_guard_skip rfl rfl (by simp) rfl ?_
      refine WL_guard_skip rfl rfl (by simp) rfl ?_
      refine WL_guard_skip rfl rfl (by simp) rfl ?_
      refine WL_guard_skip rfl rfl (by simp) rfl ?_
      refine WL_pick_f rfl rfl rfl ?_
      refine WL_move rfl rfl ?_
      refine WL_guard_skip rfl rfl (by simp) rfl ?_
      refine WL_guard_skip rfl rfl (by simp) rfl ?_
      refine WL_guard_skip rfl rfl (by simp) rfl ?_
      refine WL_guard_skip rfl rfl (by simp [undef]) rfl ?_
      refine WL_guard_skip rfl rfl (by simp [undef]) rfl ?_
      refine WL_guard_skip rfl rfl (by simp [undef]) rfl ?_
      refine WL_guard_skip rfl rfl (by simp [undef]) rfl ?_
      refine WL_guard_skip rfl rfl (by simp [undef]) rfl ?_
      refine WL_guard_skip rfl rfl (by simp) rfl ?_
      refine WL_pick_f rfl rfl rfl ?_
      refine WL_assign rfl rfl ?_
      refine WL_nil ?_
      have hq4 := Option.some.inj hr1
      subst hq4
      have hC10 : Ctx [] w0 _ [] := hC5.headN 0
      refine nrm_sub (l' := [(6, (.bool false))]) ⟨rfl, trivial⟩ ?_
      exact ⟨false, rfl, rfl, ((Keep.of hB4).then hB5).below, hC10⟩
  · rintro _ w3 ⟨x2, rfl, rfl, hB3, hC3⟩
    try dsimp only at hF
    refine W_ret ?_
    have hq5 := Option.some.inj hF
    subst hq5
    refine fn_ret1 rfl rfl ?_
    exact ⟨_, rfl, bool_res hC3 _⟩

theorem c_M_Disagree_c1 {w0 : World} (a1 : (Int × (List Int))) (u1 : Value) (g1 : RO [] w0 u1 a1.2) (pb1 : Nat) (ax1 : ((Int × (List Int)) × (List (Int × (List Int))))) (g2 : ROAt [] w0 pb1 0 ax1) (pb2 : Nat) (ax2 : (List (Int × (List Int) × Int × Int × Int))) (g3 : ROAt [] w0 pb2 0 ax2) (rr : Bool) (hF : M.Disagree_c1 a1 ax1 ax2 = some rr) :
    Calls Try.prog 82 [(.agg #[(.int .i64 a1.1), u1]), (ptr pb1 0), (ptr pb2 0)].toArray w0 fun e w' => ∃ v, e = .returned v ∧ Res w0 rr v w' := by
  refine calls_of_W Try.func82 rfl rfl ?_
  have hC0 := Ctx.start w0
  unfold M.Disagree_c1 at hF
  refine W_seq_reg ?_
  refine WL_box (cs := [(.int .i64 a1.1), u1]) hC0 rfl rfl rfl (fun b1 w1 hC1 hB1 => ?_)
  refine WL_assign rfl rfl ?_
  refine WL_nil ?_
  refine W_seq_reg ?_
  refine WL_load ty38 g2 hC1.keep rfl rfl (fun v1 h1 => ?_)
  obtain ⟨v2, v3, rfl, h2, h3⟩ := ro_st38 h1
  refine WL_load ty33 g3 hC1.keep rfl rfl (fun v4 h4 => ?_)
  refine WL_load_box_agg [(.int .i64 a1.1), u1] hC1 0 rfl rfl rfl Try.isAgg77 Try.sizeOf77 rfl rfl ?_
  obtain ⟨x1, hr1, hF⟩ := bind_some hF
  refine WL_call Try.call83 rfl rfl (c_M_Told_denies ax1 v2 (h2.now hC1.keep) v3 (h3.now hC1.keep) ax2 v4 (h4.now hC1.keep) (a1.1, a1.2) u1 (g1.now hC1.keep) x1 hr1) ?_
  intro _ w2 hv1
  obtain ⟨rfl, hB2⟩ := res_bool hv1
  have hC2 := hC1.grow hB2
  refine WL_assign rfl rfl ?_
  refine WL_nil ?_
  refine W_ret ?_
  have hq1 := Option.some.inj hF
  subst hq1
  refine fn_ret1 rfl rfl ?_
  exact ⟨_, rfl, bool_res hC2 _⟩

theorem c_M_Disagree_c2 {w0 : World} (a1 : (Int × (List Int))) (u1 : Value) (g1 : RO [] w0 u1 a1.2) (pb1 : Nat) (ax1 : ((Int × (List Int)) × (List (Int × (List Int))))) (g2 : ROAt [] w0 pb1 0 ax1) (pb2 : Nat) (ax2 : (List (Int × (List Int) × Int × Int × Int))) (g3 : ROAt [] w0 pb2 0 ax2) (rr : Bool) (hF : M.Disagree_c2 a1 ax1 ax2 = some rr) :
    Calls Try.prog 84 [(.agg #[(.int .i64 a1.1), u1]), (ptr pb1 0), (ptr pb2 0)].toArray w0 fun e w' => ∃ v, e = .returned v ∧ Res w0 rr v w' := by
  refine calls_of_W Try.func84 rfl rfl ?_
  have hC0 := Ctx.start w0
  unfold M.Disagree_c2 at hF
  refine W_seq_reg ?_
  refine WL_box (cs := [(.int .i64 a1.1), u1]) hC0 rfl rfl rfl (fun b1 w1 hC1 hB1 => ?_)
  refine WL_assign rfl rfl ?_
  refine WL_nil ?_
  refine W_seq_reg ?_
  refine WL_load ty38 g2 hC1.keep rfl rfl (fun v1 h1 => ?_)
  obtain ⟨v2, v3, rfl, h2, h3⟩ := ro_st38 h1
  refine WL_load ty33 g3 hC1.keep rfl rfl (fun v4 h4 => ?_)
  refine WL_load_box_agg [(.int .i64 a1.1), u1] hC1 0 rfl rfl rfl Try.isAgg77 Try.sizeOf77 rfl rfl ?_
  obtain ⟨x1, hr1, hF⟩ := bind_some hF
  refine WL_call Try.call83 rfl rfl (c_M_Told_denies ax1 v2 (h2.now hC1.keep) v3 (h3.now hC1.keep) ax2 v4 (h4.now hC1.keep) (a1.1, a1.2) u1 (g1.now hC1.keep) x1 hr1) ?_
  intro _ w2 hv1
  obtain ⟨rfl, hB2⟩ := res_bool hv1
  have hC2 := hC1.grow hB2
  refine WL_assign rfl rfl ?_
  refine WL_nil ?_
  refine W_ret ?_
  have hq1 := Option.some.inj hF
  subst hq1
  refine fn_ret1 rfl rfl ?_
  exact ⟨_, rfl, bool_res hC2 _⟩

theorem c_Slices_IndexFunc_Limpl_Fact_impl_Fact_M_Disagree_c1 {w0 : World} (a1 : (List (Int × (List Int)))) (u1 : Value) (g1 : RO [] w0 u1 a1) (pb1 : Nat) (ax1 : ((Int × (List Int)) × (List (Int × (List Int))))) (g2 : ROAt [] w0 pb1 0 ax1) (pb2 : Nat) (ax2 : (List (Int × (List Int) × Int × Int × Int))) (g3 : ROAt [] w0 pb2 0 ax2) (rr : Int) (hF : Slices.IndexFunc_Limpl_Fact_impl_Fact_M_Disagree_c1 a1 ax1 ax2 = some rr) :
    Calls Try.prog 121 [u1, (.func (.func 82) #[] #[(ptr pb1 0), (ptr pb2 0)])].toArray w0 fun e w' => ∃ v, e = .returned v ∧ Res w0 rr v w' := by
  refine calls_of_W Try.func121 rfl rfl ?_
  have hC0 := Ctx.start w0
  unfold Slices.IndexFunc_Limpl_Fact_impl_Fact_M_Disagree_c1 at hF
  refine W_seq_reg ?_
  refine WL_assign rfl rfl ?_
  refine WL_nil ?_
  refine W_seq ?_
  refine W_seq_reg ?_
  refine WL_move rfl rfl ?_
  refine WL_len Try.underlying36 g1 rfl rfl ?_
  refine WL_move rfl rfl ?_
  refine WL_nil ?_
  obtain ⟨r1, hr1, hF⟩ := bind_some hF
  refine W_norm (fun l w => .inl () = r1 ∧ l = [] ∧ Below w0.heap.size w0 w ∧ Ctx [] w0 w []) ?_ ?_
  · refine W_block ?_
    refine W.sub (l' := [(0, u1), (1, (.func (.func 82) #[] #[(ptr pb1 0), (ptr pb2 0)])), (7, (.int .i64 (List.length a1 : Int))), (8, (.int .i64 0))]) ?_ ⟨rfl, rfl, rfl, rfl, trivial⟩
    refine W_loop (fun k l w => ∃ x1 : Int, l = [(0, u1), (1, (.func (.func 82) #[] #[(ptr pb1 0), (ptr pb2 0)])), (7, (.int .i64 (List.length a1 : Int))), (8, (.int .i64 x1))] ∧ Below w0.heap.size w0 w ∧ Ctx [] w0 w [] ∧ Slices.IndexFunc_Limpl_Fact_impl_Fact_M_Disagree_c1_l1 a1 ax1 ax2 k x1 = some r1) FUEL ⟨0, rfl, (Below.refl _ _), hC0, hr1⟩ ?_
    clear hr1
    rintro k1 _ w1 ⟨x1, rfl, hB1, hC1, hL1⟩
    cases k1 with
    | zero => rw [Slices.IndexFunc_Limpl_Fact_impl_Fact_M_Disagree_c1_l1] at hL1; cases hL1
    | succ k1 =>
      rw [Slices.IndexFunc_Limpl_Fact_impl_Fact_M_Disagree_c1_l1] at hL1
      refine W_seq_reg ?_
      refine WL_lss rfl rfl rfl ?_
      refine WL_nil ?_
      refine W_seq ?_
      refine W_cond rfl (fun hc1 => ?_) (fun hc1 => ?_)
      · replace hL1 := ite_t hL1 hc1
        refine W_skip ?_
        refine nrm_normal ?_
        refine W_seq ?_
        refine W_block ?_
        refine W_seq_reg ?_
        refine WL_move rfl rfl ?_
        refine WL_assign rfl rfl ?_
        refine WL_nil ?_
        refine W_seq_reg ?_
        refine WL_move rfl rfl ?_
        refine WL_move rfl rfl ?_
        refine WL_move rfl rfl ?_
        obtain ⟨x2, hx1, hL1⟩ := bind_some hL1
        refine WL_index Try.underlying36 ty77 g1 hx1 rfl rfl rfl (fun b1 o1 h1 => ?_)
        refine WL_load ty77 h1 hC1.keep rfl rfl (fun v1 h2 => ?_)
        obtain ⟨v2, rfl, h3⟩ := ro_st77 h2
        obtain ⟨x3, hr2, hL1⟩ := bind_some hL1
        refine WL_callv (cap := [(ptr pb1 0), (ptr pb2 0)]) Try.call82 rfl rfl rfl (c_M_Disagree_c1 x2 v2 (h3.now hC1.keep) pb1 ax1 (g2.now hC1.keep) pb2 ax2 (g3.now hC1.keep) x3 hr2) ?_
        intro _ w2 hv1
        obtain ⟨rfl, hB2⟩ := res_bool hv1
        have hC2 := hC1.grow hB2
        refine WL_nil ?_
        refine W_cond rfl (fun hc2 => ?_) (fun hc2 => ?_)
        · replace hL1 := ite_t hL1 hc2
          refine W_seq_reg ?_
          refine WL_move rfl rfl ?_
          refine WL_assign rfl rfl ?_
          refine WL_nil ?_
          refine W_ret ?_
          refine blk_ret ?_
          refine nrm_ret ?_
          refine nrm_ret ?_
          refine blk_ret ?_
          refine nrm_ret ?_
          refine nrm_ret ?_
          have hq1 := Option.some.inj hL1
          subst hq1
          dsimp only at hF
          have hq2 := Option.some.inj hF
          subst hq2
          refine fn_ret1 rfl rfl ?_
          exact ⟨_, rfl, int_res hC2 _⟩
        · replace hL1 := ite_f hL1 hc2
          refine W_skip ?_
          refine blk_normal ?_
          refine nrm_normal ?_
          refine W_reg ?_
          refine WL_add rfl rfl rfl ?_
          refine WL_move rfl rfl ?_
          refine WL_nil ?_
          refine nrm_sub (l' := [(0, u1), (1, (.func (.func 82) #[] #[(ptr pb1 0), (ptr pb2 0)])), (7, (.int .i64 (List.length a1 : Int))), (8, (.int .i64 (w64 (x1 + 1))))]) ⟨rfl, rfl, rfl, rfl, trivial⟩ ?_
          exact ⟨k1, Nat.lt_succ_self _, w64 (x1 + 1), rfl, ((Keep.of hB1).then hB2).below, hC2, hL1⟩
      · replace hL1 := ite_f hL1 hc1
        refine W_exit ?_
        refine nrm_exit ?_
        refine nrm_exit ?_
        refine blk_exit ?_
        have hq3 := Option.some.inj hL1
        subst hq3
        refine nrm_sub (l' := []) trivial ?_
        exact ⟨rfl, rfl, (Keep.of hB1).below, hC1⟩
  · rintro l2 _ w3 hs2 ⟨rfl, rfl, hB3, hC3⟩
    try dsimp only at hF
    refine nrm_sub' hs2 ?_
    clear hs2
    refine W_seq_reg ?_
    refine WL_assign rfl rfl ?_
    refine WL_nil ?_
    refine W_ret ?_
    have hq4 := Option.some.inj hF
    subst hq4
    refine fn_ret1 rfl rfl ?_
    exact ⟨_, rfl, int_res hC3 _⟩

theorem c_Slices_ContainsFunc_Limpl_Fact_impl_Fact_M_Disagree_c1 {w0 : World} (a1 : (List (Int × (List Int)))) (u1 : Value) (g1 : RO [] w0 u1 a1) (pb1 : Nat) (ax1 : ((Int × (List Int)) × (List (Int × (List Int))))) (g2 : ROAt [] w0 pb1 0 ax1) (pb2 : Nat) (ax2 : (List (Int × (List Int) × Int × Int × Int))) (g3 : ROAt [] w0 pb2 0 ax2) (rr : Bool) (hF : Slices.ContainsFunc_Limpl_Fact_impl_Fact_M_Disagree_c1 a1 ax1 ax2 = some rr) :
    Calls Try.prog 81 [u1, (.func (.func 82) #[] #[(ptr pb1 0), (ptr pb2 0)])].toArray w0 fun e w' => ∃ v, e = .returned v ∧ Res w0 rr v w' := by
  refine calls_of_W Try.func81 rfl rfl ?_
  have hC0 := Ctx.start w0
  unfold Slices.ContainsFunc_Limpl_Fact_impl_Fact_M_Disagree_c1 at hF
  refine W_seq_reg ?_
  refine WL_assign rfl rfl ?_
  refine WL_nil ?_
  refine W_seq_reg ?_
  refine WL_move rfl rfl ?_
  refine WL_move rfl rfl ?_
  obtain ⟨x1, hr1, hF⟩ := bind_some hF
  refine WL_call Try.call121 rfl rfl (c_Slices_IndexFunc_Limpl_Fact_impl_Fact_M_Disagree_c1 a1 u1 (g1.now hC0.keep) pb1 ax1 (g2.now hC0.keep) pb2 ax2 (g3.now hC0.keep) x1 hr1) ?_
  intro _ w1 hv1
  obtain ⟨rfl, hB1⟩ := res_int hv1
  have hC1 := hC0.grow hB1
  refine WL_geq rfl rfl rfl ?_
  refine WL_assign rfl rfl ?_
  refine WL_nil ?_
  refine W_ret ?_
  have hq1 := Option.some.inj hF
  subst hq1
  refine fn_ret1 rfl rfl ?_
  exact ⟨_, rfl, bool_res hC1 _⟩

theorem c_Slices_IndexFunc_Limpl_Fact_impl_Fact_M_Disagree_c2 {w0 : World} (a1 : (List (Int × (List Int)))) (u1 : Value) (g1 : RO [] w0 u1 a1) (pb1 : Nat) (ax1 : ((Int × (List Int)) × (List (Int × (List Int))))) (g2 : ROAt [] w0 pb1 0 ax1) (pb2 : Nat) (ax2 : (List (Int × (List Int) × Int × Int × Int))) (g3 : ROAt [] w0 pb2 0 ax2) (rr : Int) (hF : Slices.IndexFunc_Limpl_Fact_impl_Fact_M_Disagree_c2 a1 ax1 ax2 = some rr) :
    Calls Try.prog 121 [u1, (.func (.func 84) #[] #[(ptr pb1 0), (ptr pb2 0)])].toArray w0 fun e w' => ∃ v, e = .returned v ∧ Res w0 rr v w' := by
  refine calls_of_W Try.func121 rfl rfl ?_
  have hC0 := Ctx.start w0
  unfold Slices.IndexFunc_Limpl_Fact_impl_Fact_M_Disagree_c2 at hF
  refine W_seq_reg ?_
  refine WL_assign rfl rfl ?_
  refine WL_nil ?_
  refine W_seq ?_
  refine W_seq_reg ?_
  refine WL_move rfl rfl ?_
  refine WL_len Try.underlying36 g1 rfl rfl ?_
  refine WL_move rfl rfl ?_
  refine WL_nil ?_
  obtain ⟨r1, hr1, hF⟩ := bind_some hF
  refine W_norm (fun l w => .inl () = r1 ∧ l = [] ∧ Below w0.heap.size w0 w ∧ Ctx [] w0 w []) ?_ ?_
  · refine W_block ?_
    refine W.sub (l' := [(0, u1), (1, (.func (.func 84) #[] #[(ptr pb1 0), (ptr pb2 0)])), (7, (.int .i64 (List.length a1 : Int))), (8, (.int .i64 0))]) ?_ ⟨rfl, rfl, rfl, rfl, trivial⟩
    refine W_loop (fun k l w => ∃ x1 : Int, l = [(0, u1), (1, (.func (.func 84) #[] #[(ptr pb1 0), (ptr pb2 0)])), (7, (.int .i64 (List.length a1 : Int))), (8, (.int .i64 x1))] ∧ Below w0.heap.size w0 w ∧ Ctx [] w0 w [] ∧ Slices.IndexFunc_Limpl_Fact_impl_Fact_M_Disagree_c2_l1 a1 ax1 ax2 k x1 = some r1) FUEL ⟨0, rfl, (Below.refl _ _), hC0, hr1⟩ ?_
    clear hr1
    rintro k1 _ w1 ⟨x1, rfl, hB1, hC1, hL1⟩
    cases k1 with
    | zero => rw [Slices.IndexFunc_Limpl_Fact_impl_Fact_M_Disagree_c2_l1] at hL1; cases hL1
    | succ k1 =>
      rw [Slices.IndexFunc_Limpl_Fact_impl_Fact_M_Disagree_c2_l1] at hL1
      refine W_seq_reg ?_
      refine WL_lss rfl rfl rfl ?_
      refine WL_nil ?_
      refine W_seq ?_
      refine W_cond rfl (fun hc1 => ?_) (fun hc1 => ?_)
      · replace hL1 := ite_t hL1 hc1
        refine W_skip ?_
        refine nrm_normal ?_
        refine W_seq ?_
        refine W_block ?_
        refine W_seq_reg ?_
        refine WL_move rfl rfl ?_
        refine WL_assign rfl rfl ?_
        refine WL_nil ?_
        refine W_seq_reg ?_
        refine WL_move rfl rfl ?_
        refine WL_move rfl rfl ?_
        refine WL_move rfl rfl ?_
        obtain ⟨x2, hx1, hL1⟩ := bind_some hL1
        refine WL_index Try.underlying36 ty77 g1 hx1 rfl rfl rfl (fun b1 o1 h1 => ?_)
        refine WL_load ty77 h1 hC1.keep rfl rfl (fun v1 h2 => ?_)
        obtain ⟨v2, rfl, h3⟩ := ro_st77 h2
        obtain ⟨x3, hr2, hL1⟩ := bind_some hL1
        refine WL_callv (cap := [(ptr pb1 0), (ptr pb2 0)]) Try.call84 rfl rfl rfl (c_M_Disagree_c2 x2 v2 (h3.now hC1.keep) pb1 ax1 (g2.now hC1.keep) pb2 ax2 (g3.now hC1.keep) x3 hr2) ?_
        intro _ w2 hv1
        obtain ⟨rfl, hB2⟩ := res_bool hv1
        have hC2 := hC1.grow hB2
        refine WL_nil ?_
        refine W_cond rfl (fun hc2 => ?_) (fun hc2 => ?_)
        · replace hL1 := ite_t hL1 hc2
          refine W_seq_reg ?_
          refine WL_move rfl rfl ?_
          refine WL_assign rfl rfl ?_
          refine WL_nil ?_
          refine W_ret ?_
          refine blk_ret ?_
          refine nrm_ret ?_
          refine nrm_ret ?_
          refine blk_ret ?_
          refine nrm_ret ?_
          refine nrm_ret ?_
          have hq1 := Option.some.inj hL1
          subst hq1
          dsimp only at hF
          have hq2 := Option.some.inj hF
          subst hq2
          refine fn_ret1 rfl rfl ?_
          exact ⟨_, rfl, int_res hC2 _⟩
        · replace hL1 := ite_f hL1 hc2
          refine W_skip ?_
          refine blk_normal ?_
          refine nrm_normal ?_
          refine W_reg ?_
          refine WL_add rfl rfl rfl ?_
          refine WL_move rfl rfl ?_
          refine WL_nil ?_
          refine nrm_sub (l' := [(0, u1), (1, (.func (.func 84) #[] #[(ptr pb1 0), (ptr pb2 0)])), (7, (.int .i64 (List.length a1 : Int))), (8, (.int .i64 (w64 (x1 + 1))))]) ⟨rfl, rfl, rfl, rfl, trivial⟩ ?_
          exact ⟨k1, Nat.lt_succ_self _, w64 (x1 + 1), rfl, ((Keep.of hB1).then hB2).below, hC2, hL1⟩
      · replace hL1 := ite_f hL1 hc1
        refine W_exit ?_
        refine nrm_exit ?_
        refine nrm_exit ?_
        refine blk_exit ?_
        have hq3 := Option.some.inj hL1
        subst hq3
        refine nrm_sub (l' := []) trivial ?_
        exact ⟨rfl, rfl, (Keep.of hB1).below, hC1⟩
  · rintro l2 _ w3 hs2 ⟨rfl, rfl, hB3, hC3⟩
    try dsimp only at hF
    refine nrm_sub' hs2 ?_
    clear hs2
    refine W_seq_reg ?_
    refine WL_assign rfl rfl ?_
    refine WL_nil ?_
    refine W_ret ?_
    have hq4 := Option.some.inj hF
    subst hq4
    refine fn_ret1 rfl rfl ?_
    exact ⟨_, rfl, int_res hC3 _⟩

theorem c_Slices_ContainsFunc_Limpl_Fact_impl_Fact_M_Disagree_c2 {w0 : World} (a1 : (List (Int × (List Int)))) (u1 : Value) (g1 : RO [] w0 u1 a1) (pb1 : Nat) (ax1 : ((Int × (List Int)) × (List (Int × (List Int))))) (g2 : ROAt [] w0 pb1 0 ax1) (pb2 : Nat) (ax2 : (List (Int × (List Int) × Int × Int × Int))) (g3 : ROAt [] w0 pb2 0 ax2) (rr : Bool) (hF : Slices.ContainsFunc_Limpl_Fact_impl_Fact_M_Disagree_c2 a1 ax1 ax2 = some rr) :
    Calls Try.prog 81 [u1, (.func (.func 84) #[] #[(ptr pb1 0), (ptr pb2 0)])].toArray w0 fun e w' => ∃ v, e = .returned v ∧ Res w0 rr v w' := by
  refine calls_of_W Try.func81 rfl rfl ?_
  have hC0 := Ctx.start w0
  unfold Slices.ContainsFunc_Limpl_Fact_impl_Fact_M_Disagree_c2 at hF
  refine W_seq_reg ?_
  refine WL_assign rfl rfl ?_
  refine WL_nil ?_
  refine W_seq_reg ?_
  refine WL_move rfl rfl ?_
  refine WL_move rfl rfl ?_
  obtain ⟨x1, hr1, hF⟩ := bind_some hF
  refine WL_call Try.call121 rfl rfl (c_Slices_IndexFunc_Limpl_Fact_impl_Fact_M_Disagree_c2 a1 u1 (g1.now hC0.keep) pb1 ax1 (g2.now hC0.keep) pb2 ax2 (g3.now hC0.keep) x1 hr1) ?_
  intro _ w1 hv1
  obtain ⟨rfl, hB1⟩ := res_int hv1
  have hC1 := hC0.grow hB1
  refine WL_geq rfl rfl rfl ?_
  refine WL_assign rfl rfl ?_
  refine WL_nil ?_
  refine W_ret ?_
  have hq1 := Option.some.inj hF
  subst hq1
  refine fn_ret1 rfl rfl ?_
  exact ⟨_, rfl, bool_res hC1 _⟩

theorem c_M_Disagree {w0 : World} (a1 : (List Int)) (u1 : Value) (g1 : RO [] w0 u1 a1) (a2 : (List (Int × (List Int) × Int × Int × Int))) (u2 : Value) (g2 : RO [] w0 u2 a2) (a3 : ((Int × (List Int)) × (List (Int × (List Int))))) (u3 : Value) (g3 : RO [] w0 u3 a3.1.2) (u4 : Value) (g4 : RO [] w0 u4 a3.2) (a4 : ((Int × (List Int)) × (List (Int × (List Int))))) (u5 : Value) (g5 : RO [] w0 u5 a4.1.2) (u6 : Value) (g6 : RO [] w0 u6 a4.2) (rr : Bool) (hF : M.Disagree a1 a2 a3 a4 = some rr) :
    Calls Try.prog 32 [u1, u2, (.agg #[(.int .i64 a3.1.1), u3, u4]), (.agg #[(.int .i64 a4.1.1), u5, u6])].toArray w0 fun e w' => ∃ v, e = .returned v ∧ Res w0 rr v w' := by
  refine calls_of_W Try.func32 rfl rfl ?_
  have hC0 := Ctx.start w0
  unfold M.Disagree at hF
  refine W_seq_reg ?_
  refine WL_box (cs := [u2]) hC0 (ro_cells g2) rfl rfl (fun b1 w1 hC1 hB1 => ?_)
  refine WL_box (cs := [(.int .i64 a3.1.1), u3, u4]) hC1 rfl rfl rfl (fun b2 w2 hC2 hB2 => ?_)
  refine WL_box (cs := [(.int .i64 a4.1.1), u5, u6]) hC2 rfl rfl rfl (fun b3 w3 hC3 hB3 => ?_)
  refine WL_assign rfl rfl ?_
  refine WL_nil ?_
  obtain ⟨r1, hr1, hF⟩ := bind_some hF
  refine W_cut (fun l w => ∃ x1 : Bool, x1 = r1 ∧ l = [(8, (.bool x1))] ∧ Below w3.heap.size w3 w ∧ Ctx [] w0 w []) ?_ ?_
  · refine W_reg ?_
    refine WL_move rfl rfl ?_
    refine WL_load_box hC3 2 rfl rfl Try.isAgg33 rfl rfl ?_
    refine WL_load_box_agg [(.int .i64 a3.1.1), u3, u4] hC3 1 rfl rfl rfl Try.isAgg38 Try.sizeOf38 rfl rfl ?_
    obtain ⟨x2, hr2, hr1⟩ := bind_some hr1
    refine WL_call Try.call18 rfl rfl (c_M_FitsSelf a1 u1 (g1.now hC3.keep) a2 u2 (g2.now hC3.keep) ((a3.1.1, a3.1.2), a3.2) u3 (g3.now hC3.keep) u4 (g4.now hC3.keep) x2 hr2) ?_
    intro _ w5 hv1
    obtain ⟨rfl, hB5⟩ := res_bool hv1
    have hC5 := hC3.grow hB5
    refine WL_move rfl rfl ?_
    refine WL_fork (fun hc1 => ?_) (fun hc1 => ?_)
    · replace hr1 := ite_t hr1 hc1
      refine WL_guard rfl rfl ?_
      refine WL_move rfl rfl ?_
      refine WL_guard rfl rfl ?_
      refine WL_load_box hC5 2 rfl rfl Try.isAgg33 rfl rfl ?_
      refine WL_guard rfl rfl ?_
      refine WL_load_box_agg [(.int .i64 a4.1.1), u5, u6] hC5 0 rfl rfl rfl Try.isAgg38 Try.sizeOf38 rfl rfl ?_
      obtain ⟨x3, hr3, hr1⟩ := bind_some hr1
      refine WL_guard rfl rfl ?_
      refine WL_call Try.call18 rfl rfl (c_M_FitsSelf a1 u1 (g1.now hC5.keep) a2 u2 (g2.now hC5.keep) ((a4.1.1, a4.1.2), a4.2) u5 (g5.now hC5.keep) u6 (g6.now hC5.keep) x3 hr3) ?_
      intro _ w6 hv2
      obtain ⟨rfl, hB6⟩ := res_bool hv2
      have hC6 := hC5.grow hB6
      refine WL_pick_t rfl rfl rfl ?_
      refine WL_move rfl rfl ?_
      refine WL_fork (fun hc2 => ?_) (fun hc2 => ?_)
      · replace hr1 := ite_t hr1 hc2
        refine WL_guard rfl rfl ?_
        refine WL_field Try.underlying38 rfl rfl (fun w => ⟨_, Try.sizeOf36 w⟩) rfl rfl ?_
        refine WL_guard rfl rfl ?_
        refine WL_load_box hC6 1 rfl rfl Try.isAgg36 rfl rfl ?_
        refine WL_guard rfl rfl ?_
        refine WL_makeFunc rfl rfl ?_
        obtain ⟨x4, hr4, hr1⟩ := bind_some hr1
        refine WL_guard rfl rfl ?_
        refine WL_call Try.call81 rfl rfl (c_Slices_ContainsFunc_Limpl_Fact_impl_Fact_M_Disagree_c1 a3.2 u4 (g4.now hC6.keep) b3 ((a4.1.1, a4.1.2), a4.2) (hC6.boxAt 0 rfl (repw_pair (repw_pair repw_int (repw_slice (g5.now hC6.keep))) (repw_slice (g6.now hC6.keep)))) b1 a2 (hC6.boxAt 2 rfl (repw_slice (g2.now hC6.keep))) x4 hr4) ?_
        intro _ w7 hv3
        obtain ⟨rfl, hB7⟩ := res_bool hv3
        have hC7 := hC6.grow hB7
        refine WL_guard rfl rfl ?_
        refine WL_move rfl rfl ?_
        refine WL_fork (fun hc3 => ?_) (fun hc3 => ?_)
        · replace hr1 := ite_t hr1 hc3
          refine WL_guard_skip rfl rfl (by simp) rfl ?_
          refine WL_guard_skip rfl rfl (by simp) rfl ?_
          refine WL_guard_skip rfl rfl (by simp) rfl ?_
          refine WL_guard_skip rfl rfl (by simp) rfl ?_
          refine WL_guard rfl rfl ?_
          refine WL_pick_t rfl rfl rfl ?_
          refine WL_pick_t rfl rfl rfl ?_
          refine WL_assign rfl rfl ?_
          refine WL_nil ?_
          have hq1 := Option.some.inj hr1
          subst hq1
          have hC8 : Ctx [] w0 _ [] := hC7.headN 0
          refine nrm_sub (l' := [(8, (.bool true))]) ⟨rfl, trivial⟩ ?_
          exact ⟨true, rfl, rfl, (((Keep.of hB5).then hB6).then hB7).below, hC8⟩
        · replace hr1 := ite_f hr1 hc3
          refine WL_guard rfl rfl ?_
          refine WL_field Try.underlying38 rfl rfl (fun w => ⟨_, Try.sizeOf36 w⟩) rfl rfl ?_
          refine WL_guard rfl rfl ?_
          refine WL_load_box hC7 0 rfl rfl Try.isAgg36 rfl rfl ?_
          refine WL_guard rfl rfl ?_
          refine WL_makeFunc rfl rfl ?_
          obtain ⟨x5, hr5, hr1⟩ := bind_some hr1
          refine WL_guard rfl rfl ?_
          refine WL_call Try.call81 rfl rfl (c_Slices_ContainsFunc_Limpl_Fact_impl_Fact_M_Disagree_c2 a4.2 u6 (g6.now hC7.keep) b2 ((a3.1.1, a3.1.2), a3.2) (hC7.boxAt 1 rfl (repw_pair (repw_pair repw_int (repw_slice (g3.now hC7.keep))) (repw_slice (g4.now hC7.keep)))) b1 a2 (hC7.boxAt 2 rfl (repw_slice (g2.now hC7.keep))) x5 hr5) ?_
          intro _ w8 hv4
          obtain ⟨rfl, hB8⟩ := res_bool hv4
          have hC9 := hC7.grow hB8
          refine WL_guard rfl rfl ?_
          refine WL_pick_f rfl rfl rfl ?_
          refine WL_pick_t rfl rfl rfl ?_
          refine WL_assign rfl rfl ?_
          refine WL_nil ?_
          have hq2 := Option.some.inj hr1
          subst hq2
          have hC10 : Ctx [] w0 _ [] := hC9.headN 0
          refine nrm_sub (l' := [(8, (.bool x5))]) ⟨rfl, trivial⟩ ?_
          exact ⟨x5, rfl, rfl, ((((Keep.of hB5).then hB6).then hB7).then hB8).below, hC10⟩
      · replace hr1 := ite_f hr1 hc2
        refine WL_guard_skip rfl rfl (by simp) rfl ?_
        refine WL_guard_skip rfl rfl (by simp) rfl ?_
        refine WL_guard_skip rfl rfl (by simp) rfl ?_
        refine WL_guard_skip rfl rfl (by simp) rfl ?_
        refine WL_guard_skip rfl rfl (by simp) rfl ?_
        refine WL_guard_skip rfl rfl (by simp [undef]) rfl ?_
        refine WL_guard_skip rfl rfl (by simp [undef]) rfl ?_
        refine WL_guard_skip rfl rfl (by simp [undef]) rfl ?_
        refine WL_guard_skip rfl rfl (by simp [undef]) rfl ?_
        refine WL_guard_skip rfl rfl (by simp) rfl ?_
        refine WL_pick_f rfl rfl rfl ?_
        refine WL_assign rfl rfl ?_
        refine WL_nil ?_
        have hq3 := Option.some.inj hr1
        subst hq3
        have hC11 : Ctx [] w0 _ [] := hC6.headN 0
        refine nrm_sub (l' := [(8, (.bool false))]) ⟨rfl, trivial⟩ ?_
        exact ⟨false, rfl, rfl, ((Keep.of hB5).then hB6).below, hC11⟩
    · replace hr1 := ite_f hr1 hc1
      refine WL_guard_skip rfl rfl (by simp) rfl ?_
      refine WL_guard_skip rfl rfl (by simp) rfl ?_
      refine WL_guard_skip rfl rfl (by simp) rfl ?_
      refine WL_guard_skip rfl rfl (by simp) rfl ?_
      refine WL_pick_f rfl rfl rfl ?_
      refine WL_move rfl rfl ?_
      refine WL_guard_skip rfl rfl (by simp) rfl ?_
      refine WL_guard_skip rfl rfl (by simp) rfl ?_
      refine WL_guard_skip rfl rfl (by simp) rfl ?_
      refine WL_guard_skip rfl rfl (by simp) rfl ?_
      refine WL_guard_skip rfl rfl (by simp) rfl ?_
      refine WL_guard_skip rfl rfl (by simp [undef]) rfl ?_
      refine WL_guard_skip rfl rfl (by simp [undef]) rfl ?_
      refine WL_guard_skip rfl rfl (by simp [undef]) rfl ?_
      refine WL_guard_skip rfl rfl (by simp [undef]) rfl ?_
      refine WL_guard_skip rfl rfl (by simp) rfl ?_
      refine WL_pick_f rfl rfl rfl ?_
      refine WL_assign rfl rfl ?_
      refine WL_nil ?_
      have hq4 := Option.some.inj hr1
      subst hq4
      have hC12 : Ctx [] w0 _ [] := hC5.headN 0
      refine nrm_sub (l' := [(8, (.bool false))]) ⟨rfl, trivial⟩ ?_
      exact ⟨false, rfl, rfl, (Keep.of hB5).below, hC12⟩
  · rintro _ w4 ⟨x1, rfl, rfl, hB4, hC4⟩
    try dsimp only at hF
    refine W_ret ?_
    have hq5 := Option.some.inj hF
    subst hq5
    refine fn_ret1 rfl rfl ?_
    exact ⟨_, rfl, bool_res hC4 _⟩

theorem c_Q_FnExactDisagree {w0 : World} (a1 : (List Int)) (u1 : Value) (g1 : RO [] w0 u1 a1) (a2 : (List (Int × (List Int) × Int × Int × Int))) (u2 : Value) (g2 : RO [] w0 u2 a2) (a3 : ((Int × (List Int)) × (List (Int × (List Int))))) (u3 : Value) (g3 : RO [] w0 u3 a3.1.2) (u4 : Value) (g4 : RO [] w0 u4 a3.2) (a4 : ((Int × (List Int)) × (List (Int × (List Int))))) (u5 : Value) (g5 : RO [] w0 u5 a4.1.2) (u6 : Value) (g6 : RO [] w0 u6 a4.2) (rr : Bool) (hF : Q.FnExactDisagree a1 a2 a3 a4 = some rr) :
    Calls Try.prog 5 [u1, u2, (.agg #[(.int .i64 a3.1.1), u3, u4]), (.agg #[(.int .i64 a4.1.1), u5, u6])].toArray w0 fun e w' => ∃ v, e = .returned v ∧ Res w0 rr v w' := by
  refine calls_of_W Try.func5 rfl rfl ?_
  have hC0 := Ctx.start w0
  unfold Q.FnExactDisagree at hF
  refine W_seq_reg ?_
  refine WL_box (cs := [(.int .i64 a3.1.1), u3, u4]) hC0 rfl rfl rfl (fun b1 w1 hC1 hB1 => ?_)
  refine WL_box (cs := [(.int .i64 a4.1.1), u5, u6]) hC1 rfl rfl rfl (fun b2 w2 hC2 hB2 => ?_)
  refine WL_assign rfl rfl ?_
  refine WL_nil ?_
  refine W_seq ?_
  refine W_seq_reg ?_
  refine WL_move rfl rfl ?_
  refine WL_len Try.underlying22 g1 rfl rfl ?_
  refine WL_gtr rfl rfl rfl ?_
  refine WL_nil ?_
  refine W_cond rfl (fun hc1 => ?_) (fun hc1 => ?_)
  · replace hF := ite_t hF hc1
    refine W_seq_reg ?_
    refine WL_assign rfl rfl ?_
    refine WL_nil ?_
    refine W_ret ?_
    refine nrm_ret ?_
    have hq1 := Option.some.inj hF
    subst hq1
    refine fn_ret1 rfl rfl ?_
    exact ⟨_, rfl, bool_res hC2 _⟩
  · replace hF := ite_f hF hc1
    refine W_skip ?_
    refine nrm_normal ?_
    refine W_seq_reg ?_
    refine WL_assign rfl rfl ?_
    refine WL_nil ?_
    refine W_seq_reg ?_
    refine WL_move rfl rfl ?_
    refine WL_move rfl rfl ?_
    obtain ⟨x1, hr1, hF⟩ := bind_some hF
    refine WL_call Try.call12 rfl rfl (c_Q_szMethodS a2 u2 (g2.now hC2.keep) 1048576 x1 hr1) ?_
    intro _ w3 hv1
    obtain ⟨rfl, hB3⟩ := res_int hv1
    have hC3 := hC2.grow hB3
    refine WL_assign rfl rfl ?_
    refine WL_nil ?_
    refine W_seq ?_
    refine W_seq_reg ?_
    refine WL_move rfl rfl ?_
    refine WL_lss rfl rfl rfl ?_
    refine WL_nil ?_
    refine W_cond rfl (fun hc2 => ?_) (fun hc2 => ?_)
    · replace hF := ite_t hF hc2
      refine W_seq_reg ?_
      refine WL_assign rfl rfl ?_
      refine WL_nil ?_
      refine W_ret ?_
      refine nrm_ret ?_
      have hq2 := Option.some.inj hF
      subst hq2
      refine fn_ret1 rfl rfl ?_
      exact ⟨_, rfl, bool_res hC3 _⟩
    · replace hF := ite_f hF hc2
      refine W_skip ?_
      refine nrm_normal ?_
      refine W_seq_reg ?_
      refine WL_load_box_agg [(.int .i64 a3.1.1), u3, u4] hC3 1 rfl rfl rfl Try.isAgg28 Try.sizeOf28 rfl rfl ?_
      refine WL_move rfl rfl ?_
      obtain ⟨x2, hr2, hF⟩ := bind_some hF
      refine WL_call Try.call13 rfl rfl (c_Q_szTold ((a3.1.1, a3.1.2), a3.2) u3 (g3.now hC3.keep) u4 (g4.now hC3.keep) x1 x2 hr2) ?_
      intro _ w4 hv2
      obtain ⟨rfl, hB4⟩ := res_int hv2
      have hC4 := hC3.grow hB4
      refine WL_assign rfl rfl ?_
      refine WL_nil ?_
      refine W_seq ?_
      refine W_seq_reg ?_
      refine WL_move rfl rfl ?_
      refine WL_lss rfl rfl rfl ?_
      refine WL_nil ?_
      refine W_cond rfl (fun hc3 => ?_) (fun hc3 => ?_)
      · replace hF := ite_t hF hc3
        refine W_seq_reg ?_
        refine WL_assign rfl rfl ?_
        refine WL_nil ?_
        refine W_ret ?_
        refine nrm_ret ?_
        have hq3 := Option.some.inj hF
        subst hq3
        refine fn_ret1 rfl rfl ?_
        exact ⟨_, rfl, bool_res hC4 _⟩
      · replace hF := ite_f hF hc3
        refine W_skip ?_
        refine nrm_normal ?_
        refine W_seq_reg ?_
        refine WL_load_box_agg [(.int .i64 a4.1.1), u5, u6] hC4 0 rfl rfl rfl Try.isAgg28 Try.sizeOf28 rfl rfl ?_
        refine WL_move rfl rfl ?_
        obtain ⟨x3, hr3, hF⟩ := bind_some hF
        refine WL_call Try.call13 rfl rfl (c_Q_szTold ((a4.1.1, a4.1.2), a4.2) u5 (g5.now hC4.keep) u6 (g6.now hC4.keep) x2 x3 hr3) ?_
        intro _ w5 hv3
        obtain ⟨rfl, hB5⟩ := res_int hv3
        have hC5 := hC4.grow hB5
        refine WL_assign rfl rfl ?_
        refine WL_nil ?_
        refine W_seq ?_
        refine W_seq_reg ?_
        refine WL_move rfl rfl ?_
        refine WL_lss rfl rfl rfl ?_
        refine WL_nil ?_
        refine W_cond rfl (fun hc4 => ?_) (fun hc4 => ?_)
        · replace hF := ite_t hF hc4
          refine W_seq_reg ?_
          refine WL_assign rfl rfl ?_
          refine WL_nil ?_
          refine W_ret ?_
          refine nrm_ret ?_
          have hq4 := Option.some.inj hF
          subst hq4
          refine fn_ret1 rfl rfl ?_
          exact ⟨_, rfl, bool_res hC5 _⟩
        · replace hF := ite_f hF hc4
          refine W_skip ?_
          refine nrm_normal ?_
          refine W_seq ?_
          refine W_drawn 10 rfl hmix (fun w6 hB6 => ?_)
          have hC6 := hC5.grow hB6
          refine WA_take 0 rfl (by kernel_rfl) (by kernel_rfl) (by kernel_rfl) rfl (fl_move rfl) ?_
          refine WL_move rfl rfl ?_
          refine WL_nil ?_
          refine WA_take 2 rfl (by kernel_rfl) (by kernel_rfl) (by kernel_rfl) rfl (fl_move rfl) ?_
          refine WL_move rfl rfl ?_
          refine WL_nil ?_
          obtain ⟨x4, hr4, hF⟩ := bind_some hF
          obtain ⟨x5, hr5, hF⟩ := bind_some hF
          obtain ⟨x6, hr6, hF⟩ := bind_some hF
          refine WA.sub (l' := [(0, u1), (1, u2), (2, (.agg #[(.int .i64 a3.1.1), u3, u4])), (3, (.agg #[(.int .i64 a4.1.1), u5, u6])), (6, (ptr b1 0)), (7, (ptr b2 0)), (8, (.bool false)), (9, (.int .i64 x3)), (16, u1), (17, (.int .i64 (List.length a1 : Int))), (18, (.bool (decide (1048576 < (List.length a1 : Int))))), (19, u2), (20, (.int .i64 1048576)), (21, (.int .i64 x1)), (22, (.int .i64 x1)), (23, (.bool (decide (x1 < 0)))), (24, (.agg #[(.int .i64 a3.1.1), u3, u4])), (25, (.int .i64 x1)), (26, (.int .i64 x2)), (27, (.int .i64 x2)), (28, (.bool (decide (x2 < 0)))), (29, (.agg #[(.int .i64 a4.1.1), u5, u6])), (30, (.int .i64 x2)), (31, (.int .i64 x3)), (32, (.int .i64 x3)), (33, (.bool (decide (x3 < 0)))), (34, u1), (36, u2)]) ?_ ⟨rfl, rfl, rfl, rfl, rfl, rfl, rfl, rfl, rfl, rfl, rfl, rfl, rfl, rfl, rfl, rfl, rfl, rfl, rfl, rfl, rfl, rfl, rfl, rfl, rfl, rfl, rfl, rfl, trivial⟩
          refine WA_postsE [⟨1, [], fun vs => PW.own x4, []⟩, ⟨3, [], fun vs => PW.own x5, []⟩, ⟨4, [], fun vs => PW.val (.agg #[(.int .i64 a3.1.1), u3, u4]), []⟩, ⟨5, [], fun vs => PW.own x6, []⟩, ⟨6, [], fun vs => PW.val (.agg #[(.int .i64 a4.1.1), u5, u6]), []⟩] [[], [], [], [4], []] 3 rfl (by kernel_rfl) (by kernel_rfl) rfl ?_ ?_
          · refine StepsE_cons rfl ?_ ?_
            · intro w10 hB10
              refine DepsE_nil ?_
              refine ⟨_, rfl, ?_⟩
              refine WL_call Try.call15 rfl rfl (c_Q_toIntS a1 u1 (g1.now (hC6.keep.then hB10)) x4 hr4) ?_
              rintro v1 w7 ⟨hB7, F1, hv4, hn1, hb1⟩
              refine WL_nil ?_
              exact FinE_own hB7 rfl rfl hv4 hn1 hb1 (Val.inh hv4)
            refine StepsE_cons rfl ?_ ?_
            · intro w10 hB10
              refine DepsE_nil ?_
              refine ⟨_, rfl, ?_⟩
              refine WL_call Try.call16 rfl rfl (c_Q_toMethodS a2 u2 (g2.now (hC6.keep.then hB10)) x5 hr5) ?_
              rintro v2 w8 ⟨hB8, F2, hv5, hn2, hb2⟩
              refine WL_nil ?_
              exact FinE_own hB8 rfl rfl hv5 hn2 hb2 (Val.inh hv5)
            refine StepsE_cons rfl ?_ ?_
            · intro w10 hB10
              refine DepsE_nil ?_
              refine ⟨_, rfl, ?_⟩
              refine WL_load_box_agg [(.int .i64 a3.1.1), u3, u4] (hC6.grow hB10) 1 rfl rfl rfl Try.isAgg28 Try.sizeOf28 rfl rfl ?_
              refine WL_nil ?_
              exact FinE_val (Below.refl _ _) rfl rfl ⟨rfl, rfl⟩
            refine StepsE_cons rfl ?_ ?_
            · intro w10 hB10
              refine DepsE_cons rfl rfl rfl ?_
              rintro _ _ ⟨rfl, rfl⟩ _
              refine DepsE_nil ?_
              refine ⟨_, rfl, ?_⟩
              refine WL_call Try.call17 rfl rfl (c_Q_toTold ((a3.1.1, a3.1.2), a3.2) u3 (g3.now (hC6.keep.then hB10)) u4 (g4.now (hC6.keep.then hB10)) x6 hr6) ?_
              rintro v3 w9 ⟨hB9, F3, hv6, hn3, hb3⟩
              refine WL_nil ?_
              exact FinE_own hB9 rfl rfl hv6 hn3 hb3 (Val.inh hv6)
            refine StepsE_cons rfl ?_ ?_
            · intro w10 hB10
              refine DepsE_nil ?_
              refine ⟨_, rfl, ?_⟩
              refine WL_load_box_agg [(.int .i64 a4.1.1), u5, u6] (hC6.grow hB10) 0 rfl rfl rfl Try.isAgg28 Try.sizeOf28 rfl rfl ?_
              refine WL_nil ?_
              exact FinE_val (Below.refl _ _) rfl rfl ⟨rfl, rfl⟩
            exact StepsE_nil
          · intro w11 hB11
            refine AllE_cons rfl rfl rfl ?_
            intro v1 F1 hv4
            refine AllE_cons rfl rfl rfl ?_
            intro v2 F2 hv5
            refine AllE_cons rfl rfl rfl ?_
            rintro _ _ ⟨rfl, rfl⟩
            refine AllE_cons rfl rfl rfl ?_
            intro v3 F3 hv6
            refine AllE_cons rfl rfl rfl ?_
            rintro _ _ ⟨rfl, rfl⟩
            refine AllE_nil ?_
            intro hn4 hb4
            have hC7 := hC6.pushL hB11 (Bs := [Item.own v3 (x6 : ((Int × (List Int)) × (List (Int × (List Int))))), Item.own v2 (x5 : (List (Int × (List Int) × Int × Int × Int))), Item.own v1 (x4 : (List Int))]) (Fs := [F3, F2, F1]) ⟨F3, _, rfl, hv6, F2, _, rfl, hv5, F1, _, rfl, hv4, rfl⟩ (by simpa using hn4) (fun b h => (hb4 b (by simpa using h)).1)
            obtain ⟨v6, v7, rfl, hC8⟩ := st38_own hC7
            obtain ⟨x7, hr7, hF⟩ := bind_some hF
            refine WA_one 7 (by kernel_rfl) rfl ?_
            refine WL_call Try.call17 rfl rfl (c_Q_toTold ((a4.1.1, a4.1.2), a4.2) u5 (g5.now hC8.keep) u6 (g6.now hC8.keep) x7 hr7) ?_
            rintro v8 w12 ⟨hB12, F4, hv7, hn5, hb5⟩
            have hC9 := hC8.push hB12 (A := Item.own v8 x7) hv7 hn5 hb5
            obtain ⟨v9, v10, rfl, hC10⟩ := st38_own hC9
            refine WL_nil ?_
            obtain ⟨x8, hr8, hF⟩ := bind_some hF
            refine WA_one 8 (by kernel_rfl) rfl ?_
            refine WL_call Try.call31 rfl rfl (c_S_Disagree x4 v1 ((hC10.ro 5 rfl).now (Keep.refl _ _)) x5 v2 ((hC10.ro 4 rfl).now (Keep.refl _ _)) x6 v6 ((hC10.ro 2 rfl).now (Keep.refl _ _)) v7 ((hC10.ro 3 rfl).now (Keep.refl _ _)) x7 v9 ((hC10.ro 0 rfl).now (Keep.refl _ _)) v10 ((hC10.ro 1 rfl).now (Keep.refl _ _)) x8 hr8) ?_
            intro _ w13 hv8
            obtain ⟨rfl, hB13⟩ := res_bool hv8
            have hC11 := hC10.grow hB13
            refine WL_nil ?_
            refine WA_take 9 rfl (by kernel_rfl) (by kernel_rfl) (by kernel_rfl) rfl (fl_assign rfl) ?_
            refine WL_assign rfl rfl ?_
            refine WL_nil ?_
            refine WA_done (by kernel_rfl) ?_
            refine nrm_normal ?_
            refine W_seq_reg ?_
            refine WL_move rfl rfl ?_
            obtain ⟨x9, hr9, hF⟩ := bind_some hF
            refine WL_call Try.call15 rfl rfl (c_Q_toIntS a1 u1 (g1.now hC11.keep) x9 hr9) ?_
            rintro v11 w14 ⟨hB14, F5, hv9, hn6, hb6⟩
            have hC12 := hC11.push hB14 (A := Item.own v11 x9) hv9 hn6 hb6
            refine WL_assign rfl rfl ?_
            refine WL_nil ?_
            refine W_seq_reg ?_
            refine WL_move rfl rfl ?_
            obtain ⟨x10, hr10, hF⟩ := bind_some hF
            refine WL_call Try.call16 rfl rfl (c_Q_toMethodS a2 u2 (g2.now hC12.keep) x10 hr10) ?_
            rintro v12 w15 ⟨hB15, F6, hv10, hn7, hb7⟩
            have hC13 := hC12.push hB15 (A := Item.own v12 x10) hv10 hn7 hb7
            refine WL_assign rfl rfl ?_
            refine WL_nil ?_
            refine W_seq_reg ?_
            refine WL_load_box_agg [(.int .i64 a3.1.1), u3, u4] hC13 9 rfl rfl rfl Try.isAgg28 Try.sizeOf28 rfl rfl ?_
            obtain ⟨x11, hr11, hF⟩ := bind_some hF
            refine WL_call Try.call17 rfl rfl (c_Q_toTold ((a3.1.1, a3.1.2), a3.2) u3 (g3.now hC13.keep) u4 (g4.now hC13.keep) x11 hr11) ?_
            rintro v13 w16 ⟨hB16, F7, hv11, hn8, hb8⟩
            have hC14 := hC13.push hB16 (A := Item.own v13 x11) hv11 hn8 hb8
            obtain ⟨v14, v15, rfl, hC15⟩ := st38_own hC14
            refine WL_alloc hC15 zero38 rfl rfl (fun b3 w17 hC16 hB17 => ?_)
            refine WL_store_box_agg (cs' := [(.int .i64 x11.1.1), v14, v15]) (new := [(.int .i64 x11.1.1), v14, v15]) hC16 0 rfl rfl (by intro v hv; simp only [List.mem_cons, List.not_mem_nil, or_false] at hv; rcases hv with rfl | rfl | rfl; exact rfl; exact (ro_one (hC16.ro 1 rfl)); exact (ro_one (hC16.ro 2 rfl))) rfl Try.sizeOf38 rfl rfl (fun w18 hC17 => ?_)
            try dsimp only [List.set] at hC17
            refine WL_nil ?_
            refine W_seq_reg ?_
            refine WL_load_box_agg [(.int .i64 a4.1.1), u5, u6] hC17 11 rfl rfl rfl Try.isAgg28 Try.sizeOf28 rfl rfl ?_
            obtain ⟨x12, hr12, hF⟩ := bind_some hF
            refine WL_call Try.call17 rfl rfl (c_Q_toTold ((a4.1.1, a4.1.2), a4.2) u5 (g5.now hC17.keep) u6 (g6.now hC17.keep) x12 hr12) ?_
            rintro v16 w19 ⟨hB18, F8, hv12, hn9, hb9⟩
            have hC18 := hC17.push hB18 (A := Item.own v16 x12) hv12 hn9 hb9
            obtain ⟨v17, v18, rfl, hC19⟩ := st38_own hC18
            refine WL_alloc hC19 zero38 rfl rfl (fun b4 w20 hC20 hB19 => ?_)
            refine WL_store_box_agg (cs' := [(.int .i64 x12.1.1), v17, v18]) (new := [(.int .i64 x12.1.1), v17, v18]) hC20 0 rfl rfl (by intro v hv; simp only [List.mem_cons, List.not_mem_nil, or_false] at hv; rcases hv with rfl | rfl | rfl; exact rfl; exact (ro_one (hC20.ro 1 rfl)); exact (ro_one (hC20.ro 2 rfl))) rfl Try.sizeOf38 rfl rfl (fun w21 hC21 => ?_)
            try dsimp only [List.set] at hC21
            refine WL_nil ?_
            refine W_seq_reg ?_
            refine WL_move rfl rfl ?_
            refine WL_move rfl rfl ?_
            refine WL_load_box_agg [(.int .i64 x11.1.1), v14, v15] hC21 3 rfl rfl rfl Try.isAgg38 Try.sizeOf38 rfl rfl ?_
            refine WL_load_box_agg [(.int .i64 x12.1.1), v17, v18] hC21 0 rfl rfl rfl Try.isAgg38 Try.sizeOf38 rfl rfl ?_
            obtain ⟨x13, hr13, hF⟩ := bind_some hF
            refine WL_call Try.call32 rfl rfl (c_M_Disagree x9 v11 ((hC21.ro 7 rfl).now (Keep.refl _ _)) x10 v12 ((hC21.ro 6 rfl).now (Keep.refl _ _)) ((x11.1.1, x11.1.2), x11.2) v14 ((hC21.ro 4 rfl).now (Keep.refl _ _)) v15 ((hC21.ro 5 rfl).now (Keep.refl _ _)) ((x12.1.1, x12.1.2), x12.2) v17 ((hC21.ro 1 rfl).now (Keep.refl _ _)) v18 ((hC21.ro 2 rfl).now (Keep.refl _ _)) x13 hr13) ?_
            intro _ w22 hv13
            obtain ⟨rfl, hB20⟩ := res_bool hv13
            have hC22 := hC21.grow hB20
            refine WL_assign rfl rfl ?_
            refine WL_nil ?_
            refine W_seq ?_
            refine W_seq_reg ?_
            refine WL_move rfl rfl ?_
            refine WL_move rfl rfl ?_
            refine WL_bool_neq Try.underlying4 rfl rfl rfl ?_
            refine WL_nil ?_
            refine W_cond rfl (fun hc5 => ?_) (fun hc5 => ?_)
            · replace hF := ite_t hF hc5
              refine W_seq_reg ?_
              refine WL_assign rfl rfl ?_
              refine WL_nil ?_
              refine W_ret ?_
              refine nrm_ret ?_
              have hq5 := Option.some.inj hF
              subst hq5
              refine fn_ret1 rfl rfl ?_
              exact ⟨_, rfl, bool_res hC22 _⟩
            · replace hF := ite_f hF hc5
              refine W_skip ?_
              refine nrm_normal ?_
              refine W_seq ?_
              refine W_seq_reg ?_
              refine WL_move rfl rfl ?_
              refine WL_move rfl rfl ?_
              obtain ⟨x14, hr14, hF⟩ := bind_some hF
              refine WL_call Try.call15 rfl rfl (c_Q_toIntS a1 u1 (g1.now hC22.keep) x14 hr14) ?_
              rintro v19 w23 ⟨hB21, F9, hv14, hn10, hb10⟩
              have hC23 := hC22.push hB21 (A := Item.own v19 x14) hv14 hn10 hb10
              obtain ⟨x15, hr15, hF⟩ := bind_some hF
              refine WL_call Try.call19 rfl rfl (c_Q_eqIntS x9 v11 ((hC23.ro 8 rfl).now (Keep.refl _ _)) x14 v19 ((hC23.ro 0 rfl).now (Keep.refl _ _)) x15 hr15) ?_
              intro _ w24 hv15
              obtain ⟨rfl, hB22⟩ := res_bool hv15
              have hC24 := hC23.grow hB22
              refine WL_not rfl rfl ?_
              refine WL_nil ?_
              refine W_cond rfl (fun hc6 => ?_) (fun hc6 => ?_)
              · replace hF := ite_t hF hc6
                refine W_seq_reg ?_
                refine WL_assign rfl rfl ?_
                refine WL_nil ?_
                refine W_ret ?_
                refine nrm_ret ?_
                have hq6 := Option.some.inj hF
                subst hq6
                refine fn_ret1 rfl rfl ?_
                exact ⟨_, rfl, bool_res hC24 _⟩
              · replace hF := ite_f hF hc6
                refine W_skip ?_
                refine nrm_normal ?_
                refine W_seq ?_
                refine W_seq_reg ?_
                refine WL_move rfl rfl ?_
                refine WL_move rfl rfl ?_
                obtain ⟨x16, hr16, hF⟩ := bind_some hF
                refine WL_call Try.call16 rfl rfl (c_Q_toMethodS a2 u2 (g2.now hC24.keep) x16 hr16) ?_
                rintro v20 w25 ⟨hB23, F10, hv16, hn11, hb11⟩
                have hC25 := hC24.push hB23 (A := Item.own v20 x16) hv16 hn11 hb11
                obtain ⟨x17, hr17, hF⟩ := bind_some hF
                refine WL_call Try.call20 rfl rfl (c_Q_eqMethodS x10 v12 ((hC25.ro 8 rfl).now (Keep.refl _ _)) x16 v20 ((hC25.ro 0 rfl).now (Keep.refl _ _)) x17 hr17) ?_
                intro _ w26 hv17
                obtain ⟨rfl, hB24⟩ := res_bool hv17
                have hC26 := hC25.grow hB24
                refine WL_not rfl rfl ?_
                refine WL_nil ?_
                refine W_cond rfl (fun hc7 => ?_) (fun hc7 => ?_)
                · replace hF := ite_t hF hc7
                  refine W_seq_reg ?_
                  refine WL_assign rfl rfl ?_
                  refine WL_nil ?_
                  refine W_ret ?_
                  refine nrm_ret ?_
                  have hq7 := Option.some.inj hF
                  subst hq7
                  refine fn_ret1 rfl rfl ?_
                  exact ⟨_, rfl, bool_res hC26 _⟩
                · replace hF := ite_f hF hc7
                  refine W_skip ?_
                  refine nrm_normal ?_
                  refine W_seq ?_
                  refine W_seq ?_
                  refine W_drawn 5 rfl hmix (fun w27 hB25 => ?_)
                  have hC27 := hC26.grow hB25
                  obtain ⟨x18, hr18, hF⟩ := bind_some hF
                  refine WA.sub (l' := [(0, u1), (1, u2), (2, (.agg #[(.int .i64 a3.1.1), u3, u4])), (3, (.agg #[(.int .i64 a4.1.1), u5, u6])), (6, (ptr b1 0)), (7, (ptr b2 0)), (8, (.bool false)), (9, (.int .i64 x3)), (10, (.bool x8)), (11, v11), (12, v12), (13, (ptr b3 0)), (14, (ptr b4 0)), (15, (.bool x13)), (16, u1), (17, (.int .i64 (List.length a1 : Int))), (18, (.bool (decide (1048576 < (List.length a1 : Int))))), (19, u2), (20, (.int .i64 1048576)), (21, (.int .i64 x1)), (22, (.int .i64 x1)), (23, (.bool (decide (x1 < 0)))), (24, (.agg #[(.int .i64 a3.1.1), u3, u4])), (25, (.int .i64 x1)), (26, (.int .i64 x2)), (27, (.int .i64 x2)), (28, (.bool (decide (x2 < 0)))), (29, (.agg #[(.int .i64 a4.1.1), u5, u6])), (30, (.int .i64 x2)), (31, (.int .i64 x3)), (32, (.int .i64 x3)), (33, (.bool (decide (x3 < 0)))), (34, u1), (35, v1), (36, u2), (37, v2), (38, (.agg #[(.int .i64 a3.1.1), u3, u4])), (39, (.agg #[(.int .i64 x6.1.1), v6, v7])), (40, (.agg #[(.int .i64 a4.1.1), u5, u6])), (41, (.agg #[(.int .i64 x7.1.1), v9, v10])), (42, (.bool x8)), (43, u1), (44, v11), (45, u2), (46, v12), (47, (.agg #[(.int .i64 a3.1.1), u3, u4])), (48, (.agg #[(.int .i64 x11.1.1), v14, v15])), (49, (.agg #[(.int .i64 a4.1.1), u5, u6])), (50, (.agg #[(.int .i64 x12.1.1), v17, v18])), (51, v11), (52, v12), (53, (.agg #[(.int .i64 x11.1.1), v14, v15])), (54, (.agg #[(.int .i64 x12.1.1), v17, v18])), (55, (.bool x13)), (56, (.bool x13)), (57, (.bool x8)), (58, (.bool (!decide (x13 = x8)))), (59, v11), (60, u1), (61, v19), (62, (.bool x15)), (63, (.bool (!x15))), (64, v12), (65, u2), (66, v20), (67, (.bool x17)), (68, (.bool (!x17)))]) ?_ ⟨rfl, rfl, rfl, rfl, rfl, rfl, rfl, rfl, rfl, rfl, rfl, rfl, rfl, rfl, rfl, rfl, rfl, rfl, rfl, rfl, rfl, rfl, rfl, rfl, rfl, rfl, rfl, rfl, rfl, rfl, rfl, rfl, rfl, rfl, rfl, rfl, rfl, rfl, rfl, rfl, rfl, rfl, rfl, rfl, rfl, rfl, rfl, rfl, rfl, rfl, rfl, rfl, rfl, rfl, rfl, rfl, rfl, rfl, rfl, rfl, rfl, rfl, rfl, rfl, rfl, rfl, rfl, trivial⟩
                  refine WA_postsE [⟨0, [], fun vs => PW.val (.agg #[(.int .i64 x11.1.1), v14, v15]), []⟩, ⟨1, [], fun vs => PW.val (.agg #[(.int .i64 a3.1.1), u3, u4]), []⟩, ⟨2, [], fun vs => PW.own x18, []⟩] [[], [], [1]] 2 rfl (by kernel_rfl) (by kernel_rfl) rfl ?_ ?_
                  · refine StepsE_cons rfl ?_ ?_
                    · intro w29 hB27
                      refine DepsE_nil ?_
                      refine ⟨_, rfl, ?_⟩
                      refine WL_load_box_agg [(.int .i64 x11.1.1), v14, v15] (hC27.grow hB27) 5 rfl rfl rfl Try.isAgg38 Try.sizeOf38 rfl rfl ?_
                      refine WL_nil ?_
                      exact FinE_val (Below.refl _ _) rfl rfl ⟨rfl, rfl⟩
                    refine StepsE_cons rfl ?_ ?_
                    · intro w29 hB27
                      refine DepsE_nil ?_
                      refine ⟨_, rfl, ?_⟩
                      refine WL_load_box_agg [(.int .i64 a3.1.1), u3, u4] (hC27.grow hB27) 17 rfl rfl rfl Try.isAgg28 Try.sizeOf28 rfl rfl ?_
                      refine WL_nil ?_
                      exact FinE_val (Below.refl _ _) rfl rfl ⟨rfl, rfl⟩
                    refine StepsE_cons rfl ?_ ?_
                    · intro w29 hB27
                      refine DepsE_cons rfl rfl rfl ?_
                      rintro _ _ ⟨rfl, rfl⟩ _
                      refine DepsE_nil ?_
                      refine ⟨_, rfl, ?_⟩
                      refine WL_call Try.call17 rfl rfl (c_Q_toTold ((a3.1.1, a3.1.2), a3.2) u3 (g3.now (hC27.keep.then hB27)) u4 (g4.now (hC27.keep.then hB27)) x18 hr18) ?_
                      rintro v21 w28 ⟨hB26, F11, hv18, hn12, hb12⟩
                      refine WL_nil ?_
                      exact FinE_own hB26 rfl rfl hv18 hn12 hb12 (Val.inh hv18)
                    exact StepsE_nil
                  · intro w30 hB28
                    refine AllE_cons rfl rfl rfl ?_
                    rintro _ _ ⟨rfl, rfl⟩
                    refine AllE_cons rfl rfl rfl ?_
                    rintro _ _ ⟨rfl, rfl⟩
                    refine AllE_cons rfl rfl rfl ?_
                    intro v21 F11 hv18
                    refine AllE_nil ?_
                    intro hn13 hb13
                    have hC28 := hC27.pushL hB28 (Bs := [Item.own v21 (x18 : ((Int × (List Int)) × (List (Int × (List Int)))))]) (Fs := [F11]) ⟨F11, _, rfl, hv18, rfl⟩ (by simpa using hn13) (fun b h => (hb13 b (by simpa using h)).1)
                    obtain ⟨v24, v25, rfl, hC29⟩ := st38_own hC28
                    obtain ⟨x19, hr19, hF⟩ := bind_some hF
                    refine WA_one 3 (by kernel_rfl) rfl ?_
                    refine WL_call Try.call21 rfl rfl (c_Q_eqTold ((x11.1.1, x11.1.2), x11.2) v14 ((hC29.ro 8 rfl).now (Keep.refl _ _)) v15 ((hC29.ro 9 rfl).now (Keep.refl _ _)) x18 v24 ((hC29.ro 0 rfl).now (Keep.refl _ _)) v25 ((hC29.ro 1 rfl).now (Keep.refl _ _)) x19 hr19) ?_
                    intro _ w31 hv19
                    obtain ⟨rfl, hB29⟩ := res_bool hv19
                    have hC30 := hC29.grow hB29
                    refine WL_nil ?_
                    refine WA_take 4 rfl (by kernel_rfl) (by kernel_rfl) (by kernel_rfl) rfl (fl_not rfl) ?_
                    refine WL_not rfl rfl ?_
                    refine WL_nil ?_
                    refine WA_done (by kernel_rfl) ?_
                    refine nrm_normal ?_
                    refine W_cond rfl (fun hc8 => ?_) (fun hc8 => ?_)
                    · replace hF := ite_t hF hc8
                      refine W_seq_reg ?_
                      refine WL_assign rfl rfl ?_
                      refine WL_nil ?_
                      refine W_ret ?_
                      refine nrm_ret ?_
                      have hq8 := Option.some.inj hF
                      subst hq8
                      refine fn_ret1 rfl rfl ?_
                      exact ⟨_, rfl, bool_res hC30 _⟩
                    · replace hF := ite_f hF hc8
                      refine W_skip ?_
                      refine nrm_normal ?_
                      refine W_seq ?_
                      refine W_seq ?_
                      refine W_drawn 5 rfl hmix (fun w32 hB30 => ?_)
                      have hC31 := hC30.grow hB30
                      obtain ⟨x20, hr20, hF⟩ := bind_some hF
                      refine WA.sub (l' := [(0, u1), (1, u2), (2, (.agg #[(.int .i64 a3.1.1), u3, u4])), (3, (.agg #[(.int .i64 a4.1.1), u5, u6])), (6, (ptr b1 0)), (7, (ptr b2 0)), (8, (.bool false)), (9, (.int .i64 x3)), (10, (.bool x8)), (11, v11), (12, v12), (13, (ptr b3 0)), (14, (ptr b4 0)), (15, (.bool x13)), (16, u1), (17, (.int .i64 (List.length a1 : Int))), (18, (.bool (decide (1048576 < (List.length a1 : Int))))), (19, u2), (20, (.int .i64 1048576)), (21, (.int .i64 x1)), (22, (.int .i64 x1)), (23, (.bool (decide (x1 < 0)))), (24, (.agg #[(.int .i64 a3.1.1), u3, u4])), (25, (.int .i64 x1)), (26, (.int .i64 x2)), (27, (.int .i64 x2)), (28, (.bool (decide (x2 < 0)))), (29, (.agg #[(.int .i64 a4.1.1), u5, u6])), (30, (.int .i64 x2)), (31, (.int .i64 x3)), (32, (.int .i64 x3)), (33, (.bool (decide (x3 < 0)))), (34, u1), (35, v1), (36, u2), (37, v2), (38, (.agg #[(.int .i64 a3.1.1), u3, u4])), (39, (.agg #[(.int .i64 x6.1.1), v6, v7])), (40, (.agg #[(.int .i64 a4.1.1), u5, u6])), (41, (.agg #[(.int .i64 x7.1.1), v9, v10])), (42, (.bool x8)), (43, u1), (44, v11), (45, u2), (46, v12), (47, (.agg #[(.int .i64 a3.1.1), u3, u4])), (48, (.agg #[(.int .i64 x11.1.1), v14, v15])), (49, (.agg #[(.int .i64 a4.1.1), u5, u6])), (50, (.agg #[(.int .i64 x12.1.1), v17, v18])), (51, v11), (52, v12), (53, (.agg #[(.int .i64 x11.1.1), v14, v15])), (54, (.agg #[(.int .i64 x12.1.1), v17, v18])), (55, (.bool x13)), (56, (.bool x13)), (57, (.bool x8)), (58, (.bool (!decide (x13 = x8)))), (59, v11), (60, u1), (61, v19), (62, (.bool x15)), (63, (.bool (!x15))), (64, v12), (65, u2), (66, v20), (67, (.bool x17)), (68, (.bool (!x17))), (69, (.agg #[(.int .i64 x11.1.1), v14, v15])), (70, (.agg #[(.int .i64 a3.1.1), u3, u4])), (71, (.agg #[(.int .i64 x18.1.1), v24, v25])), (72, (.bool x19)), (73, (.bool (!x19)))]) ?_ ⟨rfl, rfl, rfl, rfl, rfl, rfl, rfl, rfl, rfl, rfl, rfl, rfl, rfl, rfl, rfl, rfl, rfl, rfl, rfl, rfl, rfl, rfl, rfl, rfl, rfl, rfl, rfl, rfl, rfl, rfl, rfl, rfl, rfl, rfl, rfl, rfl, rfl, rfl, rfl, rfl, rfl, rfl, rfl, rfl, rfl, rfl, rfl, rfl, rfl, rfl, rfl, rfl, rfl, rfl, rfl, rfl, rfl, rfl, rfl, rfl, rfl, rfl, rfl, rfl, rfl, rfl, rfl, rfl, rfl, rfl, rfl, rfl, trivial⟩
                      refine WA_postsE [⟨0, [], fun vs => PW.val (.agg #[(.int .i64 x12.1.1), v17, v18]), []⟩, ⟨1, [], fun vs => PW.val (.agg #[(.int .i64 a4.1.1), u5, u6]), []⟩, ⟨2, [], fun vs => PW.own x20, []⟩] [[], [], [1]] 2 rfl (by kernel_rfl) (by kernel_rfl) rfl ?_ ?_
                      · refine StepsE_cons rfl ?_ ?_
                        · intro w34 hB32
                          refine DepsE_nil ?_
                          refine ⟨_, rfl, ?_⟩
                          refine WL_load_box_agg [(.int .i64 x12.1.1), v17, v18] (hC31.grow hB32) 4 rfl rfl rfl Try.isAgg38 Try.sizeOf38 rfl rfl ?_
                          refine WL_nil ?_
                          exact FinE_val (Below.refl _ _) rfl rfl ⟨rfl, rfl⟩
                        refine StepsE_cons rfl ?_ ?_
                        · intro w34 hB32
                          refine DepsE_nil ?_
                          refine ⟨_, rfl, ?_⟩
                          refine WL_load_box_agg [(.int .i64 a4.1.1), u5, u6] (hC31.grow hB32) 18 rfl rfl rfl Try.isAgg28 Try.sizeOf28 rfl rfl ?_
                          refine WL_nil ?_
                          exact FinE_val (Below.refl _ _) rfl rfl ⟨rfl, rfl⟩
                        refine StepsE_cons rfl ?_ ?_
                        · intro w34 hB32
                          refine DepsE_cons rfl rfl rfl ?_
                          rintro _ _ ⟨rfl, rfl⟩ _
                          refine DepsE_nil ?_
                          refine ⟨_, rfl, ?_⟩
                          refine WL_call Try.call17 rfl rfl (c_Q_toTold ((a4.1.1, a4.1.2), a4.2) u5 (g5.now (hC31.keep.then hB32)) u6 (g6.now (hC31.keep.then hB32)) x20 hr20) ?_
                          rintro v26 w33 ⟨hB31, F12, hv20, hn14, hb14⟩
                          refine WL_nil ?_
                          exact FinE_own hB31 rfl rfl hv20 hn14 hb14 (Val.inh hv20)
                        exact StepsE_nil
                      · intro w35 hB33
                        refine AllE_cons rfl rfl rfl ?_
                        rintro _ _ ⟨rfl, rfl⟩
                        refine AllE_cons rfl rfl rfl ?_
                        rintro _ _ ⟨rfl, rfl⟩
                        refine AllE_cons rfl rfl rfl ?_
                        intro v26 F12 hv20
                        refine AllE_nil ?_
                        intro hn15 hb15
                        have hC32 := hC31.pushL hB33 (Bs := [Item.own v26 (x20 : ((Int × (List Int)) × (List (Int × (List Int)))))]) (Fs := [F12]) ⟨F12, _, rfl, hv20, rfl⟩ (by simpa using hn15) (fun b h => (hb15 b (by simpa using h)).1)
                        obtain ⟨v29, v30, rfl, hC33⟩ := st38_own hC32
                        obtain ⟨x21, hr21, hF⟩ := bind_some hF
                        refine WA_one 3 (by kernel_rfl) rfl ?_
                        refine WL_call Try.call21 rfl rfl (c_Q_eqTold ((x12.1.1, x12.1.2), x12.2) v17 ((hC33.ro 7 rfl).now (Keep.refl _ _)) v18 ((hC33.ro 8 rfl).now (Keep.refl _ _)) x20 v29 ((hC33.ro 0 rfl).now (Keep.refl _ _)) v30 ((hC33.ro 1 rfl).now (Keep.refl _ _)) x21 hr21) ?_
                        intro _ w36 hv21
                        obtain ⟨rfl, hB34⟩ := res_bool hv21
                        have hC34 := hC33.grow hB34
                        refine WL_nil ?_
                        refine WA_take 4 rfl (by kernel_rfl) (by kernel_rfl) (by kernel_rfl) rfl (fl_not rfl) ?_
                        refine WL_not rfl rfl ?_
                        refine WL_nil ?_
                        refine WA_done (by kernel_rfl) ?_
                        refine nrm_normal ?_
                        refine W_cond rfl (fun hc9 => ?_) (fun hc9 => ?_)
                        · replace hF := ite_t hF hc9
                          refine W_seq_reg ?_
                          refine WL_assign rfl rfl ?_
                          refine WL_nil ?_
                          refine W_ret ?_
                          refine nrm_ret ?_
                          have hq9 := Option.some.inj hF
                          subst hq9
                          refine fn_ret1 rfl rfl ?_
                          exact ⟨_, rfl, bool_res hC34 _⟩
                        · replace hF := ite_f hF hc9
                          refine W_skip ?_
                          refine nrm_normal ?_
                          refine W_seq_reg ?_
                          refine WL_assign rfl rfl ?_
                          refine WL_nil ?_
                          refine W_ret ?_
                          have hq10 := Option.some.inj hF
                          subst hq10
                          refine fn_ret1 rfl rfl ?_
                          exact ⟨_, rfl, bool_res hC34 _⟩

theorem c_Q_szToldS {w0 : World} (a1 : (List ((Int × (List Int)) × (List (Int × (List Int)))))) (u1 : Value) (g1 : RO [] w0 u1 a1) (a2 : Int) (rr : Int) (hF : Q.szToldS a1 a2 = some rr) :
    Calls Try.prog 22 [u1, (.int .i64 a2)].toArray w0 fun e w' => ∃ v, e = .returned v ∧ Res w0 rr v w' := by
  refine calls_of_W Try.func22 rfl rfl ?_
  have hC0 := Ctx.start w0
  unfold Q.szToldS at hF
  refine W_seq_reg ?_
  refine WL_assign rfl rfl ?_
  refine WL_nil ?_
  refine W_seq_reg ?_
  refine WL_move rfl rfl ?_
  refine WL_move rfl rfl ?_
  refine WL_len Try.underlying44 g1 rfl rfl ?_
  refine WL_sub rfl rfl rfl ?_
  refine WL_assign rfl rfl ?_
  refine WL_nil ?_
  refine W_seq ?_
  refine W_seq_reg ?_
  refine WL_move rfl rfl ?_
  refine WL_lss rfl rfl rfl ?_
  refine WL_nil ?_
  refine W_cond rfl (fun hc1 => ?_) (fun hc1 => ?_)
  · replace hF := ite_t hF hc1
    refine W_seq_reg ?_
    refine WL_assign rfl rfl ?_
    refine WL_nil ?_
    refine W_ret ?_
    refine nrm_ret ?_
    have hq1 := Option.some.inj hF
    subst hq1
    refine fn_ret1 rfl rfl ?_
    exact ⟨_, rfl, int_res hC0 _⟩
  · replace hF := ite_f hF hc1
    refine W_skip ?_
    refine nrm_normal ?_
    refine W_seq ?_
    refine W_seq_reg ?_
    refine WL_assign rfl rfl ?_
    refine WL_nil ?_
    obtain ⟨r1, hr1, hF⟩ := bind_some hF
    refine W_norm (fun l w => ∃ x3 : Int, .inl x3 = r1 ∧ l = [(1, (.int .i64 x3))] ∧ Below w0.heap.size w0 w ∧ Ctx [] w0 w []) ?_ ?_
    · refine W_block ?_
      refine W.sub (l' := [(0, u1), (1, (.int .i64 (w64 (a2 - (List.length a1 : Int))))), (5, (.int .i64 0))]) ?_ ⟨rfl, rfl, rfl, trivial⟩
      refine W_loop (fun k l w => ∃ x1 : Int, ∃ x2 : Int, l = [(0, u1), (1, (.int .i64 x1)), (5, (.int .i64 x2))] ∧ Below w0.heap.size w0 w ∧ Ctx [] w0 w [] ∧ Q.szToldS_l1 a1 k x1 x2 = some r1) FUEL ⟨w64 (a2 - (List.length a1 : Int)), 0, rfl, (Below.refl _ _), hC0, hr1⟩ ?_
      clear hr1
      rintro k1 _ w1 ⟨x1, x2, rfl, hB1, hC1, hL1⟩
      cases k1 with
      | zero => rw [Q.szToldS_l1] at hL1; cases hL1
      | succ k1 =>
        rw [Q.szToldS_l1] at hL1
        refine W_seq ?_
        refine W_seq_reg ?_
        refine WL_move rfl rfl ?_
        refine WL_move rfl rfl ?_
        refine WL_len Try.underlying44 g1 rfl rfl ?_
        refine WL_lss rfl rfl rfl ?_
        refine WL_nil ?_
        refine W_cond rfl (fun hc2 => ?_) (fun hc2 => ?_)
        · replace hL1 := ite_t hL1 hc2
          refine W_skip ?_
          refine nrm_normal ?_
          refine W_seq ?_
          refine W_block ?_
          refine W_seq_reg ?_
          refine WL_move rfl rfl ?_
          refine WL_move rfl rfl ?_
          obtain ⟨x4, hx1, hL1⟩ := bind_some hL1
          refine WL_index Try.underlying44 ty28 g1 hx1 rfl rfl rfl (fun b1 o1 h1 => ?_)
          refine WL_load ty28 h1 hC1.keep rfl rfl (fun v1 h2 => ?_)
          obtain ⟨v2, v3, rfl, h3, h4⟩ := ro_st28 h2
          refine WL_move rfl rfl ?_
          obtain ⟨x5, hr2, hL1⟩ := bind_some hL1
          refine WL_call Try.call13 rfl rfl (c_Q_szTold x4 v2 (h3.now hC1.keep) v3 (h4.now hC1.keep) x1 x5 hr2) ?_
          intro _ w2 hv1
          obtain ⟨rfl, hB2⟩ := res_int hv1
          have hC2 := hC1.grow hB2
          refine WL_assign rfl rfl ?_
          refine WL_nil ?_
          refine W_seq_reg ?_
          refine WL_move rfl rfl ?_
          refine WL_lss rfl rfl rfl ?_
          refine WL_nil ?_
          refine W_cond rfl (fun hc3 => ?_) (fun hc3 => ?_)
          · replace hL1 := ite_t hL1 hc3
            refine W_seq_reg ?_
            refine WL_assign rfl rfl ?_
            refine WL_nil ?_
            refine W_ret ?_
            refine blk_ret ?_
            refine nrm_ret ?_
            refine nrm_ret ?_
            refine blk_ret ?_
            refine nrm_ret ?_
            refine nrm_ret ?_
            have hq2 := Option.some.inj hL1
            subst hq2
            dsimp only at hF
            have hq3 := Option.some.inj hF
            subst hq3
            refine fn_ret1 rfl rfl ?_
            exact ⟨_, rfl, int_res hC2 _⟩
          · replace hL1 := ite_f hL1 hc3
            refine W_skip ?_
            refine blk_normal ?_
            refine nrm_normal ?_
            refine W_reg ?_
            refine WL_move rfl rfl ?_
            refine WL_add rfl rfl rfl ?_
            refine WL_assign rfl rfl ?_
            refine WL_nil ?_
            refine nrm_sub (l' := [(0, u1), (1, (.int .i64 x5)), (5, (.int .i64 (w64 (x2 + 1))))]) ⟨rfl, rfl, rfl, trivial⟩ ?_
            exact ⟨k1, Nat.lt_succ_self _, x5, w64 (x2 + 1), rfl, ((Keep.of hB1).then hB2).below, hC2, hL1⟩
        · replace hL1 := ite_f hL1 hc2
          refine W_exit ?_
          refine nrm_exit ?_
          refine nrm_exit ?_
          refine blk_exit ?_
          have hq4 := Option.some.inj hL1
          subst hq4
          refine nrm_sub (l' := [(1, (.int .i64 x1))]) ⟨rfl, trivial⟩ ?_
          exact ⟨x1, rfl, rfl, (Keep.of hB1).below, hC1⟩
    · rintro l2 _ w3 hs2 ⟨x3, rfl, rfl, hB3, hC3⟩
      try dsimp only at hF
      refine nrm_sub' hs2 ?_
      clear hs2
      refine W_seq_reg ?_
      refine WL_move rfl rfl ?_
      refine WL_assign rfl rfl ?_
      refine WL_nil ?_
      refine W_ret ?_
      have hq5 := Option.some.inj hF
      subst hq5
      refine fn_ret1 rfl rfl ?_
      exact ⟨_, rfl, int_res hC3 _⟩

theorem c_Q_toToldS {w0 : World} (a1 : (List ((Int × (List Int)) × (List (Int × (List Int)))))) (u1 : Value) (g1 : RO [] w0 u1 a1) (rr : (List ((Int × (List Int)) × (List (Int × (List Int)))))) (hF : Q.toToldS a1 = some rr) :
    Calls Try.prog 24 [u1].toArray w0 fun e w' => ∃ v, e = .returned v ∧ Res w0 rr v w' := by
  refine calls_of_W Try.func24 rfl rfl ?_
  have hC0 := Ctx.start w0
  unfold Q.toToldS at hF
  refine W_seq_reg ?_
  refine WL_assign rfl rfl ?_
  refine WL_nil ?_
  refine W_seq_reg ?_
  refine WL_move rfl rfl ?_
  refine WL_len Try.underlying44 g1 rfl rfl ?_
  obtain ⟨x1, hx1, hF⟩ := bind_some hF
  refine WL_makeSlice hC0 Try.underlying47 ty38 rfl zc38 zr38 hx1 rfl rfl rfl (fun b1 w1 hC1 hB1 => ?_)
  refine WL_assign rfl rfl ?_
  refine WL_nil ?_
  refine W_seq ?_
  refine W_seq_reg ?_
  refine WL_assign rfl rfl ?_
  refine WL_nil ?_
  obtain ⟨r1, hr1, hF⟩ := bind_some hF
  refine W_norm (fun l w => ∃ x4 : (List ((Int × (List Int)) × (List (Int × (List Int))))), x4 = r1 ∧ l = [(3, (.slice (some ⟨b1, 0, none⟩) (Int.toNat (List.length a1 : Int)) (Int.toNat (List.length a1 : Int))))] ∧ Ctx [] w0 w [Item.own (.slice (some ⟨b1, 0, none⟩) (Int.toNat (List.length a1 : Int)) (Int.toNat (List.length a1 : Int))) (x4 : (List ((Int × (List Int)) × (List (Int × (List Int))))))]) ?_ ?_
  · refine W_block ?_
    refine W.sub (l' := [(0, u1), (3, (.slice (some ⟨b1, 0, none⟩) (Int.toNat (List.length a1 : Int)) (Int.toNat (List.length a1 : Int)))), (4, (.int .i64 0))]) ?_ ⟨rfl, rfl, rfl, trivial⟩
    refine W_loop (fun k l w => ∃ x2 : (List ((Int × (List Int)) × (List (Int × (List Int))))), ∃ x3 : Int, l = [(0, u1), (3, (.slice (some ⟨b1, 0, none⟩) (Int.toNat (List.length a1 : Int)) (Int.toNat (List.length a1 : Int)))), (4, (.int .i64 x3))] ∧ Ctx [] w0 w [Item.own (.slice (some ⟨b1, 0, none⟩) (Int.toNat (List.length a1 : Int)) (Int.toNat (List.length a1 : Int))) (x2 : (List ((Int × (List Int)) × (List (Int × (List Int))))))] ∧ Q.toToldS_l1 a1 k x2 x3 = some r1) FUEL ⟨x1, 0, rfl, hC1, hr1⟩ ?_
    clear hr1
    rintro k1 _ w2 ⟨x2, x3, rfl, hC2, hL1⟩
    cases k1 with
    | zero => rw [Q.toToldS_l1] at hL1; cases hL1
    | succ k1 =>
      rw [Q.toToldS_l1] at hL1
      refine W_seq ?_
      refine W_seq_reg ?_
      refine WL_move rfl rfl ?_
      refine WL_move rfl rfl ?_
      refine WL_len Try.underlying44 g1 rfl rfl ?_
      refine WL_lss rfl rfl rfl ?_
      refine WL_nil ?_
      refine W_cond rfl (fun hc1 => ?_) (fun hc1 => ?_)
      · replace hL1 := ite_t hL1 hc1
        refine W_skip ?_
        refine nrm_normal ?_
        refine W_seq ?_
        refine W_block ?_
        refine W_reg ?_
        refine WL_move rfl rfl ?_
        refine WL_move rfl rfl ?_
        refine WL_move rfl rfl ?_
        refine WL_move rfl rfl ?_
        obtain ⟨x5, hx2, hL1⟩ := bind_some hL1
        refine WL_index Try.underlying44 ty28 g1 hx2 rfl rfl rfl (fun b2 o1 h1 => ?_)
        refine WL_load ty28 h1 hC2.keep rfl rfl (fun v1 h2 => ?_)
        obtain ⟨v2, v3, rfl, h3, h4⟩ := ro_st28 h2
        obtain ⟨x6, hr2, hL1⟩ := bind_some hL1
        refine WL_call Try.call17 rfl rfl (c_Q_toTold x5 v2 (h3.now hC2.keep) v3 (h4.now hC2.keep) x6 hr2) ?_
        rintro v4 w3 ⟨hB3, F1, hv1, hn1, hb1⟩
        have hC3 := hC2.push hB3 (A := Item.own v4 x6) hv1 hn1 hb1
        obtain ⟨v5, v6, rfl, hC4⟩ := st38_own hC3
        obtain ⟨x7, hx3, hL1⟩ := bind_some hL1
        refine WL_index_own hC4 2 rfl Try.underlying47 ty38 hx3 rfl rfl rfl (fun b3 hE1 => ?_)
        have hC7 : Ctx [] w0 _ [Item.own v6 (x6.2 : (List (Int × (List Int)))), Item.own v5 (x6.1.2 : (List Int)), Item.own (.slice (some ⟨b1, 0, none⟩) (Int.toNat (List.length a1 : Int)) (Int.toNat (List.length a1 : Int))) (x2 : (List ((Int × (List Int)) × (List (Int × (List Int))))))] := hC4.front 1 rfl
        have hC8 : Ctx [] w0 _ [Item.own v5 (x6.1.2 : (List Int)), Item.own v6 (x6.2 : (List (Int × (List Int)))), Item.own (.slice (some ⟨b1, 0, none⟩) (Int.toNat (List.length a1 : Int)) (Int.toNat (List.length a1 : Int))) (x2 : (List ((Int × (List Int)) × (List (Int × (List Int))))))] := hC7.front 1 rfl
        have hC6 := own_st38 x6.1.1 v5 x6.1.2 v6 x6.2 hC8
        refine WL_store_elem hC6 0 rfl ty38 hE1 hx3 rfl rfl rfl (fun w4 hC5 => ?_)
        try dsimp only [List.set] at hC5
        refine WL_nil ?_
        refine blk_normal ?_
        refine nrm_normal ?_
        refine W_reg ?_
        refine WL_move rfl rfl ?_
        refine WL_add rfl rfl rfl ?_
        refine WL_assign rfl rfl ?_
        refine WL_nil ?_
        refine nrm_sub (l' := [(0, u1), (3, (.slice (some ⟨b1, 0, none⟩) (Int.toNat (List.length a1 : Int)) (Int.toNat (List.length a1 : Int)))), (4, (.int .i64 (w64 (x3 + 1))))]) ⟨rfl, rfl, rfl, trivial⟩ ?_
        exact ⟨k1, Nat.lt_succ_self _, (List.set x2 (Int.toNat x3) ((x6.1.1, x6.1.2), x6.2)), w64 (x3 + 1), rfl, hC5, hL1⟩
      · replace hL1 := ite_f hL1 hc1
        refine W_exit ?_
        refine nrm_exit ?_
        refine nrm_exit ?_
        refine blk_exit ?_
        have hq1 := Option.some.inj hL1
        subst hq1
        refine nrm_sub (l' := [(3, (.slice (some ⟨b1, 0, none⟩) (Int.toNat (List.length a1 : Int)) (Int.toNat (List.length a1 : Int))))]) ⟨rfl, trivial⟩ ?_
        exact ⟨x2, rfl, rfl, hC2⟩
  · rintro l2 _ w5 hs2 ⟨x4, rfl, rfl, hC9⟩
    try dsimp only at hF
    refine nrm_sub' hs2 ?_
    clear hs2
    refine W_seq_reg ?_
    refine WL_move rfl rfl ?_
    refine WL_assign rfl rfl ?_
    refine WL_nil ?_
    refine W_ret ?_
    have hq2 := Option.some.inj hF
    subst hq2
    refine fn_ret1 rfl rfl ?_
    exact ⟨_, rfl, own_res hC9 0 rfl⟩

theorem c_Q_eqToldS {w0 : World} (a1 : (List ((Int × (List Int)) × (List (Int × (List Int)))))) (u1 : Value) (g1 : RO [] w0 u1 a1) (a2 : (List ((Int × (List Int)) × (List (Int × (List Int)))))) (u2 : Value) (g2 : RO [] w0 u2 a2) (rr : Bool) (hF : Q.eqToldS a1 a2 = some rr) :
    Calls Try.prog 27 [u1, u2].toArray w0 fun e w' => ∃ v, e = .returned v ∧ Res w0 rr v w' := by
  refine calls_of_W Try.func27 rfl rfl ?_
  have hC0 := Ctx.start w0
  unfold Q.eqToldS at hF
  refine W_seq_reg ?_
  refine WL_assign rfl rfl ?_
  refine WL_nil ?_
  refine W_seq ?_
  refine W_seq_reg ?_
  refine WL_move rfl rfl ?_
  refine WL_len Try.underlying47 g1 rfl rfl ?_
  refine WL_move rfl rfl ?_
  refine WL_len Try.underlying47 g2 rfl rfl ?_
  refine WL_neq rfl rfl rfl ?_
  refine WL_nil ?_
  refine W_cond rfl (fun hc1 => ?_) (fun hc1 => ?_)
  · replace hF := ite_t hF hc1
    refine W_seq_reg ?_
    refine WL_assign rfl rfl ?_
    refine WL_nil ?_
    refine W_ret ?_
    refine nrm_ret ?_
    have hq1 := Option.some.inj hF
    subst hq1
    refine fn_ret1 rfl rfl ?_
    exact ⟨_, rfl, bool_res hC0 _⟩
  · replace hF := ite_f hF hc1
    refine W_skip ?_
    refine nrm_normal ?_
    refine W_seq ?_
    refine W_seq_reg ?_
    refine WL_assign rfl rfl ?_
    refine WL_nil ?_
    obtain ⟨r1, hr1, hF⟩ := bind_some hF
    refine W_norm (fun l w => .inl () = r1 ∧ l = [] ∧ Below w0.heap.size w0 w ∧ Ctx [] w0 w []) ?_ ?_
    · refine W_block ?_
      refine W.sub (l' := [(0, u1), (1, u2), (5, (.int .i64 0))]) ?_ ⟨rfl, rfl, rfl, trivial⟩
      refine W_loop (fun k l w => ∃ x1 : Int, l = [(0, u1), (1, u2), (5, (.int .i64 x1))] ∧ Below w0.heap.size w0 w ∧ Ctx [] w0 w [] ∧ Q.eqToldS_l1 a1 a2 k x1 = some r1) FUEL ⟨0, rfl, (Below.refl _ _), hC0, hr1⟩ ?_
      clear hr1
      rintro k1 _ w1 ⟨x1, rfl, hB1, hC1, hL1⟩
      cases k1 with
      | zero => rw [Q.eqToldS_l1] at hL1; cases hL1
      | succ k1 =>
        rw [Q.eqToldS_l1] at hL1
        refine W_seq ?_
        refine W_seq_reg ?_
        refine WL_move rfl rfl ?_
        refine WL_move rfl rfl ?_
        refine WL_len Try.underlying47 g1 rfl rfl ?_
        refine WL_lss rfl rfl rfl ?_
        refine WL_nil ?_
        refine W_cond rfl (fun hc2 => ?_) (fun hc2 => ?_)
        · replace hL1 := ite_t hL1 hc2
          refine W_skip ?_
          refine nrm_normal ?_
          refine W_seq ?_
          refine W_block ?_
          refine W_seq ?_
          refine W_drawn 10 rfl hmix (fun w2 hB2 => ?_)
          have hC2 := hC1.grow hB2
          refine WA_take 0 rfl (by kernel_rfl) (by kernel_rfl) (by kernel_rfl) rfl (fl_move rfl) ?_
          refine WL_move rfl rfl ?_
          refine WL_nil ?_
          refine WA_take 1 rfl (by kernel_rfl) (by kernel_rfl) (by kernel_rfl) rfl (fl_move rfl) ?_
          refine WL_move rfl rfl ?_
          refine WL_nil ?_
          obtain ⟨x2, hx1, hL1⟩ := bind_some hL1
          refine WA_take 2 rfl (by kernel_rfl) (by kernel_rfl) (by kernel_rfl) rfl (fl_index Try.underlying47 ty38 g1 hx1 rfl rfl) ?_
          refine WL_index Try.underlying47 ty38 g1 hx1 rfl rfl rfl (fun b1 o1 h1 => ?_)
          refine WL_nil ?_
          refine WA_take 4 rfl (by kernel_rfl) (by kernel_rfl) (by kernel_rfl) rfl (fl_move rfl) ?_
          refine WL_move rfl rfl ?_
          refine WL_nil ?_
          refine WA_take 5 rfl (by kernel_rfl) (by kernel_rfl) (by kernel_rfl) rfl (fl_move rfl) ?_
          refine WL_move rfl rfl ?_
          refine WL_nil ?_
          obtain ⟨x3, hx2, hL1⟩ := bind_some hL1
          refine WA_take 6 rfl (by kernel_rfl) (by kernel_rfl) (by kernel_rfl) rfl (fl_index Try.underlying47 ty38 g2 hx2 rfl rfl) ?_
          refine WL_index Try.underlying47 ty38 g2 hx2 rfl rfl rfl (fun b2 o2 h2 => ?_)
          refine WL_nil ?_
          refine WA.sub (l' := [(0, u1), (1, u2), (5, (.int .i64 x1)), (11, (.int .i64 x1)), (12, u1), (13, (.int .i64 (List.length a1 : Int))), (14, (.bool (decide (x1 < (List.length a1 : Int))))), (17, u1), (18, (.int .i64 x1)), (19, (ptr b1 o1)), (21, u2), (22, (.int .i64 x1)), (23, (ptr b2 o2))]) ?_ ⟨rfl, rfl, rfl, rfl, rfl, rfl, rfl, rfl, rfl, rfl, rfl, rfl, rfl, trivial⟩
          refine WA_postsE [⟨3, [], fun vs => PW.ro [] w0 x2, []⟩, ⟨7, [], fun vs => PW.ro [] w0 x3, []⟩] [[], []] 2 rfl (by kernel_rfl) (by kernel_rfl) rfl ?_ ?_
          · refine StepsE_cons rfl ?_ ?_
            · intro w3 hB3
              refine DepsE_nil ?_
              refine ⟨_, rfl, ?_⟩
              refine WL_load ty38 h1 (hC2.keep.then hB3) rfl rfl (fun v4 h6 => ?_)
              refine WL_nil ?_
              exact FinE_val (Below.refl _ _) rfl rfl ⟨rfl, h6⟩
            refine StepsE_cons rfl ?_ ?_
            · intro w3 hB3
              refine DepsE_nil ?_
              refine ⟨_, rfl, ?_⟩
              refine WL_load ty38 h2 (hC2.keep.then hB3) rfl rfl (fun v8 h10 => ?_)
              refine WL_nil ?_
              exact FinE_val (Below.refl _ _) rfl rfl ⟨rfl, h10⟩
            exact StepsE_nil
          · intro w4 hB4
            refine AllE_cons rfl rfl rfl ?_
            rintro v4 _ ⟨rfl, h6⟩
            obtain ⟨v2, v3, rfl, h4, h5⟩ := ro_st38 h6
            refine AllE_cons rfl rfl rfl ?_
            rintro v8 _ ⟨rfl, h10⟩
            obtain ⟨v6, v7, rfl, h8, h9⟩ := ro_st38 h10
            refine AllE_nil ?_
            intro hn1 hb1
            have hC3 := hC2.grow hB4
            obtain ⟨x4, hr2, hL1⟩ := bind_some hL1
            refine WA_one 8 (by kernel_rfl) rfl ?_
            refine WL_call Try.call21 rfl rfl (c_Q_eqTold x2 v2 (h4.now hC3.keep) v3 (h5.now hC3.keep) x3 v6 (h8.now hC3.keep) v7 (h9.now hC3.keep) x4 hr2) ?_
            intro _ w5 hv1
            obtain ⟨rfl, hB5⟩ := res_bool hv1
            have hC4 := hC3.grow hB5
            refine WL_nil ?_
            refine WA_take 9 rfl (by kernel_rfl) (by kernel_rfl) (by kernel_rfl) rfl (fl_not rfl) ?_
            refine WL_not rfl rfl ?_
            refine WL_nil ?_
            refine WA_done (by kernel_rfl) ?_
            refine nrm_normal ?_
            refine W_cond rfl (fun hc3 => ?_) (fun hc3 => ?_)
            · replace hL1 := ite_t hL1 hc3
              refine W_seq_reg ?_
              refine WL_assign rfl rfl ?_
              refine WL_nil ?_
              refine W_ret ?_
              refine blk_ret ?_
              refine nrm_ret ?_
              refine nrm_ret ?_
              refine blk_ret ?_
              refine nrm_ret ?_
              refine nrm_ret ?_
              have hq2 := Option.some.inj hL1
              subst hq2
              dsimp only at hF
              have hq3 := Option.some.inj hF
              subst hq3
              refine fn_ret1 rfl rfl ?_
              exact ⟨_, rfl, bool_res hC4 _⟩
            · replace hL1 := ite_f hL1 hc3
              refine W_skip ?_
              refine blk_normal ?_
              refine nrm_normal ?_
              refine W_reg ?_
              refine WL_move rfl rfl ?_
              refine WL_add rfl rfl rfl ?_
              refine WL_assign rfl rfl ?_
              refine WL_nil ?_
              refine nrm_sub (l' := [(0, u1), (1, u2), (5, (.int .i64 (w64 (x1 + 1))))]) ⟨rfl, rfl, rfl, trivial⟩ ?_
              exact ⟨k1, Nat.lt_succ_self _, w64 (x1 + 1), rfl, ((((Keep.of hB1).then hB2).then hB4).then hB5).below, hC4, hL1⟩
        · replace hL1 := ite_f hL1 hc2
          refine W_exit ?_
          refine nrm_exit ?_
          refine nrm_exit ?_
          refine blk_exit ?_
          have hq4 := Option.some.inj hL1
          subst hq4
          refine nrm_sub (l' := []) trivial ?_
          exact ⟨rfl, rfl, (Keep.of hB1).below, hC1⟩
    · rintro l2 _ w6 hs2 ⟨rfl, rfl, hB6, hC5⟩
      try dsimp only at hF
      refine nrm_sub' hs2 ?_
      clear hs2
      refine W_seq_reg ?_
      refine WL_assign rfl rfl ?_
      refine WL_nil ?_
      refine W_ret ?_
      have hq5 := Option.some.inj hF
      subst hq5
      refine fn_ret1 rfl rfl ?_
      exact ⟨_, rfl, bool_res hC5 _⟩

theorem c_S_FirstConflict {w0 : World} (a1 : (List Int)) (u1 : Value) (g1 : RO [] w0 u1 a1) (a2 : (List (Int × (List Int) × Int × Int × Int))) (u2 : Value) (g2 : RO [] w0 u2 a2) (a3 : (List ((Int × (List Int)) × (List (Int × (List Int)))))) (u3 : Value) (g3 : RO [] w0 u3 a3) (rr : (Int × Int × Bool)) (hF : S.FirstConflict a1 a2 a3 = some rr) :
    Calls Try.prog 33 [u1, u2, u3].toArray w0 fun e w' => ∃ v, e = .returned v ∧ Res3 w0 rr.1 rr.2.1 rr.2.2 v w' := by
  refine calls_of_W Try.func33 rfl rfl ?_
  have hC0 := Ctx.start w0
  unfold S.FirstConflict at hF
  refine W_seq_reg ?_
  refine WL_assign rfl rfl ?_
  refine WL_assign rfl rfl ?_
  refine WL_assign rfl rfl ?_
  refine WL_nil ?_
  refine W_seq ?_
  refine W_seq_reg ?_
  refine WL_assign rfl rfl ?_
  refine WL_nil ?_
  obtain ⟨r1, hr1, hF⟩ := bind_some hF
  refine W_norm (fun l w => .inl () = r1 ∧ l = [] ∧ Below w0.heap.size w0 w ∧ Ctx [] w0 w []) ?_ ?_
  · refine W_block ?_
    refine W.sub (l' := [(0, u1), (1, u2), (2, u3), (9, (.int .i64 0))]) ?_ ⟨rfl, rfl, rfl, rfl, trivial⟩
    refine W_loop (fun k l w => ∃ x1 : Int, l = [(0, u1), (1, u2), (2, u3), (9, (.int .i64 x1))] ∧ Below w0.heap.size w0 w ∧ Ctx [] w0 w [] ∧ S.FirstConflict_l1 a3 a1 a2 k x1 = some r1) FUEL ⟨0, rfl, (Below.refl _ _), hC0, hr1⟩ ?_
    clear hr1
    rintro k1 _ w1 ⟨x1, rfl, hB1, hC1, hL1⟩
    cases k1 with
    | zero => rw [S.FirstConflict_l1] at hL1; cases hL1
    | succ k1 =>
      rw [S.FirstConflict_l1] at hL1
      refine W_seq ?_
      refine W_seq_reg ?_
      refine WL_move rfl rfl ?_
      refine WL_move rfl rfl ?_
      refine WL_len Try.underlying47 g3 rfl rfl ?_
      refine WL_lss rfl rfl rfl ?_
      refine WL_nil ?_
      refine W_cond rfl (fun hc1 => ?_) (fun hc1 => ?_)
      · replace hL1 := ite_t hL1 hc1
        refine W_skip ?_
        refine nrm_normal ?_
        refine W_seq ?_
        refine W_block ?_
        refine W_seq ?_
        refine W_seq_reg ?_
        refine WL_move rfl rfl ?_
        refine WL_move rfl rfl ?_
        refine WL_move rfl rfl ?_
        refine WL_move rfl rfl ?_
        obtain ⟨x2, hx1, hL1⟩ := bind_some hL1
        refine WL_index Try.underlying47 ty38 g3 hx1 rfl rfl rfl (fun b1 o1 h1 => ?_)
        refine WL_load ty38 h1 hC1.keep rfl rfl (fun v1 h2 => ?_)
        obtain ⟨v2, v3, rfl, h3, h4⟩ := ro_st38 h2
        obtain ⟨x3, hr2, hL1⟩ := bind_some hL1
        refine WL_call Try.call14 rfl rfl (c_S_FitsSelf a1 u1 (g1.now hC1.keep) a2 u2 (g2.now hC1.keep) x2 v2 (h3.now hC1.keep) v3 (h4.now hC1.keep) x3 hr2) ?_
        intro _ w2 hv1
        obtain ⟨rfl, hB2⟩ := res_bool hv1
        have hC2 := hC1.grow hB2
        refine WL_not rfl rfl ?_
        refine WL_nil ?_
        refine W_cond rfl (fun hc2 => ?_) (fun hc2 => ?_)
        · replace hL1 := ite_t hL1 hc2
          refine W_seq_reg ?_
          refine WL_move rfl rfl ?_
          refine WL_move rfl rfl ?_
          refine WL_assign rfl rfl ?_
          refine WL_assign rfl rfl ?_
          refine WL_assign rfl rfl ?_
          refine WL_nil ?_
          refine W_ret ?_
          refine nrm_ret ?_
          refine blk_ret ?_
          refine nrm_ret ?_
          refine nrm_ret ?_
          refine blk_ret ?_
          refine nrm_ret ?_
          refine nrm_ret ?_
          have hq1 := Option.some.inj hL1
          subst hq1
          dsimp only at hF
          have hq2 := Option.some.inj hF
          subst hq2
          refine fn_ret3 rfl rfl rfl rfl ?_
          have hC3 := hC2.triv (bool_val (true))
          have hC4 := hC3.triv (int_val (x1))
          have hC5 := hC4.triv (int_val (x1))
          exact ⟨_, rfl, res3_of hC5⟩
        · replace hL1 := ite_f hL1 hc2
          refine W_skip ?_
          refine nrm_normal ?_
          refine W_seq_reg ?_
          refine WL_assign rfl rfl ?_
          refine WL_nil ?_
          obtain ⟨r2, hr3, hL1⟩ := bind_some hL1
          refine W_norm (fun l w => .inl () = r2 ∧ l = [(0, u1), (1, u2), (2, u3), (9, (.int .i64 x1))] ∧ Below w2.heap.size w2 w ∧ Ctx [] w0 w []) ?_ ?_
          · refine W_block ?_
            refine W.sub (l' := [(0, u1), (1, u2), (2, u3), (9, (.int .i64 x1)), (10, (.int .i64 0))]) ?_ ⟨rfl, rfl, rfl, rfl, rfl, trivial⟩
            refine W_loop (fun k l w => ∃ x4 : Int, l = [(0, u1), (1, u2), (2, u3), (9, (.int .i64 x1)), (10, (.int .i64 x4))] ∧ Below w2.heap.size w2 w ∧ Ctx [] w0 w [] ∧ S.FirstConflict_l2 x1 a3 a1 a2 k x4 = some r2) FUEL ⟨0, rfl, (Below.refl _ _), hC2, hr3⟩ ?_
            clear hr3
            rintro k2 _ w3 ⟨x4, rfl, hB3, hC6, hL2⟩
            cases k2 with
            | zero => rw [S.FirstConflict_l2] at hL2; cases hL2
            | succ k2 =>
              rw [S.FirstConflict_l2] at hL2
              refine W_seq ?_
              refine W_seq_reg ?_
              refine WL_move rfl rfl ?_
              refine WL_move rfl rfl ?_
              refine WL_lss rfl rfl rfl ?_
              refine WL_nil ?_
              refine W_cond rfl (fun hc3 => ?_) (fun hc3 => ?_)
              · replace hL2 := ite_t hL2 hc3
                refine W_skip ?_
                refine nrm_normal ?_
                refine W_seq ?_
                refine W_block ?_
                refine W_seq ?_
                refine W_drawn 11 rfl hmix (fun w4 hB4 => ?_)
                have hC7 := hC6.grow hB4
                refine WA_take 0 rfl (by kernel_rfl) (by kernel_rfl) (by kernel_rfl) rfl (fl_move rfl) ?_
                refine WL_move rfl rfl ?_
                refine WL_nil ?_
                refine WA_take 1 rfl (by kernel_rfl) (by kernel_rfl) (by kernel_rfl) rfl (fl_move rfl) ?_
                refine WL_move rfl rfl ?_
                refine WL_nil ?_
                refine WA_take 2 rfl (by kernel_rfl) (by kernel_rfl) (by kernel_rfl) rfl (fl_move rfl) ?_
                refine WL_move rfl rfl ?_
                refine WL_nil ?_
                refine WA_take 3 rfl (by kernel_rfl) (by kernel_rfl) (by kernel_rfl) rfl (fl_move rfl) ?_
                refine WL_move rfl rfl ?_
                refine WL_nil ?_
                obtain ⟨x5, hx2, hL2⟩ := bind_some hL2
                refine WA_take 4 rfl (by kernel_rfl) (by kernel_rfl) (by kernel_rfl) rfl (fl_index Try.underlying47 ty38 g3 hx2 rfl rfl) ?_
                refine WL_index Try.underlying47 ty38 g3 hx2 rfl rfl rfl (fun b2 o2 h5 => ?_)
                refine WL_nil ?_
                refine WA_take 6 rfl (by kernel_rfl) (by kernel_rfl) (by kernel_rfl) rfl (fl_move rfl) ?_
                refine WL_move rfl rfl ?_
                refine WL_nil ?_
                refine WA_take 7 rfl (by kernel_rfl) (by kernel_rfl) (by kernel_rfl) rfl (fl_move rfl) ?_
                refine WL_move rfl rfl ?_
                refine WL_nil ?_
                obtain ⟨x6, hx3, hL2⟩ := bind_some hL2
                refine WA_take 8 rfl (by kernel_rfl) (by kernel_rfl) (by kernel_rfl) rfl (fl_index Try.underlying47 ty38 g3 hx3 rfl rfl) ?_
                refine WL_index Try.underlying47 ty38 g3 hx3 rfl rfl rfl (fun b3 o3 h6 => ?_)
                refine WL_nil ?_
                refine WA.sub (l' := [(0, u1), (1, u2), (2, u3), (9, (.int .i64 x1)), (10, (.int .i64 x4)), (27, (.int .i64 x4)), (28, (.int .i64 x1)), (29, (.bool (decide (x4 < x1)))), (32, u1), (33, u2), (34, u3), (35, (.int .i64 x4)), (36, (ptr b2 o2)), (38, u3), (39, (.int .i64 x1)), (40, (ptr b3 o3))]) ?_ ⟨rfl, rfl, rfl, rfl, rfl, rfl, rfl, rfl, rfl, rfl, rfl, rfl, rfl, rfl, rfl, rfl, trivial⟩
                refine WA_postsE [⟨5, [], fun vs => PW.ro [] w0 x5, []⟩, ⟨9, [], fun vs => PW.ro [] w0 x6, []⟩] [[], []] 1 rfl (by kernel_rfl) (by kernel_rfl) rfl ?_ ?_
                · refine StepsE_cons rfl ?_ ?_
                  · intro w5 hB5
                    refine DepsE_nil ?_
                    refine ⟨_, rfl, ?_⟩
                    refine WL_load ty38 h5 (hC7.keep.then hB5) rfl rfl (fun v7 h10 => ?_)
                    refine WL_nil ?_
                    exact FinE_val (Below.refl _ _) rfl rfl ⟨rfl, h10⟩
                  refine StepsE_cons rfl ?_ ?_
                  · intro w5 hB5
                    refine DepsE_nil ?_
                    refine ⟨_, rfl, ?_⟩
                    refine WL_load ty38 h6 (hC7.keep.then hB5) rfl rfl (fun v11 h14 => ?_)
                    refine WL_nil ?_
                    exact FinE_val (Below.refl _ _) rfl rfl ⟨rfl, h14⟩
                  exact StepsE_nil
                · intro w6 hB6
                  refine AllE_cons rfl rfl rfl ?_
                  rintro v7 _ ⟨rfl, h10⟩
                  obtain ⟨v5, v6, rfl, h8, h9⟩ := ro_st38 h10
                  refine AllE_cons rfl rfl rfl ?_
                  rintro v11 _ ⟨rfl, h14⟩
                  obtain ⟨v9, v10, rfl, h12, h13⟩ := ro_st38 h14
                  refine AllE_nil ?_
                  intro hn1 hb1
                  have hC8 := hC7.grow hB6
                  obtain ⟨x7, hr4, hL2⟩ := bind_some hL2
                  refine WA_one 10 (by kernel_rfl) rfl ?_
                  refine WL_call Try.call31 rfl rfl (c_S_Disagree a1 u1 (g1.now hC8.keep) a2 u2 (g2.now hC8.keep) x5 v5 (h8.now hC8.keep) v6 (h9.now hC8.keep) x6 v9 (h12.now hC8.keep) v10 (h13.now hC8.keep) x7 hr4) ?_
                  intro _ w7 hv2
                  obtain ⟨rfl, hB7⟩ := res_bool hv2
                  have hC9 := hC8.grow hB7
                  refine WL_nil ?_
                  refine WA_done (by kernel_rfl) ?_
                  refine nrm_normal ?_
                  refine W_cond rfl (fun hc4 => ?_) (fun hc4 => ?_)
                  · replace hL2 := ite_t hL2 hc4
                    refine W_seq_reg ?_
                    refine WL_move rfl rfl ?_
                    refine WL_move rfl rfl ?_
                    refine WL_assign rfl rfl ?_
                    refine WL_assign rfl rfl ?_
                    refine WL_assign rfl rfl ?_
                    refine WL_nil ?_
                    refine W_ret ?_
                    refine blk_ret ?_
                    refine nrm_ret ?_
                    refine nrm_ret ?_
                    refine blk_ret ?_
                    refine nrm_ret ?_
                    refine blk_ret ?_
                    refine nrm_ret ?_
                    refine nrm_ret ?_
                    refine blk_ret ?_
                    refine nrm_ret ?_
                    refine nrm_ret ?_
                    have hq3 := Option.some.inj hL2
                    subst hq3
                    dsimp only at hL1
                    have hq4 := Option.some.inj hL1
                    subst hq4
                    dsimp only at hF
                    have hq5 := Option.some.inj hF
                    subst hq5
                    refine fn_ret3 rfl rfl rfl rfl ?_
                    have hC10 := hC9.triv (bool_val (true))
                    have hC11 := hC10.triv (int_val (x1))
                    have hC12 := hC11.triv (int_val (x4))
                    exact ⟨_, rfl, res3_of hC12⟩
                  · replace hL2 := ite_f hL2 hc4
                    refine W_skip ?_
                    refine blk_normal ?_
                    refine nrm_normal ?_
                    refine W_reg ?_
                    refine WL_move rfl rfl ?_
                    refine WL_add rfl rfl rfl ?_
                    refine WL_assign rfl rfl ?_
                    refine WL_nil ?_
                    refine nrm_sub (l' := [(0, u1), (1, u2), (2, u3), (9, (.int .i64 x1)), (10, (.int .i64 (w64 (x4 + 1))))]) ⟨rfl, rfl, rfl, rfl, rfl, trivial⟩ ?_
                    exact ⟨k2, Nat.lt_succ_self _, w64 (x4 + 1), rfl, ((((Keep.of hB3).then hB4).then hB6).then hB7).below, hC9, hL2⟩
              · replace hL2 := ite_f hL2 hc3
                refine W_exit ?_
                refine nrm_exit ?_
                refine nrm_exit ?_
                refine blk_exit ?_
                have hq6 := Option.some.inj hL2
                subst hq6
                refine nrm_sub (l' := [(0, u1), (1, u2), (2, u3), (9, (.int .i64 x1))]) ⟨rfl, rfl, rfl, rfl, trivial⟩ ?_
                exact ⟨rfl, rfl, (Keep.of hB3).below, hC6⟩
          · rintro l3 _ w8 hs3 ⟨rfl, rfl, hB8, hC13⟩
            try dsimp only at hL1
            refine blk_normal ?_
            refine nrm_sub' hs3 ?_
            clear hs3
            refine W_reg ?_
            refine WL_move rfl rfl ?_
            refine WL_add rfl rfl rfl ?_
            refine WL_assign rfl rfl ?_
            refine WL_nil ?_
            refine nrm_sub (l' := [(0, u1), (1, u2), (2, u3), (9, (.int .i64 (w64 (x1 + 1))))]) ⟨rfl, rfl, rfl, rfl, trivial⟩ ?_
            exact ⟨k1, Nat.lt_succ_self _, w64 (x1 + 1), rfl, (((Keep.of hB1).then hB2).then hB8).below, hC13, hL1⟩
      · replace hL1 := ite_f hL1 hc1
        refine W_exit ?_
        refine nrm_exit ?_
        refine nrm_exit ?_
        refine blk_exit ?_
        have hq7 := Option.some.inj hL1
        subst hq7
        refine nrm_sub (l' := []) trivial ?_
        exact ⟨rfl, rfl, (Keep.of hB1).below, hC1⟩
  · rintro l4 _ w9 hs4 ⟨rfl, rfl, hB9, hC14⟩
    try dsimp only at hF
    refine nrm_sub' hs4 ?_
    clear hs4
    refine W_seq_reg ?_
    refine WL_assign rfl rfl ?_
    refine WL_assign rfl rfl ?_
    refine WL_assign rfl rfl ?_
    refine WL_nil ?_
    refine W_ret ?_
    have hq8 := Option.some.inj hF
    subst hq8
    refine fn_ret3 rfl rfl rfl rfl ?_
    have hC15 := hC14.triv (bool_val (false))
    have hC16 := hC15.triv (int_val ((-1)))
    have hC17 := hC16.triv (int_val ((-1)))
    exact ⟨_, rfl, res3_of hC17⟩

theorem c_S_IsConsistent {w0 : World} (a1 : (List Int)) (u1 : Value) (g1 : RO [] w0 u1 a1) (a2 : (List (Int × (List Int) × Int × Int × Int))) (u2 : Value) (g2 : RO [] w0 u2 a2) (a3 : (List ((Int × (List Int)) × (List (Int × (List Int)))))) (u3 : Value) (g3 : RO [] w0 u3 a3) (rr : Bool) (hF : S.IsConsistent a1 a2 a3 = some rr) :
    Calls Try.prog 35 [u1, u2, u3].toArray w0 fun e w' => ∃ v, e = .returned v ∧ Res w0 rr v w' := by
  refine calls_of_W Try.func35 rfl rfl ?_
  have hC0 := Ctx.start w0
  unfold S.IsConsistent at hF
  refine W_seq_reg ?_
  refine WL_assign rfl rfl ?_
  refine WL_nil ?_
  refine W_seq_reg ?_
  refine WL_move rfl rfl ?_
  refine WL_move rfl rfl ?_
  refine WL_move rfl rfl ?_
  obtain ⟨x1, hr1, hF⟩ := bind_some hF
  refine WL_call Try.call33 rfl rfl (c_S_FirstConflict a1 u1 (g1.now hC0.keep) a2 u2 (g2.now hC0.keep) a3 u3 (g3.now hC0.keep) x1 hr1) ?_
  rintro _ w1 ⟨hB1, v1, v2, v3, F1, F2, F3, rfl, hv1, hv2, hv3, hn1, hb1⟩
  obtain ⟨rfl, rfl⟩ := val_int hv1
  obtain ⟨rfl, rfl⟩ := val_int hv2
  obtain ⟨rfl, rfl⟩ := val_bool hv3
  have hC1 := hC0.grow hB1
  refine WL_move rfl rfl ?_
  refine WL_extract rfl rfl rfl ?_
  refine WL_extract rfl rfl rfl ?_
  refine WL_extract rfl rfl rfl ?_
  refine WL_assign rfl rfl ?_
  refine WL_assign rfl rfl ?_
  refine WL_assign rfl rfl ?_
  refine WL_nil ?_
  obtain ⟨r1, hr2, hF⟩ := bind_some hF
  refine W_cut (fun l w => ∃ x2 : Bool, x2 = r1 ∧ l = [(6, (.bool x2))] ∧ Below w1.heap.size w1 w ∧ Ctx [] w0 w []) ?_ ?_
  · refine W_reg ?_
    refine WL_move rfl rfl ?_
    refine WL_move rfl rfl ?_
    obtain ⟨x3, hr3, hr2⟩ := bind_some hr2
    refine WL_call Try.call87 rfl rfl (c_S_AreMethods a1 u1 (g1.now hC1.keep) a2 u2 (g2.now hC1.keep) x3 hr3) ?_
    intro _ w3 hv4
    obtain ⟨rfl, hB3⟩ := res_bool hv4
    have hC3 := hC1.grow hB3
    refine WL_move rfl rfl ?_
    refine WL_fork (fun hc1 => ?_) (fun hc1 => ?_)
    · replace hr2 := ite_t hr2 hc1
      refine WL_guard rfl rfl ?_
      refine WL_move rfl rfl ?_
      refine WL_guard rfl rfl ?_
      refine WL_not rfl rfl ?_
      refine WL_pick_t rfl rfl rfl ?_
      refine WL_assign rfl rfl ?_
      refine WL_nil ?_
      have hq1 := Option.some.inj hr2
      subst hq1
      refine nrm_sub (l' := [(6, (.bool (!x1.2.2)))]) ⟨rfl, trivial⟩ ?_
      exact ⟨(!x1.2.2), rfl, rfl, (Keep.of hB3).below, hC3⟩
    · replace hr2 := ite_f hr2 hc1
      refine WL_guard_skip rfl rfl (by simp) rfl ?_
      refine WL_guard_skip rfl rfl (by simp) rfl ?_
      refine WL_pick_f rfl rfl rfl ?_
      refine WL_assign rfl rfl ?_
      refine WL_nil ?_
      have hq2 := Option.some.inj hr2
      subst hq2
      refine nrm_sub (l' := [(6, (.bool false))]) ⟨rfl, trivial⟩ ?_
      exact ⟨false, rfl, rfl, (Keep.of hB3).below, hC3⟩
  · rintro _ w2 ⟨x2, rfl, rfl, hB2, hC2⟩
    try dsimp only at hF
    refine W_ret ?_
    have hq3 := Option.some.inj hF
    subst hq3
    refine fn_ret1 rfl rfl ?_
    exact ⟨_, rfl, bool_res hC2 _⟩

theorem c_M_FirstConflict_c1 {w0 : World} (a1 : ((Int × (List Int)) × (List (Int × (List Int))))) (u1 : Value) (g1 : RO [] w0 u1 a1.1.2) (u2 : Value) (g2 : RO [] w0 u2 a1.2) (pb1 : Nat) (ax1 : (List Int)) (g3 : ROAt [] w0 pb1 0 ax1) (pb2 : Nat) (ax2 : (List (Int × (List Int) × Int × Int × Int))) (g4 : ROAt [] w0 pb2 0 ax2) (pb3 : Nat) (ax3 : ((Int × (List Int)) × (List (Int × (List Int))))) (g5 : ROAt [] w0 pb3 0 ax3) (rr : Bool) (hF : M.FirstConflict_c1 a1 ax1 ax2 ax3 = some rr) :
    Calls Try.prog 86 [(.agg #[(.int .i64 a1.1.1), u1, u2]), (ptr pb1 0), (ptr pb2 0), (ptr pb3 0)].toArray w0 fun e w' => ∃ v, e = .returned v ∧ Res w0 rr v w' := by
  refine calls_of_W Try.func86 rfl rfl ?_
  have hC0 := Ctx.start w0
  unfold M.FirstConflict_c1 at hF
  refine W_seq_reg ?_
  refine WL_box (cs := [(.int .i64 a1.1.1), u1, u2]) hC0 rfl rfl rfl (fun b1 w1 hC1 hB1 => ?_)
  refine WL_assign rfl rfl ?_
  refine WL_nil ?_
  refine W_seq_reg ?_
  refine WL_load ty22 g3 hC1.keep rfl rfl (fun v1 h1 => ?_)
  refine WL_load ty33 g4 hC1.keep rfl rfl (fun v2 h2 => ?_)
  refine WL_load_box_agg [(.int .i64 a1.1.1), u1, u2] hC1 0 rfl rfl rfl Try.isAgg38 Try.sizeOf38 rfl rfl ?_
  refine WL_load ty38 g5 hC1.keep rfl rfl (fun v3 h3 => ?_)
  obtain ⟨v4, v5, rfl, h4, h5⟩ := ro_st38 h3
  obtain ⟨x1, hr1, hF⟩ := bind_some hF
  refine WL_call Try.call32 rfl rfl (c_M_Disagree ax1 v1 (h1.now hC1.keep) ax2 v2 (h2.now hC1.keep) ((a1.1.1, a1.1.2), a1.2) u1 (g1.now hC1.keep) u2 (g2.now hC1.keep) ax3 v4 (h4.now hC1.keep) v5 (h5.now hC1.keep) x1 hr1) ?_
  intro _ w2 hv1
  obtain ⟨rfl, hB2⟩ := res_bool hv1
  have hC2 := hC1.grow hB2
  refine WL_assign rfl rfl ?_
  refine WL_nil ?_
  refine W_ret ?_
  have hq1 := Option.some.inj hF
  subst hq1
  refine fn_ret1 rfl rfl ?_
  exact ⟨_, rfl, bool_res hC2 _⟩

theorem c_Slices_IndexFunc_Limpl_Told_impl_Told_M_FirstConflict_c1 {w0 : World} (a1 : (List ((Int × (List Int)) × (List (Int × (List Int)))))) (u1 : Value) (g1 : RO [] w0 u1 a1) (pb1 : Nat) (ax1 : (List Int)) (g2 : ROAt [] w0 pb1 0 ax1) (pb2 : Nat) (ax2 : (List (Int × (List Int) × Int × Int × Int))) (g3 : ROAt [] w0 pb2 0 ax2) (pb3 : Nat) (ax3 : ((Int × (List Int)) × (List (Int × (List Int))))) (g4 : ROAt [] w0 pb3 0 ax3) (rr : Int) (hF : Slices.IndexFunc_Limpl_Told_impl_Told_M_FirstConflict_c1 a1 ax1 ax2 ax3 = some rr) :
    Calls Try.prog 85 [u1, (.func (.func 86) #[] #[(ptr pb1 0), (ptr pb2 0), (ptr pb3 0)])].toArray w0 fun e w' => ∃ v, e = .returned v ∧ Res w0 rr v w' := by
  refine calls_of_W Try.func85 rfl rfl ?_
  have hC0 := Ctx.start w0
  unfold Slices.IndexFunc_Limpl_Told_impl_Told_M_FirstConflict_c1 at hF
  refine W_seq_reg ?_
  refine WL_assign rfl rfl ?_
  refine WL_nil ?_
  refine W_seq ?_
  refine W_seq_reg ?_
  refine WL_move rfl rfl ?_
  refine WL_len Try.underlying47 g1 rfl rfl ?_
  refine WL_move rfl rfl ?_
  refine WL_nil ?_
  obtain ⟨r1, hr1, hF⟩ := bind_some hF
  refine W_norm (fun l w => .inl () = r1 ∧ l = [] ∧ Below w0.heap.size w0 w ∧ Ctx [] w0 w []) ?_ ?_
  · refine W_block ?_
    refine W.sub (l' := [(0, u1), (1, (.func (.func 86) #[] #[(ptr pb1 0), (ptr pb2 0), (ptr pb3 0)])), (7, (.int .i64 (List.length a1 : Int))), (8, (.int .i64 0))]) ?_ ⟨rfl, rfl, rfl, rfl, trivial⟩
    refine W_loop (fun k l w => ∃ x1 : Int, l = [(0, u1), (1, (.func (.func 86) #[] #[(ptr pb1 0), (ptr pb2 0), (ptr pb3 0)])), (7, (.int .i64 (List.length a1 : Int))), (8, (.int .i64 x1))] ∧ Below w0.heap.size w0 w ∧ Ctx [] w0 w [] ∧ Slices.IndexFunc_Limpl_Told_impl_Told_M_FirstConflict_c1_l1 a1 ax1 ax2 ax3 k x1 = some r1) FUEL ⟨0, rfl, (Below.refl _ _), hC0, hr1⟩ ?_
    clear hr1
    rintro k1 _ w1 ⟨x1, rfl, hB1, hC1, hL1⟩
    cases k1 with
    | zero => rw [Slices.IndexFunc_Limpl_Told_impl_Told_M_FirstConflict_c1_l1] at hL1; cases hL1
    | succ k1 =>
      rw [Slices.IndexFunc_Limpl_Told_impl_Told_M_FirstConflict_c1_l1] at hL1
      refine W_seq_reg ?_
      refine WL_lss rfl rfl rfl ?_
      refine WL_nil ?_
      refine W_seq ?_
      refine W_cond rfl (fun hc1 => ?_) (fun hc1 => ?_)
      · replace hL1 := ite_t hL1 hc1
        refine W_skip ?_
        refine nrm_normal ?_
        refine W_seq ?_
        refine W_block ?_
        refine W_seq_reg ?_
        refine WL_move rfl rfl ?_
        refine WL_assign rfl rfl ?_
        refine WL_nil ?_
        refine W_seq_reg ?_
        refine WL_move rfl rfl ?_
        refine WL_move rfl rfl ?_
        refine WL_move rfl rfl ?_
        obtain ⟨x2, hx1, hL1⟩ := bind_some hL1
        refine WL_index Try.underlying47 ty38 g1 hx1 rfl rfl rfl (fun b1 o1 h1 => ?_)
        refine WL_load ty38 h1 hC1.keep rfl rfl (fun v1 h2 => ?_)
        obtain ⟨v2, v3, rfl, h3, h4⟩ := ro_st38 h2
        obtain ⟨x3, hr2, hL1⟩ := bind_some hL1
        refine WL_callv (cap := [(ptr pb1 0), (ptr pb2 0), (ptr pb3 0)]) Try.call86 rfl rfl rfl (c_M_FirstConflict_c1 x2 v2 (h3.now hC1.keep) v3 (h4.now hC1.keep) pb1 ax1 (g2.now hC1.keep) pb2 ax2 (g3.now hC1.keep) pb3 ax3 (g4.now hC1.keep) x3 hr2) ?_
        intro _ w2 hv1
        obtain ⟨rfl, hB2⟩ := res_bool hv1
        have hC2 := hC1.grow hB2
        refine WL_nil ?_
        refine W_cond rfl (fun hc2 => ?_) (fun hc2 => ?_)
        · replace hL1 := ite_t hL1 hc2
          refine W_seq_reg ?_
          refine WL_move rfl rfl ?_
          refine WL_assign rfl rfl ?_
          refine WL_nil ?_
          refine W_ret ?_
          refine blk_ret ?_
          refine nrm_ret ?_
          refine nrm_ret ?_
          refine blk_ret ?_
          refine nrm_ret ?_
          refine nrm_ret ?_
          have hq1 := Option.some.inj hL1
          subst hq1
          dsimp only at hF
          have hq2 := Option.some.inj hF
          subst hq2
          refine fn_ret1 rfl rfl ?_
          exact ⟨_, rfl, int_res hC2 _⟩
        · replace hL1 := ite_f hL1 hc2
          refine W_skip ?_
          refine blk_normal ?_
          refine nrm_normal ?_
          refine W_reg ?_
          refine WL_add rfl rfl rfl ?_
          refine WL_move rfl rfl ?_
          refine WL_nil ?_
          refine nrm_sub (l' := [(0, u1), (1, (.func (.func 86) #[] #[(ptr pb1 0), (ptr pb2 0), (ptr pb3 0)])), (7, (.int .i64 (List.length a1 : Int))), (8, (.int .i64 (w64 (x1 + 1))))]) ⟨rfl, rfl, rfl, rfl, trivial⟩ ?_
          exact ⟨k1, Nat.lt_succ_self _, w64 (x1 + 1), rfl, ((Keep.of hB1).then hB2).below, hC2, hL1⟩
      · replace hL1 := ite_f hL1 hc1
        refine W_exit ?_
        refine nrm_exit ?_
        refine nrm_exit ?_
        refine blk_exit ?_
        have hq3 := Option.some.inj hL1
        subst hq3
        refine nrm_sub (l' := []) trivial ?_
        exact ⟨rfl, rfl, (Keep.of hB1).below, hC1⟩
  · rintro l2 _ w3 hs2 ⟨rfl, rfl, hB3, hC3⟩
    try dsimp only at hF
    refine nrm_sub' hs2 ?_
    clear hs2
    refine W_seq_reg ?_
    refine WL_assign rfl rfl ?_
    refine WL_nil ?_
    refine W_ret ?_
    have hq4 := Option.some.inj hF
    subst hq4
    refine fn_ret1 rfl rfl ?_
    exact ⟨_, rfl, int_res hC3 _⟩

theorem c_M_FirstConflict {w0 : World} (a1 : (List Int)) (u1 : Value) (g1 : RO [] w0 u1 a1) (a2 : (List (Int × (List Int) × Int × Int × Int))) (u2 : Value) (g2 : RO [] w0 u2 a2) (a3 : (List ((Int × (List Int)) × (List (Int × (List Int)))))) (u3 : Value) (g3 : RO [] w0 u3 a3) (rr : (Int × Int × Bool)) (hF : M.FirstConflict a1 a2 a3 = some rr) :
    Calls Try.prog 34 [u1, u2, u3].toArray w0 fun e w' => ∃ v, e = .returned v ∧ Res3 w0 rr.1 rr.2.1 rr.2.2 v w' := by
  refine calls_of_W Try.func34 rfl rfl ?_
  have hC0 := Ctx.start w0
  unfold M.FirstConflict at hF
  refine W_seq_reg ?_
  refine WL_box (cs := [u1]) hC0 (ro_cells g1) rfl rfl (fun b1 w1 hC1 hB1 => ?_)
  refine WL_box (cs := [u2]) hC1 (ro_cells g2) rfl rfl (fun b2 w2 hC2 hB2 => ?_)
  refine WL_assign rfl rfl ?_
  refine WL_assign rfl rfl ?_
  refine WL_assign rfl rfl ?_
  refine WL_nil ?_
  refine W_seq ?_
  refine W_seq_reg ?_
  refine WL_move rfl rfl ?_
  refine WL_len Try.underlying47 g3 rfl rfl ?_
  refine WL_move rfl rfl ?_
  refine WL_nil ?_
  obtain ⟨r1, hr1, hF⟩ := bind_some hF
  refine W_norm (fun l w => .inl () = r1 ∧ l = [] ∧ Ctx [] w0 w []) ?_ ?_
  · refine W_block ?_
    refine W.sub (l' := [(2, u3), (3, (ptr b1 0)), (4, (ptr b2 0)), (12, u3), (13, (.int .i64 (List.length a3 : Int))), (14, (.int .i64 0))]) ?_ ⟨rfl, rfl, rfl, rfl, rfl, rfl, trivial⟩
    refine W_loop (fun k l w => ∃ x1 : Int, l = [(2, u3), (3, (ptr b1 0)), (4, (ptr b2 0)), (12, u3), (13, (.int .i64 (List.length a3 : Int))), (14, (.int .i64 x1))] ∧ Ctx [] w0 w [Item.box b2 [u2], Item.box b1 [u1]] ∧ M.FirstConflict_l1 a3 a1 a2 k x1 = some r1) FUEL ⟨0, rfl, hC2, hr1⟩ ?_
    clear hr1
    rintro k1 _ w3 ⟨x1, rfl, hC3, hL1⟩
    cases k1 with
    | zero => rw [M.FirstConflict_l1] at hL1; cases hL1
    | succ k1 =>
      rw [M.FirstConflict_l1] at hL1
      refine W_seq_reg ?_
      refine WL_lss rfl rfl rfl ?_
      refine WL_nil ?_
      refine W_seq ?_
      refine W_cond rfl (fun hc1 => ?_) (fun hc1 => ?_)
      · replace hL1 := ite_t hL1 hc1
        refine W_skip ?_
        refine nrm_normal ?_
        refine W_seq ?_
        refine W_block ?_
        refine W_seq_reg ?_
        refine WL_move rfl rfl ?_
        obtain ⟨x2, hx1, hL1⟩ := bind_some hL1
        refine WL_index Try.underlying47 ty38 g3 hx1 rfl rfl rfl (fun b3 o1 h1 => ?_)
        refine WL_load ty38 h1 hC3.keep rfl rfl (fun v1 h2 => ?_)
        obtain ⟨v2, v3, rfl, h3, h4⟩ := ro_st38 h2
        refine WL_alloc hC3 zero38 rfl rfl (fun b4 w4 hC4 hB4 => ?_)
        refine WL_assign rfl rfl ?_
        refine WL_store_box_agg (cs' := [(.int .i64 x2.1.1), v2, v3]) (new := [(.int .i64 x2.1.1), v2, v3]) hC4 0 rfl rfl (by intro v hv; simp only [List.mem_cons, List.not_mem_nil, or_false] at hv; rcases hv with rfl | rfl | rfl; exact rfl; exact (ro_one h3); exact (ro_one h4)) rfl Try.sizeOf38 rfl rfl (fun w5 hC5 => ?_)
        try dsimp only [List.set] at hC5
        refine WL_nil ?_
        refine W_seq ?_
        refine W_seq_reg ?_
        refine WL_load_box hC5 2 rfl rfl Try.isAgg22 rfl rfl ?_
        refine WL_load_box hC5 1 rfl rfl Try.isAgg33 rfl rfl ?_
        refine WL_load_box_agg [(.int .i64 x2.1.1), v2, v3] hC5 0 rfl rfl rfl Try.isAgg38 Try.sizeOf38 rfl rfl ?_
        obtain ⟨x3, hr2, hL1⟩ := bind_some hL1
        refine WL_call Try.call18 rfl rfl (c_M_FitsSelf a1 u1 (g1.now hC5.keep) a2 u2 (g2.now hC5.keep) ((x2.1.1, x2.1.2), x2.2) v2 (h3.now hC5.keep) v3 (h4.now hC5.keep) x3 hr2) ?_
        intro _ w6 hv1
        obtain ⟨rfl, hB5⟩ := res_bool hv1
        have hC6 := hC5.grow hB5
        refine WL_not rfl rfl ?_
        refine WL_nil ?_
        refine W_cond rfl (fun hc2 => ?_) (fun hc2 => ?_)
        · replace hL1 := ite_t hL1 hc2
          refine W_seq_reg ?_
          refine WL_move rfl rfl ?_
          refine WL_move rfl rfl ?_
          refine WL_assign rfl rfl ?_
          refine WL_assign rfl rfl ?_
          refine WL_assign rfl rfl ?_
          refine WL_nil ?_
          refine W_ret ?_
          refine nrm_ret ?_
          refine blk_ret ?_
          refine nrm_ret ?_
          refine nrm_ret ?_
          refine blk_ret ?_
          refine nrm_ret ?_
          refine nrm_ret ?_
          have hq1 := Option.some.inj hL1
          subst hq1
          dsimp only at hF
          have hq2 := Option.some.inj hF
          subst hq2
          refine fn_ret3 rfl rfl rfl rfl ?_
          have hC7 := hC6.triv (bool_val (true))
          have hC8 := hC7.triv (int_val (x1))
          have hC9 := hC8.triv (int_val (x1))
          exact ⟨_, rfl, res3_of hC9⟩
        · replace hL1 := ite_f hL1 hc2
          refine W_skip ?_
          refine nrm_normal ?_
          refine W_seq_reg ?_
          refine WL_move rfl rfl ?_
          refine WL_move rfl rfl ?_
          obtain ⟨x4, hx2, hL1⟩ := bind_some hL1
          refine WL_slice_h Try.underlying47 ty38 g3 hx2 rfl rfl rfl (fun v4 h5 => ?_)
          refine WL_makeFunc rfl rfl ?_
          obtain ⟨x5, hr3, hL1⟩ := bind_some hL1
          refine WL_call Try.call85 rfl rfl (c_Slices_IndexFunc_Limpl_Told_impl_Told_M_FirstConflict_c1 x4 v4 (h5.now hC6.keep) b1 a1 (hC6.boxAt 2 rfl (repw_slice (g1.now hC6.keep))) b2 a2 (hC6.boxAt 1 rfl (repw_slice (g2.now hC6.keep))) b4 ((x2.1.1, x2.1.2), x2.2) (hC6.boxAt 0 rfl (repw_pair (repw_pair repw_int (repw_slice (h3.now hC6.keep))) (repw_slice (h4.now hC6.keep)))) x5 hr3) ?_
          intro _ w7 hv2
          obtain ⟨rfl, hB6⟩ := res_int hv2
          have hC10 := hC6.grow hB6
          refine WL_assign rfl rfl ?_
          refine WL_nil ?_
          refine W_seq_reg ?_
          refine WL_move rfl rfl ?_
          refine WL_geq rfl rfl rfl ?_
          refine WL_nil ?_
          refine W_cond rfl (fun hc3 => ?_) (fun hc3 => ?_)
          · replace hL1 := ite_t hL1 hc3
            refine W_seq_reg ?_
            refine WL_move rfl rfl ?_
            refine WL_move rfl rfl ?_
            refine WL_assign rfl rfl ?_
            refine WL_assign rfl rfl ?_
            refine WL_assign rfl rfl ?_
            refine WL_nil ?_
            refine W_ret ?_
            refine blk_ret ?_
            refine nrm_ret ?_
            refine nrm_ret ?_
            refine blk_ret ?_
            refine nrm_ret ?_
            refine nrm_ret ?_
            have hq3 := Option.some.inj hL1
            subst hq3
            dsimp only at hF
            have hq4 := Option.some.inj hF
            subst hq4
            refine fn_ret3 rfl rfl rfl rfl ?_
            have hC11 := hC10.triv (bool_val (true))
            have hC12 := hC11.triv (int_val (x1))
            have hC13 := hC12.triv (int_val (x5))
            exact ⟨_, rfl, res3_of hC13⟩
          · replace hL1 := ite_f hL1 hc3
            refine W_skip ?_
            refine blk_normal ?_
            refine nrm_normal ?_
            refine W_reg ?_
            refine WL_add rfl rfl rfl ?_
            refine WL_move rfl rfl ?_
            refine WL_nil ?_
            have hC14 : Ctx [] w0 _ [Item.box b1 [u1], Item.box b4 [(.int .i64 x2.1.1), v2, v3], Item.box b2 [u2]] := hC10.front 2 rfl
            have hC15 : Ctx [] w0 _ [Item.box b2 [u2], Item.box b1 [u1], Item.box b4 [(.int .i64 x2.1.1), v2, v3]] := hC14.front 2 rfl
            have hC16 : Ctx [] w0 _ [Item.box b2 [u2], Item.box b1 [u1]] := hC15.headN 2
            refine nrm_sub (l' := [(2, u3), (3, (ptr b1 0)), (4, (ptr b2 0)), (12, u3), (13, (.int .i64 (List.length a3 : Int))), (14, (.int .i64 (w64 (x1 + 1))))]) ⟨rfl, rfl, rfl, rfl, rfl, rfl, trivial⟩ ?_
            exact ⟨k1, Nat.lt_succ_self _, w64 (x1 + 1), rfl, hC16, hL1⟩
      · replace hL1 := ite_f hL1 hc1
        refine W_exit ?_
        refine nrm_exit ?_
        refine nrm_exit ?_
        refine blk_exit ?_
        have hq5 := Option.some.inj hL1
        subst hq5
        have hC17 : Ctx [] w0 _ [] := hC3.headN 0
        refine nrm_sub (l' := []) trivial ?_
        exact ⟨rfl, rfl, hC17⟩
  · rintro l2 _ w8 hs2 ⟨rfl, rfl, hC18⟩
    try dsimp only at hF
    refine nrm_sub' hs2 ?_
    clear hs2
    refine W_seq_reg ?_
    refine WL_assign rfl rfl ?_
    refine WL_assign rfl rfl ?_
    refine WL_assign rfl rfl ?_
    refine WL_nil ?_
    refine W_ret ?_
    have hq6 := Option.some.inj hF
    subst hq6
    refine fn_ret3 rfl rfl rfl rfl ?_
    have hC19 := hC18.triv (bool_val (false))
    have hC20 := hC19.triv (int_val ((-1)))
    have hC21 := hC20.triv (int_val ((-1)))
    exact ⟨_, rfl, res3_of hC21⟩

theorem c_M_IsConsistent {w0 : World} (a1 : (List Int)) (u1 : Value) (g1 : RO [] w0 u1 a1) (a2 : (List (Int × (List Int) × Int × Int × Int))) (u2 : Value) (g2 : RO [] w0 u2 a2) (a3 : (List ((Int × (List Int)) × (List (Int × (List Int)))))) (u3 : Value) (g3 : RO [] w0 u3 a3) (rr : Bool) (hF : M.IsConsistent a1 a2 a3 = some rr) :
    Calls Try.prog 36 [u1, u2, u3].toArray w0 fun e w' => ∃ v, e = .returned v ∧ Res w0 rr v w' := by
  refine calls_of_W Try.func36 rfl rfl ?_
  have hC0 := Ctx.start w0
  unfold M.IsConsistent at hF
  refine W_seq_reg ?_
  refine WL_assign rfl rfl ?_
  refine WL_nil ?_
  refine W_seq_reg ?_
  refine WL_move rfl rfl ?_
  refine WL_move rfl rfl ?_
  refine WL_move rfl rfl ?_
  obtain ⟨x1, hr1, hF⟩ := bind_some hF
  refine WL_call Try.call34 rfl rfl (c_M_FirstConflict a1 u1 (g1.now hC0.keep) a2 u2 (g2.now hC0.keep) a3 u3 (g3.now hC0.keep) x1 hr1) ?_
  rintro _ w1 ⟨hB1, v1, v2, v3, F1, F2, F3, rfl, hv1, hv2, hv3, hn1, hb1⟩
  obtain ⟨rfl, rfl⟩ := val_int hv1
  obtain ⟨rfl, rfl⟩ := val_int hv2
  obtain ⟨rfl, rfl⟩ := val_bool hv3
  have hC1 := hC0.grow hB1
  refine WL_move rfl rfl ?_
  refine WL_extract rfl rfl rfl ?_
  refine WL_extract rfl rfl rfl ?_
  refine WL_extract rfl rfl rfl ?_
  refine WL_assign rfl rfl ?_
  refine WL_assign rfl rfl ?_
  refine WL_assign rfl rfl ?_
  refine WL_nil ?_
  obtain ⟨r1, hr2, hF⟩ := bind_some hF
  refine W_cut (fun l w => ∃ x2 : Bool, x2 = r1 ∧ l = [(6, (.bool x2))] ∧ Below w1.heap.size w1 w ∧ Ctx [] w0 w []) ?_ ?_
  · refine W_reg ?_
    refine WL_move rfl rfl ?_
    refine WL_move rfl rfl ?_
    obtain ⟨x3, hr3, hr2⟩ := bind_some hr2
    refine WL_call Try.call88 rfl rfl (c_M_AreMethods a1 u1 (g1.now hC1.keep) a2 u2 (g2.now hC1.keep) x3 hr3) ?_
    intro _ w3 hv4
    obtain ⟨rfl, hB3⟩ := res_bool hv4
    have hC3 := hC1.grow hB3
    refine WL_move rfl rfl ?_
    refine WL_fork (fun hc1 => ?_) (fun hc1 => ?_)
    · replace hr2 := ite_t hr2 hc1
      refine WL_guard rfl rfl ?_
      refine WL_move rfl rfl ?_
      refine WL_guard rfl rfl ?_
      refine WL_not rfl rfl ?_
      refine WL_pick_t rfl rfl rfl ?_
      refine WL_assign rfl rfl ?_
      refine WL_nil ?_
      have hq1 := Option.some.inj hr2
      subst hq1
      refine nrm_sub (l' := [(6, (.bool (!x1.2.2)))]) ⟨rfl, trivial⟩ ?_
      exact ⟨(!x1.2.2), rfl, rfl, (Keep.of hB3).below, hC3⟩
    · replace hr2 := ite_f hr2 hc1
      refine WL_guard_skip rfl rfl (by simp) rfl ?_
      refine WL_guard_skip rfl rfl (by simp) rfl ?_
      refine WL_pick_f rfl rfl rfl ?_
      refine WL_assign rfl rfl ?_
      refine WL_nil ?_
      have hq2 := Option.some.inj hr2
      subst hq2
      refine nrm_sub (l' := [(6, (.bool false))]) ⟨rfl, trivial⟩ ?_
      exact ⟨false, rfl, rfl, (Keep.of hB3).below, hC3⟩
  · rintro _ w2 ⟨x2, rfl, rfl, hB2, hC2⟩
    try dsimp only at hF
    refine W_ret ?_
    have hq3 := Option.some.inj hF
    subst hq3
    refine fn_ret1 rfl rfl ?_
    exact ⟨_, rfl, bool_res hC2 _⟩

theorem c_Q_FnExactIsConsistent {w0 : World} (a1 : (List Int)) (u1 : Value) (g1 : RO [] w0 u1 a1) (a2 : (List (Int × (List Int) × Int × Int × Int))) (u2 : Value) (g2 : RO [] w0 u2 a2) (a3 : (List ((Int × (List Int)) × (List (Int × (List Int)))))) (u3 : Value) (g3 : RO [] w0 u3 a3) (rr : Bool) (hF : Q.FnExactIsConsistent a1 a2 a3 = some rr) :
    Calls Try.prog 7 [u1, u2, u3].toArray w0 fun e w' => ∃ v, e = .returned v ∧ Res w0 rr v w' := by
  refine calls_of_W Try.func7 rfl rfl ?_
  have hC0 := Ctx.start w0
  unfold Q.FnExactIsConsistent at hF
  refine W_seq_reg ?_
  refine WL_assign rfl rfl ?_
  refine WL_nil ?_
  refine W_seq ?_
  refine W_seq_reg ?_
  refine WL_move rfl rfl ?_
  refine WL_len Try.underlying22 g1 rfl rfl ?_
  refine WL_gtr rfl rfl rfl ?_
  refine WL_nil ?_
  refine W_cond rfl (fun hc1 => ?_) (fun hc1 => ?_)
  · replace hF := ite_t hF hc1
    refine W_seq_reg ?_
    refine WL_assign rfl rfl ?_
    refine WL_nil ?_
    refine W_ret ?_
    refine nrm_ret ?_
    have hq1 := Option.some.inj hF
    subst hq1
    refine fn_ret1 rfl rfl ?_
    exact ⟨_, rfl, bool_res hC0 _⟩
  · replace hF := ite_f hF hc1
    refine W_skip ?_
    refine nrm_normal ?_
    refine W_seq_reg ?_
    refine WL_assign rfl rfl ?_
    refine WL_nil ?_
    refine W_seq_reg ?_
    refine WL_move rfl rfl ?_
    refine WL_move rfl rfl ?_
    obtain ⟨x1, hr1, hF⟩ := bind_some hF
    refine WL_call Try.call12 rfl rfl (c_Q_szMethodS a2 u2 (g2.now hC0.keep) 1048576 x1 hr1) ?_
    intro _ w1 hv1
    obtain ⟨rfl, hB1⟩ := res_int hv1
    have hC1 := hC0.grow hB1
    refine WL_assign rfl rfl ?_
    refine WL_nil ?_
    refine W_seq ?_
    refine W_seq_reg ?_
    refine WL_move rfl rfl ?_
    refine WL_lss rfl rfl rfl ?_
    refine WL_nil ?_
    refine W_cond rfl (fun hc2 => ?_) (fun hc2 => ?_)
    · replace hF := ite_t hF hc2
      refine W_seq_reg ?_
      refine WL_assign rfl rfl ?_
      refine WL_nil ?_
      refine W_ret ?_
      refine nrm_ret ?_
      have hq2 := Option.some.inj hF
      subst hq2
      refine fn_ret1 rfl rfl ?_
      exact ⟨_, rfl, bool_res hC1 _⟩
    · replace hF := ite_f hF hc2
      refine W_skip ?_
      refine nrm_normal ?_
      refine W_seq_reg ?_
      refine WL_move rfl rfl ?_
      refine WL_move rfl rfl ?_
      obtain ⟨x2, hr2, hF⟩ := bind_some hF
      refine WL_call Try.call22 rfl rfl (c_Q_szToldS a3 u3 (g3.now hC1.keep) x1 x2 hr2) ?_
      intro _ w2 hv2
      obtain ⟨rfl, hB2⟩ := res_int hv2
      have hC2 := hC1.grow hB2
      refine WL_assign rfl rfl ?_
      refine WL_nil ?_
      refine W_seq ?_
      refine W_seq_reg ?_
      refine WL_move rfl rfl ?_
      refine WL_lss rfl rfl rfl ?_
      refine WL_nil ?_
      refine W_cond rfl (fun hc3 => ?_) (fun hc3 => ?_)
      · replace hF := ite_t hF hc3
        refine W_seq_reg ?_
        refine WL_assign rfl rfl ?_
        refine WL_nil ?_
        refine W_ret ?_
        refine nrm_ret ?_
        have hq3 := Option.some.inj hF
        subst hq3
        refine fn_ret1 rfl rfl ?_
        exact ⟨_, rfl, bool_res hC2 _⟩
      · replace hF := ite_f hF hc3
        refine W_skip ?_
        refine nrm_normal ?_
        refine W_seq_reg ?_
        refine WL_move rfl rfl ?_
        obtain ⟨x3, hr3, hF⟩ := bind_some hF
        refine WL_call Try.call15 rfl rfl (c_Q_toIntS a1 u1 (g1.now hC2.keep) x3 hr3) ?_
        rintro v1 w3 ⟨hB3, F1, hv3, hn1, hb1⟩
        have hC3 := hC2.push hB3 (A := Item.own v1 x3) hv3 hn1 hb1
        refine WL_move rfl rfl ?_
        obtain ⟨x4, hr4, hF⟩ := bind_some hF
        refine WL_call Try.call16 rfl rfl (c_Q_toMethodS a2 u2 (g2.now hC3.keep) x4 hr4) ?_
        rintro v2 w4 ⟨hB4, F2, hv4, hn2, hb2⟩
        have hC4 := hC3.push hB4 (A := Item.own v2 x4) hv4 hn2 hb2
        refine WL_move rfl rfl ?_
        obtain ⟨x5, hr5, hF⟩ := bind_some hF
        refine WL_call Try.call24 rfl rfl (c_Q_toToldS a3 u3 (g3.now hC4.keep) x5 hr5) ?_
        rintro v3 w5 ⟨hB5, F3, hv5, hn3, hb3⟩
        have hC5 := hC4.push hB5 (A := Item.own v3 x5) hv5 hn3 hb3
        obtain ⟨x6, hr6, hF⟩ := bind_some hF
        refine WL_call Try.call35 rfl rfl (c_S_IsConsistent x3 v1 ((hC5.ro 2 rfl).now (Keep.refl _ _)) x4 v2 ((hC5.ro 1 rfl).now (Keep.refl _ _)) x5 v3 ((hC5.ro 0 rfl).now (Keep.refl _ _)) x6 hr6) ?_
        intro _ w6 hv6
        obtain ⟨rfl, hB6⟩ := res_bool hv6
        have hC6 := hC5.grow hB6
        refine WL_assign rfl rfl ?_
        refine WL_nil ?_
        refine W_seq_reg ?_
        refine WL_move rfl rfl ?_
        obtain ⟨x7, hr7, hF⟩ := bind_some hF
        refine WL_call Try.call15 rfl rfl (c_Q_toIntS a1 u1 (g1.now hC6.keep) x7 hr7) ?_
        rintro v4 w7 ⟨hB7, F4, hv7, hn4, hb4⟩
        have hC7 := hC6.push hB7 (A := Item.own v4 x7) hv7 hn4 hb4
        refine WL_assign rfl rfl ?_
        refine WL_nil ?_
        refine W_seq_reg ?_
        refine WL_move rfl rfl ?_
        obtain ⟨x8, hr8, hF⟩ := bind_some hF
        refine WL_call Try.call16 rfl rfl (c_Q_toMethodS a2 u2 (g2.now hC7.keep) x8 hr8) ?_
        rintro v5 w8 ⟨hB8, F5, hv8, hn5, hb5⟩
        have hC8 := hC7.push hB8 (A := Item.own v5 x8) hv8 hn5 hb5
        refine WL_assign rfl rfl ?_
        refine WL_nil ?_
        refine W_seq_reg ?_
        refine WL_move rfl rfl ?_
        obtain ⟨x9, hr9, hF⟩ := bind_some hF
        refine WL_call Try.call24 rfl rfl (c_Q_toToldS a3 u3 (g3.now hC8.keep) x9 hr9) ?_
        rintro v6 w9 ⟨hB9, F6, hv9, hn6, hb6⟩
        have hC9 := hC8.push hB9 (A := Item.own v6 x9) hv9 hn6 hb6
        refine WL_assign rfl rfl ?_
        refine WL_nil ?_
        refine W_seq_reg ?_
        refine WL_move rfl rfl ?_
        refine WL_move rfl rfl ?_
        refine WL_move rfl rfl ?_
        obtain ⟨x10, hr10, hF⟩ := bind_some hF
        refine WL_call Try.call36 rfl rfl (c_M_IsConsistent x7 v4 ((hC9.ro 2 rfl).now (Keep.refl _ _)) x8 v5 ((hC9.ro 1 rfl).now (Keep.refl _ _)) x9 v6 ((hC9.ro 0 rfl).now (Keep.refl _ _)) x10 hr10) ?_
        intro _ w10 hv10
        obtain ⟨rfl, hB10⟩ := res_bool hv10
        have hC10 := hC9.grow hB10
        refine WL_assign rfl rfl ?_
        refine WL_nil ?_
        refine W_seq ?_
        refine W_seq_reg ?_
        refine WL_move rfl rfl ?_
        refine WL_move rfl rfl ?_
        refine WL_bool_neq Try.underlying4 rfl rfl rfl ?_
        refine WL_nil ?_
        refine W_cond rfl (fun hc4 => ?_) (fun hc4 => ?_)
        · replace hF := ite_t hF hc4
          refine W_seq_reg ?_
          refine WL_assign rfl rfl ?_
          refine WL_nil ?_
          refine W_ret ?_
          refine nrm_ret ?_
          have hq4 := Option.some.inj hF
          subst hq4
          refine fn_ret1 rfl rfl ?_
          exact ⟨_, rfl, bool_res hC10 _⟩
        · replace hF := ite_f hF hc4
          refine W_skip ?_
          refine nrm_normal ?_
          refine W_seq ?_
          refine W_seq_reg ?_
          refine WL_move rfl rfl ?_
          refine WL_move rfl rfl ?_
          obtain ⟨x11, hr11, hF⟩ := bind_some hF
          refine WL_call Try.call15 rfl rfl (c_Q_toIntS a1 u1 (g1.now hC10.keep) x11 hr11) ?_
          rintro v7 w11 ⟨hB11, F7, hv11, hn7, hb7⟩
          have hC11 := hC10.push hB11 (A := Item.own v7 x11) hv11 hn7 hb7
          obtain ⟨x12, hr12, hF⟩ := bind_some hF
          refine WL_call Try.call19 rfl rfl (c_Q_eqIntS x7 v4 ((hC11.ro 3 rfl).now (Keep.refl _ _)) x11 v7 ((hC11.ro 0 rfl).now (Keep.refl _ _)) x12 hr12) ?_
          intro _ w12 hv12
          obtain ⟨rfl, hB12⟩ := res_bool hv12
          have hC12 := hC11.grow hB12
          refine WL_not rfl rfl ?_
          refine WL_nil ?_
          refine W_cond rfl (fun hc5 => ?_) (fun hc5 => ?_)
          · replace hF := ite_t hF hc5
            refine W_seq_reg ?_
            refine WL_assign rfl rfl ?_
            refine WL_nil ?_
            refine W_ret ?_
            refine nrm_ret ?_
            have hq5 := Option.some.inj hF
            subst hq5
            refine fn_ret1 rfl rfl ?_
            exact ⟨_, rfl, bool_res hC12 _⟩
          · replace hF := ite_f hF hc5
            refine W_skip ?_
            refine nrm_normal ?_
            refine W_seq ?_
            refine W_seq_reg ?_
            refine WL_move rfl rfl ?_
            refine WL_move rfl rfl ?_
            obtain ⟨x13, hr13, hF⟩ := bind_some hF
            refine WL_call Try.call16 rfl rfl (c_Q_toMethodS a2 u2 (g2.now hC12.keep) x13 hr13) ?_
            rintro v8 w13 ⟨hB13, F8, hv13, hn8, hb8⟩
            have hC13 := hC12.push hB13 (A := Item.own v8 x13) hv13 hn8 hb8
            obtain ⟨x14, hr14, hF⟩ := bind_some hF
            refine WL_call Try.call20 rfl rfl (c_Q_eqMethodS x8 v5 ((hC13.ro 3 rfl).now (Keep.refl _ _)) x13 v8 ((hC13.ro 0 rfl).now (Keep.refl _ _)) x14 hr14) ?_
            intro _ w14 hv14
            obtain ⟨rfl, hB14⟩ := res_bool hv14
            have hC14 := hC13.grow hB14
            refine WL_not rfl rfl ?_
            refine WL_nil ?_
            refine W_cond rfl (fun hc6 => ?_) (fun hc6 => ?_)
            · replace hF := ite_t hF hc6
              refine W_seq_reg ?_
              refine WL_assign rfl rfl ?_
              refine WL_nil ?_
              refine W_ret ?_
              refine nrm_ret ?_
              have hq6 := Option.some.inj hF
              subst hq6
              refine fn_ret1 rfl rfl ?_
              exact ⟨_, rfl, bool_res hC14 _⟩
            · replace hF := ite_f hF hc6
              refine W_skip ?_
              refine nrm_normal ?_
              refine W_seq ?_
              refine W_seq_reg ?_
              refine WL_move rfl rfl ?_
              refine WL_move rfl rfl ?_
              obtain ⟨x15, hr15, hF⟩ := bind_some hF
              refine WL_call Try.call24 rfl rfl (c_Q_toToldS a3 u3 (g3.now hC14.keep) x15 hr15) ?_
              rintro v9 w15 ⟨hB15, F9, hv15, hn9, hb9⟩
              have hC15 := hC14.push hB15 (A := Item.own v9 x15) hv15 hn9 hb9
              obtain ⟨x16, hr16, hF⟩ := bind_some hF
              refine WL_call Try.call27 rfl rfl (c_Q_eqToldS x9 v6 ((hC15.ro 3 rfl).now (Keep.refl _ _)) x15 v9 ((hC15.ro 0 rfl).now (Keep.refl _ _)) x16 hr16) ?_
              intro _ w16 hv16
              obtain ⟨rfl, hB16⟩ := res_bool hv16
              have hC16 := hC15.grow hB16
              refine WL_not rfl rfl ?_
              refine WL_nil ?_
              refine W_cond rfl (fun hc7 => ?_) (fun hc7 => ?_)
              · replace hF := ite_t hF hc7
                refine W_seq_reg ?_
                refine WL_assign rfl rfl ?_
                refine WL_nil ?_
                refine W_ret ?_
                refine nrm_ret ?_
                have hq7 := Option.some.inj hF
                subst hq7
                refine fn_ret1 rfl rfl ?_
                exact ⟨_, rfl, bool_res hC16 _⟩
              · replace hF := ite_f hF hc7
                refine W_skip ?_
                refine nrm_normal ?_
                refine W_seq_reg ?_
                refine WL_assign rfl rfl ?_
                refine WL_nil ?_
                refine W_ret ?_
                have hq8 := Option.some.inj hF
                subst hq8
                refine fn_ret1 rfl rfl ?_
                exact ⟨_, rfl, bool_res hC16 _⟩

end Go.Gx.Px
