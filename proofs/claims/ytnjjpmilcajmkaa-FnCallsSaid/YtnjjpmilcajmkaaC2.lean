/- The contracts of the Go functions against the pure functions, printed by program. Conditions: each says them. -/
import Derived.Test.YtnjjpmilcajmkaaC1
set_option linter.unusedVariables false
set_option linter.unusedSimpArgs false
set_option maxRecDepth 100000
set_option maxHeartbeats 4000000
namespace Go.Gx.Px
open Go.Proofs Go.RowKit

theorem c_Slices_Insert_Lint_int {Fs : List (List Nat)} {w0 : World} (a1 : (List Int)) (u1 : Value) (a2 : Int) (a3 : (List Int)) (u2 : Value) (hH : Hold [Item.own u1 (a1 : (List Int)), Item.own u2 (a3 : (List Int))] w0 Fs) (hn : Fs.flatten.Nodup) (rr : (List Int)) (hF : Slices.Insert_Lint_int a1 a2 a3 = some rr) :
 Calls Try.prog 135 [u1, (.int .i64 a2), u2].toArray w0 fun e w' => ∃ v, e = .returned v ∧ ∃ q0 : Value, v = q0 ∧ Ctx Fs.flatten w0 w' [Item.own q0 (rr : (List Int))] := by
 refine calls_of_W Try.func135 rfl rfl ?_
 have hC0 := Ctx.startIn hH hn
 unfold Slices.Insert_Lint_int at hF
 obtain ⟨m, rfl, hm, hb1, hlim, rfl⟩ := ins_some hF
 have hsub : sub a1 (m : Int) (a1.length : Int) = some (a1.drop m) := by unfold sub; rw [if_pos (by omega)]; simp
 have hb1' : (a3.length : Int) = 1 := by omega
 have hlim' : a1.length + 1 ≤ 4294967296 := by rw [LIM_eq] at hlim; exact hlim
 have hw1 : w64 ((a1.length : Int) + 1) = ((a1.length + 1 : Nat) : Int) := by rw [w64_id (by omega) (by omega)]; omega
 have hw2 : w64 (((a1.length + 1 : Nat) : Int) - (m : Int)) = ((a1.length + 1 - m : Nat) : Int) := by rw [w64_id (by omega) (by omega)]; omega
 have hw3 : w64 ((m : Int) + 1) = ((m + 1 : Nat) : Int) := by rw [w64_id (by omega) (by omega)]; omega
 refine W_seq_reg ?_
 refine WL_assign rfl rfl ?_
 refine WL_nil ?_
 refine W_seq_reg ?_
 refine WL_move rfl rfl ?_
 refine WL_move rfl rfl ?_
 refine WL_slice_l Try.underlying22 ty3 (hC0.ro 0 rfl) hsub rfl rfl rfl (fun v1 h1 => ?_)
 refine WL_nil ?_
 refine W_seq_reg ?_
 refine WL_move rfl rfl ?_
 refine WL_len Try.underlying22 (hC0.ro 1 rfl) rfl rfl ?_
 rw [hb1']
 refine WL_assign rfl rfl ?_
 refine WL_nil ?_
 refine W_seq ?_
 refine W_seq_reg ?_
 refine WL_move rfl rfl ?_
 refine WL_eql rfl rfl rfl ?_
 refine WL_nil ?_
 refine W_cond_f rfl ?_
 refine W_skip ?_
 refine nrm_normal ?_
 refine W_seq_reg ?_
 refine WL_move rfl rfl ?_
 refine WL_len Try.underlying22 (hC0.ro 0 rfl) rfl rfl ?_
 refine WL_assign rfl rfl ?_
 refine WL_nil ?_
 refine W_seq ?_
 refine W_seq_reg ?_
 refine WL_move rfl rfl ?_
 refine WL_move rfl rfl ?_
 refine WL_eql rfl rfl rfl ?_
 by_cases hi : m = a1.length
 ·have e1 : a1.take m ++ a3 ++ a1.drop m = a1 ++ a3 := by rw [List.take_of_length_le (by omega), List.drop_of_length_le (by omega), List.append_nil]
  rw [e1, decide_eq_true (show (m : Int) = (a1.length : Int) by omega)]
  refine WL_nil ?_
  refine W_cond_t rfl ?_
  refine W_seq_reg ?_
  refine WL_move rfl rfl ?_
  refine WL_move rfl rfl ?_
  have happ : app a1 a3 = some (a1 ++ a3) := by unfold app; rw [if_pos (by omega)]
  refine WL_append_head hC0.swap 0 rfl Try.underlying22 ty3 rfl happ rfl rfl rfl (fun v2 w2 hC2 => ?_)
  refine WL_assign rfl rfl ?_
  refine WL_nil ?_
  refine W_ret ?_
  refine nrm_ret ?_
  refine fn_ret1 rfl rfl ?_
  exact ⟨_, rfl, _, rfl, hC2⟩
 rw [decide_eq_false (show ¬ (m : Int) = (a1.length : Int) by omega)]
 refine WL_nil ?_
 refine W_cond_f rfl ?_
 refine W_skip ?_
 refine nrm_normal ?_
 have hml : m < a1.length := by omega
 obtain ⟨b, c, row, T, cells, Fe, vb, vc, vrow, vT, vcells, Ge, rfl, rfl, h4, g4, h5, g5, h6, g6, h8, g8, h10, h11, h12, h13, h14, h15, hK⟩ := hC0.ins_raw (by intro e; rw [e] at hml; simp at hml) (by intro e; rw [e] at hb1; simp at hb1)
 have hcl := elems_len h5
 have hvl := elems_len g5
 rw [hb1] at hvl
 have hyl : (cells.drop (m * Rep.sz Int)).length = (a1.length - m) * Rep.sz Int := by rw [List.length_drop, hcl, Nat.sub_mul]
 have hvr : (vrow.toList.drop 0).take (1 * Rep.sz Int) = vcells := by rw [List.drop_zero, ← g6, hb1]
 have hv1 := elems_one g5
 have hy1 : ∀ u ∈ cells.drop (m * Rep.sz Int), u.oneCell' = true := fun u hu => elems_one h5 u (List.mem_of_mem_drop hu)
 refine W_seq ?_
 refine W_seq_reg ?_
 refine WL_move rfl rfl ?_
 refine WL_move rfl rfl ?_
 refine WL_add rfl rfl rfl ?_
 rw [hw1]
 refine WL_move rfl rfl ?_
 refine WL_cap Try.underlying22 rfl rfl ?_
 refine WL_gtr rfl rfl rfl ?_
 by_cases hr : c < a1.length + 1
 ·rw [decide_eq_true (show (c : Int) < ((a1.length + 1 : Nat) : Int) by omega)]
  refine WL_nil ?_
  refine W_cond_t rfl ?_
  refine W_seq_reg ?_
  refine WL_move rfl rfl ?_
  refine WL_move rfl rfl ?_
  refine WL_sl_h Try.underlying22 ty3 (show m ≤ c by omega) (by omega) rfl rfl rfl ?_
  refine WL_move rfl rfl ?_
  refine WL_move rfl rfl ?_
  refine WL_add rfl rfl rfl ?_
  rw [hw1]
  refine WL_move rfl rfl ?_
  refine WL_sub rfl rfl rfl ?_
  rw [hw2]
  refine WL_zeros Try.underlying22 ty3 rfl Try.underlying3 h4 (take_cells h6 hm) (by rw [List.length_take, hcl, Nat.min_eq_left (Nat.mul_le_mul_right _ hm)]) (show 0 < a1.length + 1 - m by omega) (by omega) (by rw [LIM_eq]; omega) rfl rfl rfl (fun c' row' k1 k2 k3 k4 => ?_)
  rw [show m + (a1.length + 1 - m) = a1.length + 1 by omega] at k3 ⊢
  obtain ⟨q1, q2, q3⟩ := row_grow (row' := row') hm hcl hvl k1 k2 k3
  obtain ⟨w1, hw1e⟩ : ∃ w1, w1 = w0.drew.alloc (.cells row' 3) := ⟨_, rfl⟩
  have hA1 : w1.heap[w0.heap.size]? = some (.cells row' 3 (0, 0)) := by rw [hw1e]; exact heap_alloc_new w0.drew _
  have hB1 : Below w0.heap.size w0 w1 := by rw [hw1e]; exact below_new w0 _
  rw [← hw1e]
  refine WL_assign rfl rfl ?_
  refine WL_nil ?_
  refine W_seq_reg ?_
  refine WL_move rfl rfl ?_
  refine WL_move rfl rfl ?_
  refine WL_sl_l Try.underlying22 ty3 (show m < c' by omega) (show m ≤ a1.length + 1 by omega) k3 rfl rfl rfl ?_
  refine WL_move rfl rfl ?_
  refine WL_copy (m := 1) Try.underlying22 ty3 hA1 ((hB1.block vb (heap_lt g4)).trans g4) (by show Nat.min a3.length (a1.length + 1 - m) = 1; rw [hb1]; exact Nat.min_eq_left (by omega)) hvr hvl hv1 (by rw [hvl, k2, Nat.zero_add, ← Nat.add_mul]; exact Nat.mul_le_mul_right _ (by omega)) rfl rfl rfl ?_
  generalize hr1 : (row'.toList.take (0 + m * Rep.sz Int) ++ vcells ++ row'.toList.drop (0 + m * Rep.sz Int + vcells.length)).toArray = r1 at q1 q2 q3 ⊢
  have hA2 : (w1.setRow w0.heap.size r1).heap[w0.heap.size]? = some (.cells r1 3 (0, 0)) := setRow_heap _ _ _ _ _ _ hA1
  have hB2 : Below w0.heap.size w0 (w1.setRow w0.heap.size r1) := below_row hB1 (Nat.le_refl _)
  refine WL_nil ?_
  refine W_seq ?_
  refine W_drawn 9 rfl hmix (fun w3 hB3 => ?_)
  refine WA_take 0 rfl (by kernel_rfl) (by kernel_rfl) (by kernel_rfl) rfl (fl_move rfl) ?_
  refine WL_move rfl rfl ?_
  refine WL_nil ?_
  refine WA_take 1 rfl (by kernel_rfl) (by kernel_rfl) (by kernel_rfl) rfl (fl_move rfl) ?_
  refine WL_move rfl rfl ?_
  refine WL_nil ?_
  refine WA_take 2 rfl (by kernel_rfl) (by kernel_rfl) (by kernel_rfl) rfl (fl_move rfl) ?_
  refine WL_move rfl rfl ?_
  refine WL_nil ?_
  refine WA_take 3 rfl (by kernel_rfl) (by kernel_rfl) (by kernel_rfl) rfl (fl_add rfl rfl) ?_
  refine WL_add rfl rfl rfl ?_
  rw [hw3]
  refine WL_nil ?_
  refine WA_take 4 rfl (by kernel_rfl) (by kernel_rfl) (by kernel_rfl) rfl (fl_sl_l Try.underlying22 ty3 (show m + 1 < c' by omega) (show m + 1 ≤ a1.length + 1 by omega) k3 rfl rfl) ?_
  refine WL_sl_l Try.underlying22 ty3 (show m + 1 < c' by omega) (show m + 1 ≤ a1.length + 1 by omega) k3 rfl rfl rfl ?_
  refine WL_nil ?_
  refine WA_take 5 rfl (by kernel_rfl) (by kernel_rfl) (by kernel_rfl) rfl (fl_move rfl) ?_
  refine WL_move rfl rfl ?_
  refine WL_nil ?_
  refine WA_take 6 rfl (by kernel_rfl) (by kernel_rfl) (by kernel_rfl) rfl (fl_move rfl) ?_
  refine WL_move rfl rfl ?_
  refine WL_nil ?_
  refine WA_take 7 rfl (by kernel_rfl) (by kernel_rfl) (by kernel_rfl) rfl (fl_sl_l Try.underlying22 ty3 (show m < c by omega) hm h10 rfl rfl) ?_
  refine WL_sl_l Try.underlying22 ty3 (show m < c by omega) hm h10 rfl rfl rfl ?_
  refine WL_nil ?_
  have hA3 : w3.heap[w0.heap.size]? = some (.cells r1 3 (0, 0)) := (hB3.block _ (heap_lt hA2)).trans hA2
  have hB30 : Below w0.heap.size w0 w3 := hB2.trans ⟨hB3.os, hB3.tape, hB3.output, hB3.size, fun k hk => hB3.block k (Nat.lt_of_lt_of_le hk hB2.size)⟩
  refine WA_one 8 (by kernel_rfl) rfl ?_
  refine WL_copy (m := a1.length - m) Try.underlying22 ty3 hA3 ((hB30.block b (heap_lt h4)).trans h4) (by show Nat.min (a1.length - m) (a1.length + 1 - (m + 1)) = a1.length - m; rw [show a1.length + 1 - (m + 1) = a1.length - m by omega]; exact Nat.min_self _) (drop_cells h6) hyl hy1 (by rw [hyl, q3, Nat.zero_add, ← Nat.add_mul]; exact Nat.mul_le_mul_right _ (by omega)) rfl rfl rfl ?_
  generalize hr2 : (r1.toList.take (0 + (m + 1) * Rep.sz Int) ++ cells.drop (m * Rep.sz Int) ++ r1.toList.drop (0 + (m + 1) * Rep.sz Int + (cells.drop (m * Rep.sz Int)).length)).toArray = r2 at q1 q2 ⊢
  refine WL_nil ?_
  refine WA_done (by kernel_rfl) ?_
  refine nrm_normal ?_
  refine W_seq_reg ?_
  refine WL_move rfl rfl ?_
  refine WL_assign rfl rfl ?_
  refine WL_nil ?_
  refine W_ret ?_
  refine nrm_ret ?_
  refine fn_ret1 rfl rfl ?_
  have hB4 : Below w0.heap.size w0 (w3.setRow w0.heap.size r2) := below_row hB30 (Nat.le_refl _)
  have hin : ∀ k ∈ Fe ++ Ge, k < w0.heap.size := fun k hk => (List.mem_append.1 hk).elim (elems_inh h5 k) (elems_inh g5 k)
  obtain ⟨F', e1, e2, e3⟩ := ins_val (w' := w3.setRow w0.heap.size r2) h5 g5 h14 hm hb1 (g := w0.heap.size) (fun h => absurd (hin _ h) (Nat.lt_irrefl _)) (setRow_heap _ _ _ _ _ _ hA3) (fun k hk => hB4.block k (hin k hk)) q1 q2 k3 k4
  exact ⟨_, rfl, _, rfl, hK _ _ _ F' ⟨hB4.os, hB4.tape, hB4.output, hB4.size, fun k hk _ => hB4.block k hk⟩ e1 e2 (fun k hk => (e3 k hk).elim (fun h => .inr (.inr (Nat.le_of_eq h.symm))) (fun h => .inr (.inl h)))⟩
 rw [decide_eq_false (show ¬ (c : Int) < ((a1.length + 1 : Nat) : Int) by omega)]
 refine WL_nil ?_
 refine W_cond_f rfl ?_
 refine W_skip ?_
 refine nrm_normal ?_
 have k3 : a1.length + 1 ≤ c := by omega
 obtain ⟨q1, q2, q3⟩ := row_shift hm hcl hvl h6 h8 k3
 refine W_seq_reg ?_
 refine WL_move rfl rfl ?_
 refine WL_move rfl rfl ?_
 refine WL_move rfl rfl ?_
 refine WL_add rfl rfl rfl ?_
 rw [hw1]
 refine WL_sl_h Try.underlying22 ty3 k3 (by omega) rfl rfl rfl ?_
 refine WL_assign rfl rfl ?_
 refine WL_nil ?_
 refine W_seq ?_
 refine W_seq_reg ?_
 refine WL_move rfl rfl ?_
 refine WL_move rfl rfl ?_
 refine WL_move rfl rfl ?_
 refine WL_move rfl rfl ?_
 refine WL_add rfl rfl rfl ?_
 rw [hw3]
 refine WL_sl_l Try.underlying22 ty3 (show m + 1 < c by omega) (show m + 1 ≤ a1.length + 1 by omega) k3 rfl rfl rfl ?_
 refine WL_apart (R := 4) (run_callFunc_extern Try.func167 (by kernel_rfl) (by kernel_rfl) (by kernel_rfl) (by kernel_rfl)) Try.underlying22 ty3 h13 h4 g4 (by rw [h8]; exact Nat.ne_of_gt (Nat.mul_pos (by omega) (by decide))) rfl rfl rfl ?_
 refine WL_not rfl rfl ?_
 refine WL_nil ?_
 refine W_cond_t rfl ?_
 refine W_seq ?_
 refine W_drawn 9 rfl hmix (fun w3 hB3 => ?_)
 refine WA_take 0 rfl (by kernel_rfl) (by kernel_rfl) (by kernel_rfl) rfl (fl_move rfl) ?_
 refine WL_move rfl rfl ?_
 refine WL_nil ?_
 refine WA_take 1 rfl (by kernel_rfl) (by kernel_rfl) (by kernel_rfl) rfl (fl_move rfl) ?_
 refine WL_move rfl rfl ?_
 refine WL_nil ?_
 refine WA_take 2 rfl (by kernel_rfl) (by kernel_rfl) (by kernel_rfl) rfl (fl_move rfl) ?_
 refine WL_move rfl rfl ?_
 refine WL_nil ?_
 refine WA_take 3 rfl (by kernel_rfl) (by kernel_rfl) (by kernel_rfl) rfl (fl_add rfl rfl) ?_
 refine WL_add rfl rfl rfl ?_
 rw [hw3]
 refine WL_nil ?_
 refine WA_take 4 rfl (by kernel_rfl) (by kernel_rfl) (by kernel_rfl) rfl (fl_sl_l Try.underlying22 ty3 (show m + 1 < c by omega) (show m + 1 ≤ a1.length + 1 by omega) k3 rfl rfl) ?_
 refine WL_sl_l Try.underlying22 ty3 (show m + 1 < c by omega) (show m + 1 ≤ a1.length + 1 by omega) k3 rfl rfl rfl ?_
 refine WL_nil ?_
 refine WA_take 5 rfl (by kernel_rfl) (by kernel_rfl) (by kernel_rfl) rfl (fl_move rfl) ?_
 refine WL_move rfl rfl ?_
 refine WL_nil ?_
 refine WA_take 6 rfl (by kernel_rfl) (by kernel_rfl) (by kernel_rfl) rfl (fl_move rfl) ?_
 refine WL_move rfl rfl ?_
 refine WL_nil ?_
 refine WA_take 7 rfl (by kernel_rfl) (by kernel_rfl) (by kernel_rfl) rfl (fl_sl_l Try.underlying22 ty3 (show m < c by omega) (show m ≤ a1.length + 1 by omega) k3 rfl rfl) ?_
 refine WL_sl_l Try.underlying22 ty3 (show m < c by omega) (show m ≤ a1.length + 1 by omega) k3 rfl rfl rfl ?_
 refine WL_nil ?_
 have hA3 : w3.heap[b]? = some (.cells row T (0, 0)) := (hB3.block _ (heap_lt h4)).trans h4
 refine WA_one 8 (by kernel_rfl) rfl ?_
 refine WL_copy (m := a1.length - m) Try.underlying22 ty3 hA3 hA3 (by show Nat.min (a1.length + 1 - m) (a1.length + 1 - (m + 1)) = a1.length - m; rw [show a1.length + 1 - (m + 1) = a1.length - m by omega]; exact Nat.min_eq_right (by omega)) (drop_cells h6) hyl hy1 (by rw [hyl, h8, Nat.zero_add, ← Nat.add_mul]; exact Nat.mul_le_mul_right _ (by omega)) rfl rfl rfl ?_
 generalize hr1 : (row.toList.take (0 + (m + 1) * Rep.sz Int) ++ cells.drop (m * Rep.sz Int) ++ row.toList.drop (0 + (m + 1) * Rep.sz Int + (cells.drop (m * Rep.sz Int)).length)).toArray = r1 at q1 q2 q3 ⊢
 have hA4 : (w3.setRow b r1).heap[b]? = some (.cells r1 T (0, 0)) := setRow_heap _ _ _ _ _ _ hA3
 have g43 : (w3.setRow b r1).heap[vb]? = some (.cells vrow vT (0, 0)) := (setRow_other _ _ _ _ h13).trans ((hB3.block _ (heap_lt g4)).trans g4)
 refine WL_nil ?_
 refine WA_done (by kernel_rfl) ?_
 refine nrm_normal ?_
 refine W_seq_reg ?_
 refine WL_move rfl rfl ?_
 refine WL_move rfl rfl ?_
 refine WL_sl_l Try.underlying22 ty3 (show m < c by omega) (show m ≤ a1.length + 1 by omega) k3 rfl rfl rfl ?_
 refine WL_move rfl rfl ?_
 refine WL_copy (m := 1) Try.underlying22 ty3 hA4 g43 (by show Nat.min a3.length (a1.length + 1 - m) = 1; rw [hb1]; exact Nat.min_eq_left (by omega)) hvr hvl hv1 (by rw [hvl, q3, Nat.zero_add, ← Nat.add_mul]; exact Nat.mul_le_mul_right _ (by omega)) rfl rfl rfl ?_
 generalize hr2 : (r1.toList.take (0 + m * Rep.sz Int) ++ vcells ++ r1.toList.drop (0 + m * Rep.sz Int + vcells.length)).toArray = r2 at q1 q2 ⊢
 refine WL_nil ?_
 refine W_seq_reg ?_
 refine WL_move rfl rfl ?_
 refine WL_assign rfl rfl ?_
 refine WL_nil ?_
 refine W_ret ?_
 refine nrm_ret ?_
 refine fn_ret1 rfl rfl ?_
 have hK4 : Keep [b] w0 ((w3.setRow b r1).setRow b r2) := Keep.row (Keep.row ⟨hB3.os, hB3.tape, hB3.output, hB3.size, fun k hk _ => hB3.block k hk⟩)
 have hin : ∀ k ∈ Fe ++ Ge, k < w0.heap.size := fun k hk => (List.mem_append.1 hk).elim (elems_inh h5 k) (elems_inh g5 k)
 obtain ⟨F', e1, e2, e3⟩ := ins_val (w' := (w3.setRow b r1).setRow b r2) h5 g5 h14 hm hb1 (g := b) h15 (setRow_heap _ _ _ _ _ _ hA4) (fun k hk => hK4.block k (hin k hk) (by simp only [List.mem_singleton]; intro e; exact h15 (e ▸ hk))) q1 q2 k3 h11
 exact ⟨_, rfl, _, rfl, hK _ _ _ F' hK4 e1 e2 (fun k hk => (e3 k hk).elim .inl (fun h => .inr (.inl h)))⟩

theorem c_M_Ledger_receive {w0 : World} {Fs : List (List Nat)} (pb1 : Nat) (a1 : ((List Int) × Int × Int)) (u1 : Value) (a2 : Int) (a3 : Int) (hH : Hold [Item.own u1 (a1.1 : (List Int)), Item.box pb1 [u1, (.int .i64 a1.2.1), (.int .i64 a1.2.2)]] w0 Fs) (hn : Fs.flatten.Nodup) (rr : ((List Int) × Int × Int)) (hF : M.Ledger_receive a1 a2 a3 = some rr) :
 Calls Try.prog 96 [(ptr pb1 0), (.int .i64 a2), (.int .i64 a3)].toArray w0 fun e w' => ∃ v, e = .returned v ∧ ∃ p0_0 : Value, v = (.tuple #[]) ∧ Ctx Fs.flatten w0 w' [Item.own p0_0 (rr.1 : (List Int)), Item.box pb1 [p0_0, (.int .i64 rr.2.1), (.int .i64 rr.2.2)]] := by
 refine calls_of_W Try.func96 rfl rfl ?_
 have hC0 := Ctx.startIn hH hn
 unfold M.Ledger_receive at hF
 refine W_seq_reg ?_
 refine WL_move rfl rfl ?_
 refine WL_nilCheck rfl rfl ?_
 refine WL_field Try.underlying26 rfl rfl (fun w => ⟨_, Try.sizeOf3 w⟩) rfl rfl ?_
 refine WL_load_box hC0 1 rfl rfl Try.isAgg3 rfl rfl ?_
 refine WL_add rfl rfl rfl ?_
 refine WL_nilCheck rfl rfl ?_
 refine WL_field Try.underlying26 rfl rfl (fun w => ⟨_, Try.sizeOf3 w⟩) rfl rfl ?_
 refine WL_store_box (cs' := [u1, (.int .i64 a1.2.1), (.int .i64 (w64 (a1.2.2 + 1)))]) hC0 1 rfl rfl rfl rfl Try.sizeOf3 rfl rfl (fun w1 hC1 => ?_)
 try dsimp only [List.set] at hC1
 refine WL_nil ?_
 refine W_seq_reg ?_
 refine WL_move rfl rfl ?_
 refine WL_nilCheck rfl rfl ?_
 refine WL_field Try.underlying26 rfl rfl (fun w => ⟨_, Try.sizeOf22 w⟩) rfl rfl ?_
 refine WL_load_box hC1 1 rfl rfl Try.isAgg22 rfl rfl ?_
 refine WL_move rfl rfl ?_
 obtain ⟨x1, hr1, hF⟩ := bind_some hF
 refine WL_call Try.call134 rfl rfl (c_Slices_BinarySearch_Lint_int a1.1 u1 ((hC1.ro 0 rfl).now (Keep.refl _ _)) a2 x1 hr1) ?_
 rintro _ w2 ⟨hB1, v1, v2, F1, F2, rfl, hv1, hv2, hn1, hb1⟩
 obtain ⟨rfl, rfl⟩ := val_int hv1
 obtain ⟨rfl, rfl⟩ := val_bool hv2
 have hC2 := hC1.grow hB1
 refine WL_move rfl rfl ?_
 refine WL_extract rfl rfl rfl ?_
 refine WL_extract rfl rfl rfl ?_
 refine WL_assign rfl rfl ?_
 refine WL_assign rfl rfl ?_
 refine WL_nil ?_
 refine W_seq_reg ?_
 refine WL_move rfl rfl ?_
 refine WL_not rfl rfl ?_
 refine WL_nil ?_
 obtain ⟨r1, hr2, hF⟩ := bind_some hF
 refine W_norm (fun l w => ∃ v3 : Value, ∃ x2 : (List Int), ∃ x3 : Int, ∃ x4 : Int, (x2, x3, x4) = r1 ∧ l = [] ∧ Ctx Fs.flatten w0 w [Item.own v3 (x2 : (List Int)), Item.box pb1 [v3, (.int .i64 x3), (.int .i64 x4)]]) ?_ ?_
 ·refine W_cond rfl (fun hc1 => ?_) (fun hc1 => ?_)
  ·replace hr2 := ite_t hr2 hc1
   refine W_seq_reg ?_
   refine WL_move rfl rfl ?_
   refine WL_move rfl rfl ?_
   refine WL_nilCheck rfl rfl ?_
   refine WL_field Try.underlying26 rfl rfl (fun w => ⟨_, Try.sizeOf22 w⟩) rfl rfl ?_
   refine WL_load_box hC2 1 rfl rfl Try.isAgg22 rfl rfl ?_
   refine WL_move rfl rfl ?_
   refine WL_move rfl rfl ?_
   refine WL_buildSlice (vs := [(.int .i64 a2)]) hC2 Try.underlying22 ty3 rfl rfl rfl rfl (by intro v hv; simp only [List.mem_cons, List.not_mem_nil, or_false] at hv; rcases hv with rfl <;> rfl) rfl rfl (fun b1 w4 hC4 hB3 => ?_)
   have hC5 := hC4.row0 (α := Int)
   have hC6 := hC5.triv (int_val (a2))
   have hC7 := hC6.row1
   have hC8 := hC7.front 1 rfl
   dsimp only [List.eraseIdx, List.cons_append, List.nil_append, List.append_nil] at hC8
   have hC9 : Ctx Fs.flatten w0 w4 (Item.own (.slice (some ⟨b1, 0, none⟩) 1 1) ([a2] : List Int) :: [Item.own u1 (a1.1 : (List Int)), Item.box pb1 [u1, (.int .i64 a1.2.1), (.int .i64 (w64 (a1.2.2 + 1)))]]) := hC8.rowOwn (by simp [maxLen])
   obtain ⟨x5, hr3, hr2⟩ := bind_some hr2
   have hC11 := hC9.f1
   obtain ⟨Fs1, hH1, hn2, hF1, hO1, hb2⟩ := Ctx.lend2 (As := [Item.box pb1 [u1, (.int .i64 a1.2.1), (.int .i64 (w64 (a1.2.2 + 1)))]]) [Item.own u1 (a1.1 : (List Int)), Item.own (.slice (some ⟨b1, 0, none⟩) 1 1) ([a2] : (List Int))] hC11
   refine WL_call Try.call135 rfl rfl (c_Slices_Insert_Lint_int a1.1 u1 x1.1 ([a2]) (.slice (some ⟨b1, 0, none⟩) 1 1) hH1 hn2 x5 hr3) ?_
   rintro v4 w5 ⟨_, rfl, hq1⟩
   have hC12 : Ctx Fs.flatten w0 w5 [Item.own v4 (x5 : (List Int)), Item.box pb1 [u1, (.int .i64 a1.2.1), (.int .i64 (w64 (a1.2.2 + 1)))]] := hb2 _ _ hq1
   refine WL_nilCheck rfl rfl ?_
   refine WL_field Try.underlying26 rfl rfl (fun w => ⟨_, Try.sizeOf22 w⟩) rfl rfl ?_
   refine WL_store_box (cs' := [v4, (.int .i64 a1.2.1), (.int .i64 (w64 (a1.2.2 + 1)))]) hC12 1 rfl rfl (ro_one (hC12.ro 0 rfl)) rfl Try.sizeOf22 rfl rfl (fun w6 hC13 => ?_)
   try dsimp only [List.set] at hC13
   refine WL_nil ?_
   refine W_reg ?_
   refine WL_move rfl rfl ?_
   refine WL_nilCheck rfl rfl ?_
   refine WL_field Try.underlying26 rfl rfl (fun w => ⟨_, Try.sizeOf3 w⟩) rfl rfl ?_
   refine WL_load_box hC13 1 rfl rfl Try.isAgg3 rfl rfl ?_
   refine WL_move rfl rfl ?_
   refine WL_add rfl rfl rfl ?_
   refine WL_nilCheck rfl rfl ?_
   refine WL_field Try.underlying26 rfl rfl (fun w => ⟨_, Try.sizeOf3 w⟩) rfl rfl ?_
   refine WL_store_box (cs' := [v4, (.int .i64 (w64 (a1.2.1 + a3))), (.int .i64 (w64 (a1.2.2 + 1)))]) hC13 1 rfl rfl rfl rfl Try.sizeOf3 rfl rfl (fun w7 hC14 => ?_)
   try dsimp only [List.set] at hC14
   refine WL_nil ?_
   have hq2 := Option.some.inj hr2
   subst hq2
   refine nrm_sub (l' := []) trivial ?_
   exact ⟨v4, x5, w64 (a1.2.1 + a3), w64 (a1.2.2 + 1), rfl, rfl, hC14⟩
  replace hr2 := ite_f hr2 hc1
  refine W_skip ?_
  have hq3 := Option.some.inj hr2
  subst hq3
  refine nrm_sub (l' := []) trivial ?_
  exact ⟨u1, a1.1, a1.2.1, w64 (a1.2.2 + 1), rfl, rfl, hC2⟩
 rintro l1 _ w3 hs1 ⟨v3, x2, x3, x4, rfl, rfl, hC3⟩
 try dsimp only at hF
 have hq4 := Option.some.inj hF
 subst hq4
 refine fn_normG0 rfl ?_
 have hC15 := hC3.f1
 have hC16 := hC15.f1
 exact ⟨_, rfl, _, rfl, hC16⟩

theorem c_M_TryCall {w0 : World} (a1 : ((List Int) × Int × Int)) (u1 : Value) (g1 : RO [] w0 u1 a1.1) (a2 : (Int × Int × Int × Bool)) (a3 : Int) (rr : (((List Int) × Int × Int) × (Int × Int × Int × Bool) × Bool)) (hF : M.TryCall a1 a2 a3 = some rr) :
 Calls Try.prog 24 [(.agg #[u1, (.int .i64 a1.2.1), (.int .i64 a1.2.2)]), (.agg #[(.int .i64 a2.1), (.int .i64 a2.2.1), (.int .i64 a2.2.2.1), (.bool a2.2.2.2)]), (.int .i64 a3)].toArray w0 fun e w' => ∃ v, e = .returned v ∧ Res3 w0 rr.1 rr.2.1 rr.2.2 v w' := by
 refine calls_of_W Try.func24 rfl rfl ?_
 have hC0 := Ctx.start w0
 unfold M.TryCall at hF
 refine W_seq_reg ?_
 refine WL_box (cs := [u1, (.int .i64 a1.2.1), (.int .i64 a1.2.2)]) hC0 rfl rfl rfl (fun b1 w1 hC1 hB1 => ?_)
 refine WL_box (cs := [(.int .i64 a2.1), (.int .i64 a2.2.1), (.int .i64 a2.2.2.1), (.bool a2.2.2.2)]) hC1 rfl rfl rfl (fun b2 w2 hC2 hB2 => ?_)
 refine WL_alloc hC2 zero26 rfl rfl (fun b3 w3 hC3 hB3 => ?_)
 refine WL_alloc hC3 zero35 rfl rfl (fun b4 w4 hC4 hB4 => ?_)
 refine WL_assign rfl rfl ?_
 refine WL_nil ?_
 refine W_seq_reg ?_
 refine WL_load_box_agg [u1, (.int .i64 a1.2.1), (.int .i64 a1.2.2)] hC4 3 rfl rfl rfl Try.isAgg26 Try.sizeOf26 rfl rfl ?_
 obtain ⟨x1, hr1, hF⟩ := bind_some hF
 refine WL_call Try.call93 rfl rfl (c_M_copyLedger (a1.1, a1.2.1, a1.2.2) u1 (g1.now hC4.keep) x1 hr1) ?_
 rintro v1 w5 ⟨hB5, F1, hv1, hn1, hb1⟩
 have hC5 := hC4.push hB5 (A := Item.own v1 x1) hv1 hn1 hb1
 obtain ⟨v2, rfl, hC6⟩ := st26_own hC5
 refine WL_alloc hC6 zero26 rfl rfl (fun b5 w6 hC7 hB6 => ?_)
 refine WL_store_box_agg (cs' := [v2, (.int .i64 x1.2.1), (.int .i64 x1.2.2)]) (new := [v2, (.int .i64 x1.2.1), (.int .i64 x1.2.2)]) hC7 0 rfl rfl (by intro v hv; simp only [List.mem_cons, List.not_mem_nil, or_false] at hv; rcases hv with rfl | rfl | rfl; exact (ro_one (hC7.ro 1 rfl)); exact rfl; exact rfl) rfl Try.sizeOf26 rfl rfl (fun w7 hC8 => ?_)
 try dsimp only [List.set] at hC8
 refine WL_nil ?_
 refine W_seq ?_
 obtain ⟨r1, hr2, hF⟩ := bind_some hF
 refine W_cut (fun l w => ∃ x2 : Bool, x2 = r1 ∧ l = [(2, (.int .i64 a3)), (4, (ptr b2 0)), (6, (ptr b3 0)), (7, (ptr b4 0)), (9, (ptr b5 0)), (46, (.bool x2))] ∧ Below w7.heap.size w7 w ∧ Ctx [] w0 w [Item.box b5 [v2, (.int .i64 x1.2.1), (.int .i64 x1.2.2)], Item.own v2 (x1.1 : (List Int)), Item.box b4 [(.int .i64 0), (.int .i64 0), (.int .i64 0), (.bool false)], Item.box b3 [(.slice none 0 0), (.int .i64 0), (.int .i64 0)], Item.box b2 [(.int .i64 a2.1), (.int .i64 a2.2.1), (.int .i64 a2.2.2.1), (.bool a2.2.2.2)]]) ?_ ?_
 ·refine W_reg ?_
  refine WL_load_box_agg [u1, (.int .i64 a1.2.1), (.int .i64 a1.2.2)] hC8 5 rfl rfl rfl Try.isAgg26 Try.sizeOf26 rfl rfl ?_
  obtain ⟨x3, hr3, hr2⟩ := bind_some hr2
  refine WL_call Try.call31 rfl rfl (c_M_IsLedger (a1.1, a1.2.1, a1.2.2) u1 (g1.now hC8.keep) x3 hr3) ?_
  intro _ w10 hv2
  obtain ⟨rfl, hB8⟩ := res_bool hv2
  have hC10 := hC8.grow hB8
  refine WL_not rfl rfl ?_
  refine WL_move rfl rfl ?_
  refine WL_fork (fun hc1 => ?_) (fun hc1 => ?_)
  ·replace hr2 := ite_t hr2 hc1
   refine WL_guard_skip rfl rfl (by simp) rfl ?_
   refine WL_guard_skip rfl rfl (by simp) rfl ?_
   refine WL_guard_skip rfl rfl (by simp) rfl ?_
   refine WL_guard_skip rfl rfl (by simp) rfl ?_
   refine WL_pick_t rfl rfl rfl ?_
   refine WL_move rfl rfl ?_
   refine WL_guard_skip rfl rfl (by simp) rfl ?_
   refine WL_guard_skip rfl rfl (by simp) rfl ?_
   refine WL_guard_skip rfl rfl (by simp) rfl ?_
   refine WL_guard_skip rfl rfl (by simp) rfl ?_
   refine WL_pick_t rfl rfl rfl ?_
   refine WL_move rfl rfl ?_
   refine WL_guard_skip rfl rfl (by simp) rfl ?_
   refine WL_guard_skip rfl rfl (by simp) rfl ?_
   refine WL_guard_skip rfl rfl (by simp) rfl ?_
   refine WL_guard_skip rfl rfl (by simp) rfl ?_
   refine WL_pick_t rfl rfl rfl ?_
   refine WL_move rfl rfl ?_
   refine WL_guard_skip rfl rfl (by simp) rfl ?_
   refine WL_guard_skip rfl rfl (by simp) rfl ?_
   refine WL_pick_t rfl rfl rfl ?_
   refine WL_move rfl rfl ?_
   refine WL_guard_skip rfl rfl (by simp) rfl ?_
   refine WL_guard_skip rfl rfl (by simp) rfl ?_
   refine WL_guard_skip rfl rfl (by simp) rfl ?_
   refine WL_pick_t rfl rfl rfl ?_
   refine WL_move rfl rfl ?_
   refine WL_guard_skip rfl rfl (by simp) rfl ?_
   refine WL_guard_skip rfl rfl (by simp) rfl ?_
   refine WL_guard_skip rfl rfl (by simp) rfl ?_
   refine WL_pick_t rfl rfl rfl ?_
   refine WL_nil ?_
   have hq1 := Option.some.inj hr2
   subst hq1
   have hC11 := hC10.f4
   have hC12 := hC11.f4
   have hC13 := hC12.f4
   have hC14 := hC13.f4
   have hC15 := hC14.f4
   have hC16 := hC15.h5
   refine nrm_sub (l' := [(2, (.int .i64 a3)), (4, (ptr b2 0)), (6, (ptr b3 0)), (7, (ptr b4 0)), (9, (ptr b5 0)), (46, (.bool true))]) ⟨rfl, rfl, rfl, rfl, rfl, rfl, trivial⟩ ?_
   exact ⟨true, rfl, rfl, (Keep.of hB8).below, hC16⟩
  replace hr2 := ite_f hr2 hc1
  refine WL_guard rfl rfl ?_
  refine WL_field Try.underlying35 rfl rfl (fun w => ⟨_, Try.sizeOf3 w⟩) rfl rfl ?_
  refine WL_guard rfl rfl ?_
  refine WL_load_box hC10 4 rfl rfl Try.isAgg3 rfl rfl ?_
  obtain ⟨x4, hr4, hr2⟩ := bind_some hr2
  refine WL_guard rfl rfl ?_
  refine WL_call Try.call94 rfl rfl (c_M_isKey a2.1 x4 hr4) ?_
  intro _ w11 hv3
  obtain ⟨rfl, hB9⟩ := res_bool hv3
  have hC17 := hC10.grow hB9
  refine WL_guard rfl rfl ?_
  refine WL_not rfl rfl ?_
  refine WL_pick_f rfl rfl rfl ?_
  refine WL_move rfl rfl ?_
  refine WL_fork (fun hc2 => ?_) (fun hc2 => ?_)
  ·replace hr2 := ite_t hr2 hc2
   refine WL_guard_skip rfl rfl (by simp) rfl ?_
   refine WL_guard_skip rfl rfl (by simp) rfl ?_
   refine WL_guard_skip rfl rfl (by simp) rfl ?_
   refine WL_guard_skip rfl rfl (by simp) rfl ?_
   refine WL_pick_t rfl rfl rfl ?_
   refine WL_move rfl rfl ?_
   refine WL_guard_skip rfl rfl (by simp) rfl ?_
   refine WL_guard_skip rfl rfl (by simp) rfl ?_
   refine WL_guard_skip rfl rfl (by simp) rfl ?_
   refine WL_guard_skip rfl rfl (by simp) rfl ?_
   refine WL_pick_t rfl rfl rfl ?_
   refine WL_move rfl rfl ?_
   refine WL_guard_skip rfl rfl (by simp) rfl ?_
   refine WL_guard_skip rfl rfl (by simp) rfl ?_
   refine WL_pick_t rfl rfl rfl ?_
   refine WL_move rfl rfl ?_
   refine WL_guard_skip rfl rfl (by simp) rfl ?_
   refine WL_guard_skip rfl rfl (by simp) rfl ?_
   refine WL_guard_skip rfl rfl (by simp) rfl ?_
   refine WL_pick_t rfl rfl rfl ?_
   refine WL_move rfl rfl ?_
   refine WL_guard_skip rfl rfl (by simp) rfl ?_
   refine WL_guard_skip rfl rfl (by simp) rfl ?_
   refine WL_guard_skip rfl rfl (by simp) rfl ?_
   refine WL_pick_t rfl rfl rfl ?_
   refine WL_nil ?_
   have hq2 := Option.some.inj hr2
   subst hq2
   have hC18 := hC17.f4
   have hC19 := hC18.f4
   have hC20 := hC19.f4
   have hC21 := hC20.f4
   have hC22 := hC21.f4
   have hC23 := hC22.h5
   refine nrm_sub (l' := [(2, (.int .i64 a3)), (4, (ptr b2 0)), (6, (ptr b3 0)), (7, (ptr b4 0)), (9, (ptr b5 0)), (46, (.bool true))]) ⟨rfl, rfl, rfl, rfl, rfl, rfl, trivial⟩ ?_
   exact ⟨true, rfl, rfl, ((Keep.of hB8).then hB9).below, hC23⟩
  replace hr2 := ite_f hr2 hc2
  refine WL_guard rfl rfl ?_
  refine WL_field Try.underlying35 rfl rfl (fun w => ⟨_, Try.sizeOf3 w⟩) rfl rfl ?_
  refine WL_guard rfl rfl ?_
  refine WL_load_box hC17 4 rfl rfl Try.isAgg3 rfl rfl ?_
  obtain ⟨x5, hr5, hr2⟩ := bind_some hr2
  refine WL_guard rfl rfl ?_
  refine WL_call Try.call95 rfl rfl (c_M_isCost a2.2.1 x5 hr5) ?_
  intro _ w12 hv4
  obtain ⟨rfl, hB10⟩ := res_bool hv4
  have hC24 := hC17.grow hB10
  refine WL_guard rfl rfl ?_
  refine WL_not rfl rfl ?_
  refine WL_pick_f rfl rfl rfl ?_
  refine WL_move rfl rfl ?_
  refine WL_fork (fun hc3 => ?_) (fun hc3 => ?_)
  ·replace hr2 := ite_t hr2 hc3
   refine WL_guard_skip rfl rfl (by simp) rfl ?_
   refine WL_guard_skip rfl rfl (by simp) rfl ?_
   refine WL_guard_skip rfl rfl (by simp) rfl ?_
   refine WL_guard_skip rfl rfl (by simp) rfl ?_
   refine WL_pick_t rfl rfl rfl ?_
   refine WL_move rfl rfl ?_
   refine WL_guard_skip rfl rfl (by simp) rfl ?_
   refine WL_guard_skip rfl rfl (by simp) rfl ?_
   refine WL_pick_t rfl rfl rfl ?_
   refine WL_move rfl rfl ?_
   refine WL_guard_skip rfl rfl (by simp) rfl ?_
   refine WL_guard_skip rfl rfl (by simp) rfl ?_
   refine WL_guard_skip rfl rfl (by simp) rfl ?_
   refine WL_pick_t rfl rfl rfl ?_
   refine WL_move rfl rfl ?_
   refine WL_guard_skip rfl rfl (by simp) rfl ?_
   refine WL_guard_skip rfl rfl (by simp) rfl ?_
   refine WL_guard_skip rfl rfl (by simp) rfl ?_
   refine WL_pick_t rfl rfl rfl ?_
   refine WL_nil ?_
   have hq3 := Option.some.inj hr2
   subst hq3
   have hC25 := hC24.f4
   have hC26 := hC25.f4
   have hC27 := hC26.f4
   have hC28 := hC27.f4
   have hC29 := hC28.f4
   have hC30 := hC29.h5
   refine nrm_sub (l' := [(2, (.int .i64 a3)), (4, (ptr b2 0)), (6, (ptr b3 0)), (7, (ptr b4 0)), (9, (ptr b5 0)), (46, (.bool true))]) ⟨rfl, rfl, rfl, rfl, rfl, rfl, trivial⟩ ?_
   exact ⟨true, rfl, rfl, (((Keep.of hB8).then hB9).then hB10).below, hC30⟩
  replace hr2 := ite_f hr2 hc3
  refine WL_guard rfl rfl ?_
  refine WL_field Try.underlying35 rfl rfl (fun w => ⟨_, Try.sizeOf3 w⟩) rfl rfl ?_
  refine WL_guard rfl rfl ?_
  refine WL_load_box hC24 4 rfl rfl Try.isAgg3 rfl rfl ?_
  obtain ⟨x6, hr6, hr2⟩ := bind_some hr2
  refine WL_guard rfl rfl ?_
  refine WL_call Try.call97 rfl rfl (c_M_within a2.2.2.1 0 1000 x6 hr6) ?_
  intro _ w13 hv5
  obtain ⟨rfl, hB11⟩ := res_bool hv5
  have hC31 := hC24.grow hB11
  refine WL_guard rfl rfl ?_
  refine WL_not rfl rfl ?_
  refine WL_pick_f rfl rfl rfl ?_
  refine WL_move rfl rfl ?_
  refine WL_fork (fun hc4 => ?_) (fun hc4 => ?_)
  ·replace hr2 := ite_t hr2 hc4
   refine WL_guard_skip rfl rfl (by simp) rfl ?_
   refine WL_guard_skip rfl rfl (by simp) rfl ?_
   refine WL_pick_t rfl rfl rfl ?_
   refine WL_move rfl rfl ?_
   refine WL_guard_skip rfl rfl (by simp) rfl ?_
   refine WL_guard_skip rfl rfl (by simp) rfl ?_
   refine WL_guard_skip rfl rfl (by simp) rfl ?_
   refine WL_pick_t rfl rfl rfl ?_
   refine WL_move rfl rfl ?_
   refine WL_guard_skip rfl rfl (by simp) rfl ?_
   refine WL_guard_skip rfl rfl (by simp) rfl ?_
   refine WL_guard_skip rfl rfl (by simp) rfl ?_
   refine WL_pick_t rfl rfl rfl ?_
   refine WL_nil ?_
   have hq4 := Option.some.inj hr2
   subst hq4
   have hC32 := hC31.f4
   have hC33 := hC32.f4
   have hC34 := hC33.f4
   have hC35 := hC34.f4
   have hC36 := hC35.f4
   have hC37 := hC36.h5
   refine nrm_sub (l' := [(2, (.int .i64 a3)), (4, (ptr b2 0)), (6, (ptr b3 0)), (7, (ptr b4 0)), (9, (ptr b5 0)), (46, (.bool true))]) ⟨rfl, rfl, rfl, rfl, rfl, rfl, trivial⟩ ?_
   exact ⟨true, rfl, rfl, ((((Keep.of hB8).then hB9).then hB10).then hB11).below, hC37⟩
  replace hr2 := ite_f hr2 hc4
  refine WL_guard rfl rfl ?_
  refine WL_field Try.underlying35 rfl rfl (fun w => ⟨_, Try.sizeOf4 w⟩) rfl rfl ?_
  refine WL_guard rfl rfl ?_
  refine WL_load_box hC31 4 rfl rfl Try.isAgg4 rfl rfl ?_
  refine WL_pick_f rfl rfl rfl ?_
  refine WL_move rfl rfl ?_
  refine WL_fork (fun hc5 => ?_) (fun hc5 => ?_)
  ·replace hr2 := ite_t hr2 hc5
   refine WL_guard_skip rfl rfl (by simp) rfl ?_
   refine WL_guard_skip rfl rfl (by simp) rfl ?_
   refine WL_guard_skip rfl rfl (by simp) rfl ?_
   refine WL_pick_t rfl rfl rfl ?_
   refine WL_move rfl rfl ?_
   refine WL_guard_skip rfl rfl (by simp) rfl ?_
   refine WL_guard_skip rfl rfl (by simp) rfl ?_
   refine WL_guard_skip rfl rfl (by simp) rfl ?_
   refine WL_pick_t rfl rfl rfl ?_
   refine WL_nil ?_
   have hq5 := Option.some.inj hr2
   subst hq5
   have hC38 := hC31.f4
   have hC39 := hC38.f4
   have hC40 := hC39.f4
   have hC41 := hC40.f4
   have hC42 := hC41.f4
   have hC43 := hC42.h5
   refine nrm_sub (l' := [(2, (.int .i64 a3)), (4, (ptr b2 0)), (6, (ptr b3 0)), (7, (ptr b4 0)), (9, (ptr b5 0)), (46, (.bool true))]) ⟨rfl, rfl, rfl, rfl, rfl, rfl, trivial⟩ ?_
   exact ⟨true, rfl, rfl, ((((Keep.of hB8).then hB9).then hB10).then hB11).below, hC43⟩
  replace hr2 := ite_f hr2 hc5
  refine WL_guard rfl rfl ?_
  refine WL_field Try.underlying26 rfl rfl (fun w => ⟨_, Try.sizeOf3 w⟩) rfl rfl ?_
  refine WL_guard rfl rfl ?_
  refine WL_load_box hC31 5 rfl rfl Try.isAgg3 rfl rfl ?_
  refine WL_guard rfl rfl ?_
  refine WL_gtr rfl rfl rfl ?_
  refine WL_pick_f rfl rfl rfl ?_
  refine WL_move rfl rfl ?_
  refine WL_fork (fun hc6 => ?_) (fun hc6 => ?_)
  ·replace hr2 := ite_t hr2 hc6
   refine WL_guard_skip rfl rfl (by simp) rfl ?_
   refine WL_guard_skip rfl rfl (by simp) rfl ?_
   refine WL_guard_skip rfl rfl (by simp) rfl ?_
   refine WL_pick_t rfl rfl rfl ?_
   refine WL_nil ?_
   have hq6 := Option.some.inj hr2
   subst hq6
   have hC44 := hC31.f4
   have hC45 := hC44.f4
   have hC46 := hC45.f4
   have hC47 := hC46.f4
   have hC48 := hC47.f4
   have hC49 := hC48.h5
   refine nrm_sub (l' := [(2, (.int .i64 a3)), (4, (ptr b2 0)), (6, (ptr b3 0)), (7, (ptr b4 0)), (9, (ptr b5 0)), (46, (.bool true))]) ⟨rfl, rfl, rfl, rfl, rfl, rfl, trivial⟩ ?_
   exact ⟨true, rfl, rfl, ((((Keep.of hB8).then hB9).then hB10).then hB11).below, hC49⟩
  replace hr2 := ite_f hr2 hc6
  refine WL_guard rfl rfl ?_
  refine WL_field Try.underlying26 rfl rfl (fun w => ⟨_, Try.sizeOf3 w⟩) rfl rfl ?_
  refine WL_guard rfl rfl ?_
  refine WL_load_box hC31 5 rfl rfl Try.isAgg3 rfl rfl ?_
  refine WL_guard rfl rfl ?_
  refine WL_gtr rfl rfl rfl ?_
  refine WL_pick_f rfl rfl rfl ?_
  refine WL_nil ?_
  have hq7 := Option.some.inj hr2
  subst hq7
  have hC50 := hC31.f4
  have hC51 := hC50.f4
  have hC52 := hC51.f4
  have hC53 := hC52.f4
  have hC54 := hC53.f4
  have hC55 := hC54.h5
  refine nrm_sub (l' := [(2, (.int .i64 a3)), (4, (ptr b2 0)), (6, (ptr b3 0)), (7, (ptr b4 0)), (9, (ptr b5 0)), (46, (.bool (decide (999998000 < a1.2.2))))]) ⟨rfl, rfl, rfl, rfl, rfl, rfl, trivial⟩ ?_
  exact ⟨(decide (999998000 < a1.2.2)), rfl, rfl, ((((Keep.of hB8).then hB9).then hB10).then hB11).below, hC55⟩
 rintro _ w9 ⟨x2, rfl, rfl, hB7, hC9⟩
 try dsimp only at hF
 refine W_cond rfl (fun hc7 => ?_) (fun hc7 => ?_)
 ·replace hF := ite_t hF hc7
  obtain ⟨r2, hr7, hF⟩ := bind_some hF
  refine W_cut (fun l w => ∃ x7 : Int, ∃ x8 : Int, ∃ x9 : Int, ∃ x10 : Bool, ∃ v3 : Value, ∃ x11 : (List Int), ∃ x12 : Int, ∃ x13 : Int, ∃ x14 : Bool, (x7, x8, x9, x10, x11, x12, x13, x14) = r2 ∧ l = [(6, (ptr b3 0)), (7, (ptr b4 0)), (8, (.bool x14))] ∧ Ctx [] w0 w [Item.own v3 (x11 : (List Int)), Item.box b4 [(.int .i64 x7), (.int .i64 x8), (.int .i64 x9), (.bool x10)], Item.box b3 [v3, (.int .i64 x12), (.int .i64 x13)]]) ?_ ?_
  ·refine W_drawn 5 rfl hmix (fun w15 hB13 => ?_)
   have hC57 := hC9.grow hB13
   refine WA.sub (l' := [(2, (.int .i64 a3)), (4, (ptr b2 0)), (6, (ptr b3 0)), (7, (ptr b4 0)), (9, (ptr b5 0)), (46, (.bool x2))]) ?_ ⟨rfl, rfl, rfl, rfl, rfl, rfl, trivial⟩
   refine WA_postsO [⟨0, [], fun vs => PW.val (.agg #[v2, (.int .i64 x1.2.1), (.int .i64 x1.2.2)]), []⟩, ⟨1, [], fun vs => PW.val (.agg #[(.int .i64 a2.1), (.int .i64 a2.2.1), (.int .i64 a2.2.2.1), (.bool a2.2.2.2)]), []⟩] [[], []] [1] 3 rfl (by kernel_rfl) (by kernel_rfl) ?_ ⟨?_, ?_, trivial⟩
   ·refine StepsE_cons rfl ?_ ?_
    ·intro w16 hB14
     refine DepsE_nil ?_
     refine ⟨_, rfl, ?_⟩
     refine WL_load_box_agg [v2, (.int .i64 x1.2.1), (.int .i64 x1.2.2)] (hC57.grow hB14) 0 rfl rfl rfl Try.isAgg26 Try.sizeOf26 rfl rfl ?_
     refine WL_nil ?_
     exact FinE_val (Below.refl _ _) rfl rfl ⟨rfl, rfl⟩
    refine StepsE_cons rfl ?_ ?_
    ·intro w16 hB14
     refine DepsE_nil ?_
     refine ⟨_, rfl, ?_⟩
     refine WL_load_box_agg [(.int .i64 a2.1), (.int .i64 a2.2.1), (.int .i64 a2.2.2.1), (.bool a2.2.2.2)] (hC57.grow hB14) 4 rfl rfl rfl Try.isAgg35 Try.sizeOf35 rfl rfl ?_
     refine WL_nil ?_
     exact FinE_val (Below.refl _ _) rfl rfl ⟨rfl, rfl⟩
    exact StepsE_nil
   ·intro g' hg'
    obtain rfl : g' = 3 := hg'
    intro w17 hB15
    refine AllE_cons rfl rfl rfl ?_
    rintro _ _ ⟨rfl, rfl⟩
    refine AllE_cons rfl rfl rfl ?_
    rintro _ _ ⟨rfl, rfl⟩
    refine AllE_nil ?_
    intro hn2 hb2
    have hC58 := hC57.grow hB15
    refine WA_one 2 (by kernel_rfl) rfl ?_
    refine WL_store_box_agg (cs' := [v2, (.int .i64 x1.2.1), (.int .i64 x1.2.2)]) (new := [v2, (.int .i64 x1.2.1), (.int .i64 x1.2.2)]) hC58 3 rfl rfl (by intro v hv; simp only [List.mem_cons, List.not_mem_nil, or_false] at hv; rcases hv with rfl | rfl | rfl; exact (ro_one (hC58.ro 1 rfl)); exact rfl; exact rfl) rfl Try.sizeOf26 rfl rfl (fun w18 hC59 => ?_)
    try dsimp only [List.set] at hC59
    refine WL_nil ?_
    refine WA_one 3 (by kernel_rfl) rfl ?_
    refine WL_store_box_agg (cs' := [(.int .i64 a2.1), (.int .i64 a2.2.1), (.int .i64 a2.2.2.1), (.bool a2.2.2.2)]) (new := [(.int .i64 a2.1), (.int .i64 a2.2.1), (.int .i64 a2.2.2.1), (.bool a2.2.2.2)]) hC59 2 rfl rfl (by intro v hv; simp only [List.mem_cons, List.not_mem_nil, or_false] at hv; rcases hv with rfl | rfl | rfl | rfl; exact rfl; exact rfl; exact rfl; exact rfl) rfl Try.sizeOf35 rfl rfl (fun w19 hC60 => ?_)
    try dsimp only [List.set] at hC60
    refine WL_nil ?_
    refine WA_tk 4 (by kernel_rfl) rfl rfl (fl_assign rfl) ?_
    refine WL_assign rfl rfl ?_
    refine WL_nil ?_
    refine WA_done (by kernel_rfl) ?_
    have hq8 := Option.some.inj hr7
    subst hq8
    have hC61 := hC60.f3
    have hC62 := hC61.f3
    have hC63 := hC62.f3
    have hC64 := hC63.h3
    refine nrm_sub (l' := [(6, (ptr b3 0)), (7, (ptr b4 0)), (8, (.bool false))]) ⟨rfl, rfl, rfl, trivial⟩ ?_
    exact ⟨a2.1, a2.2.1, a2.2.2.1, a2.2.2.2, v2, x1.1, x1.2.1, x1.2.2, false, rfl, rfl, hC64⟩
   intro g' hg'
   obtain rfl : g' = 4 := hg'
   intro w17 hB15
   refine AllE_cons rfl rfl rfl ?_
   rintro _ _ ⟨rfl, rfl⟩
   refine AllE_nil ?_
   intro hn2 hb2
   have hC58 := hC57.grow hB15
   refine WA_all2 (i := 1) (j := 2) (by kernel_rfl) rfl rfl ?_ ?_
   ·refine WL_load_box_agg [(.int .i64 a2.1), (.int .i64 a2.2.1), (.int .i64 a2.2.2.1), (.bool a2.2.2.2)] hC58 4 rfl rfl rfl Try.isAgg35 Try.sizeOf35 rfl rfl ?_
    refine WL_nil ?_
    refine WA_one 2 (by kernel_rfl) rfl ?_
    refine WL_store_box_agg (cs' := [v2, (.int .i64 x1.2.1), (.int .i64 x1.2.2)]) (new := [v2, (.int .i64 x1.2.1), (.int .i64 x1.2.2)]) hC58 3 rfl rfl (by intro v hv; simp only [List.mem_cons, List.not_mem_nil, or_false] at hv; rcases hv with rfl | rfl | rfl; exact (ro_one (hC58.ro 1 rfl)); exact rfl; exact rfl) rfl Try.sizeOf26 rfl rfl (fun w18 hC59 => ?_)
    try dsimp only [List.set] at hC59
    refine WL_nil ?_
    refine WA_one 3 (by kernel_rfl) rfl ?_
    refine WL_store_box_agg (cs' := [(.int .i64 a2.1), (.int .i64 a2.2.1), (.int .i64 a2.2.2.1), (.bool a2.2.2.2)]) (new := [(.int .i64 a2.1), (.int .i64 a2.2.1), (.int .i64 a2.2.2.1), (.bool a2.2.2.2)]) hC59 2 rfl rfl (by intro v hv; simp only [List.mem_cons, List.not_mem_nil, or_false] at hv; rcases hv with rfl | rfl | rfl | rfl; exact rfl; exact rfl; exact rfl; exact rfl) rfl Try.sizeOf35 rfl rfl (fun w19 hC60 => ?_)
    try dsimp only [List.set] at hC60
    refine WL_nil ?_
    refine WA_tk 4 (by kernel_rfl) rfl rfl (fl_assign rfl) ?_
    refine WL_assign rfl rfl ?_
    refine WL_nil ?_
    refine WA_done (by kernel_rfl) ?_
    have hq8 := Option.some.inj hr7
    subst hq8
    have hC61 := hC60.f3
    have hC62 := hC61.f3
    have hC63 := hC62.f3
    have hC64 := hC63.h3
    refine nrm_sub (l' := [(6, (ptr b3 0)), (7, (ptr b4 0)), (8, (.bool false))]) ⟨rfl, rfl, rfl, trivial⟩ ?_
    exact ⟨a2.1, a2.2.1, a2.2.2.1, a2.2.2.2, v2, x1.1, x1.2.1, x1.2.2, false, rfl, rfl, hC64⟩
   refine WL_store_box_agg (cs' := [v2, (.int .i64 x1.2.1), (.int .i64 x1.2.2)]) (new := [v2, (.int .i64 x1.2.1), (.int .i64 x1.2.2)]) hC58 3 rfl rfl (by intro v hv; simp only [List.mem_cons, List.not_mem_nil, or_false] at hv; rcases hv with rfl | rfl | rfl; exact (ro_one (hC58.ro 1 rfl)); exact rfl; exact rfl) rfl Try.sizeOf26 rfl rfl (fun w18 hC59 => ?_)
   try dsimp only [List.set] at hC59
   refine WL_nil ?_
   refine WA_one 1 (by kernel_rfl) rfl ?_
   refine WL_load_box_agg [(.int .i64 a2.1), (.int .i64 a2.2.1), (.int .i64 a2.2.2.1), (.bool a2.2.2.2)] hC59 4 rfl rfl rfl Try.isAgg35 Try.sizeOf35 rfl rfl ?_
   refine WL_nil ?_
   refine WA_one 3 (by kernel_rfl) rfl ?_
   refine WL_store_box_agg (cs' := [(.int .i64 a2.1), (.int .i64 a2.2.1), (.int .i64 a2.2.2.1), (.bool a2.2.2.2)]) (new := [(.int .i64 a2.1), (.int .i64 a2.2.1), (.int .i64 a2.2.2.1), (.bool a2.2.2.2)]) hC59 2 rfl rfl (by intro v hv; simp only [List.mem_cons, List.not_mem_nil, or_false] at hv; rcases hv with rfl | rfl | rfl | rfl; exact rfl; exact rfl; exact rfl; exact rfl) rfl Try.sizeOf35 rfl rfl (fun w19 hC60 => ?_)
   try dsimp only [List.set] at hC60
   refine WL_nil ?_
   refine WA_tk 4 (by kernel_rfl) rfl rfl (fl_assign rfl) ?_
   refine WL_assign rfl rfl ?_
   refine WL_nil ?_
   refine WA_done (by kernel_rfl) ?_
   have hq8 := Option.some.inj hr7
   subst hq8
   have hC61 := hC60.f3
   have hC62 := hC61.f3
   have hC63 := hC62.f3
   have hC64 := hC63.h3
   refine nrm_sub (l' := [(6, (ptr b3 0)), (7, (ptr b4 0)), (8, (.bool false))]) ⟨rfl, rfl, rfl, trivial⟩ ?_
   exact ⟨a2.1, a2.2.1, a2.2.2.1, a2.2.2.2, v2, x1.1, x1.2.1, x1.2.2, false, rfl, rfl, hC64⟩
  rintro _ w14 ⟨x7, x8, x9, x10, v3, x11, x12, x13, x14, rfl, rfl, hC56⟩
  try dsimp only at hF
  refine W_ret ?_
  refine nrm_ret ?_
  have hq9 := Option.some.inj hF
  subst hq9
  refine fn_retG3 rfl (rv_cell_agg (cs' := [v3, (.int .i64 x12), (.int .i64 x13)]) hC56 (i := 2) rfl rfl rfl Try.isAgg26 Try.sizeOf26 rfl) (rv_cell_agg (cs' := [(.int .i64 x7), (.int .i64 x8), (.int .i64 x9), (.bool x10)]) hC56 (i := 1) rfl rfl rfl Try.isAgg35 Try.sizeOf35 rfl) (rv_tmp rfl) ?_
  have hC65 := hC56.triv (bool_val (x14))
  have hC66 := own_st35 x7 x8 x9 x10 hC65
  have hC68 := hC66.f2
  have hC67 := own_st26 v3 x11 x12 x13 hC68
  exact ⟨_, rfl, res3_of hC67⟩
 replace hF := ite_f hF hc7
 refine W_skip ?_
 refine nrm_normal ?_
 refine W_seq_reg ?_
 refine WL_field Try.underlying35 rfl rfl (fun w => ⟨_, Try.sizeOf3 w⟩) rfl rfl ?_
 refine WL_load_box hC9 4 rfl rfl Try.isAgg3 rfl rfl ?_
 refine WL_add rfl rfl rfl ?_
 refine WL_field Try.underlying35 rfl rfl (fun w => ⟨_, Try.sizeOf3 w⟩) rfl rfl ?_
 refine WL_store_box (cs' := [(.int .i64 a2.1), (.int .i64 a2.2.1), (.int .i64 (w64 (a2.2.2.1 + 1))), (.bool a2.2.2.2)]) hC9 4 rfl rfl rfl rfl Try.sizeOf3 rfl rfl (fun w20 hC69 => ?_)
 try dsimp only [List.set] at hC69
 refine WL_nil ?_
 refine W_seq ?_
 refine W_seq_reg ?_
 refine WL_move rfl rfl ?_
 refine WL_eql rfl rfl rfl ?_
 refine WL_nil ?_
 refine W_cond rfl (fun hc8 => ?_) (fun hc8 => ?_)
 ·replace hF := ite_t hF hc8
  obtain ⟨r3, hr8, hF⟩ := bind_some hF
  refine W_cut (fun l w => ∃ x15 : Int, ∃ x16 : Int, ∃ x17 : Int, ∃ x18 : Bool, ∃ v4 : Value, ∃ x19 : (List Int), ∃ x20 : Int, ∃ x21 : Int, ∃ x22 : Bool, (x15, x16, x17, x18, x19, x20, x21, x22) = r3 ∧ l = [(6, (ptr b3 0)), (7, (ptr b4 0)), (8, (.bool x22))] ∧ Ctx [] w0 w [Item.own v4 (x19 : (List Int)), Item.box b4 [(.int .i64 x15), (.int .i64 x16), (.int .i64 x17), (.bool x18)], Item.box b3 [v4, (.int .i64 x20), (.int .i64 x21)]]) ?_ ?_
  ·refine W_drawn 5 rfl hmix (fun w22 hB17 => ?_)
   have hC71 := hC69.grow hB17
   refine WA.sub (l' := [(2, (.int .i64 a3)), (4, (ptr b2 0)), (6, (ptr b3 0)), (7, (ptr b4 0)), (9, (ptr b5 0)), (46, (.bool x2)), (49, (ptr b2 2)), (50, (.int .i64 a2.2.2.1)), (51, (.int .i64 (w64 (a2.2.2.1 + 1)))), (52, (ptr b2 2)), (53, (.int .i64 a3)), (54, (.bool (decide (a3 = 1))))]) ?_ ⟨rfl, rfl, rfl, rfl, rfl, rfl, rfl, rfl, rfl, rfl, rfl, rfl, trivial⟩
   refine WA_postsO [⟨0, [], fun vs => PW.val (.agg #[v2, (.int .i64 x1.2.1), (.int .i64 x1.2.2)]), []⟩, ⟨1, [], fun vs => PW.val (.agg #[(.int .i64 a2.1), (.int .i64 a2.2.1), (.int .i64 (w64 (a2.2.2.1 + 1))), (.bool a2.2.2.2)]), []⟩] [[], []] [1] 3 rfl (by kernel_rfl) (by kernel_rfl) ?_ ⟨?_, ?_, trivial⟩
   ·refine StepsE_cons rfl ?_ ?_
    ·intro w23 hB18
     refine DepsE_nil ?_
     refine ⟨_, rfl, ?_⟩
     refine WL_load_box_agg [v2, (.int .i64 x1.2.1), (.int .i64 x1.2.2)] (hC71.grow hB18) 0 rfl rfl rfl Try.isAgg26 Try.sizeOf26 rfl rfl ?_
     refine WL_nil ?_
     exact FinE_val (Below.refl _ _) rfl rfl ⟨rfl, rfl⟩
    refine StepsE_cons rfl ?_ ?_
    ·intro w23 hB18
     refine DepsE_nil ?_
     refine ⟨_, rfl, ?_⟩
     refine WL_load_box_agg [(.int .i64 a2.1), (.int .i64 a2.2.1), (.int .i64 (w64 (a2.2.2.1 + 1))), (.bool a2.2.2.2)] (hC71.grow hB18) 4 rfl rfl rfl Try.isAgg35 Try.sizeOf35 rfl rfl ?_
     refine WL_nil ?_
     exact FinE_val (Below.refl _ _) rfl rfl ⟨rfl, rfl⟩
    exact StepsE_nil
   ·intro g' hg'
    obtain rfl : g' = 3 := hg'
    intro w24 hB19
    refine AllE_cons rfl rfl rfl ?_
    rintro _ _ ⟨rfl, rfl⟩
    refine AllE_cons rfl rfl rfl ?_
    rintro _ _ ⟨rfl, rfl⟩
    refine AllE_nil ?_
    intro hn3 hb3
    have hC72 := hC71.grow hB19
    refine WA_one 2 (by kernel_rfl) rfl ?_
    refine WL_store_box_agg (cs' := [v2, (.int .i64 x1.2.1), (.int .i64 x1.2.2)]) (new := [v2, (.int .i64 x1.2.1), (.int .i64 x1.2.2)]) hC72 3 rfl rfl (by intro v hv; simp only [List.mem_cons, List.not_mem_nil, or_false] at hv; rcases hv with rfl | rfl | rfl; exact (ro_one (hC72.ro 1 rfl)); exact rfl; exact rfl) rfl Try.sizeOf26 rfl rfl (fun w25 hC73 => ?_)
    try dsimp only [List.set] at hC73
    refine WL_nil ?_
    refine WA_one 3 (by kernel_rfl) rfl ?_
    refine WL_store_box_agg (cs' := [(.int .i64 a2.1), (.int .i64 a2.2.1), (.int .i64 (w64 (a2.2.2.1 + 1))), (.bool a2.2.2.2)]) (new := [(.int .i64 a2.1), (.int .i64 a2.2.1), (.int .i64 (w64 (a2.2.2.1 + 1))), (.bool a2.2.2.2)]) hC73 2 rfl rfl (by intro v hv; simp only [List.mem_cons, List.not_mem_nil, or_false] at hv; rcases hv with rfl | rfl | rfl | rfl; exact rfl; exact rfl; exact rfl; exact rfl) rfl Try.sizeOf35 rfl rfl (fun w26 hC74 => ?_)
    try dsimp only [List.set] at hC74
    refine WL_nil ?_
    refine WA_tk 4 (by kernel_rfl) rfl rfl (fl_assign rfl) ?_
    refine WL_assign rfl rfl ?_
    refine WL_nil ?_
    refine WA_done (by kernel_rfl) ?_
    have hq10 := Option.some.inj hr8
    subst hq10
    have hC75 := hC74.f3
    have hC76 := hC75.f3
    have hC77 := hC76.f3
    have hC78 := hC77.h3
    refine nrm_sub (l' := [(6, (ptr b3 0)), (7, (ptr b4 0)), (8, (.bool true))]) ⟨rfl, rfl, rfl, trivial⟩ ?_
    exact ⟨a2.1, a2.2.1, w64 (a2.2.2.1 + 1), a2.2.2.2, v2, x1.1, x1.2.1, x1.2.2, true, rfl, rfl, hC78⟩
   intro g' hg'
   obtain rfl : g' = 4 := hg'
   intro w24 hB19
   refine AllE_cons rfl rfl rfl ?_
   rintro _ _ ⟨rfl, rfl⟩
   refine AllE_nil ?_
   intro hn3 hb3
   have hC72 := hC71.grow hB19
   refine WA_all2 (i := 1) (j := 2) (by kernel_rfl) rfl rfl ?_ ?_
   ·refine WL_load_box_agg [(.int .i64 a2.1), (.int .i64 a2.2.1), (.int .i64 (w64 (a2.2.2.1 + 1))), (.bool a2.2.2.2)] hC72 4 rfl rfl rfl Try.isAgg35 Try.sizeOf35 rfl rfl ?_
    refine WL_nil ?_
    refine WA_one 2 (by kernel_rfl) rfl ?_
    refine WL_store_box_agg (cs' := [v2, (.int .i64 x1.2.1), (.int .i64 x1.2.2)]) (new := [v2, (.int .i64 x1.2.1), (.int .i64 x1.2.2)]) hC72 3 rfl rfl (by intro v hv; simp only [List.mem_cons, List.not_mem_nil, or_false] at hv; rcases hv with rfl | rfl | rfl; exact (ro_one (hC72.ro 1 rfl)); exact rfl; exact rfl) rfl Try.sizeOf26 rfl rfl (fun w25 hC73 => ?_)
    try dsimp only [List.set] at hC73
    refine WL_nil ?_
    refine WA_one 3 (by kernel_rfl) rfl ?_
    refine WL_store_box_agg (cs' := [(.int .i64 a2.1), (.int .i64 a2.2.1), (.int .i64 (w64 (a2.2.2.1 + 1))), (.bool a2.2.2.2)]) (new := [(.int .i64 a2.1), (.int .i64 a2.2.1), (.int .i64 (w64 (a2.2.2.1 + 1))), (.bool a2.2.2.2)]) hC73 2 rfl rfl (by intro v hv; simp only [List.mem_cons, List.not_mem_nil, or_false] at hv; rcases hv with rfl | rfl | rfl | rfl; exact rfl; exact rfl; exact rfl; exact rfl) rfl Try.sizeOf35 rfl rfl (fun w26 hC74 => ?_)
    try dsimp only [List.set] at hC74
    refine WL_nil ?_
    refine WA_tk 4 (by kernel_rfl) rfl rfl (fl_assign rfl) ?_
    refine WL_assign rfl rfl ?_
    refine WL_nil ?_
    refine WA_done (by kernel_rfl) ?_
    have hq10 := Option.some.inj hr8
    subst hq10
    have hC75 := hC74.f3
    have hC76 := hC75.f3
    have hC77 := hC76.f3
    have hC78 := hC77.h3
    refine nrm_sub (l' := [(6, (ptr b3 0)), (7, (ptr b4 0)), (8, (.bool true))]) ⟨rfl, rfl, rfl, trivial⟩ ?_
    exact ⟨a2.1, a2.2.1, w64 (a2.2.2.1 + 1), a2.2.2.2, v2, x1.1, x1.2.1, x1.2.2, true, rfl, rfl, hC78⟩
   refine WL_store_box_agg (cs' := [v2, (.int .i64 x1.2.1), (.int .i64 x1.2.2)]) (new := [v2, (.int .i64 x1.2.1), (.int .i64 x1.2.2)]) hC72 3 rfl rfl (by intro v hv; simp only [List.mem_cons, List.not_mem_nil, or_false] at hv; rcases hv with rfl | rfl | rfl; exact (ro_one (hC72.ro 1 rfl)); exact rfl; exact rfl) rfl Try.sizeOf26 rfl rfl (fun w25 hC73 => ?_)
   try dsimp only [List.set] at hC73
   refine WL_nil ?_
   refine WA_one 1 (by kernel_rfl) rfl ?_
   refine WL_load_box_agg [(.int .i64 a2.1), (.int .i64 a2.2.1), (.int .i64 (w64 (a2.2.2.1 + 1))), (.bool a2.2.2.2)] hC73 4 rfl rfl rfl Try.isAgg35 Try.sizeOf35 rfl rfl ?_
   refine WL_nil ?_
   refine WA_one 3 (by kernel_rfl) rfl ?_
   refine WL_store_box_agg (cs' := [(.int .i64 a2.1), (.int .i64 a2.2.1), (.int .i64 (w64 (a2.2.2.1 + 1))), (.bool a2.2.2.2)]) (new := [(.int .i64 a2.1), (.int .i64 a2.2.1), (.int .i64 (w64 (a2.2.2.1 + 1))), (.bool a2.2.2.2)]) hC73 2 rfl rfl (by intro v hv; simp only [List.mem_cons, List.not_mem_nil, or_false] at hv; rcases hv with rfl | rfl | rfl | rfl; exact rfl; exact rfl; exact rfl; exact rfl) rfl Try.sizeOf35 rfl rfl (fun w26 hC74 => ?_)
   try dsimp only [List.set] at hC74
   refine WL_nil ?_
   refine WA_tk 4 (by kernel_rfl) rfl rfl (fl_assign rfl) ?_
   refine WL_assign rfl rfl ?_
   refine WL_nil ?_
   refine WA_done (by kernel_rfl) ?_
   have hq10 := Option.some.inj hr8
   subst hq10
   have hC75 := hC74.f3
   have hC76 := hC75.f3
   have hC77 := hC76.f3
   have hC78 := hC77.h3
   refine nrm_sub (l' := [(6, (ptr b3 0)), (7, (ptr b4 0)), (8, (.bool true))]) ⟨rfl, rfl, rfl, trivial⟩ ?_
   exact ⟨a2.1, a2.2.1, w64 (a2.2.2.1 + 1), a2.2.2.2, v2, x1.1, x1.2.1, x1.2.2, true, rfl, rfl, hC78⟩
  rintro _ w21 ⟨x15, x16, x17, x18, v4, x19, x20, x21, x22, rfl, rfl, hC70⟩
  try dsimp only at hF
  refine W_ret ?_
  refine nrm_ret ?_
  have hq11 := Option.some.inj hF
  subst hq11
  refine fn_retG3 rfl (rv_cell_agg (cs' := [v4, (.int .i64 x20), (.int .i64 x21)]) hC70 (i := 2) rfl rfl rfl Try.isAgg26 Try.sizeOf26 rfl) (rv_cell_agg (cs' := [(.int .i64 x15), (.int .i64 x16), (.int .i64 x17), (.bool x18)]) hC70 (i := 1) rfl rfl rfl Try.isAgg35 Try.sizeOf35 rfl) (rv_tmp rfl) ?_
  have hC79 := hC70.triv (bool_val (x22))
  have hC80 := own_st35 x15 x16 x17 x18 hC79
  have hC82 := hC80.f2
  have hC81 := own_st26 v4 x19 x20 x21 hC82
  exact ⟨_, rfl, res3_of hC81⟩
 replace hF := ite_f hF hc8
 refine W_skip ?_
 refine nrm_normal ?_
 refine W_seq_reg ?_
 refine WL_field Try.underlying35 rfl rfl (fun w => ⟨_, Try.sizeOf3 w⟩) rfl rfl ?_
 refine WL_load_box hC69 4 rfl rfl Try.isAgg3 rfl rfl ?_
 refine WL_field Try.underlying35 rfl rfl (fun w => ⟨_, Try.sizeOf3 w⟩) rfl rfl ?_
 refine WL_load_box hC69 4 rfl rfl Try.isAgg3 rfl rfl ?_
 obtain ⟨x23, hr9, hF⟩ := bind_some hF
 have hC83 := hC69.f1
 obtain ⟨Fs1, hH1, hn4, hF1, hO1, hb4⟩ := Ctx.lend2 (As := [Item.box b4 [(.int .i64 0), (.int .i64 0), (.int .i64 0), (.bool false)], Item.box b3 [(.slice none 0 0), (.int .i64 0), (.int .i64 0)], Item.box b2 [(.int .i64 a2.1), (.int .i64 a2.2.1), (.int .i64 (w64 (a2.2.2.1 + 1))), (.bool a2.2.2.2)]]) [Item.own v2 (x1.1 : (List Int)), Item.box b5 [v2, (.int .i64 x1.2.1), (.int .i64 x1.2.2)]] hC83
 refine WL_call Try.call96 rfl rfl (c_M_Ledger_receive b5 (x1.1, x1.2.1, x1.2.2) v2 a2.1 a2.2.1 hH1 hn4 x23 hr9) ?_
 rintro _ w27 ⟨v5, rfl, hq12⟩
 have hC84 : Ctx [] w0 w27 [Item.own v5 (x23.1 : (List Int)), Item.box b5 [v5, (.int .i64 x23.2.1), (.int .i64 x23.2.2)], Item.box b4 [(.int .i64 0), (.int .i64 0), (.int .i64 0), (.bool false)], Item.box b3 [(.slice none 0 0), (.int .i64 0), (.int .i64 0)], Item.box b2 [(.int .i64 a2.1), (.int .i64 a2.2.1), (.int .i64 (w64 (a2.2.2.1 + 1))), (.bool a2.2.2.2)]] := hb4 _ _ hq12
 refine WL_nil ?_
 refine W_seq ?_
 refine W_seq_reg ?_
 refine WL_move rfl rfl ?_
 refine WL_eql rfl rfl rfl ?_
 refine WL_nil ?_
 obtain ⟨r4, hr10, hF⟩ := bind_some hF
 refine W_norm (fun l w => ∃ v6 : Value, ∃ x24 : (List Int), ∃ x25 : Int, ∃ x26 : Int, (x24, x25, x26) = r4 ∧ l = [(2, (.int .i64 a3)), (4, (ptr b2 0)), (6, (ptr b3 0)), (7, (ptr b4 0)), (9, (ptr b5 0))] ∧ Ctx [] w0 w [Item.own v6 (x24 : (List Int)), Item.box b5 [v6, (.int .i64 x25), (.int .i64 x26)], Item.box b4 [(.int .i64 0), (.int .i64 0), (.int .i64 0), (.bool false)], Item.box b3 [(.slice none 0 0), (.int .i64 0), (.int .i64 0)], Item.box b2 [(.int .i64 a2.1), (.int .i64 a2.2.1), (.int .i64 (w64 (a2.2.2.1 + 1))), (.bool a2.2.2.2)]]) ?_ ?_
 ·refine W_cond rfl (fun hc9 => ?_) (fun hc9 => ?_)
  ·replace hr10 := ite_t hr10 hc9
   refine W_reg ?_
   refine WL_field Try.underlying35 rfl rfl (fun w => ⟨_, Try.sizeOf3 w⟩) rfl rfl ?_
   refine WL_load_box hC84 4 rfl rfl Try.isAgg3 rfl rfl ?_
   refine WL_field Try.underlying35 rfl rfl (fun w => ⟨_, Try.sizeOf3 w⟩) rfl rfl ?_
   refine WL_load_box hC84 4 rfl rfl Try.isAgg3 rfl rfl ?_
   obtain ⟨x27, hr11, hr10⟩ := bind_some hr10
   have hC86 := hC84.f1
   have hC87 := hC86.f1
   obtain ⟨Fs2, hH2, hn5, hF2, hO2, hb5⟩ := Ctx.lend2 (As := [Item.box b4 [(.int .i64 0), (.int .i64 0), (.int .i64 0), (.bool false)], Item.box b3 [(.slice none 0 0), (.int .i64 0), (.int .i64 0)], Item.box b2 [(.int .i64 a2.1), (.int .i64 a2.2.1), (.int .i64 (w64 (a2.2.2.1 + 1))), (.bool a2.2.2.2)]]) [Item.own v5 (x23.1 : (List Int)), Item.box b5 [v5, (.int .i64 x23.2.1), (.int .i64 x23.2.2)]] hC87
   refine WL_call Try.call96 rfl rfl (c_M_Ledger_receive b5 (x23.1, x23.2.1, x23.2.2) v5 a2.1 a2.2.1 hH2 hn5 x27 hr11) ?_
   rintro _ w29 ⟨v7, rfl, hq13⟩
   have hC88 : Ctx [] w0 w29 [Item.own v7 (x27.1 : (List Int)), Item.box b5 [v7, (.int .i64 x27.2.1), (.int .i64 x27.2.2)], Item.box b4 [(.int .i64 0), (.int .i64 0), (.int .i64 0), (.bool false)], Item.box b3 [(.slice none 0 0), (.int .i64 0), (.int .i64 0)], Item.box b2 [(.int .i64 a2.1), (.int .i64 a2.2.1), (.int .i64 (w64 (a2.2.2.1 + 1))), (.bool a2.2.2.2)]] := hb5 _ _ hq13
   refine WL_nil ?_
   have hq14 := Option.some.inj hr10
   subst hq14
   refine nrm_sub (l' := [(2, (.int .i64 a3)), (4, (ptr b2 0)), (6, (ptr b3 0)), (7, (ptr b4 0)), (9, (ptr b5 0))]) ⟨rfl, rfl, rfl, rfl, rfl, trivial⟩ ?_
   exact ⟨v7, x27.1, x27.2.1, x27.2.2, rfl, rfl, hC88⟩
  replace hr10 := ite_f hr10 hc9
  refine W_skip ?_
  have hq15 := Option.some.inj hr10
  subst hq15
  refine nrm_sub (l' := [(2, (.int .i64 a3)), (4, (ptr b2 0)), (6, (ptr b3 0)), (7, (ptr b4 0)), (9, (ptr b5 0))]) ⟨rfl, rfl, rfl, rfl, rfl, trivial⟩ ?_
  exact ⟨v5, x23.1, x23.2.1, x23.2.2, rfl, rfl, hC84⟩
 rintro l4 _ w28 hs4 ⟨v6, x24, x25, x26, rfl, rfl, hC85⟩
 try dsimp only at hF
 refine nrm_sub' hs4 ?_
 clear hs4
 refine W_seq_reg ?_
 refine WL_move rfl rfl ?_
 refine WL_neq rfl rfl rfl ?_
 refine WL_field Try.underlying35 rfl rfl (fun w => ⟨_, Try.sizeOf4 w⟩) rfl rfl ?_
 refine WL_store_box (cs' := [(.int .i64 a2.1), (.int .i64 a2.2.1), (.int .i64 (w64 (a2.2.2.1 + 1))), (.bool (!decide (a3 = 2)))]) hC85 4 rfl rfl rfl rfl Try.sizeOf4 rfl rfl (fun w30 hC89 => ?_)
 try dsimp only [List.set] at hC89
 refine WL_nil ?_
 obtain ⟨r5, hr12, hF⟩ := bind_some hF
 refine W_cut (fun l w => ∃ x28 : Int, ∃ x29 : Int, ∃ x30 : Int, ∃ x31 : Bool, ∃ v8 : Value, ∃ x32 : (List Int), ∃ x33 : Int, ∃ x34 : Int, ∃ x35 : Bool, (x28, x29, x30, x31, x32, x33, x34, x35) = r5 ∧ l = [(6, (ptr b3 0)), (7, (ptr b4 0)), (8, (.bool x35))] ∧ Ctx [] w0 w [Item.own v8 (x32 : (List Int)), Item.box b4 [(.int .i64 x28), (.int .i64 x29), (.int .i64 x30), (.bool x31)], Item.box b3 [v8, (.int .i64 x33), (.int .i64 x34)]]) ?_ ?_
 ·refine W_drawn 5 rfl hmix (fun w32 hB22 => ?_)
  have hC91 := hC89.grow hB22
  refine WA.sub (l' := [(2, (.int .i64 a3)), (4, (ptr b2 0)), (6, (ptr b3 0)), (7, (ptr b4 0)), (9, (ptr b5 0)), (69, (.int .i64 a3)), (70, (.bool (!decide (a3 = 2)))), (71, (ptr b2 3))]) ?_ ⟨rfl, rfl, rfl, rfl, rfl, rfl, rfl, rfl, trivial⟩
  refine WA_postsO [⟨0, [], fun vs => PW.val (.agg #[v6, (.int .i64 x25), (.int .i64 x26)]), []⟩, ⟨1, [], fun vs => PW.val (.agg #[(.int .i64 a2.1), (.int .i64 a2.2.1), (.int .i64 (w64 (a2.2.2.1 + 1))), (.bool (!decide (a3 = 2)))]), []⟩] [[], []] [1] 3 rfl (by kernel_rfl) (by kernel_rfl) ?_ ⟨?_, ?_, trivial⟩
  ·refine StepsE_cons rfl ?_ ?_
   ·intro w33 hB23
    refine DepsE_nil ?_
    refine ⟨_, rfl, ?_⟩
    refine WL_load_box_agg [v6, (.int .i64 x25), (.int .i64 x26)] (hC91.grow hB23) 1 rfl rfl rfl Try.isAgg26 Try.sizeOf26 rfl rfl ?_
    refine WL_nil ?_
    exact FinE_val (Below.refl _ _) rfl rfl ⟨rfl, rfl⟩
   refine StepsE_cons rfl ?_ ?_
   ·intro w33 hB23
    refine DepsE_nil ?_
    refine ⟨_, rfl, ?_⟩
    refine WL_load_box_agg [(.int .i64 a2.1), (.int .i64 a2.2.1), (.int .i64 (w64 (a2.2.2.1 + 1))), (.bool (!decide (a3 = 2)))] (hC91.grow hB23) 4 rfl rfl rfl Try.isAgg35 Try.sizeOf35 rfl rfl ?_
    refine WL_nil ?_
    exact FinE_val (Below.refl _ _) rfl rfl ⟨rfl, rfl⟩
   exact StepsE_nil
  ·intro g' hg'
   obtain rfl : g' = 3 := hg'
   intro w34 hB24
   refine AllE_cons rfl rfl rfl ?_
   rintro _ _ ⟨rfl, rfl⟩
   refine AllE_cons rfl rfl rfl ?_
   rintro _ _ ⟨rfl, rfl⟩
   refine AllE_nil ?_
   intro hn6 hb6
   have hC92 := hC91.grow hB24
   refine WA_one 2 (by kernel_rfl) rfl ?_
   refine WL_store_box_agg (cs' := [v6, (.int .i64 x25), (.int .i64 x26)]) (new := [v6, (.int .i64 x25), (.int .i64 x26)]) hC92 3 rfl rfl (by intro v hv; simp only [List.mem_cons, List.not_mem_nil, or_false] at hv; rcases hv with rfl | rfl | rfl; exact (ro_one (hC92.ro 0 rfl)); exact rfl; exact rfl) rfl Try.sizeOf26 rfl rfl (fun w35 hC93 => ?_)
   try dsimp only [List.set] at hC93
   refine WL_nil ?_
   refine WA_one 3 (by kernel_rfl) rfl ?_
   refine WL_store_box_agg (cs' := [(.int .i64 a2.1), (.int .i64 a2.2.1), (.int .i64 (w64 (a2.2.2.1 + 1))), (.bool (!decide (a3 = 2)))]) (new := [(.int .i64 a2.1), (.int .i64 a2.2.1), (.int .i64 (w64 (a2.2.2.1 + 1))), (.bool (!decide (a3 = 2)))]) hC93 2 rfl rfl (by intro v hv; simp only [List.mem_cons, List.not_mem_nil, or_false] at hv; rcases hv with rfl | rfl | rfl | rfl; exact rfl; exact rfl; exact rfl; exact rfl) rfl Try.sizeOf35 rfl rfl (fun w36 hC94 => ?_)
   try dsimp only [List.set] at hC94
   refine WL_nil ?_
   refine WA_tk 4 (by kernel_rfl) rfl rfl (fl_assign rfl) ?_
   refine WL_assign rfl rfl ?_
   refine WL_nil ?_
   refine WA_done (by kernel_rfl) ?_
   have hq16 := Option.some.inj hr12
   subst hq16
   have hC95 := hC94.f3
   have hC96 := hC95.f3
   have hC97 := hC96.f2
   have hC98 := hC97.h3
   refine nrm_sub (l' := [(6, (ptr b3 0)), (7, (ptr b4 0)), (8, (.bool true))]) ⟨rfl, rfl, rfl, trivial⟩ ?_
   exact ⟨a2.1, a2.2.1, w64 (a2.2.2.1 + 1), (!decide (a3 = 2)), v6, x24, x25, x26, true, rfl, rfl, hC98⟩
  intro g' hg'
  obtain rfl : g' = 4 := hg'
  intro w34 hB24
  refine AllE_cons rfl rfl rfl ?_
  rintro _ _ ⟨rfl, rfl⟩
  refine AllE_nil ?_
  intro hn6 hb6
  have hC92 := hC91.grow hB24
  refine WA_all2 (i := 1) (j := 2) (by kernel_rfl) rfl rfl ?_ ?_
  ·refine WL_load_box_agg [(.int .i64 a2.1), (.int .i64 a2.2.1), (.int .i64 (w64 (a2.2.2.1 + 1))), (.bool (!decide (a3 = 2)))] hC92 4 rfl rfl rfl Try.isAgg35 Try.sizeOf35 rfl rfl ?_
   refine WL_nil ?_
   refine WA_one 2 (by kernel_rfl) rfl ?_
   refine WL_store_box_agg (cs' := [v6, (.int .i64 x25), (.int .i64 x26)]) (new := [v6, (.int .i64 x25), (.int .i64 x26)]) hC92 3 rfl rfl (by intro v hv; simp only [List.mem_cons, List.not_mem_nil, or_false] at hv; rcases hv with rfl | rfl | rfl; exact (ro_one (hC92.ro 0 rfl)); exact rfl; exact rfl) rfl Try.sizeOf26 rfl rfl (fun w35 hC93 => ?_)
   try dsimp only [List.set] at hC93
   refine WL_nil ?_
   refine WA_one 3 (by kernel_rfl) rfl ?_
   refine WL_store_box_agg (cs' := [(.int .i64 a2.1), (.int .i64 a2.2.1), (.int .i64 (w64 (a2.2.2.1 + 1))), (.bool (!decide (a3 = 2)))]) (new := [(.int .i64 a2.1), (.int .i64 a2.2.1), (.int .i64 (w64 (a2.2.2.1 + 1))), (.bool (!decide (a3 = 2)))]) hC93 2 rfl rfl (by intro v hv; simp only [List.mem_cons, List.not_mem_nil, or_false] at hv; rcases hv with rfl | rfl | rfl | rfl; exact rfl; exact rfl; exact rfl; exact rfl) rfl Try.sizeOf35 rfl rfl (fun w36 hC94 => ?_)
   try dsimp only [List.set] at hC94
   refine WL_nil ?_
   refine WA_tk 4 (by kernel_rfl) rfl rfl (fl_assign rfl) ?_
   refine WL_assign rfl rfl ?_
   refine WL_nil ?_
   refine WA_done (by kernel_rfl) ?_
   have hq16 := Option.some.inj hr12
   subst hq16
   have hC95 := hC94.f3
   have hC96 := hC95.f3
   have hC97 := hC96.f2
   have hC98 := hC97.h3
   refine nrm_sub (l' := [(6, (ptr b3 0)), (7, (ptr b4 0)), (8, (.bool true))]) ⟨rfl, rfl, rfl, trivial⟩ ?_
   exact ⟨a2.1, a2.2.1, w64 (a2.2.2.1 + 1), (!decide (a3 = 2)), v6, x24, x25, x26, true, rfl, rfl, hC98⟩
  refine WL_store_box_agg (cs' := [v6, (.int .i64 x25), (.int .i64 x26)]) (new := [v6, (.int .i64 x25), (.int .i64 x26)]) hC92 3 rfl rfl (by intro v hv; simp only [List.mem_cons, List.not_mem_nil, or_false] at hv; rcases hv with rfl | rfl | rfl; exact (ro_one (hC92.ro 0 rfl)); exact rfl; exact rfl) rfl Try.sizeOf26 rfl rfl (fun w35 hC93 => ?_)
  try dsimp only [List.set] at hC93
  refine WL_nil ?_
  refine WA_one 1 (by kernel_rfl) rfl ?_
  refine WL_load_box_agg [(.int .i64 a2.1), (.int .i64 a2.2.1), (.int .i64 (w64 (a2.2.2.1 + 1))), (.bool (!decide (a3 = 2)))] hC93 4 rfl rfl rfl Try.isAgg35 Try.sizeOf35 rfl rfl ?_
  refine WL_nil ?_
  refine WA_one 3 (by kernel_rfl) rfl ?_
  refine WL_store_box_agg (cs' := [(.int .i64 a2.1), (.int .i64 a2.2.1), (.int .i64 (w64 (a2.2.2.1 + 1))), (.bool (!decide (a3 = 2)))]) (new := [(.int .i64 a2.1), (.int .i64 a2.2.1), (.int .i64 (w64 (a2.2.2.1 + 1))), (.bool (!decide (a3 = 2)))]) hC93 2 rfl rfl (by intro v hv; simp only [List.mem_cons, List.not_mem_nil, or_false] at hv; rcases hv with rfl | rfl | rfl | rfl; exact rfl; exact rfl; exact rfl; exact rfl) rfl Try.sizeOf35 rfl rfl (fun w36 hC94 => ?_)
  try dsimp only [List.set] at hC94
  refine WL_nil ?_
  refine WA_tk 4 (by kernel_rfl) rfl rfl (fl_assign rfl) ?_
  refine WL_assign rfl rfl ?_
  refine WL_nil ?_
  refine WA_done (by kernel_rfl) ?_
  have hq16 := Option.some.inj hr12
  subst hq16
  have hC95 := hC94.f3
  have hC96 := hC95.f3
  have hC97 := hC96.f2
  have hC98 := hC97.h3
  refine nrm_sub (l' := [(6, (ptr b3 0)), (7, (ptr b4 0)), (8, (.bool true))]) ⟨rfl, rfl, rfl, trivial⟩ ?_
  exact ⟨a2.1, a2.2.1, w64 (a2.2.2.1 + 1), (!decide (a3 = 2)), v6, x24, x25, x26, true, rfl, rfl, hC98⟩
 rintro _ w31 ⟨x28, x29, x30, x31, v8, x32, x33, x34, x35, rfl, rfl, hC90⟩
 try dsimp only at hF
 refine W_ret ?_
 have hq17 := Option.some.inj hF
 subst hq17
 refine fn_retG3 rfl (rv_cell_agg (cs' := [v8, (.int .i64 x33), (.int .i64 x34)]) hC90 (i := 2) rfl rfl rfl Try.isAgg26 Try.sizeOf26 rfl) (rv_cell_agg (cs' := [(.int .i64 x28), (.int .i64 x29), (.int .i64 x30), (.bool x31)]) hC90 (i := 1) rfl rfl rfl Try.isAgg35 Try.sizeOf35 rfl) (rv_tmp rfl) ?_
 have hC99 := hC90.triv (bool_val (x35))
 have hC100 := own_st35 x28 x29 x30 x31 hC99
 have hC102 := hC100.f2
 have hC101 := own_st26 v8 x32 x33 x34 hC102
 exact ⟨_, rfl, res3_of hC101⟩

theorem c_Slices_Grow_Lint_int {w0 : World} (a2 : Int) (rr : (List Int)) (hF : Slices.Grow_Lint_int a2 = some rr) :
 Calls Try.prog 139 [(.slice none 0 0), (.int .i64 a2)].toArray w0 fun e w' => ∃ v, e = .returned v ∧ Res w0 rr v w' := by
 refine calls_of_W Try.func139 rfl rfl ?_
 unfold Slices.Grow_Lint_int at hF
 obtain ⟨m, rfl, hlim, rfl⟩ := grow0_some hF
 have hlim' : m ≤ 4294967296 := by rw [LIM_eq] at hlim; exact hlim
 refine W_seq_reg ?_
 refine WL_assign rfl rfl ?_
 refine WL_nil ?_
 refine W_seq ?_
 refine W_seq_reg ?_
 refine WL_move rfl rfl ?_
 refine WL_lss rfl rfl rfl ?_
 rw [decide_eq_false (show ¬ (m : Int) < 0 by omega)]
 refine WL_nil ?_
 refine W_cond_f rfl ?_
 refine W_skip ?_
 refine nrm_normal ?_
 refine W_seq ?_
 refine W_seq_reg ?_
 refine WL_move rfl rfl ?_
 refine WL_move rfl rfl ?_
 refine WL_cap Try.underlying22 rfl rfl ?_
 refine WL_move rfl rfl ?_
 refine WL_len_nil Try.underlying22 rfl rfl ?_
 refine WL_sub rfl rfl rfl ?_
 rw [show w64 (((0 : Nat) : Int) - 0) = 0 from w64_id (by decide) (by decide)]
 refine WL_sub rfl rfl rfl ?_
 rw [show w64 ((m : Int) - 0) = (m : Int) by rw [w64_id (by omega) (by omega)]; omega]
 refine WL_assign rfl rfl ?_
 refine WL_nil ?_
 refine W_seq_reg ?_
 refine WL_move rfl rfl ?_
 refine WL_gtr rfl rfl rfl ?_
 by_cases hm : 0 < m
 ·rw [decide_eq_true (show (0 : Int) < (m : Int) by omega)]
  refine WL_nil ?_
  refine W_cond_t rfl ?_
  refine W_reg ?_
  refine WL_move rfl rfl ?_
  refine WL_move rfl rfl ?_
  refine WL_cap Try.underlying22 rfl rfl ?_
  refine WL_sl_nil0 Try.underlying22 ty3 rfl rfl rfl ?_
  refine WL_move rfl rfl ?_
  refine WL_zeros_nil Try.underlying22 ty3 rfl Try.underlying3 hm hlim rfl rfl rfl (fun c' row' k2 k3 k4 => ?_)
  refine WL_move rfl rfl ?_
  refine WL_len_nil Try.underlying22 rfl rfl ?_
  refine WL_sl_h Try.underlying22 ty3 (hi := 0) (Nat.zero_le _) (by omega) rfl rfl rfl ?_
  refine WL_assign rfl rfl ?_
  refine WL_nil ?_
  refine nrm_normal ?_
  refine W_seq_reg ?_
  refine WL_move rfl rfl ?_
  refine WL_assign rfl rfl ?_
  refine WL_nil ?_
  refine W_ret ?_
  refine fn_ret1 rfl rfl ?_
  exact ⟨_, rfl, below_new w0 _, _, own_empty (heap_alloc_new w0.drew _) k2 k4, by simp, by simp⟩
 rw [decide_eq_false (show ¬ (0 : Int) < (m : Int) by omega)]
 refine WL_nil ?_
 refine W_cond_f rfl ?_
 refine W_skip ?_
 refine nrm_normal ?_
 refine W_seq_reg ?_
 refine WL_move rfl rfl ?_
 refine WL_assign rfl rfl ?_
 refine WL_nil ?_
 refine W_ret ?_
 refine fn_ret1 rfl rfl ?_
 exact ⟨_, rfl, Below.refl _ _, [], nil_val, by simp, by simp⟩

theorem c_Slices_Concat_Lint_int {w0 : World} (a1 : (List (List Int))) (u1 : Value) (g1 : RO [] w0 u1 a1) (rr : (List Int)) (hF : Slices.Concat_Lint_int a1 = some rr) :
 Calls Try.prog 105 [u1].toArray w0 fun e w' => ∃ v, e = .returned v ∧ Res w0 rr v w' := by
 refine calls_of_W Try.func105 rfl rfl ?_
 have hC0 := Ctx.start w0
 unfold Slices.Concat_Lint_int at hF
 refine W_seq_reg ?_
 refine WL_assign rfl rfl ?_
 refine WL_nil ?_
 refine W_seq_reg ?_
 refine WL_assign rfl rfl ?_
 refine WL_nil ?_
 refine W_seq ?_
 refine W_seq_reg ?_
 refine WL_move rfl rfl ?_
 refine WL_len Try.underlying178 g1 rfl rfl ?_
 refine WL_move rfl rfl ?_
 refine WL_nil ?_
 obtain ⟨r1, hr1, hF⟩ := bind_some hF
 refine W_norm (fun l w => ∃ x3 : Int, x3 = r1 ∧ l = [(0, u1), (3, (.int .i64 x3))] ∧ Below w0.heap.size w0 w ∧ Ctx [] w0 w []) ?_ ?_
 ·refine W_block ?_
  refine W.sub (l' := [(0, u1), (3, (.int .i64 0)), (9, u1), (10, (.int .i64 (List.length a1 : Int))), (11, (.int .i64 0))]) ?_ ⟨rfl, rfl, rfl, rfl, rfl, trivial⟩
  refine W_loop (fun k l w => ∃ x1 : Int, ∃ x2 : Int, l = [(0, u1), (3, (.int .i64 x1)), (9, u1), (10, (.int .i64 (List.length a1 : Int))), (11, (.int .i64 x2))] ∧ Below w0.heap.size w0 w ∧ Ctx [] w0 w [] ∧ Slices.Concat_Lint_int_l1 a1 k x1 x2 = some r1) FUEL ⟨0, 0, rfl, (Below.refl _ _), hC0, hr1⟩ ?_
  clear hr1
  rintro k1 _ w1 ⟨x1, x2, rfl, hB1, hC1, hL1⟩
  cases k1 with
  | zero => rw [Slices.Concat_Lint_int_l1] at hL1; cases hL1
  | succ k1 =>
   rw [Slices.Concat_Lint_int_l1] at hL1
   refine W_seq_reg ?_
   refine WL_lss rfl rfl rfl ?_
   refine WL_nil ?_
   refine W_seq ?_
   refine W_cond rfl (fun hc1 => ?_) (fun hc1 => ?_)
   ·replace hL1 := ite_t hL1 hc1
    refine W_skip ?_
    refine nrm_normal ?_
    refine W_seq ?_
    refine W_block ?_
    refine W_seq_reg ?_
    obtain ⟨x4, hx1, hL1⟩ := bind_some hL1
    refine WL_index Try.underlying178 ty22 g1 hx1 rfl rfl rfl (fun b1 o1 h1 => ?_)
    refine WL_load ty22 h1 hC1.keep rfl rfl (fun v1 h2 => ?_)
    refine WL_assign rfl rfl ?_
    refine WL_nil ?_
    refine W_seq_reg ?_
    refine WL_move rfl rfl ?_
    refine WL_move rfl rfl ?_
    refine WL_len Try.underlying22 h2 rfl rfl ?_
    refine WL_add rfl rfl rfl ?_
    refine WL_assign rfl rfl ?_
    refine WL_nil ?_
    refine W_seq_reg ?_
    refine WL_move rfl rfl ?_
    refine WL_lss rfl rfl rfl ?_
    refine WL_nil ?_
    obtain ⟨r2, hr2, hL1⟩ := bind_some hL1
    refine W_norm (fun l w => () = r2 ∧ l = [(0, u1), (3, (.int .i64 (w64 (x1 + (List.length x4 : Int))))), (9, u1), (10, (.int .i64 (List.length a1 : Int))), (11, (.int .i64 x2))] ∧ Below w1.heap.size w1 w ∧ Ctx [] w0 w []) ?_ ?_
    ·refine W_cond rfl (fun hc2 => ?_) (fun hc2 => ?_)
     ·replace hr2 := ite_t hr2 hc2
      cases hr2
     replace hr2 := ite_f hr2 hc2
     refine W_skip ?_
     have hq1 := Option.some.inj hr2
     subst hq1
     refine nrm_sub (l' := [(0, u1), (3, (.int .i64 (w64 (x1 + (List.length x4 : Int))))), (9, u1), (10, (.int .i64 (List.length a1 : Int))), (11, (.int .i64 x2))]) ⟨rfl, rfl, rfl, rfl, rfl, trivial⟩ ?_
     exact ⟨rfl, rfl, (Below.refl _ _), hC1⟩
    rintro l2 _ w2 hs2 ⟨rfl, rfl, hB2, hC2⟩
    try dsimp only at hL1
    refine blk_normal ?_
    refine nrm_sub' hs2 ?_
    clear hs2
    refine W_reg ?_
    refine WL_add rfl rfl rfl ?_
    refine WL_move rfl rfl ?_
    refine WL_nil ?_
    refine nrm_sub (l' := [(0, u1), (3, (.int .i64 (w64 (x1 + (List.length x4 : Int))))), (9, u1), (10, (.int .i64 (List.length a1 : Int))), (11, (.int .i64 (w64 (x2 + 1))))]) ⟨rfl, rfl, rfl, rfl, rfl, trivial⟩ ?_
    exact ⟨k1, Nat.lt_succ_self _, w64 (x1 + (List.length x4 : Int)), w64 (x2 + 1), rfl, ((Keep.of hB1).then hB2).below, hC2, hL1⟩
   replace hL1 := ite_f hL1 hc1
   refine W_exit ?_
   refine nrm_exit ?_
   refine nrm_exit ?_
   refine blk_exit ?_
   have hq2 := Option.some.inj hL1
   subst hq2
   refine nrm_sub (l' := [(0, u1), (3, (.int .i64 x1))]) ⟨rfl, rfl, trivial⟩ ?_
   exact ⟨x1, rfl, rfl, (Keep.of hB1).below, hC1⟩
 rintro l3 _ w3 hs3 ⟨x3, rfl, rfl, hB3, hC3⟩
 try dsimp only at hF
 refine nrm_sub' hs3 ?_
 clear hs3
 refine W_seq_reg ?_
 refine WL_move rfl rfl ?_
 obtain ⟨x5, hr3, hF⟩ := bind_some hF
 refine WL_call Try.call139 rfl rfl (c_Slices_Grow_Lint_int x3 x5 hr3) ?_
 rintro v2 w4 ⟨hB4, F1, hv1, hn1, hb1⟩
 have hC4 := hC3.push hB4 (A := Item.own v2 x5) hv1 hn1 hb1
 refine WL_assign rfl rfl ?_
 refine WL_nil ?_
 refine W_seq ?_
 refine W_seq_reg ?_
 refine WL_move rfl rfl ?_
 refine WL_len Try.underlying178 g1 rfl rfl ?_
 refine WL_move rfl rfl ?_
 refine WL_nil ?_
 obtain ⟨r3, hr4, hF⟩ := bind_some hF
 refine W_norm (fun l w => ∃ v4 : Value, ∃ x8 : (List Int), x8 = r3 ∧ l = [(6, v4)] ∧ Ctx [] w0 w [Item.own v4 (x8 : (List Int))]) ?_ ?_
 ·refine W_block ?_
  refine W.sub (l' := [(6, v2), (25, u1), (26, (.int .i64 (List.length a1 : Int))), (27, (.int .i64 0))]) ?_ ⟨rfl, rfl, rfl, rfl, trivial⟩
  refine W_loop (fun k l w => ∃ v3 : Value, ∃ x6 : (List Int), ∃ x7 : Int, l = [(6, v3), (25, u1), (26, (.int .i64 (List.length a1 : Int))), (27, (.int .i64 x7))] ∧ Ctx [] w0 w [Item.own v3 (x6 : (List Int))] ∧ Slices.Concat_Lint_int_l2 a1 k x6 x7 = some r3) FUEL ⟨v2, x5, 0, rfl, hC4, hr4⟩ ?_
  clear hr4
  rintro k2 _ w5 ⟨v3, x6, x7, rfl, hC5, hL2⟩
  cases k2 with
  | zero => rw [Slices.Concat_Lint_int_l2] at hL2; cases hL2
  | succ k2 =>
   rw [Slices.Concat_Lint_int_l2] at hL2
   refine W_seq_reg ?_
   refine WL_lss rfl rfl rfl ?_
   refine WL_nil ?_
   refine W_seq ?_
   refine W_cond rfl (fun hc3 => ?_) (fun hc3 => ?_)
   ·replace hL2 := ite_t hL2 hc3
    refine W_skip ?_
    refine nrm_normal ?_
    refine W_seq ?_
    refine W_block ?_
    refine W_seq_reg ?_
    obtain ⟨x9, hx2, hL2⟩ := bind_some hL2
    refine WL_index Try.underlying178 ty22 g1 hx2 rfl rfl rfl (fun b2 o2 h3 => ?_)
    refine WL_load ty22 h3 hC5.keep rfl rfl (fun v5 h4 => ?_)
    refine WL_assign rfl rfl ?_
    refine WL_nil ?_
    refine W_reg ?_
    refine WL_move rfl rfl ?_
    refine WL_move rfl rfl ?_
    obtain ⟨x10, hx3, hL2⟩ := bind_some hL2
    refine WL_append_flat (α := Int) hC5 0 rfl h4 hC5.keep Try.underlying22 ty3 rfl hx3 rfl rfl rfl (fun v6 w6 hC6 => ?_)
    try dsimp only [List.set] at hC6
    refine WL_assign rfl rfl ?_
    refine WL_nil ?_
    refine blk_normal ?_
    refine nrm_normal ?_
    refine W_reg ?_
    refine WL_add rfl rfl rfl ?_
    refine WL_move rfl rfl ?_
    refine WL_nil ?_
    refine nrm_sub (l' := [(6, v6), (25, u1), (26, (.int .i64 (List.length a1 : Int))), (27, (.int .i64 (w64 (x7 + 1))))]) ⟨rfl, rfl, rfl, rfl, trivial⟩ ?_
    exact ⟨k2, Nat.lt_succ_self _, v6, x10, w64 (x7 + 1), rfl, hC6, hL2⟩
   replace hL2 := ite_f hL2 hc3
   refine W_exit ?_
   refine nrm_exit ?_
   refine nrm_exit ?_
   refine blk_exit ?_
   have hq3 := Option.some.inj hL2
   subst hq3
   refine nrm_sub (l' := [(6, v3)]) ⟨rfl, trivial⟩ ?_
   exact ⟨v3, x6, rfl, rfl, hC5⟩
 rintro l5 _ w7 hs5 ⟨v4, x8, rfl, rfl, hC7⟩
 try dsimp only at hF
 refine nrm_sub' hs5 ?_
 clear hs5
 refine W_seq_reg ?_
 refine WL_move rfl rfl ?_
 refine WL_assign rfl rfl ?_
 refine WL_nil ?_
 refine W_ret ?_
 have hq4 := Option.some.inj hF
 subst hq4
 refine fn_ret1 rfl rfl ?_
 exact ⟨_, rfl, own_res hC7 0 rfl⟩

theorem c_M_FinishCall {w0 : World} (a1 : ((List Int) × Int × Int)) (u1 : Value) (g1 : RO [] w0 u1 a1.1) (a2 : (Int × Int × Int × Bool)) (a3 : (List Int)) (u2 : Value) (g2 : RO [] w0 u2 a3) (rr : (((List Int) × Int × Int) × (Int × Int × Int × Bool))) (hF : M.FinishCall a1 a2 a3 = some rr) :
 Calls Try.prog 38 [(.agg #[u1, (.int .i64 a1.2.1), (.int .i64 a1.2.2)]), (.agg #[(.int .i64 a2.1), (.int .i64 a2.2.1), (.int .i64 a2.2.2.1), (.bool a2.2.2.2)]), u2].toArray w0 fun e w' => ∃ v, e = .returned v ∧ Res2 w0 rr.1 rr.2 v w' := by
 refine calls_of_W Try.func38 rfl rfl ?_
 have hC0 := Ctx.start w0
 unfold M.FinishCall at hF
 refine W_seq_reg ?_
 refine WL_box (cs := [u1, (.int .i64 a1.2.1), (.int .i64 a1.2.2)]) hC0 rfl rfl rfl (fun b1 w1 hC1 hB1 => ?_)
 refine WL_box (cs := [(.int .i64 a2.1), (.int .i64 a2.2.1), (.int .i64 a2.2.2.1), (.bool a2.2.2.2)]) hC1 rfl rfl rfl (fun b2 w2 hC2 hB2 => ?_)
 refine WL_alloc hC2 zero26 rfl rfl (fun b3 w3 hC3 hB3 => ?_)
 refine WL_alloc hC3 zero35 rfl rfl (fun b4 w4 hC4 hB4 => ?_)
 refine WL_nil ?_
 refine W_seq_reg ?_
 refine WL_load_box_agg [u1, (.int .i64 a1.2.1), (.int .i64 a1.2.2)] hC4 3 rfl rfl rfl Try.isAgg26 Try.sizeOf26 rfl rfl ?_
 obtain ⟨x1, hr1, hF⟩ := bind_some hF
 refine WL_call Try.call93 rfl rfl (c_M_copyLedger (a1.1, a1.2.1, a1.2.2) u1 (g1.now hC4.keep) x1 hr1) ?_
 rintro v1 w5 ⟨hB5, F1, hv1, hn1, hb1⟩
 have hC5 := hC4.push hB5 (A := Item.own v1 x1) hv1 hn1 hb1
 obtain ⟨v2, rfl, hC6⟩ := st26_own hC5
 refine WL_alloc hC6 zero26 rfl rfl (fun b5 w6 hC7 hB6 => ?_)
 refine WL_store_box_agg (cs' := [v2, (.int .i64 x1.2.1), (.int .i64 x1.2.2)]) (new := [v2, (.int .i64 x1.2.1), (.int .i64 x1.2.2)]) hC7 0 rfl rfl (by intro v hv; simp only [List.mem_cons, List.not_mem_nil, or_false] at hv; rcases hv with rfl | rfl | rfl; exact (ro_one (hC7.ro 1 rfl)); exact rfl; exact rfl) rfl Try.sizeOf26 rfl rfl (fun w7 hC8 => ?_)
 try dsimp only [List.set] at hC8
 refine WL_nil ?_
 refine W_seq ?_
 refine W_seq_reg ?_
 refine WL_move rfl rfl ?_
 refine WL_move rfl rfl ?_
 refine WL_len Try.underlying22 g2 rfl rfl ?_
 refine WL_min rfl rfl rfl ?_
 obtain ⟨x2, hx1, hF⟩ := bind_some hF
 refine WL_slice_h Try.underlying22 ty3 g2 hx1 rfl rfl rfl (fun v3 h1 => ?_)
 refine WL_buildSlice (vs := [(.int .i64 0)]) hC8 Try.underlying22 ty3 rfl rfl rfl rfl (by intro v hv; simp only [List.mem_cons, List.not_mem_nil, or_false] at hv; rcases hv with rfl <;> rfl) rfl rfl (fun b6 w9 hC9 hB7 => ?_)
 have hC10 := hC9.row0 (α := Int)
 have hC11 := hC10.triv (int_val (0))
 have hC12 := hC11.row1
 have hC13 := hC12.front 1 rfl
 dsimp only [List.eraseIdx, List.cons_append, List.nil_append, List.append_nil] at hC13
 have hC14 : Ctx [] w0 w9 (Item.own (.slice (some ⟨b6, 0, none⟩) 1 1) ([0] : List Int) :: [Item.box b5 [v2, (.int .i64 x1.2.1), (.int .i64 x1.2.2)], Item.own v2 (x1.1 : (List Int)), Item.box b4 [(.int .i64 0), (.int .i64 0), (.int .i64 0), (.bool false)], Item.box b3 [(.slice none 0 0), (.int .i64 0), (.int .i64 0)], Item.box b2 [(.int .i64 a2.1), (.int .i64 a2.2.1), (.int .i64 a2.2.2.1), (.bool a2.2.2.2)], Item.box b1 [u1, (.int .i64 a1.2.1), (.int .i64 a1.2.2)]]) := hC13.rowOwn (by simp [maxLen])
 refine WL_buildSlice (vs := [v3, (.slice (some ⟨b6, 0, none⟩) 1 1)]) hC14 Try.underlying178 ty22 rfl rfl rfl rfl (by intro v hv; simp only [List.mem_cons, List.not_mem_nil, or_false] at hv; rcases hv with rfl | rfl; exact (by rw [ro_cells h1]; rfl); exact (by rw [ro_cells (hC14.ro 0 rfl)]; rfl)) (by simp only [List.flatMap_cons, List.flatMap_nil, ro_cells h1, ro_cells (hC14.ro 0 rfl)]; rfl) rfl (fun b7 w10 hC15 hB8 => ?_)
 obtain ⟨x3, hr2, hF⟩ := bind_some hF
 refine WL_call Try.call105 rfl rfl (c_Slices_Concat_Lint_int ([x2, [0]] : List (List Int)) (.slice (some ⟨b7, 0, none⟩) 2 2) ((hC15.litRO (m := 2) 0 rfl (rowro_cons (repw_slice (h1.now hC15.keep)) (rowro_cons (repw_slice (hC15.ro 1 rfl)) rowro_nil)) rfl (by simp [maxLen]) (by decide)).now (Keep.refl _ _)) x3 hr2) ?_
 rintro v4 w11 ⟨hB9, F2, hv2, hn2, hb2⟩
 have hC16 := hC15.push hB9 (A := Item.own v4 x3) hv2 hn2 hb2
 refine WL_len Try.underlying22 (hC16.ro 0 rfl) rfl rfl ?_
 refine WL_move rfl rfl ?_
 refine WL_nil ?_
 obtain ⟨r1, hr3, hF⟩ := bind_some hF
 refine W_norm (fun l w => ∃ v6 : Value, ∃ x12 : (List Int), ∃ x13 : Int, ∃ x14 : Int, ∃ x15 : Int, ∃ x16 : Int, ∃ x17 : Int, ∃ x18 : Bool, (x12, x13, x14, x15, x16, x17, x18) = r1 ∧ l = [(4, (ptr b2 0)), (6, (ptr b3 0)), (7, (ptr b4 0)), (8, (ptr b5 0))] ∧ Ctx [] w0 w [Item.box b5 [v6, (.int .i64 x13), (.int .i64 x14)], Item.own v6 (x12 : (List Int)), Item.box b4 [(.int .i64 0), (.int .i64 0), (.int .i64 0), (.bool false)], Item.box b3 [(.slice none 0 0), (.int .i64 0), (.int .i64 0)], Item.box b2 [(.int .i64 x15), (.int .i64 x16), (.int .i64 x17), (.bool x18)]]) ?_ ?_
 ·refine W_block ?_
  have hC37 := hC16.f7
  have hC38 := hC37.f7
  have hC39 := hC38.f7
  have hC40 := hC39.f7
  have hC41 := hC40.f7
  have hC42 := hC41.f5
  have hC43 := hC42.h6
  refine W.sub (l' := [(4, (ptr b2 0)), (6, (ptr b3 0)), (7, (ptr b4 0)), (8, (ptr b5 0)), (20, v4), (21, (.int .i64 (List.length x3 : Int))), (22, (.int .i64 0))]) ?_ ⟨rfl, rfl, rfl, rfl, rfl, rfl, rfl, trivial⟩
  refine W_loop (fun k l w => ∃ v5 : Value, ∃ x4 : (List Int), ∃ x5 : Int, ∃ x6 : Int, ∃ x7 : Int, ∃ x8 : Int, ∃ x9 : Int, ∃ x10 : Bool, ∃ x11 : Int, l = [(4, (ptr b2 0)), (6, (ptr b3 0)), (7, (ptr b4 0)), (8, (ptr b5 0)), (20, v4), (21, (.int .i64 (List.length x3 : Int))), (22, (.int .i64 x11))] ∧ Ctx [] w0 w [Item.own v4 (x3 : (List Int)), Item.box b5 [v5, (.int .i64 x5), (.int .i64 x6)], Item.own v5 (x4 : (List Int)), Item.box b4 [(.int .i64 0), (.int .i64 0), (.int .i64 0), (.bool false)], Item.box b3 [(.slice none 0 0), (.int .i64 0), (.int .i64 0)], Item.box b2 [(.int .i64 x7), (.int .i64 x8), (.int .i64 x9), (.bool x10)]] ∧ M.FinishCall_l1 x3 k x4 x5 x6 x7 x8 x9 x10 x11 = some r1) FUEL ⟨v2, x1.1, x1.2.1, x1.2.2, a2.1, a2.2.1, a2.2.2.1, a2.2.2.2, 0, rfl, hC43, hr3⟩ ?_
  clear hr3
  rintro k1 _ w12 ⟨v5, x4, x5, x6, x7, x8, x9, x10, x11, rfl, hC17, hL1⟩
  cases k1 with
  | zero => rw [M.FinishCall_l1] at hL1; cases hL1
  | succ k1 =>
   rw [M.FinishCall_l1] at hL1
   refine W_seq_reg ?_
   refine WL_lss rfl rfl rfl ?_
   refine WL_nil ?_
   refine W_seq ?_
   refine W_cond rfl (fun hc1 => ?_) (fun hc1 => ?_)
   ·replace hL1 := ite_t hL1 hc1
    refine W_skip ?_
    refine nrm_normal ?_
    refine W_seq ?_
    refine W_block ?_
    refine W_seq_reg ?_
    obtain ⟨x19, hx2, hL1⟩ := bind_some hL1
    refine WL_index Try.underlying22 ty3 (hC17.ro 0 rfl) hx2 rfl rfl rfl (fun b8 o1 h2 => ?_)
    refine WL_load ty3 h2 (Keep.refl _ _) rfl rfl (fun v7 h3 => ?_)
    obtain rfl := ro_int h3
    refine WL_assign rfl rfl ?_
    refine WL_nil ?_
    refine W_reg ?_
    refine WL_load_box_agg [v5, (.int .i64 x5), (.int .i64 x6)] hC17 1 rfl rfl rfl Try.isAgg26 Try.sizeOf26 rfl rfl ?_
    refine WL_load_box_agg [(.int .i64 x7), (.int .i64 x8), (.int .i64 x9), (.bool x10)] hC17 5 rfl rfl rfl Try.isAgg35 Try.sizeOf35 rfl rfl ?_
    refine WL_move rfl rfl ?_
    obtain ⟨x20, hr4, hL1⟩ := bind_some hL1
    refine WL_call Try.call24 rfl rfl (c_M_TryCall (x4, x5, x6) v5 ((hC17.ro 2 rfl).now (Keep.refl _ _)) (x7, x8, x9, x10) x19 x20 hr4) ?_
    rintro _ w13 ⟨hB11, v8, v9, v10, F3, F4, F5, rfl, hv3, hv4, hv5, hn3, hb3⟩
    obtain ⟨rfl, rfl⟩ := val_bool hv5
    have hC18 := hC17.pushL hB11 (Bs := [Item.own v8 x20.1, Item.own v9 x20.2.1]) (Fs := [F3, F4]) ⟨F3, _, rfl, hv3, F4, _, rfl, hv4, rfl⟩ (by simpa using hn3) (fun b h => hb3 b (by simpa using h))
    obtain ⟨v11, rfl, hC19⟩ := st26_own hC18
    have hC20 := hC19.f1
    obtain ⟨rfl, hC21⟩ := st35_own hC20
    refine WL_move rfl rfl ?_
    refine WL_extract rfl rfl rfl ?_
    refine WL_extract rfl rfl rfl ?_
    refine WL_extract rfl rfl rfl ?_
    refine WL_store_box_agg (cs' := [v11, (.int .i64 x20.1.2.1), (.int .i64 x20.1.2.2)]) (new := [v11, (.int .i64 x20.1.2.1), (.int .i64 x20.1.2.2)]) hC21 2 rfl rfl (by intro v hv; simp only [List.mem_cons, List.not_mem_nil, or_false] at hv; rcases hv with rfl | rfl | rfl; exact (ro_one (hC21.ro 0 rfl)); exact rfl; exact rfl) rfl Try.sizeOf26 rfl rfl (fun w14 hC22 => ?_)
    try dsimp only [List.set] at hC22
    refine WL_store_box_agg (cs' := [(.int .i64 x20.2.1.1), (.int .i64 x20.2.1.2.1), (.int .i64 x20.2.1.2.2.1), (.bool x20.2.1.2.2.2)]) (new := [(.int .i64 x20.2.1.1), (.int .i64 x20.2.1.2.1), (.int .i64 x20.2.1.2.2.1), (.bool x20.2.1.2.2.2)]) hC22 6 rfl rfl (by intro v hv; simp only [List.mem_cons, List.not_mem_nil, or_false] at hv; rcases hv with rfl | rfl | rfl | rfl; exact rfl; exact rfl; exact rfl; exact rfl) rfl Try.sizeOf35 rfl rfl (fun w15 hC23 => ?_)
    try dsimp only [List.set] at hC23
    refine WL_nil ?_
    refine blk_normal ?_
    refine nrm_normal ?_
    refine W_reg ?_
    refine WL_add rfl rfl rfl ?_
    refine WL_move rfl rfl ?_
    refine WL_nil ?_
    have hC24 := hC23.f6
    have hC25 := hC24.f6
    have hC26 := hC25.f6
    have hC27 := hC26.f3
    have hC28 := hC27.f5
    have hC29 := hC28.f5
    have hC30 := hC29.h6
    refine nrm_sub (l' := [(4, (ptr b2 0)), (6, (ptr b3 0)), (7, (ptr b4 0)), (8, (ptr b5 0)), (20, v4), (21, (.int .i64 (List.length x3 : Int))), (22, (.int .i64 (w64 (x11 + 1))))]) ⟨rfl, rfl, rfl, rfl, rfl, rfl, rfl, trivial⟩ ?_
    exact ⟨k1, Nat.lt_succ_self _, v11, x20.1.1, x20.1.2.1, x20.1.2.2, x20.2.1.1, x20.2.1.2.1, x20.2.1.2.2.1, x20.2.1.2.2.2, w64 (x11 + 1), rfl, hC30, hL1⟩
   replace hL1 := ite_f hL1 hc1
   refine W_exit ?_
   refine nrm_exit ?_
   refine nrm_exit ?_
   refine blk_exit ?_
   have hq1 := Option.some.inj hL1
   subst hq1
   have hC31 := hC17.f5
   have hC32 := hC31.f5
   have hC33 := hC32.f5
   have hC34 := hC33.f5
   have hC35 := hC34.f5
   have hC36 := hC35.h5
   refine nrm_sub (l' := [(4, (ptr b2 0)), (6, (ptr b3 0)), (7, (ptr b4 0)), (8, (ptr b5 0))]) ⟨rfl, rfl, rfl, rfl, trivial⟩ ?_
   exact ⟨v5, x4, x5, x6, x7, x8, x9, x10, rfl, rfl, hC36⟩
 rintro l2 _ w16 hs2 ⟨v6, x12, x13, x14, x15, x16, x17, x18, rfl, rfl, hC44⟩
 try dsimp only at hF
 refine nrm_sub' hs2 ?_
 clear hs2
 obtain ⟨r2, hr5, hF⟩ := bind_some hF
 refine W_cut (fun l w => ∃ x21 : Int, ∃ x22 : Int, ∃ x23 : Int, ∃ x24 : Bool, ∃ v12 : Value, ∃ x25 : (List Int), ∃ x26 : Int, ∃ x27 : Int, (x21, x22, x23, x24, x25, x26, x27) = r2 ∧ l = [(6, (ptr b3 0)), (7, (ptr b4 0))] ∧ Ctx [] w0 w [Item.own v12 (x25 : (List Int)), Item.box b4 [(.int .i64 x21), (.int .i64 x22), (.int .i64 x23), (.bool x24)], Item.box b3 [v12, (.int .i64 x26), (.int .i64 x27)]]) ?_ ?_
 ·refine W_drawn 4 rfl hmix (fun w18 hB14 => ?_)
  have hC46 := hC44.grow hB14
  refine WA.sub (l' := [(4, (ptr b2 0)), (6, (ptr b3 0)), (7, (ptr b4 0)), (8, (ptr b5 0))]) ?_ ⟨rfl, rfl, rfl, rfl, trivial⟩
  refine WA_postsO [⟨0, [], fun vs => PW.val (.agg #[v6, (.int .i64 x13), (.int .i64 x14)]), []⟩, ⟨1, [], fun vs => PW.val (.agg #[(.int .i64 x15), (.int .i64 x16), (.int .i64 x17), (.bool x18)]), []⟩] [[], []] [1] 2 rfl (by kernel_rfl) (by kernel_rfl) ?_ ⟨?_, ?_, trivial⟩
  ·refine StepsE_cons rfl ?_ ?_
   ·intro w19 hB15
    refine DepsE_nil ?_
    refine ⟨_, rfl, ?_⟩
    refine WL_load_box_agg [v6, (.int .i64 x13), (.int .i64 x14)] (hC46.grow hB15) 0 rfl rfl rfl Try.isAgg26 Try.sizeOf26 rfl rfl ?_
    refine WL_nil ?_
    exact FinE_val (Below.refl _ _) rfl rfl ⟨rfl, rfl⟩
   refine StepsE_cons rfl ?_ ?_
   ·intro w19 hB15
    refine DepsE_nil ?_
    refine ⟨_, rfl, ?_⟩
    refine WL_load_box_agg [(.int .i64 x15), (.int .i64 x16), (.int .i64 x17), (.bool x18)] (hC46.grow hB15) 4 rfl rfl rfl Try.isAgg35 Try.sizeOf35 rfl rfl ?_
    refine WL_nil ?_
    exact FinE_val (Below.refl _ _) rfl rfl ⟨rfl, rfl⟩
   exact StepsE_nil
  ·intro g' hg'
   obtain rfl : g' = 2 := hg'
   intro w20 hB16
   refine AllE_cons rfl rfl rfl ?_
   rintro _ _ ⟨rfl, rfl⟩
   refine AllE_cons rfl rfl rfl ?_
   rintro _ _ ⟨rfl, rfl⟩
   refine AllE_nil ?_
   intro hn4 hb4
   have hC47 := hC46.grow hB16
   refine WA_one 2 (by kernel_rfl) rfl ?_
   refine WL_store_box_agg (cs' := [v6, (.int .i64 x13), (.int .i64 x14)]) (new := [v6, (.int .i64 x13), (.int .i64 x14)]) hC47 3 rfl rfl (by intro v hv; simp only [List.mem_cons, List.not_mem_nil, or_false] at hv; rcases hv with rfl | rfl | rfl; exact (ro_one (hC47.ro 1 rfl)); exact rfl; exact rfl) rfl Try.sizeOf26 rfl rfl (fun w21 hC48 => ?_)
   try dsimp only [List.set] at hC48
   refine WL_nil ?_
   refine WA_one 3 (by kernel_rfl) rfl ?_
   refine WL_store_box_agg (cs' := [(.int .i64 x15), (.int .i64 x16), (.int .i64 x17), (.bool x18)]) (new := [(.int .i64 x15), (.int .i64 x16), (.int .i64 x17), (.bool x18)]) hC48 2 rfl rfl (by intro v hv; simp only [List.mem_cons, List.not_mem_nil, or_false] at hv; rcases hv with rfl | rfl | rfl | rfl; exact rfl; exact rfl; exact rfl; exact rfl) rfl Try.sizeOf35 rfl rfl (fun w22 hC49 => ?_)
   try dsimp only [List.set] at hC49
   refine WL_nil ?_
   refine WA_done (by kernel_rfl) ?_
   have hq2 := Option.some.inj hr5
   subst hq2
   have hC50 := hC49.f3
   have hC51 := hC50.f3
   have hC52 := hC51.f3
   have hC53 := hC52.h3
   refine nrm_sub (l' := [(6, (ptr b3 0)), (7, (ptr b4 0))]) ⟨rfl, rfl, trivial⟩ ?_
   exact ⟨x15, x16, x17, x18, v6, x12, x13, x14, rfl, rfl, hC53⟩
  intro g' hg'
  obtain rfl : g' = 3 := hg'
  intro w20 hB16
  refine AllE_cons rfl rfl rfl ?_
  rintro _ _ ⟨rfl, rfl⟩
  refine AllE_nil ?_
  intro hn4 hb4
  have hC47 := hC46.grow hB16
  refine WA_all2 (i := 1) (j := 2) (by kernel_rfl) rfl rfl ?_ ?_
  ·refine WL_load_box_agg [(.int .i64 x15), (.int .i64 x16), (.int .i64 x17), (.bool x18)] hC47 4 rfl rfl rfl Try.isAgg35 Try.sizeOf35 rfl rfl ?_
   refine WL_nil ?_
   refine WA_one 2 (by kernel_rfl) rfl ?_
   refine WL_store_box_agg (cs' := [v6, (.int .i64 x13), (.int .i64 x14)]) (new := [v6, (.int .i64 x13), (.int .i64 x14)]) hC47 3 rfl rfl (by intro v hv; simp only [List.mem_cons, List.not_mem_nil, or_false] at hv; rcases hv with rfl | rfl | rfl; exact (ro_one (hC47.ro 1 rfl)); exact rfl; exact rfl) rfl Try.sizeOf26 rfl rfl (fun w21 hC48 => ?_)
   try dsimp only [List.set] at hC48
   refine WL_nil ?_
   refine WA_one 3 (by kernel_rfl) rfl ?_
   refine WL_store_box_agg (cs' := [(.int .i64 x15), (.int .i64 x16), (.int .i64 x17), (.bool x18)]) (new := [(.int .i64 x15), (.int .i64 x16), (.int .i64 x17), (.bool x18)]) hC48 2 rfl rfl (by intro v hv; simp only [List.mem_cons, List.not_mem_nil, or_false] at hv; rcases hv with rfl | rfl | rfl | rfl; exact rfl; exact rfl; exact rfl; exact rfl) rfl Try.sizeOf35 rfl rfl (fun w22 hC49 => ?_)
   try dsimp only [List.set] at hC49
   refine WL_nil ?_
   refine WA_done (by kernel_rfl) ?_
   have hq2 := Option.some.inj hr5
   subst hq2
   have hC50 := hC49.f3
   have hC51 := hC50.f3
   have hC52 := hC51.f3
   have hC53 := hC52.h3
   refine nrm_sub (l' := [(6, (ptr b3 0)), (7, (ptr b4 0))]) ⟨rfl, rfl, trivial⟩ ?_
   exact ⟨x15, x16, x17, x18, v6, x12, x13, x14, rfl, rfl, hC53⟩
  refine WL_store_box_agg (cs' := [v6, (.int .i64 x13), (.int .i64 x14)]) (new := [v6, (.int .i64 x13), (.int .i64 x14)]) hC47 3 rfl rfl (by intro v hv; simp only [List.mem_cons, List.not_mem_nil, or_false] at hv; rcases hv with rfl | rfl | rfl; exact (ro_one (hC47.ro 1 rfl)); exact rfl; exact rfl) rfl Try.sizeOf26 rfl rfl (fun w21 hC48 => ?_)
  try dsimp only [List.set] at hC48
  refine WL_nil ?_
  refine WA_one 1 (by kernel_rfl) rfl ?_
  refine WL_load_box_agg [(.int .i64 x15), (.int .i64 x16), (.int .i64 x17), (.bool x18)] hC48 4 rfl rfl rfl Try.isAgg35 Try.sizeOf35 rfl rfl ?_
  refine WL_nil ?_
  refine WA_one 3 (by kernel_rfl) rfl ?_
  refine WL_store_box_agg (cs' := [(.int .i64 x15), (.int .i64 x16), (.int .i64 x17), (.bool x18)]) (new := [(.int .i64 x15), (.int .i64 x16), (.int .i64 x17), (.bool x18)]) hC48 2 rfl rfl (by intro v hv; simp only [List.mem_cons, List.not_mem_nil, or_false] at hv; rcases hv with rfl | rfl | rfl | rfl; exact rfl; exact rfl; exact rfl; exact rfl) rfl Try.sizeOf35 rfl rfl (fun w22 hC49 => ?_)
  try dsimp only [List.set] at hC49
  refine WL_nil ?_
  refine WA_done (by kernel_rfl) ?_
  have hq2 := Option.some.inj hr5
  subst hq2
  have hC50 := hC49.f3
  have hC51 := hC50.f3
  have hC52 := hC51.f3
  have hC53 := hC52.h3
  refine nrm_sub (l' := [(6, (ptr b3 0)), (7, (ptr b4 0))]) ⟨rfl, rfl, trivial⟩ ?_
  exact ⟨x15, x16, x17, x18, v6, x12, x13, x14, rfl, rfl, hC53⟩
 rintro _ w17 ⟨x21, x22, x23, x24, v12, x25, x26, x27, rfl, rfl, hC45⟩
 try dsimp only at hF
 refine W_ret ?_
 have hq3 := Option.some.inj hF
 subst hq3
 refine fn_retG2 rfl (rv_cell_agg (cs' := [v12, (.int .i64 x26), (.int .i64 x27)]) hC45 (i := 2) rfl rfl rfl Try.isAgg26 Try.sizeOf26 rfl) (rv_cell_agg (cs' := [(.int .i64 x21), (.int .i64 x22), (.int .i64 x23), (.bool x24)]) hC45 (i := 1) rfl rfl rfl Try.isAgg35 Try.sizeOf35 rfl) ?_
 have hC54 := own_st35 x21 x22 x23 x24 hC45
 have hC56 := hC54.f1
 have hC55 := own_st26 v12 x25 x26 x27 hC56
 exact ⟨_, rfl, res2_of hC55⟩

theorem c_S_l1New {w0 : World} (a1 : (List UInt8)) (u1 : Value) (g1 : RO [] w0 u1 a1) (rr : ((List UInt8) × Int × Int)) (hF : S.l1New a1 = some rr) :
 Calls Try.prog 98 [u1].toArray w0 fun e w' => ∃ v, e = .returned v ∧ ∃ q0 : Nat, v = (ptr q0 0) ∧ Ctx [] w0 w' [Item.box q0 [u1, (.int .i64 rr.2.1), (.int .i64 rr.2.2)]] := by
 refine calls_of_W Try.func98 rfl rfl ?_
 have hC0 := Ctx.start w0
 unfold S.l1New at hF
 refine W_seq_reg ?_
 refine WL_assign rfl rfl ?_
 refine WL_nil ?_
 refine W_seq_reg ?_
 refine WL_move rfl rfl ?_
 refine WL_len Try.underlying41 g1 rfl rfl ?_
 refine WL_add rfl rfl rfl ?_
 refine WL_assign rfl rfl ?_
 refine WL_nil ?_
 refine W_seq ?_
 refine W_seq_reg ?_
 refine WL_assign rfl rfl ?_
 refine WL_nil ?_
 obtain ⟨r1, hr1, hF⟩ := bind_some hF
 refine W_norm (fun l w => ∃ x3 : Int, x3 = r1 ∧ l = [(0, u1), (3, (.int .i64 x3))] ∧ Below w0.heap.size w0 w ∧ Ctx [] w0 w []) ?_ ?_
 ·refine W_block ?_
  refine W.sub (l' := [(0, u1), (3, (.int .i64 (w64 (10101 + (List.length a1 : Int))))), (4, (.int .i64 0))]) ?_ ⟨rfl, rfl, rfl, trivial⟩
  refine W_loop (fun k l w => ∃ x1 : Int, ∃ x2 : Int, l = [(0, u1), (3, (.int .i64 x1)), (4, (.int .i64 x2))] ∧ Below w0.heap.size w0 w ∧ Ctx [] w0 w [] ∧ S.l1New_l1 a1 k x1 x2 = some r1) FUEL ⟨w64 (10101 + (List.length a1 : Int)), 0, rfl, (Below.refl _ _), hC0, hr1⟩ ?_
  clear hr1
  rintro k1 _ w1 ⟨x1, x2, rfl, hB1, hC1, hL1⟩
  cases k1 with
  | zero => rw [S.l1New_l1] at hL1; cases hL1
  | succ k1 =>
   rw [S.l1New_l1] at hL1
   refine W_seq ?_
   obtain ⟨r2, hr2, hL1⟩ := bind_some hL1
   refine W_cut (fun l w => ∃ x4 : Bool, x4 = r2 ∧ l = [(0, u1), (3, (.int .i64 x1)), (4, (.int .i64 x2)), (15, (.bool x4))] ∧ Below w1.heap.size w1 w ∧ Ctx [] w0 w []) ?_ ?_
   ·refine W_reg ?_
    refine WL_move rfl rfl ?_
    refine WL_move rfl rfl ?_
    refine WL_len Try.underlying41 g1 rfl rfl ?_
    refine WL_lss rfl rfl rfl ?_
    refine WL_move rfl rfl ?_
    refine WL_fork (fun hc1 => ?_) (fun hc1 => ?_)
    ·replace hr2 := ite_t hr2 hc1
     refine WL_guard rfl rfl ?_
     refine WL_move rfl rfl ?_
     refine WL_guard rfl rfl ?_
     refine WL_lss rfl rfl rfl ?_
     refine WL_pick_t rfl rfl rfl ?_
     refine WL_nil ?_
     have hq1 := Option.some.inj hr2
     subst hq1
     refine nrm_sub (l' := [(0, u1), (3, (.int .i64 x1)), (4, (.int .i64 x2)), (15, (.bool (decide (x2 < 4000))))]) ⟨rfl, rfl, rfl, rfl, trivial⟩ ?_
     exact ⟨(decide (x2 < 4000)), rfl, rfl, (Below.refl _ _), hC1⟩
    replace hr2 := ite_f hr2 hc1
    refine WL_guard_skip rfl rfl (by simp) rfl ?_
    refine WL_guard_skip rfl rfl (by simp) rfl ?_
    refine WL_pick_f rfl rfl rfl ?_
    refine WL_nil ?_
    have hq2 := Option.some.inj hr2
    subst hq2
    refine nrm_sub (l' := [(0, u1), (3, (.int .i64 x1)), (4, (.int .i64 x2)), (15, (.bool false))]) ⟨rfl, rfl, rfl, rfl, trivial⟩ ?_
    exact ⟨false, rfl, rfl, (Below.refl _ _), hC1⟩
   rintro _ w2 ⟨x4, rfl, rfl, hB2, hC2⟩
   try dsimp only at hL1
   refine W_cond rfl (fun hc2 => ?_) (fun hc2 => ?_)
   ·replace hL1 := ite_t hL1 hc2
    refine W_skip ?_
    refine nrm_normal ?_
    refine W_seq ?_
    refine W_block ?_
    refine W_reg ?_
    refine WL_move rfl rfl ?_
    refine WL_mul rfl rfl rfl ?_
    refine WL_move rfl rfl ?_
    refine WL_move rfl rfl ?_
    obtain ⟨x5, hx1, hL1⟩ := bind_some hL1
    refine WL_index Try.underlying41 ty5 g1 hx1 rfl rfl rfl (fun b1 o1 h1 => ?_)
    refine WL_load ty5 h1 hC2.keep rfl rfl (fun v1 h2 => ?_)
    obtain rfl := ro_u8 h2
    refine WL_conv_i64 Try.underlying5 Try.underlying3 rfl rfl ?_
    refine WL_add rfl rfl rfl ?_
    refine WL_add rfl rfl rfl ?_
    refine WL_band rfl rfl rfl ?_
    refine WL_assign rfl rfl ?_
    refine WL_nil ?_
    refine blk_normal ?_
    refine nrm_normal ?_
    refine W_reg ?_
    refine WL_move rfl rfl ?_
    refine WL_add rfl rfl rfl ?_
    refine WL_assign rfl rfl ?_
    refine WL_nil ?_
    refine nrm_sub (l' := [(0, u1), (3, (.int .i64 (band (w64 ((w64 ((w64 (x1 * 131)) + (w64 (UInt8.toNat x5 : Int)))) + 7)) 1073741823))), (4, (.int .i64 (w64 (x2 + 1))))]) ⟨rfl, rfl, rfl, trivial⟩ ?_
    exact ⟨k1, Nat.lt_succ_self _, band (w64 ((w64 ((w64 (x1 * 131)) + (w64 (UInt8.toNat x5 : Int)))) + 7)) 1073741823, w64 (x2 + 1), rfl, ((Keep.of hB1).then hB2).below, hC2, hL1⟩
   replace hL1 := ite_f hL1 hc2
   refine W_exit ?_
   refine nrm_exit ?_
   refine nrm_exit ?_
   refine blk_exit ?_
   have hq3 := Option.some.inj hL1
   subst hq3
   refine nrm_sub (l' := [(0, u1), (3, (.int .i64 x1))]) ⟨rfl, rfl, trivial⟩ ?_
   exact ⟨x1, rfl, rfl, ((Keep.of hB1).then hB2).below, hC2⟩
 rintro l3 _ w3 hs3 ⟨x3, rfl, rfl, hB3, hC3⟩
 try dsimp only at hF
 refine nrm_sub' hs3 ?_
 clear hs3
 refine W_seq_reg ?_
 refine WL_move rfl rfl ?_
 refine WL_move rfl rfl ?_
 refine WL_build (vs := [(0, u1), (2, (.int .i64 x3))]) rfl rfl rfl (built174_0_2 (ro_cells g1) rfl) ?_
 refine WL_box (cs := [u1, (.int .i64 0), (.int .i64 x3)]) hC3 rfl rfl rfl (fun b2 w4 hC4 hB4 => ?_)
 refine WL_assign rfl rfl ?_
 refine WL_nil ?_
 refine W_ret ?_
 have hq4 := Option.some.inj hF
 subst hq4
 refine fn_ret1 rfl rfl ?_
 exact ⟨_, rfl, _, rfl, hC4⟩

theorem c_S_l1Byte {w0 : World} {Fs : List (List Nat)} (pb1 : Nat) (a1 : ((List UInt8) × Int × Int)) (u1 : Value) (g1 : RO Fs.flatten w0 u1 a1.1) (hH : Hold [Item.box pb1 [u1, (.int .i64 a1.2.1), (.int .i64 a1.2.2)]] w0 Fs) (hn : Fs.flatten.Nodup) (rr : (Int × ((List UInt8) × Int × Int))) (hF : S.l1Byte a1 = some rr) :
 Calls Try.prog 138 [(ptr pb1 0)].toArray w0 fun e w' => ∃ v, e = .returned v ∧ v = (.int .i64 rr.1) ∧ Ctx Fs.flatten w0 w' [Item.box pb1 [u1, (.int .i64 rr.2.2.1), (.int .i64 rr.2.2.2)]] := by
 refine calls_of_W Try.func138 rfl rfl ?_
 have hC0 := Ctx.startIn hH hn
 unfold S.l1Byte at hF
 refine W_seq_reg ?_
 refine WL_assign rfl rfl ?_
 refine WL_nil ?_
 refine W_seq_reg ?_
 refine WL_move rfl rfl ?_
 refine WL_move rfl rfl ?_
 refine WL_nilCheck rfl rfl ?_
 refine WL_field Try.underlying174 rfl rfl (fun w => ⟨_, Try.sizeOf3 w⟩) rfl rfl ?_
 refine WL_load_box hC0 0 rfl rfl Try.isAgg3 rfl rfl ?_
 refine WL_mul rfl rfl rfl ?_
 refine WL_add rfl rfl rfl ?_
 refine WL_nilCheck rfl rfl ?_
 refine WL_field Try.underlying174 rfl rfl (fun w => ⟨_, Try.sizeOf3 w⟩) rfl rfl ?_
 refine WL_store_box (cs' := [u1, (.int .i64 a1.2.1), (.int .i64 (w64 ((w64 (a1.2.2 * 6364136223846793005)) + 1442695040888963407)))]) hC0 0 rfl rfl rfl rfl Try.sizeOf3 rfl rfl (fun w1 hC1 => ?_)
 try dsimp only [List.set] at hC1
 refine WL_nil ?_
 refine W_seq ?_
 refine W_drawn 13 rfl hmix (fun w2 hB1 => ?_)
 have hC2 := hC1.grow hB1
 refine WA_tk 0 (by kernel_rfl) rfl rfl (fl_move rfl) ?_
 refine WL_move rfl rfl ?_
 refine WL_nil ?_
 refine WA_tk 1 (by kernel_rfl) rfl rfl (fl_nilCheck rfl) ?_
 refine WL_nilCheck rfl rfl ?_
 refine WL_nil ?_
 refine WA_tk 2 (by kernel_rfl) rfl rfl (fl_field Try.underlying174 rfl rfl (fun w => ⟨_, Try.sizeOf3 w⟩) rfl) ?_
 refine WL_field Try.underlying174 rfl rfl (fun w => ⟨_, Try.sizeOf3 w⟩) rfl rfl ?_
 refine WL_nil ?_
 refine WA_tk 5 (by kernel_rfl) rfl rfl (fl_move rfl) ?_
 refine WL_move rfl rfl ?_
 refine WL_nil ?_
 refine WA_tk 6 (by kernel_rfl) rfl rfl (fl_nilCheck rfl) ?_
 refine WL_nilCheck rfl rfl ?_
 refine WL_nil ?_
 refine WA_tk 7 (by kernel_rfl) rfl rfl (fl_field Try.underlying174 rfl rfl (fun w => ⟨_, Try.sizeOf3 w⟩) rfl) ?_
 refine WL_field Try.underlying174 rfl rfl (fun w => ⟨_, Try.sizeOf3 w⟩) rfl rfl ?_
 refine WL_nil ?_
 refine WA.sub (l' := [(0, (ptr pb1 0)), (2, (.int .i64 0)), (4, (ptr pb1 0)), (5, (ptr pb1 0)), (6, (ptr pb1 0)), (7, (ptr pb1 2)), (8, (.int .i64 a1.2.2)), (9, (.int .i64 (w64 (a1.2.2 * 6364136223846793005)))), (10, (.int .i64 (w64 ((w64 (a1.2.2 * 6364136223846793005)) + 1442695040888963407)))), (11, (ptr pb1 0)), (12, (ptr pb1 2)), (13, (ptr pb1 0)), (14, (ptr pb1 0)), (15, (ptr pb1 2)), (18, (ptr pb1 0)), (19, (ptr pb1 0)), (20, (ptr pb1 2))]) ?_ ⟨rfl, rfl, rfl, rfl, rfl, rfl, rfl, rfl, rfl, rfl, rfl, rfl, rfl, rfl, rfl, rfl, rfl, trivial⟩
 refine WA_postsE [⟨3, [], fun vs => PW.val (.int .i64 (w64 ((w64 (a1.2.2 * 6364136223846793005)) + 1442695040888963407))), []⟩, ⟨4, [], fun vs => PW.val (.int .i64 (shr (w64 ((w64 (a1.2.2 * 6364136223846793005)) + 1442695040888963407)) 33)), []⟩, ⟨8, [], fun vs => PW.val (.int .i64 (w64 ((w64 (a1.2.2 * 6364136223846793005)) + 1442695040888963407))), []⟩, ⟨9, [], fun vs => PW.val (.int .i64 (shr (w64 ((w64 (a1.2.2 * 6364136223846793005)) + 1442695040888963407)) 45)), []⟩] [[], [3], [], [8]] 3 rfl (by kernel_rfl) (by kernel_rfl) rfl ?_ ?_
 ·refine StepsE_cons rfl ?_ ?_
  ·intro w3 hB2
   refine DepsE_nil ?_
   refine ⟨_, rfl, ?_⟩
   refine WL_load_box (hC2.grow hB2) 0 rfl rfl Try.isAgg3 rfl rfl ?_
   refine WL_nil ?_
   exact FinE_val (Below.refl _ _) rfl rfl ⟨rfl, rfl⟩
  refine StepsE_cons rfl ?_ ?_
  ·intro w3 hB2
   refine DepsE_cons rfl rfl rfl ?_
   rintro _ _ ⟨rfl, rfl⟩ _
   refine DepsE_nil ?_
   refine ⟨_, rfl, ?_⟩
   refine WL_shr (by decide) rfl rfl rfl ?_
   refine WL_nil ?_
   exact FinE_val (Below.refl _ _) rfl rfl ⟨rfl, rfl⟩
  refine StepsE_cons rfl ?_ ?_
  ·intro w3 hB2
   refine DepsE_nil ?_
   refine ⟨_, rfl, ?_⟩
   refine WL_load_box (hC2.grow hB2) 0 rfl rfl Try.isAgg3 rfl rfl ?_
   refine WL_nil ?_
   exact FinE_val (Below.refl _ _) rfl rfl ⟨rfl, rfl⟩
  refine StepsE_cons rfl ?_ ?_
  ·intro w3 hB2
   refine DepsE_cons rfl rfl rfl ?_
   rintro _ _ ⟨rfl, rfl⟩ _
   refine DepsE_nil ?_
   refine ⟨_, rfl, ?_⟩
   refine WL_shr (by decide) rfl rfl rfl ?_
   refine WL_nil ?_
   exact FinE_val (Below.refl _ _) rfl rfl ⟨rfl, rfl⟩
  exact StepsE_nil
 intro w4 hB3
 refine AllE_cons rfl rfl rfl ?_
 rintro _ _ ⟨rfl, rfl⟩
 refine AllE_cons rfl rfl rfl ?_
 rintro _ _ ⟨rfl, rfl⟩
 refine AllE_cons rfl rfl rfl ?_
 rintro _ _ ⟨rfl, rfl⟩
 refine AllE_cons rfl rfl rfl ?_
 rintro _ _ ⟨rfl, rfl⟩
 refine AllE_nil ?_
 intro hn1 hb1
 have hC3 := hC2.grow hB3
 refine WA_tk 10 (by kernel_rfl) rfl rfl (fl_bxor rfl rfl) ?_
 refine WL_bxor rfl rfl rfl ?_
 refine WL_nil ?_
 refine WA_tk 11 (by kernel_rfl) rfl rfl (fl_band rfl rfl) ?_
 refine WL_band rfl rfl rfl ?_
 refine WL_nil ?_
 refine WA_tk 12 (by kernel_rfl) rfl rfl (fl_assign rfl) ?_
 refine WL_assign rfl rfl ?_
 refine WL_nil ?_
 refine WA_done (by kernel_rfl) ?_
 refine nrm_normal ?_
 refine W_seq ?_
 refine W_seq ?_
 refine W_drawn 10 rfl hmix (fun w5 hB4 => ?_)
 have hC4 := hC3.grow hB4
 refine WA_tk 0 (by kernel_rfl) rfl rfl (fl_move rfl) ?_
 refine WL_move rfl rfl ?_
 refine WL_nil ?_
 refine WA_tk 1 (by kernel_rfl) rfl rfl (fl_nilCheck rfl) ?_
 refine WL_nilCheck rfl rfl ?_
 refine WL_nil ?_
 refine WA_tk 2 (by kernel_rfl) rfl rfl (fl_field Try.underlying174 rfl rfl (fun w => ⟨_, Try.sizeOf3 w⟩) rfl) ?_
 refine WL_field Try.underlying174 rfl rfl (fun w => ⟨_, Try.sizeOf3 w⟩) rfl rfl ?_
 refine WL_nil ?_
 refine WA_tk 4 (by kernel_rfl) rfl rfl (fl_move rfl) ?_
 refine WL_move rfl rfl ?_
 refine WL_nil ?_
 refine WA_tk 5 (by kernel_rfl) rfl rfl (fl_nilCheck rfl) ?_
 refine WL_nilCheck rfl rfl ?_
 refine WL_nil ?_
 refine WA_tk 6 (by kernel_rfl) rfl rfl (fl_field Try.underlying174 rfl rfl (fun w => ⟨_, Try.sizeOf41 w⟩) rfl) ?_
 refine WL_field Try.underlying174 rfl rfl (fun w => ⟨_, Try.sizeOf41 w⟩) rfl rfl ?_
 refine WL_nil ?_
 refine WA.sub (l' := [(0, (ptr pb1 0)), (2, (.int .i64 0)), (3, (.int .i64 (band (bxor (shr (w64 ((w64 (a1.2.2 * 6364136223846793005)) + 1442695040888963407)) 33) (shr (w64 ((w64 (a1.2.2 * 6364136223846793005)) + 1442695040888963407)) 45)) 255))), (4, (ptr pb1 0)), (5, (ptr pb1 0)), (6, (ptr pb1 0)), (7, (ptr pb1 2)), (8, (.int .i64 a1.2.2)), (9, (.int .i64 (w64 (a1.2.2 * 6364136223846793005)))), (10, (.int .i64 (w64 ((w64 (a1.2.2 * 6364136223846793005)) + 1442695040888963407)))), (11, (ptr pb1 0)), (12, (ptr pb1 2)), (13, (ptr pb1 0)), (14, (ptr pb1 0)), (15, (ptr pb1 2)), (16, (.int .i64 (w64 ((w64 (a1.2.2 * 6364136223846793005)) + 1442695040888963407)))), (17, (.int .i64 (shr (w64 ((w64 (a1.2.2 * 6364136223846793005)) + 1442695040888963407)) 33))), (18, (ptr pb1 0)), (19, (ptr pb1 0)), (20, (ptr pb1 2)), (21, (.int .i64 (w64 ((w64 (a1.2.2 * 6364136223846793005)) + 1442695040888963407)))), (22, (.int .i64 (shr (w64 ((w64 (a1.2.2 * 6364136223846793005)) + 1442695040888963407)) 45))), (23, (.int .i64 (bxor (shr (w64 ((w64 (a1.2.2 * 6364136223846793005)) + 1442695040888963407)) 33) (shr (w64 ((w64 (a1.2.2 * 6364136223846793005)) + 1442695040888963407)) 45)))), (24, (.int .i64 (band (bxor (shr (w64 ((w64 (a1.2.2 * 6364136223846793005)) + 1442695040888963407)) 33) (shr (w64 ((w64 (a1.2.2 * 6364136223846793005)) + 1442695040888963407)) 45)) 255))), (25, (ptr pb1 0)), (26, (ptr pb1 0)), (27, (ptr pb1 1)), (29, (ptr pb1 0)), (30, (ptr pb1 0)), (31, (ptr pb1 0))]) ?_ ⟨rfl, rfl, rfl, rfl, rfl, rfl, rfl, rfl, rfl, rfl, rfl, rfl, rfl, rfl, rfl, rfl, rfl, rfl, rfl, rfl, rfl, rfl, rfl, rfl, rfl, rfl, rfl, rfl, rfl, rfl, trivial⟩
 refine WA_postsE [⟨3, [], fun vs => PW.val (.int .i64 a1.2.1), []⟩, ⟨7, [], fun vs => PW.val u1, []⟩, ⟨8, [], fun vs => PW.val (.int .i64 (List.length a1.1 : Int)), []⟩] [[], [], [7]] 1 rfl (by kernel_rfl) (by kernel_rfl) rfl ?_ ?_
 ·refine StepsE_cons rfl ?_ ?_
  ·intro w6 hB5
   refine DepsE_nil ?_
   refine ⟨_, rfl, ?_⟩
   refine WL_load_box (hC4.grow hB5) 0 rfl rfl Try.isAgg3 rfl rfl ?_
   refine WL_nil ?_
   exact FinE_val (Below.refl _ _) rfl rfl ⟨rfl, rfl⟩
  refine StepsE_cons rfl ?_ ?_
  ·intro w6 hB5
   refine DepsE_nil ?_
   refine ⟨_, rfl, ?_⟩
   refine WL_load_box (hC4.grow hB5) 0 rfl rfl Try.isAgg41 rfl rfl ?_
   refine WL_nil ?_
   exact FinE_val (Below.refl _ _) rfl rfl ⟨rfl, rfl⟩
  refine StepsE_cons rfl ?_ ?_
  ·intro w6 hB5
   refine DepsE_cons rfl rfl rfl ?_
   rintro _ _ ⟨rfl, rfl⟩ _
   refine DepsE_nil ?_
   refine ⟨_, rfl, ?_⟩
   refine WL_len Try.underlying41 g1 rfl rfl ?_
   refine WL_nil ?_
   exact FinE_val (Below.refl _ _) rfl rfl ⟨rfl, rfl⟩
  exact StepsE_nil
 intro w7 hB6
 refine AllE_cons rfl rfl rfl ?_
 rintro _ _ ⟨rfl, rfl⟩
 refine AllE_cons rfl rfl rfl ?_
 rintro _ _ ⟨rfl, rfl⟩
 refine AllE_cons rfl rfl rfl ?_
 rintro _ _ ⟨rfl, rfl⟩
 refine AllE_nil ?_
 intro hn2 hb2
 have hC5 := hC4.grow hB6
 refine WA_tk 9 (by kernel_rfl) rfl rfl (fl_lss rfl rfl) ?_
 refine WL_lss rfl rfl rfl ?_
 refine WL_nil ?_
 refine WA_done (by kernel_rfl) ?_
 refine nrm_normal ?_
 obtain ⟨r1, hr1, hF⟩ := bind_some hF
 refine W_norm (fun l w => ∃ x1 : Int, ∃ x2 : Int, ∃ x3 : Int, (x1, x2, x3) = r1 ∧ l = [(3, (.int .i64 x3))] ∧ Ctx Fs.flatten w0 w [Item.box pb1 [u1, (.int .i64 x1), (.int .i64 x2)]]) ?_ ?_
 ·refine W_cond rfl (fun hc1 => ?_) (fun hc1 => ?_)
  ·replace hr1 := ite_t hr1 hc1
   refine W_seq ?_
   refine W_drawn 15 rfl hmix (fun w10 hB8 => ?_)
   have hC7 := hC5.grow hB8
   refine WA_tk 0 (by kernel_rfl) rfl rfl (fl_move rfl) ?_
   refine WL_move rfl rfl ?_
   refine WL_nil ?_
   refine WA_tk 1 (by kernel_rfl) rfl rfl (fl_move rfl) ?_
   refine WL_move rfl rfl ?_
   refine WL_nil ?_
   refine WA_tk 2 (by kernel_rfl) rfl rfl (fl_nilCheck rfl) ?_
   refine WL_nilCheck rfl rfl ?_
   refine WL_nil ?_
   refine WA_tk 3 (by kernel_rfl) rfl rfl (fl_field Try.underlying174 rfl rfl (fun w => ⟨_, Try.sizeOf41 w⟩) rfl) ?_
   refine WL_field Try.underlying174 rfl rfl (fun w => ⟨_, Try.sizeOf41 w⟩) rfl rfl ?_
   refine WL_nil ?_
   refine WA_tk 5 (by kernel_rfl) rfl rfl (fl_move rfl) ?_
   refine WL_move rfl rfl ?_
   refine WL_nil ?_
   refine WA_tk 6 (by kernel_rfl) rfl rfl (fl_nilCheck rfl) ?_
   refine WL_nilCheck rfl rfl ?_
   refine WL_nil ?_
   refine WA_tk 7 (by kernel_rfl) rfl rfl (fl_field Try.underlying174 rfl rfl (fun w => ⟨_, Try.sizeOf3 w⟩) rfl) ?_
   refine WL_field Try.underlying174 rfl rfl (fun w => ⟨_, Try.sizeOf3 w⟩) rfl rfl ?_
   refine WL_nil ?_
   refine WA.sub (l' := [(0, (ptr pb1 0)), (2, (.int .i64 0)), (3, (.int .i64 (band (bxor (shr (w64 ((w64 (a1.2.2 * 6364136223846793005)) + 1442695040888963407)) 33) (shr (w64 ((w64 (a1.2.2 * 6364136223846793005)) + 1442695040888963407)) 45)) 255))), (4, (ptr pb1 0)), (5, (ptr pb1 0)), (6, (ptr pb1 0)), (7, (ptr pb1 2)), (8, (.int .i64 a1.2.2)), (9, (.int .i64 (w64 (a1.2.2 * 6364136223846793005)))), (10, (.int .i64 (w64 ((w64 (a1.2.2 * 6364136223846793005)) + 1442695040888963407)))), (11, (ptr pb1 0)), (12, (ptr pb1 2)), (13, (ptr pb1 0)), (14, (ptr pb1 0)), (15, (ptr pb1 2)), (16, (.int .i64 (w64 ((w64 (a1.2.2 * 6364136223846793005)) + 1442695040888963407)))), (17, (.int .i64 (shr (w64 ((w64 (a1.2.2 * 6364136223846793005)) + 1442695040888963407)) 33))), (18, (ptr pb1 0)), (19, (ptr pb1 0)), (20, (ptr pb1 2)), (21, (.int .i64 (w64 ((w64 (a1.2.2 * 6364136223846793005)) + 1442695040888963407)))), (22, (.int .i64 (shr (w64 ((w64 (a1.2.2 * 6364136223846793005)) + 1442695040888963407)) 45))), (23, (.int .i64 (bxor (shr (w64 ((w64 (a1.2.2 * 6364136223846793005)) + 1442695040888963407)) 33) (shr (w64 ((w64 (a1.2.2 * 6364136223846793005)) + 1442695040888963407)) 45)))), (24, (.int .i64 (band (bxor (shr (w64 ((w64 (a1.2.2 * 6364136223846793005)) + 1442695040888963407)) 33) (shr (w64 ((w64 (a1.2.2 * 6364136223846793005)) + 1442695040888963407)) 45)) 255))), (25, (ptr pb1 0)), (26, (ptr pb1 0)), (27, (ptr pb1 1)), (28, (.int .i64 a1.2.1)), (29, (ptr pb1 0)), (30, (ptr pb1 0)), (31, (ptr pb1 0)), (32, u1), (33, (.int .i64 (List.length a1.1 : Int))), (34, (.bool (decide (a1.2.1 < (List.length a1.1 : Int))))), (35, (.int .i64 (band (bxor (shr (w64 ((w64 (a1.2.2 * 6364136223846793005)) + 1442695040888963407)) 33) (shr (w64 ((w64 (a1.2.2 * 6364136223846793005)) + 1442695040888963407)) 45)) 255))), (36, (ptr pb1 0)), (37, (ptr pb1 0)), (38, (ptr pb1 0)), (40, (ptr pb1 0)), (41, (ptr pb1 0)), (42, (ptr pb1 1))]) ?_ ⟨rfl, rfl, rfl, rfl, rfl, rfl, rfl, rfl, rfl, rfl, rfl, rfl, rfl, rfl, rfl, rfl, rfl, rfl, rfl, rfl, rfl, rfl, rfl, rfl, rfl, rfl, rfl, rfl, rfl, rfl, rfl, rfl, rfl, rfl, rfl, rfl, rfl, rfl, rfl, rfl, rfl, trivial⟩
   refine WA_postsE [⟨4, [], fun vs => PW.val u1, []⟩, ⟨8, [], fun vs => PW.val (.int .i64 a1.2.1), []⟩] [[], []] 6 rfl (by kernel_rfl) (by kernel_rfl) rfl ?_ ?_
   ·refine StepsE_cons rfl ?_ ?_
    ·intro w11 hB9
     refine DepsE_nil ?_
     refine ⟨_, rfl, ?_⟩
     refine WL_load_box (hC7.grow hB9) 0 rfl rfl Try.isAgg41 rfl rfl ?_
     refine WL_nil ?_
     exact FinE_val (Below.refl _ _) rfl rfl ⟨rfl, rfl⟩
    refine StepsE_cons rfl ?_ ?_
    ·intro w11 hB9
     refine DepsE_nil ?_
     refine ⟨_, rfl, ?_⟩
     refine WL_load_box (hC7.grow hB9) 0 rfl rfl Try.isAgg3 rfl rfl ?_
     refine WL_nil ?_
     exact FinE_val (Below.refl _ _) rfl rfl ⟨rfl, rfl⟩
    exact StepsE_nil
   intro w12 hB10
   refine AllE_cons rfl rfl rfl ?_
   rintro _ _ ⟨rfl, rfl⟩
   refine AllE_cons rfl rfl rfl ?_
   rintro _ _ ⟨rfl, rfl⟩
   refine AllE_nil ?_
   intro hn3 hb3
   have hC8 := hC7.grow hB10
   obtain ⟨x4, hx1, hr1⟩ := bind_some hr1
   refine WA_tk 9 (by kernel_rfl) rfl rfl (fl_index Try.underlying41 ty5 g1 hx1 rfl rfl) ?_
   refine WL_index Try.underlying41 ty5 g1 hx1 rfl rfl rfl (fun b1 o1 h1 => ?_)
   refine WL_nil ?_
   refine WA_one 10 (by kernel_rfl) rfl ?_
   refine WL_load ty5 h1 hC8.keep rfl rfl (fun v1 h2 => ?_)
   obtain rfl := ro_u8 h2
   refine WL_nil ?_
   refine WA_tk 11 (by kernel_rfl) rfl rfl (fl_conv_int Try.underlying5 Try.underlying3 rfl) ?_
   refine WL_conv_i64 Try.underlying5 Try.underlying3 rfl rfl ?_
   refine WL_nil ?_
   refine WA_tk 12 (by kernel_rfl) rfl rfl (fl_add rfl rfl) ?_
   refine WL_add rfl rfl rfl ?_
   refine WL_nil ?_
   refine WA_tk 13 (by kernel_rfl) rfl rfl (fl_band rfl rfl) ?_
   refine WL_band rfl rfl rfl ?_
   refine WL_nil ?_
   refine WA_tk 14 (by kernel_rfl) rfl rfl (fl_assign rfl) ?_
   refine WL_assign rfl rfl ?_
   refine WL_nil ?_
   refine WA_done (by kernel_rfl) ?_
   refine nrm_normal ?_
   refine W_reg ?_
   refine WL_move rfl rfl ?_
   refine WL_move rfl rfl ?_
   refine WL_nilCheck rfl rfl ?_
   refine WL_field Try.underlying174 rfl rfl (fun w => ⟨_, Try.sizeOf3 w⟩) rfl rfl ?_
   refine WL_load_box hC8 0 rfl rfl Try.isAgg3 rfl rfl ?_
   refine WL_add rfl rfl rfl ?_
   refine WL_nilCheck rfl rfl ?_
   refine WL_field Try.underlying174 rfl rfl (fun w => ⟨_, Try.sizeOf3 w⟩) rfl rfl ?_
   refine WL_store_box (cs' := [u1, (.int .i64 (w64 (a1.2.1 + 1))), (.int .i64 (w64 ((w64 (a1.2.2 * 6364136223846793005)) + 1442695040888963407)))]) hC8 0 rfl rfl rfl rfl Try.sizeOf3 rfl rfl (fun w13 hC9 => ?_)
   try dsimp only [List.set] at hC9
   refine WL_nil ?_
   have hq1 := Option.some.inj hr1
   subst hq1
   refine nrm_sub (l' := [(3, (.int .i64 (band (w64 ((band (bxor (shr (w64 ((w64 (a1.2.2 * 6364136223846793005)) + 1442695040888963407)) 33) (shr (w64 ((w64 (a1.2.2 * 6364136223846793005)) + 1442695040888963407)) 45)) 255) + (w64 (UInt8.toNat x4 : Int)))) 255)))]) ⟨rfl, trivial⟩ ?_
   exact ⟨w64 (a1.2.1 + 1), w64 ((w64 (a1.2.2 * 6364136223846793005)) + 1442695040888963407), band (w64 ((band (bxor (shr (w64 ((w64 (a1.2.2 * 6364136223846793005)) + 1442695040888963407)) 33) (shr (w64 ((w64 (a1.2.2 * 6364136223846793005)) + 1442695040888963407)) 45)) 255) + (w64 (UInt8.toNat x4 : Int)))) 255, rfl, rfl, hC9⟩
  replace hr1 := ite_f hr1 hc1
  refine W_skip ?_
  have hq2 := Option.some.inj hr1
  subst hq2
  refine nrm_sub (l' := [(3, (.int .i64 (band (bxor (shr (w64 ((w64 (a1.2.2 * 6364136223846793005)) + 1442695040888963407)) 33) (shr (w64 ((w64 (a1.2.2 * 6364136223846793005)) + 1442695040888963407)) 45)) 255)))]) ⟨rfl, trivial⟩ ?_
  exact ⟨a1.2.1, w64 ((w64 (a1.2.2 * 6364136223846793005)) + 1442695040888963407), band (bxor (shr (w64 ((w64 (a1.2.2 * 6364136223846793005)) + 1442695040888963407)) 33) (shr (w64 ((w64 (a1.2.2 * 6364136223846793005)) + 1442695040888963407)) 45)) 255, rfl, rfl, hC5⟩
 rintro l1 _ w9 hs1 ⟨x1, x2, x3, rfl, rfl, hC6⟩
 try dsimp only at hF
 refine nrm_sub' hs1 ?_
 clear hs1
 refine W_seq_reg ?_
 refine WL_move rfl rfl ?_
 refine WL_assign rfl rfl ?_
 refine WL_nil ?_
 refine W_ret ?_
 have hq3 := Option.some.inj hF
 subst hq3
 refine fn_ret1 rfl rfl ?_
 exact ⟨_, rfl, rfl, hC6⟩

theorem c_S_l1Below {w0 : World} {Fs : List (List Nat)} (pb1 : Nat) (a1 : ((List UInt8) × Int × Int)) (u1 : Value) (g1 : RO Fs.flatten w0 u1 a1.1) (a2 : Int) (hH : Hold [Item.box pb1 [u1, (.int .i64 a1.2.1), (.int .i64 a1.2.2)]] w0 Fs) (hn : Fs.flatten.Nodup) (rr : (Int × ((List UInt8) × Int × Int))) (hF : S.l1Below a1 a2 = some rr) :
 Calls Try.prog 104 [(ptr pb1 0), (.int .i64 a2)].toArray w0 fun e w' => ∃ v, e = .returned v ∧ v = (.int .i64 rr.1) ∧ Ctx Fs.flatten w0 w' [Item.box pb1 [u1, (.int .i64 rr.2.2.1), (.int .i64 rr.2.2.2)]] := by
 refine calls_of_W Try.func104 rfl rfl ?_
 have hC0 := Ctx.startIn hH hn
 unfold S.l1Below at hF
 refine W_seq_reg ?_
 refine WL_assign rfl rfl ?_
 refine WL_nil ?_
 refine W_seq ?_
 refine W_seq_reg ?_
 refine WL_move rfl rfl ?_
 refine WL_leq rfl rfl rfl ?_
 refine WL_nil ?_
 refine W_cond rfl (fun hc1 => ?_) (fun hc1 => ?_)
 ·replace hF := ite_t hF hc1
  refine W_seq_reg ?_
  refine WL_assign rfl rfl ?_
  refine WL_nil ?_
  refine W_ret ?_
  refine nrm_ret ?_
  have hq1 := Option.some.inj hF
  subst hq1
  refine fn_ret1 rfl rfl ?_
  exact ⟨_, rfl, rfl, hC0⟩
 replace hF := ite_f hF hc1
 refine W_skip ?_
 refine nrm_normal ?_
 refine W_seq ?_
 refine W_seq_reg ?_
 refine WL_move rfl rfl ?_
 refine WL_leq rfl rfl rfl ?_
 refine WL_nil ?_
 refine W_cond rfl (fun hc2 => ?_) (fun hc2 => ?_)
 ·replace hF := ite_t hF hc2
  refine W_seq_reg ?_
  refine WL_move rfl rfl ?_
  obtain ⟨x1, hr1, hF⟩ := bind_some hF
  obtain ⟨Fs1, hH1, hn1, hF1, hO1, hb1⟩ := Ctx.lend2 (As := []) [Item.box pb1 [u1, (.int .i64 a1.2.1), (.int .i64 a1.2.2)]] hC0
  refine WL_call Try.call138 rfl rfl (c_S_l1Byte pb1 (a1.1, a1.2.1, a1.2.2) u1 (RO.lent g1 hC0.keep hF1) hH1 hn1 x1 hr1) ?_
  rintro _ w1 ⟨rfl, hq2⟩
  have hC1 : Ctx Fs.flatten w0 w1 [Item.box pb1 [u1, (.int .i64 x1.2.2.1), (.int .i64 x1.2.2.2)]] := hb1 _ _ hq2
  refine WL_move rfl rfl ?_
  obtain ⟨_, hx1, hF⟩ := bind_some hF
  refine WL_rem (nz_some hx1) rfl rfl rfl ?_
  refine WL_assign rfl rfl ?_
  refine WL_nil ?_
  refine W_ret ?_
  refine nrm_ret ?_
  have hq3 := Option.some.inj hF
  subst hq3
  refine fn_ret1 rfl rfl ?_
  exact ⟨_, rfl, rfl, hC1⟩
 replace hF := ite_f hF hc2
 refine W_skip ?_
 refine nrm_normal ?_
 refine W_seq_reg ?_
 refine WL_move rfl rfl ?_
 obtain ⟨x2, hr2, hF⟩ := bind_some hF
 obtain ⟨Fs2, hH2, hn2, hF2, hO2, hb2⟩ := Ctx.lend2 (As := []) [Item.box pb1 [u1, (.int .i64 a1.2.1), (.int .i64 a1.2.2)]] hC0
 refine WL_call Try.call138 rfl rfl (c_S_l1Byte pb1 (a1.1, a1.2.1, a1.2.2) u1 (RO.lent g1 hC0.keep hF2) hH2 hn2 x2 hr2) ?_
 rintro _ w2 ⟨rfl, hq4⟩
 have hC2 : Ctx Fs.flatten w0 w2 [Item.box pb1 [u1, (.int .i64 x2.2.2.1), (.int .i64 x2.2.2.2)]] := hb2 _ _ hq4
 refine WL_assign rfl rfl ?_
 refine WL_nil ?_
 refine W_seq_reg ?_
 refine WL_move rfl rfl ?_
 obtain ⟨x3, hr3, hF⟩ := bind_some hF
 obtain ⟨Fs3, hH3, hn3, hF3, hO3, hb3⟩ := Ctx.lend2 (As := []) [Item.box pb1 [u1, (.int .i64 x2.2.2.1), (.int .i64 x2.2.2.2)]] hC2
 refine WL_call Try.call138 rfl rfl (c_S_l1Byte pb1 (a1.1, x2.2.2.1, x2.2.2.2) u1 (RO.lent g1 hC2.keep hF3) hH3 hn3 x3 hr3) ?_
 rintro _ w3 ⟨rfl, hq5⟩
 have hC3 : Ctx Fs.flatten w0 w3 [Item.box pb1 [u1, (.int .i64 x3.2.2.1), (.int .i64 x3.2.2.2)]] := hb3 _ _ hq5
 refine WL_assign rfl rfl ?_
 refine WL_nil ?_
 refine W_seq_reg ?_
 refine WL_move rfl rfl ?_
 obtain ⟨x4, hr4, hF⟩ := bind_some hF
 obtain ⟨Fs4, hH4, hn4, hF4, hO4, hb4⟩ := Ctx.lend2 (As := []) [Item.box pb1 [u1, (.int .i64 x3.2.2.1), (.int .i64 x3.2.2.2)]] hC3
 refine WL_call Try.call138 rfl rfl (c_S_l1Byte pb1 (a1.1, x3.2.2.1, x3.2.2.2) u1 (RO.lent g1 hC3.keep hF4) hH4 hn4 x4 hr4) ?_
 rintro _ w4 ⟨rfl, hq6⟩
 have hC4 : Ctx Fs.flatten w0 w4 [Item.box pb1 [u1, (.int .i64 x4.2.2.1), (.int .i64 x4.2.2.2)]] := hb4 _ _ hq6
 refine WL_assign rfl rfl ?_
 refine WL_nil ?_
 refine W_seq_reg ?_
 refine WL_move rfl rfl ?_
 obtain ⟨x5, hr5, hF⟩ := bind_some hF
 obtain ⟨Fs5, hH5, hn5, hF5, hO5, hb5⟩ := Ctx.lend2 (As := []) [Item.box pb1 [u1, (.int .i64 x4.2.2.1), (.int .i64 x4.2.2.2)]] hC4
 refine WL_call Try.call138 rfl rfl (c_S_l1Byte pb1 (a1.1, x4.2.2.1, x4.2.2.2) u1 (RO.lent g1 hC4.keep hF5) hH5 hn5 x5 hr5) ?_
 rintro _ w5 ⟨rfl, hq7⟩
 have hC5 : Ctx Fs.flatten w0 w5 [Item.box pb1 [u1, (.int .i64 x5.2.2.1), (.int .i64 x5.2.2.2)]] := hb5 _ _ hq7
 refine WL_assign rfl rfl ?_
 refine WL_nil ?_
 refine W_seq_reg ?_
 refine WL_move rfl rfl ?_
 refine WL_mul rfl rfl rfl ?_
 refine WL_move rfl rfl ?_
 refine WL_mul rfl rfl rfl ?_
 refine WL_add rfl rfl rfl ?_
 refine WL_move rfl rfl ?_
 refine WL_mul rfl rfl rfl ?_
 refine WL_add rfl rfl rfl ?_
 refine WL_move rfl rfl ?_
 refine WL_add rfl rfl rfl ?_
 refine WL_move rfl rfl ?_
 obtain ⟨_, hx2, hF⟩ := bind_some hF
 refine WL_rem (nz_some hx2) rfl rfl rfl ?_
 refine WL_assign rfl rfl ?_
 refine WL_nil ?_
 refine W_ret ?_
 have hq8 := Option.some.inj hF
 subst hq8
 refine fn_ret1 rfl rfl ?_
 exact ⟨_, rfl, rfl, hC5⟩

theorem c_S_l1PickInt {w0 : World} {Fs : List (List Nat)} (pb1 : Nat) (a1 : ((List UInt8) × Int × Int)) (u1 : Value) (g1 : RO Fs.flatten w0 u1 a1.1) (a2 : (List Int)) (u2 : Value) (g2 : RO Fs.flatten w0 u2 a2) (hH : Hold [Item.box pb1 [u1, (.int .i64 a1.2.1), (.int .i64 a1.2.2)]] w0 Fs) (hn : Fs.flatten.Nodup) (rr : (Int × ((List UInt8) × Int × Int))) (hF : S.l1PickInt a1 a2 = some rr) :
 Calls Try.prog 136 [(ptr pb1 0), u2].toArray w0 fun e w' => ∃ v, e = .returned v ∧ v = (.int .i64 rr.1) ∧ Ctx Fs.flatten w0 w' [Item.box pb1 [u1, (.int .i64 rr.2.2.1), (.int .i64 rr.2.2.2)]] := by
 refine calls_of_W Try.func136 rfl rfl ?_
 have hC0 := Ctx.startIn hH hn
 unfold S.l1PickInt at hF
 refine W_seq_reg ?_
 refine WL_assign rfl rfl ?_
 refine WL_nil ?_
 refine W_seq_reg ?_
 refine WL_move rfl rfl ?_
 refine WL_move rfl rfl ?_
 refine WL_move rfl rfl ?_
 refine WL_len Try.underlying22 g2 rfl rfl ?_
 obtain ⟨x1, hr1, hF⟩ := bind_some hF
 obtain ⟨Fs1, hH1, hn1, hF1, hO1, hb1⟩ := Ctx.lend2 (As := []) [Item.box pb1 [u1, (.int .i64 a1.2.1), (.int .i64 a1.2.2)]] hC0
 refine WL_call Try.call104 rfl rfl (c_S_l1Below pb1 (a1.1, a1.2.1, a1.2.2) u1 (RO.lent g1 hC0.keep hF1) (List.length a2 : Int) hH1 hn1 x1 hr1) ?_
 rintro _ w1 ⟨rfl, hq1⟩
 have hC1 : Ctx Fs.flatten w0 w1 [Item.box pb1 [u1, (.int .i64 x1.2.2.1), (.int .i64 x1.2.2.2)]] := hb1 _ _ hq1
 obtain ⟨x2, hx1, hF⟩ := bind_some hF
 refine WL_index Try.underlying22 ty3 g2 hx1 rfl rfl rfl (fun b1 o1 h1 => ?_)
 refine WL_load ty3 h1 hC1.keep rfl rfl (fun v1 h2 => ?_)
 obtain rfl := ro_int h2
 refine WL_assign rfl rfl ?_
 refine WL_nil ?_
 refine W_ret ?_
 have hq2 := Option.some.inj hF
 subst hq2
 refine fn_ret1 rfl rfl ?_
 exact ⟨_, rfl, rfl, hC1⟩

theorem c_S_l27Ledger {w0 : World} {Fs : List (List Nat)} (pb1 : Nat) (a1 : ((List UInt8) × Int × Int)) (u1 : Value) (g1 : RO Fs.flatten w0 u1 a1.1) (hH : Hold [Item.box pb1 [u1, (.int .i64 a1.2.1), (.int .i64 a1.2.2)]] w0 Fs) (hn : Fs.flatten.Nodup) (rr : (((List Int) × Int × Int) × ((List UInt8) × Int × Int))) (hF : S.l27Ledger a1 = some rr) :
 Calls Try.prog 99 [(ptr pb1 0)].toArray w0 fun e w' => ∃ v, e = .returned v ∧ ∃ q0 : Value, v = q0 ∧ Ctx Fs.flatten w0 w' [Item.own q0 (rr.1 : ((List Int) × Int × Int)), Item.box pb1 [u1, (.int .i64 rr.2.2.1), (.int .i64 rr.2.2.2)]] := by
 refine calls_of_W Try.func99 rfl rfl ?_
 have hC0 := Ctx.startIn hH hn
 unfold S.l27Ledger at hF
 refine W_seq_reg ?_
 refine WL_alloc hC0 zero26 rfl rfl (fun b1 w1 hC1 hB1 => ?_)
 refine WL_nil ?_
 refine W_seq_reg ?_
 refine WL_build (vs := []) rfl rfl rfl built26 ?_
 refine WL_alloc hC1 zero26 rfl rfl (fun b2 w2 hC2 hB2 => ?_)
 refine WL_store_box_agg (cs' := [(.slice none 0 0), (.int .i64 0), (.int .i64 0)]) (new := [(.slice none 0 0), (.int .i64 0), (.int .i64 0)]) hC2 0 rfl rfl (by intro v hv; simp only [List.mem_cons, List.not_mem_nil, or_false] at hv; rcases hv with rfl | rfl | rfl; exact rfl; exact rfl; exact rfl) rfl Try.sizeOf26 rfl rfl (fun w3 hC3 => ?_)
 try dsimp only [List.set] at hC3
 refine WL_nil ?_
 refine W_seq ?_
 refine W_seq_reg ?_
 refine WL_move rfl rfl ?_
 obtain ⟨x1, hr1, hF⟩ := bind_some hF
 have hC4 := hC3.f2
 obtain ⟨Fs1, hH1, hn1, hF1, hO1, hb1⟩ := Ctx.lend2 (As := [Item.box b2 [(.slice none 0 0), (.int .i64 0), (.int .i64 0)], Item.box b1 [(.slice none 0 0), (.int .i64 0), (.int .i64 0)]]) [Item.box pb1 [u1, (.int .i64 a1.2.1), (.int .i64 a1.2.2)]] hC4
 refine WL_call Try.call104 rfl rfl (c_S_l1Below pb1 (a1.1, a1.2.1, a1.2.2) u1 (RO.lent g1 hC4.keep hF1) 5 hH1 hn1 x1 hr1) ?_
 rintro _ w4 ⟨rfl, hq1⟩
 have hC5 : Ctx Fs.flatten w0 w4 [Item.box pb1 [u1, (.int .i64 x1.2.2.1), (.int .i64 x1.2.2.2)], Item.box b2 [(.slice none 0 0), (.int .i64 0), (.int .i64 0)], Item.box b1 [(.slice none 0 0), (.int .i64 0), (.int .i64 0)]] := hb1 _ _ hq1
 refine WL_assign rfl rfl ?_
 refine WL_nil ?_
 obtain ⟨r1, hr2, hF⟩ := bind_some hF
 refine W_norm (fun l w => ∃ x8 : Int, ∃ x9 : Int, ∃ v2 : Value, ∃ x10 : (List Int), ∃ x11 : Int, ∃ x12 : Int, (x8, x9, x10, x11, x12) = r1 ∧ l = [(0, (ptr pb1 0)), (2, (ptr b1 0)), (3, (ptr b2 0))] ∧ Ctx Fs.flatten w0 w [Item.own v2 (x10 : (List Int)), Item.box pb1 [u1, (.int .i64 x8), (.int .i64 x9)], Item.box b2 [v2, (.int .i64 x11), (.int .i64 x12)], Item.box b1 [(.slice none 0 0), (.int .i64 0), (.int .i64 0)]]) ?_ ?_
 ·refine W_block ?_
  have hC24 := hC5.triv (nil_val (α := Int))
  refine W.sub (l' := [(0, (ptr pb1 0)), (2, (ptr b1 0)), (3, (ptr b2 0)), (4, (.int .i64 x1.1))]) ?_ ⟨rfl, rfl, rfl, rfl, trivial⟩
  refine W_loop (fun k l w => ∃ x2 : Int, ∃ x3 : Int, ∃ v1 : Value, ∃ x4 : (List Int), ∃ x5 : Int, ∃ x6 : Int, ∃ x7 : Int, l = [(0, (ptr pb1 0)), (2, (ptr b1 0)), (3, (ptr b2 0)), (4, (.int .i64 x7))] ∧ Ctx Fs.flatten w0 w [Item.own v1 (x4 : (List Int)), Item.box pb1 [u1, (.int .i64 x2), (.int .i64 x3)], Item.box b2 [v1, (.int .i64 x5), (.int .i64 x6)], Item.box b1 [(.slice none 0 0), (.int .i64 0), (.int .i64 0)]] ∧ S.l27Ledger_l1 a1 k x2 x3 x4 x5 x6 x7 = some r1) FUEL ⟨x1.2.2.1, x1.2.2.2, (.slice none 0 0), [], 0, 0, x1.1, rfl, hC24, hr2⟩ ?_
  clear hr2
  rintro k1 _ w5 ⟨x2, x3, v1, x4, x5, x6, x7, rfl, hC6, hL1⟩
  cases k1 with
  | zero => rw [S.l27Ledger_l1] at hL1; cases hL1
  | succ k1 =>
   rw [S.l27Ledger_l1] at hL1
   refine W_seq ?_
   refine W_seq_reg ?_
   refine WL_move rfl rfl ?_
   refine WL_gtr rfl rfl rfl ?_
   refine WL_nil ?_
   refine W_cond rfl (fun hc1 => ?_) (fun hc1 => ?_)
   ·replace hL1 := ite_t hL1 hc1
    refine W_skip ?_
    refine nrm_normal ?_
    refine W_seq ?_
    refine W_block ?_
    refine W_seq_reg ?_
    refine WL_move rfl rfl ?_
    obtain ⟨x13, hr3, hL1⟩ := bind_some hL1
    have hC7 := hC6.f1
    obtain ⟨Fs2, hH2, hn2, hF2, hO2, hb2⟩ := Ctx.lend2 (As := [Item.own v1 (x4 : (List Int)), Item.box b2 [v1, (.int .i64 x5), (.int .i64 x6)], Item.box b1 [(.slice none 0 0), (.int .i64 0), (.int .i64 0)]]) [Item.box pb1 [u1, (.int .i64 x2), (.int .i64 x3)]] hC7
    refine WL_call Try.call104 rfl rfl (c_S_l1Below pb1 (a1.1, x2, x3) u1 (RO.lent g1 hC7.keep hF2) 8 hH2 hn2 x13 hr3) ?_
    rintro _ w6 ⟨rfl, hq2⟩
    have hC8 : Ctx Fs.flatten w0 w6 [Item.box pb1 [u1, (.int .i64 x13.2.2.1), (.int .i64 x13.2.2.2)], Item.own v1 (x4 : (List Int)), Item.box b2 [v1, (.int .i64 x5), (.int .i64 x6)], Item.box b1 [(.slice none 0 0), (.int .i64 0), (.int .i64 0)]] := hb2 _ _ hq2
    refine WL_assign rfl rfl ?_
    refine WL_nil ?_
    obtain ⟨r2, hr4, hL1⟩ := bind_some hL1
    refine W_norm (fun l w => ∃ x14 : Int, ∃ x15 : Int, ∃ v3 : Value, ∃ x16 : (List Int), ∃ x17 : Int, ∃ x18 : Int, (x14, x15, x16, x17, x18) = r2 ∧ l = [(0, (ptr pb1 0)), (2, (ptr b1 0)), (3, (ptr b2 0)), (4, (.int .i64 x7))] ∧ Ctx Fs.flatten w0 w [Item.box pb1 [u1, (.int .i64 x14), (.int .i64 x15)], Item.own v3 (x16 : (List Int)), Item.box b2 [v3, (.int .i64 x17), (.int .i64 x18)], Item.box b1 [(.slice none 0 0), (.int .i64 0), (.int .i64 0)]]) ?_ ?_
    ·refine W_drawn 9 rfl hmix (fun w9 hB5 => ?_)
     have hC10 := hC8.grow hB5
     refine WA_tk 1 (by kernel_rfl) rfl rfl (fl_move rfl) ?_
     refine WL_move rfl rfl ?_
     refine WL_nil ?_
     refine WA_tk 2 (by kernel_rfl) rfl rfl (fl_move rfl) ?_
     refine WL_move rfl rfl ?_
     refine WL_nil ?_
     refine WA_all2 (i := 0) (j := 3) (by kernel_rfl) rfl rfl ?_ ?_
     ·refine WL_load_box_agg [v1, (.int .i64 x5), (.int .i64 x6)] hC10 2 rfl rfl rfl Try.isAgg26 Try.sizeOf26 rfl rfl ?_
      refine WL_nil ?_
      obtain ⟨x19, hr5, hr4⟩ := bind_some hr4
      refine WA_one 3 (by kernel_rfl) rfl ?_
      obtain ⟨Fs3, hH3, hn3, hF3, hO3, hb3⟩ := Ctx.lend2 (As := [Item.own v1 (x4 : (List Int)), Item.box b2 [v1, (.int .i64 x5), (.int .i64 x6)], Item.box b1 [(.slice none 0 0), (.int .i64 0), (.int .i64 0)]]) [Item.box pb1 [u1, (.int .i64 x13.2.2.1), (.int .i64 x13.2.2.2)]] hC10
      refine WL_call Try.call104 rfl rfl (c_S_l1Below pb1 (a1.1, x13.2.2.1, x13.2.2.2) u1 (RO.lent g1 hC10.keep hF3) 5 hH3 hn3 x19 hr5) ?_
      rintro _ w10 ⟨rfl, hq3⟩
      have hC11 : Ctx Fs.flatten w0 w10 [Item.box pb1 [u1, (.int .i64 x19.2.2.1), (.int .i64 x19.2.2.2)], Item.own v1 (x4 : (List Int)), Item.box b2 [v1, (.int .i64 x5), (.int .i64 x6)], Item.box b1 [(.slice none 0 0), (.int .i64 0), (.int .i64 0)]] := hb3 _ _ hq3
      refine WL_nil ?_
      obtain ⟨x20, hr6, hr4⟩ := bind_some hr4
      refine WA_one 4 (by kernel_rfl) rfl ?_
      refine WL_call Try.call16 rfl rfl (c_S_ReceiveCall (x4, x5, x6) v1 ((hC11.ro 1 rfl).now (Keep.refl _ _)) x13.1 x19.1 x20 hr6) ?_
      rintro _ w11 ⟨hB6, v4, v5, F1, F2, rfl, hv1, hv2, hn4, hb4⟩
      obtain ⟨rfl, rfl⟩ := val_bool hv2
      have hC12 := hC11.pushL hB6 (Bs := [Item.own v4 x20.1]) (Fs := [F1]) ⟨F1, _, rfl, hv1, rfl⟩ (by simpa using hn4) (fun b h => hb4 b (by simpa using h))
      obtain ⟨v6, rfl, hC13⟩ := st26_own hC12
      refine WL_nil ?_
      refine WA_tk 5 (by kernel_rfl) rfl rfl (fl_move rfl) ?_
      refine WL_move rfl rfl ?_
      refine WL_nil ?_
      refine WA_tk 6 (by kernel_rfl) rfl rfl (fl_extract rfl rfl) ?_
      refine WL_extract rfl rfl rfl ?_
      refine WL_nil ?_
      refine WA_tk 7 (by kernel_rfl) rfl rfl (fl_extract rfl rfl) ?_
      refine WL_extract rfl rfl rfl ?_
      refine WL_nil ?_
      refine WA_one 8 (by kernel_rfl) rfl ?_
      refine WL_store_box_agg (cs' := [v6, (.int .i64 x20.1.2.1), (.int .i64 x20.1.2.2)]) (new := [v6, (.int .i64 x20.1.2.1), (.int .i64 x20.1.2.2)]) hC13 3 rfl rfl (by intro v hv; simp only [List.mem_cons, List.not_mem_nil, or_false] at hv; rcases hv with rfl | rfl | rfl; exact (ro_one (hC13.ro 0 rfl)); exact rfl; exact rfl) rfl Try.sizeOf26 rfl rfl (fun w12 hC14 => ?_)
      try dsimp only [List.set] at hC14
      refine WL_nil ?_
      refine WA_done (by kernel_rfl) ?_
      have hq4 := Option.some.inj hr4
      subst hq4
      have hC15 := hC14.f4
      have hC16 := hC15.f4
      have hC17 := hC16.f2
      have hC18 := hC17.f3
      have hC19 := hC18.h4
      refine nrm_sub (l' := [(0, (ptr pb1 0)), (2, (ptr b1 0)), (3, (ptr b2 0)), (4, (.int .i64 x7))]) ⟨rfl, rfl, rfl, rfl, trivial⟩ ?_
      exact ⟨x19.2.2.1, x19.2.2.2, v6, x20.1.1, x20.1.2.1, x20.1.2.2, rfl, rfl, hC19⟩
     obtain ⟨x19, hr5, hr4⟩ := bind_some hr4
     obtain ⟨Fs3, hH3, hn3, hF3, hO3, hb3⟩ := Ctx.lend2 (As := [Item.own v1 (x4 : (List Int)), Item.box b2 [v1, (.int .i64 x5), (.int .i64 x6)], Item.box b1 [(.slice none 0 0), (.int .i64 0), (.int .i64 0)]]) [Item.box pb1 [u1, (.int .i64 x13.2.2.1), (.int .i64 x13.2.2.2)]] hC10
     refine WL_call Try.call104 rfl rfl (c_S_l1Below pb1 (a1.1, x13.2.2.1, x13.2.2.2) u1 (RO.lent g1 hC10.keep hF3) 5 hH3 hn3 x19 hr5) ?_
     rintro _ w10 ⟨rfl, hq3⟩
     have hC11 : Ctx Fs.flatten w0 w10 [Item.box pb1 [u1, (.int .i64 x19.2.2.1), (.int .i64 x19.2.2.2)], Item.own v1 (x4 : (List Int)), Item.box b2 [v1, (.int .i64 x5), (.int .i64 x6)], Item.box b1 [(.slice none 0 0), (.int .i64 0), (.int .i64 0)]] := hb3 _ _ hq3
     refine WL_nil ?_
     refine WA_one 0 (by kernel_rfl) rfl ?_
     refine WL_load_box_agg [v1, (.int .i64 x5), (.int .i64 x6)] hC11 2 rfl rfl rfl Try.isAgg26 Try.sizeOf26 rfl rfl ?_
     refine WL_nil ?_
     obtain ⟨x20, hr6, hr4⟩ := bind_some hr4
     refine WA_one 4 (by kernel_rfl) rfl ?_
     refine WL_call Try.call16 rfl rfl (c_S_ReceiveCall (x4, x5, x6) v1 ((hC11.ro 1 rfl).now (Keep.refl _ _)) x13.1 x19.1 x20 hr6) ?_
     rintro _ w11 ⟨hB6, v4, v5, F1, F2, rfl, hv1, hv2, hn4, hb4⟩
     obtain ⟨rfl, rfl⟩ := val_bool hv2
     have hC12 := hC11.pushL hB6 (Bs := [Item.own v4 x20.1]) (Fs := [F1]) ⟨F1, _, rfl, hv1, rfl⟩ (by simpa using hn4) (fun b h => hb4 b (by simpa using h))
     obtain ⟨v6, rfl, hC13⟩ := st26_own hC12
     refine WL_nil ?_
     refine WA_tk 5 (by kernel_rfl) rfl rfl (fl_move rfl) ?_
     refine WL_move rfl rfl ?_
     refine WL_nil ?_
     refine WA_tk 6 (by kernel_rfl) rfl rfl (fl_extract rfl rfl) ?_
     refine WL_extract rfl rfl rfl ?_
     refine WL_nil ?_
     refine WA_tk 7 (by kernel_rfl) rfl rfl (fl_extract rfl rfl) ?_
     refine WL_extract rfl rfl rfl ?_
     refine WL_nil ?_
     refine WA_one 8 (by kernel_rfl) rfl ?_
     refine WL_store_box_agg (cs' := [v6, (.int .i64 x20.1.2.1), (.int .i64 x20.1.2.2)]) (new := [v6, (.int .i64 x20.1.2.1), (.int .i64 x20.1.2.2)]) hC13 3 rfl rfl (by intro v hv; simp only [List.mem_cons, List.not_mem_nil, or_false] at hv; rcases hv with rfl | rfl | rfl; exact (ro_one (hC13.ro 0 rfl)); exact rfl; exact rfl) rfl Try.sizeOf26 rfl rfl (fun w12 hC14 => ?_)
     try dsimp only [List.set] at hC14
     refine WL_nil ?_
     refine WA_done (by kernel_rfl) ?_
     have hq4 := Option.some.inj hr4
     subst hq4
     have hC15 := hC14.f4
     have hC16 := hC15.f4
     have hC17 := hC16.f2
     have hC18 := hC17.f3
     have hC19 := hC18.h4
     refine nrm_sub (l' := [(0, (ptr pb1 0)), (2, (ptr b1 0)), (3, (ptr b2 0)), (4, (.int .i64 x7))]) ⟨rfl, rfl, rfl, rfl, trivial⟩ ?_
     exact ⟨x19.2.2.1, x19.2.2.2, v6, x20.1.1, x20.1.2.1, x20.1.2.2, rfl, rfl, hC19⟩
    rintro l2 _ w7 hs2 ⟨x14, x15, v3, x16, x17, x18, rfl, rfl, hC9⟩
    try dsimp only at hL1
    refine blk_normal ?_
    refine nrm_sub' hs2 ?_
    clear hs2
    refine W_reg ?_
    refine WL_move rfl rfl ?_
    refine WL_sub rfl rfl rfl ?_
    refine WL_assign rfl rfl ?_
    refine WL_nil ?_
    have hC20 := hC9.f3
    have hC21 := hC20.f3
    have hC22 := hC21.f2
    have hC23 := hC22.f3
    refine nrm_sub (l' := [(0, (ptr pb1 0)), (2, (ptr b1 0)), (3, (ptr b2 0)), (4, (.int .i64 (w64 (x7 - 1))))]) ⟨rfl, rfl, rfl, rfl, trivial⟩ ?_
    exact ⟨k1, Nat.lt_succ_self _, x14, x15, v3, x16, x17, x18, w64 (x7 - 1), rfl, hC23, hL1⟩
   replace hL1 := ite_f hL1 hc1
   refine W_exit ?_
   refine nrm_exit ?_
   refine nrm_exit ?_
   refine blk_exit ?_
   have hq5 := Option.some.inj hL1
   subst hq5
   refine nrm_sub (l' := [(0, (ptr pb1 0)), (2, (ptr b1 0)), (3, (ptr b2 0))]) ⟨rfl, rfl, rfl, trivial⟩ ?_
   exact ⟨x2, x3, v1, x4, x5, x6, rfl, rfl, hC6⟩
 rintro l3 _ w13 hs3 ⟨x8, x9, v2, x10, x11, x12, rfl, rfl, hC25⟩
 try dsimp only at hF
 refine nrm_sub' hs3 ?_
 clear hs3
 refine W_seq ?_
 refine W_seq_reg ?_
 refine WL_move rfl rfl ?_
 obtain ⟨x21, hr7, hF⟩ := bind_some hF
 have hC26 := hC25.f1
 obtain ⟨Fs4, hH4, hn5, hF4, hO4, hb5⟩ := Ctx.lend2 (As := [Item.own v2 (x10 : (List Int)), Item.box b2 [v2, (.int .i64 x11), (.int .i64 x12)], Item.box b1 [(.slice none 0 0), (.int .i64 0), (.int .i64 0)]]) [Item.box pb1 [u1, (.int .i64 x8), (.int .i64 x9)]] hC26
 refine WL_call Try.call104 rfl rfl (c_S_l1Below pb1 (a1.1, x8, x9) u1 (RO.lent g1 hC26.keep hF4) 12 hH4 hn5 x21 hr7) ?_
 rintro _ w14 ⟨rfl, hq6⟩
 have hC27 : Ctx Fs.flatten w0 w14 [Item.box pb1 [u1, (.int .i64 x21.2.2.1), (.int .i64 x21.2.2.2)], Item.own v2 (x10 : (List Int)), Item.box b2 [v2, (.int .i64 x11), (.int .i64 x12)], Item.box b1 [(.slice none 0 0), (.int .i64 0), (.int .i64 0)]] := hb5 _ _ hq6
 refine WL_nil ?_
 refine W_block ?_
 refine W_seq_reg ?_
 refine WL_eql rfl rfl rfl ?_
 refine WL_assign rfl rfl ?_
 refine WL_nil ?_
 obtain ⟨r3, hr8, hF⟩ := bind_some hF
 refine W_norm (fun l w => ∃ x22 : Int, ∃ x23 : Int, ∃ v7 : Value, ∃ x24 : (List Int), ∃ x25 : Int, ∃ x26 : Int, (x22, x23, x24, x25, x26) = r3 ∧ l = [(2, (ptr b1 0)), (3, (ptr b2 0))] ∧ Ctx Fs.flatten w0 w [Item.box pb1 [u1, (.int .i64 x22), (.int .i64 x23)], Item.own v7 (x24 : (List Int)), Item.box b2 [v7, (.int .i64 x25), (.int .i64 x26)], Item.box b1 [(.slice none 0 0), (.int .i64 0), (.int .i64 0)]]) ?_ ?_
 ·refine W_cond rfl (fun hc2 => ?_) (fun hc2 => ?_)
  ·replace hr8 := ite_t hr8 hc2
   obtain ⟨r4, hr9, hr8⟩ := bind_some hr8
   refine W_norm (fun l w => ∃ x27 : Int, ∃ x28 : Int, ∃ v8 : Value, ∃ x29 : (List Int), ∃ x30 : Int, ∃ x31 : Int, (x27, x28, x29, x30, x31) = r4 ∧ l = [(2, (ptr b1 0)), (3, (ptr b2 0))] ∧ Ctx Fs.flatten w0 w [Item.box pb1 [u1, (.int .i64 x27), (.int .i64 x28)], Item.own v8 (x29 : (List Int)), Item.box b2 [v8, (.int .i64 x30), (.int .i64 x31)], Item.box b1 [(.slice none 0 0), (.int .i64 0), (.int .i64 0)]]) ?_ ?_
   ·refine W_drawn 8 rfl hmix (fun w17 hB10 => ?_)
    have hC30 := hC27.grow hB10
    refine WA_tk 0 (by kernel_rfl) rfl rfl (fl_field Try.underlying26 rfl rfl (fun w => ⟨_, Try.sizeOf22 w⟩) rfl) ?_
    refine WL_field Try.underlying26 rfl rfl (fun w => ⟨_, Try.sizeOf22 w⟩) rfl rfl ?_
    refine WL_nil ?_
    refine WA_tk 2 (by kernel_rfl) rfl rfl (fl_move rfl) ?_
    refine WL_move rfl rfl ?_
    refine WL_nil ?_
    refine WA_all2 (i := 1) (j := 3) (by kernel_rfl) rfl rfl ?_ ?_
    ·refine WL_load_box hC30 2 rfl rfl Try.isAgg22 rfl rfl ?_
     refine WL_nil ?_
     obtain ⟨x32, hr10, hr9⟩ := bind_some hr9
     refine WA_one 3 (by kernel_rfl) rfl ?_
     obtain ⟨Fs5, hH5, hn6, hF5, hO5, hb6⟩ := Ctx.lend2 (As := [Item.own v2 (x10 : (List Int)), Item.box b2 [v2, (.int .i64 x11), (.int .i64 x12)], Item.box b1 [(.slice none 0 0), (.int .i64 0), (.int .i64 0)]]) [Item.box pb1 [u1, (.int .i64 x21.2.2.1), (.int .i64 x21.2.2.2)]] hC30
     refine WL_call Try.call104 rfl rfl (c_S_l1Below pb1 (a1.1, x21.2.2.1, x21.2.2.2) u1 (RO.lent g1 hC30.keep hF5) 4 hH5 hn6 x32 hr10) ?_
     rintro _ w18 ⟨rfl, hq7⟩
     have hC31 : Ctx Fs.flatten w0 w18 [Item.box pb1 [u1, (.int .i64 x32.2.2.1), (.int .i64 x32.2.2.2)], Item.own v2 (x10 : (List Int)), Item.box b2 [v2, (.int .i64 x11), (.int .i64 x12)], Item.box b1 [(.slice none 0 0), (.int .i64 0), (.int .i64 0)]] := hb6 _ _ hq7
     refine WL_nil ?_
     refine WA_one 4 (by kernel_rfl) rfl ?_
     refine WL_buildSlice (vs := [(.int .i64 x32.1)]) hC31 Try.underlying22 ty3 rfl rfl rfl rfl (by intro v hv; simp only [List.mem_cons, List.not_mem_nil, or_false] at hv; rcases hv with rfl <;> rfl) rfl rfl (fun b3 w19 hC32 hB11 => ?_)
     have hC33 := hC32.row0 (α := Int)
     have hC34 := hC33.triv (int_val (x32.1))
     have hC35 := hC34.row1
     have hC36 := hC35.front 1 rfl
     dsimp only [List.eraseIdx, List.cons_append, List.nil_append, List.append_nil] at hC36
     have hC37 : Ctx Fs.flatten w0 w19 (Item.own (.slice (some ⟨b3, 0, none⟩) 1 1) ([x32.1] : List Int) :: [Item.box pb1 [u1, (.int .i64 x32.2.2.1), (.int .i64 x32.2.2.2)], Item.own v2 (x10 : (List Int)), Item.box b2 [v2, (.int .i64 x11), (.int .i64 x12)], Item.box b1 [(.slice none 0 0), (.int .i64 0), (.int .i64 0)]]) := hC36.rowOwn (by simp [maxLen])
     refine WL_nil ?_
     obtain ⟨x33, hx1, hr9⟩ := bind_some hr9
     refine WA_one 5 (by kernel_rfl) rfl ?_
     refine WL_append_flat (α := Int) hC37 2 rfl (hC37.ro 0 rfl) (Keep.refl _ _) Try.underlying22 ty3 rfl hx1 rfl rfl rfl (fun v9 w20 hC38 => ?_)
     try dsimp only [List.set] at hC38
     refine WL_nil ?_
     refine WA_tk 6 (by kernel_rfl) rfl rfl (fl_field Try.underlying26 rfl rfl (fun w => ⟨_, Try.sizeOf22 w⟩) rfl) ?_
     refine WL_field Try.underlying26 rfl rfl (fun w => ⟨_, Try.sizeOf22 w⟩) rfl rfl ?_
     refine WL_nil ?_
     refine WA_one 7 (by kernel_rfl) rfl ?_
     refine WL_store_box (cs' := [v9, (.int .i64 x11), (.int .i64 x12)]) hC38 3 rfl rfl (ro_one (hC38.ro 2 rfl)) rfl Try.sizeOf22 rfl rfl (fun w21 hC39 => ?_)
     try dsimp only [List.set] at hC39
     refine WL_nil ?_
     refine WA_done (by kernel_rfl) ?_
     have hq8 := Option.some.inj hr9
     subst hq8
     have hC40 := hC39.f4
     have hC41 := hC40.f4
     have hC42 := hC41.f4
     have hC43 := hC42.f4
     have hC44 := hC43.h4
     refine nrm_sub (l' := [(2, (ptr b1 0)), (3, (ptr b2 0))]) ⟨rfl, rfl, trivial⟩ ?_
     exact ⟨x32.2.2.1, x32.2.2.2, v9, x33, x11, x12, rfl, rfl, hC44⟩
    obtain ⟨x32, hr10, hr9⟩ := bind_some hr9
    obtain ⟨Fs5, hH5, hn6, hF5, hO5, hb6⟩ := Ctx.lend2 (As := [Item.own v2 (x10 : (List Int)), Item.box b2 [v2, (.int .i64 x11), (.int .i64 x12)], Item.box b1 [(.slice none 0 0), (.int .i64 0), (.int .i64 0)]]) [Item.box pb1 [u1, (.int .i64 x21.2.2.1), (.int .i64 x21.2.2.2)]] hC30
    refine WL_call Try.call104 rfl rfl (c_S_l1Below pb1 (a1.1, x21.2.2.1, x21.2.2.2) u1 (RO.lent g1 hC30.keep hF5) 4 hH5 hn6 x32 hr10) ?_
    rintro _ w18 ⟨rfl, hq7⟩
    have hC31 : Ctx Fs.flatten w0 w18 [Item.box pb1 [u1, (.int .i64 x32.2.2.1), (.int .i64 x32.2.2.2)], Item.own v2 (x10 : (List Int)), Item.box b2 [v2, (.int .i64 x11), (.int .i64 x12)], Item.box b1 [(.slice none 0 0), (.int .i64 0), (.int .i64 0)]] := hb6 _ _ hq7
    refine WL_nil ?_
    refine WA.sub (l' := [(0, (ptr pb1 0)), (2, (ptr b1 0)), (3, (ptr b2 0)), (23, (ptr pb1 0)), (24, (.int .i64 x21.1)), (25, (.bool (decide (x21.1 = 0)))), (26, (.bool (decide (x21.1 = 0)))), (27, (ptr b2 0)), (29, (ptr pb1 0)), (30, (.int .i64 x32.1))]) ?_ ⟨rfl, rfl, rfl, rfl, rfl, rfl, rfl, rfl, rfl, rfl, trivial⟩
    refine WA_postsE [⟨1, [], fun vs => PW.val v2, []⟩, ⟨4, [], fun vs => PW.own ([x32.1] : (List Int)), []⟩] [[], []] 3 rfl (by kernel_rfl) (by kernel_rfl) rfl ?_ ?_
    ·refine StepsE_cons rfl ?_ ?_
     ·intro w20 hB12
      refine DepsE_nil ?_
      refine ⟨_, rfl, ?_⟩
      refine WL_load_box (hC31.grow hB12) 2 rfl rfl Try.isAgg22 rfl rfl ?_
      refine WL_nil ?_
      exact FinE_val (Below.refl _ _) rfl rfl ⟨rfl, rfl⟩
     refine StepsE_cons rfl ?_ ?_
     ·intro w20 hB12
      refine DepsE_nil ?_
      refine ⟨_, rfl, ?_⟩
      refine WL_buildSlice (vs := [(.int .i64 x32.1)]) (Ctx.start w20) Try.underlying22 ty3 rfl rfl rfl rfl (by intro v hv; simp only [List.mem_cons, List.not_mem_nil, or_false] at hv; rcases hv with rfl <;> rfl) rfl rfl (fun b3 w19 hC32 hB11 => ?_)
      have hC33 := hC32.row0 (α := Int)
      have hC34 := hC33.triv (int_val (x32.1))
      have hC35 := hC34.row1
      have hC36 := hC35.front 1 rfl
      dsimp only [List.eraseIdx, List.cons_append, List.nil_append, List.append_nil] at hC36
      have hC37 : Ctx [] w20 w19 (Item.own (.slice (some ⟨b3, 0, none⟩) 1 1) ([x32.1] : List Int) :: []) := hC36.rowOwn (by simp [maxLen])
      refine WL_nil ?_
      exact FinE_ctx hC37 rfl rfl (fun F h => h)
     exact StepsE_nil
    intro w21 hB13
    refine AllE_cons rfl rfl rfl ?_
    rintro _ _ ⟨rfl, rfl⟩
    refine AllE_cons rfl rfl rfl ?_
    intro v9 F3 hv3
    refine AllE_nil ?_
    intro hn7 hb7
    have hC38 := hC31.pushL hB13 (Bs := [Item.own v9 ([x32.1] : (List Int))]) (Fs := [F3]) ⟨F3, _, rfl, hv3, rfl⟩ (by simpa using hn7) (fun b h => (hb7 b (by simpa using h)).1)
    obtain ⟨x33, hx1, hr9⟩ := bind_some hr9
    refine WA_one 5 (by kernel_rfl) rfl ?_
    refine WL_append_flat (α := Int) hC38 2 rfl (hC38.ro 0 rfl) (Keep.refl _ _) Try.underlying22 ty3 rfl hx1 rfl rfl rfl (fun v10 w22 hC39 => ?_)
    try dsimp only [List.set] at hC39
    refine WL_nil ?_
    refine WA_tk 6 (by kernel_rfl) rfl rfl (fl_field Try.underlying26 rfl rfl (fun w => ⟨_, Try.sizeOf22 w⟩) rfl) ?_
    refine WL_field Try.underlying26 rfl rfl (fun w => ⟨_, Try.sizeOf22 w⟩) rfl rfl ?_
    refine WL_nil ?_
    refine WA_one 7 (by kernel_rfl) rfl ?_
    refine WL_store_box (cs' := [v10, (.int .i64 x11), (.int .i64 x12)]) hC39 3 rfl rfl (ro_one (hC39.ro 2 rfl)) rfl Try.sizeOf22 rfl rfl (fun w23 hC40 => ?_)
    try dsimp only [List.set] at hC40
    refine WL_nil ?_
    refine WA_done (by kernel_rfl) ?_
    have hq8 := Option.some.inj hr9
    subst hq8
    have hC41 := hC40.f4
    have hC42 := hC41.f4
    have hC43 := hC42.f4
    have hC44 := hC43.f4
    have hC45 := hC44.h4
    refine nrm_sub (l' := [(2, (ptr b1 0)), (3, (ptr b2 0))]) ⟨rfl, rfl, trivial⟩ ?_
    exact ⟨x32.2.2.1, x32.2.2.2, v10, x33, x11, x12, rfl, rfl, hC45⟩
   rintro l5 _ w16 hs5 ⟨x27, x28, v8, x29, x30, x31, rfl, rfl, hC29⟩
   try dsimp only at hr8
   have hq9 := Option.some.inj hr8
   subst hq9
   refine nrm_subs (l2 := [(2, (ptr b1 0)), (3, (ptr b2 0))]) hs5 ⟨rfl, rfl, trivial⟩ ?_
   exact ⟨x27, x28, v8, x29, x30, x31, rfl, rfl, hC29⟩
  replace hr8 := ite_f hr8 hc2
  refine W_seq_reg ?_
  refine WL_eql rfl rfl rfl ?_
  refine WL_assign rfl rfl ?_
  refine WL_nil ?_
  obtain ⟨r5, hr11, hr8⟩ := bind_some hr8
  refine W_norm (fun l w => ∃ x34 : Int, ∃ x35 : Int, ∃ v11 : Value, ∃ x36 : (List Int), ∃ x37 : Int, ∃ x38 : Int, (x34, x35, x36, x37, x38) = r5 ∧ l = [(2, (ptr b1 0)), (3, (ptr b2 0))] ∧ Ctx Fs.flatten w0 w [Item.box pb1 [u1, (.int .i64 x34), (.int .i64 x35)], Item.own v11 (x36 : (List Int)), Item.box b2 [v11, (.int .i64 x37), (.int .i64 x38)], Item.box b1 [(.slice none 0 0), (.int .i64 0), (.int .i64 0)]]) ?_ ?_
  ·refine W_cond rfl (fun hc3 => ?_) (fun hc3 => ?_)
   ·replace hr11 := ite_t hr11 hc3
    refine W_reg ?_
    refine WL_move rfl rfl ?_
    refine WL_buildSlice (vs := [(.int .i64 (-1)), (.int .i64 999998000), (.int .i64 999998001), (.int .i64 1000000000)]) hC27 Try.underlying22 ty3 rfl rfl rfl rfl (by intro v hv; simp only [List.mem_cons, List.not_mem_nil, or_false] at hv; rcases hv with rfl | rfl | rfl | rfl <;> rfl) rfl rfl (fun b4 w25 hC47 hB15 => ?_)
    have hC48 := hC47.row0 (α := Int)
    have hC49 := hC48.triv (int_val (1000000000))
    have hC50 := hC49.row1
    have hC51 := hC50.triv (int_val (999998001))
    have hC52 := hC51.row1
    have hC53 := hC52.triv (int_val (999998000))
    have hC54 := hC53.row1
    have hC55 := hC54.triv (int_val ((-1)))
    have hC56 := hC55.row1
    have hC57 := hC56.front 1 rfl
    dsimp only [List.eraseIdx, List.cons_append, List.nil_append, List.append_nil] at hC57
    have hC58 : Ctx Fs.flatten w0 w25 (Item.own (.slice (some ⟨b4, 0, none⟩) 4 4) ([(-1), 999998000, 999998001, 1000000000] : List Int) :: [Item.box pb1 [u1, (.int .i64 x21.2.2.1), (.int .i64 x21.2.2.2)], Item.own v2 (x10 : (List Int)), Item.box b2 [v2, (.int .i64 x11), (.int .i64 x12)], Item.box b1 [(.slice none 0 0), (.int .i64 0), (.int .i64 0)]]) := hC57.rowOwn (by simp [maxLen])
    obtain ⟨x39, hr12, hr11⟩ := bind_some hr11
    have hC59 := hC58.f1
    obtain ⟨Fs6, hH6, hn8, hF6, hO6, hb8⟩ := Ctx.lend2 (As := [Item.own (.slice (some ⟨b4, 0, none⟩) 4 4) ([(-1), 999998000, 999998001, 1000000000] : (List Int)), Item.own v2 (x10 : (List Int)), Item.box b2 [v2, (.int .i64 x11), (.int .i64 x12)], Item.box b1 [(.slice none 0 0), (.int .i64 0), (.int .i64 0)]]) [Item.box pb1 [u1, (.int .i64 x21.2.2.1), (.int .i64 x21.2.2.2)]] hC59
    refine WL_call Try.call136 rfl rfl (c_S_l1PickInt pb1 (a1.1, x21.2.2.1, x21.2.2.2) u1 (RO.lent g1 hC59.keep hF6) ([(-1), 999998000, 999998001, 1000000000]) (.slice (some ⟨b4, 0, none⟩) 4 4) (hO6 0 _ _ _ rfl) hH6 hn8 x39 hr12) ?_
    rintro _ w26 ⟨rfl, hq10⟩
    have hC60 : Ctx Fs.flatten w0 w26 [Item.box pb1 [u1, (.int .i64 x39.2.2.1), (.int .i64 x39.2.2.2)], Item.own (.slice (some ⟨b4, 0, none⟩) 4 4) ([(-1), 999998000, 999998001, 1000000000] : (List Int)), Item.own v2 (x10 : (List Int)), Item.box b2 [v2, (.int .i64 x11), (.int .i64 x12)], Item.box b1 [(.slice none 0 0), (.int .i64 0), (.int .i64 0)]] := hb8 _ _ hq10
    refine WL_field Try.underlying26 rfl rfl (fun w => ⟨_, Try.sizeOf3 w⟩) rfl rfl ?_
    refine WL_store_box (cs' := [v2, (.int .i64 x39.1), (.int .i64 x12)]) hC60 3 rfl rfl rfl rfl Try.sizeOf3 rfl rfl (fun w27 hC61 => ?_)
    try dsimp only [List.set] at hC61
    refine WL_nil ?_
    have hq11 := Option.some.inj hr11
    subst hq11
    have hC62 := hC61.f4
    have hC63 := hC62.f4
    have hC64 := hC63.f4
    have hC65 := hC64.f3
    have hC66 := hC65.h4
    refine nrm_sub (l' := [(2, (ptr b1 0)), (3, (ptr b2 0))]) ⟨rfl, rfl, trivial⟩ ?_
    exact ⟨x39.2.2.1, x39.2.2.2, v2, x10, x39.1, x12, rfl, rfl, hC66⟩
   replace hr11 := ite_f hr11 hc3
   refine W_skip ?_
   have hq12 := Option.some.inj hr11
   subst hq12
   refine nrm_sub (l' := [(2, (ptr b1 0)), (3, (ptr b2 0))]) ⟨rfl, rfl, trivial⟩ ?_
   exact ⟨x21.2.2.1, x21.2.2.2, v2, x10, x11, x12, rfl, rfl, hC27⟩
  rintro l6 _ w24 hs6 ⟨x34, x35, v11, x36, x37, x38, rfl, rfl, hC46⟩
  try dsimp only at hr8
  have hq13 := Option.some.inj hr8
  subst hq13
  refine nrm_subs (l2 := [(2, (ptr b1 0)), (3, (ptr b2 0))]) hs6 ⟨rfl, rfl, trivial⟩ ?_
  exact ⟨x34, x35, v11, x36, x37, x38, rfl, rfl, hC46⟩
 rintro l4 _ w15 hs4 ⟨x22, x23, v7, x24, x25, x26, rfl, rfl, hC28⟩
 try dsimp only at hF
 refine blk_normal ?_
 refine nrm_sub' hs4 ?_
 clear hs4
 refine W_seq_reg ?_
 refine WL_load_box_agg [v7, (.int .i64 x25), (.int .i64 x26)] hC28 2 rfl rfl rfl Try.isAgg26 Try.sizeOf26 rfl rfl ?_
 refine WL_store_box_agg (cs' := [v7, (.int .i64 x25), (.int .i64 x26)]) (new := [v7, (.int .i64 x25), (.int .i64 x26)]) hC28 3 rfl rfl (by intro v hv; simp only [List.mem_cons, List.not_mem_nil, or_false] at hv; rcases hv with rfl | rfl | rfl; exact (ro_one (hC28.ro 1 rfl)); exact rfl; exact rfl) rfl Try.sizeOf26 rfl rfl (fun w28 hC67 => ?_)
 try dsimp only [List.set] at hC67
 refine WL_nil ?_
 refine W_ret ?_
 have hq14 := Option.some.inj hF
 subst hq14
 refine fn_retG1 rfl (rv_cell_agg (cs' := [v7, (.int .i64 x25), (.int .i64 x26)]) hC67 (i := 3) rfl rfl rfl Try.isAgg26 Try.sizeOf26 rfl) ?_
 have hC69 := hC67.f1
 have hC68 := own_st26 v7 x24 x25 x26 hC69
 have hC70 := hC68.h2
 exact ⟨_, rfl, _, rfl, hC70⟩

theorem c_S_l27Call {w0 : World} {Fs : List (List Nat)} (pb1 : Nat) (a1 : ((List UInt8) × Int × Int)) (u1 : Value) (g1 : RO Fs.flatten w0 u1 a1.1) (hH : Hold [Item.box pb1 [u1, (.int .i64 a1.2.1), (.int .i64 a1.2.2)]] w0 Fs) (hn : Fs.flatten.Nodup) (rr : ((Int × Int × Int × Bool) × ((List UInt8) × Int × Int))) (hF : S.l27Call a1 = some rr) :
 Calls Try.prog 100 [(ptr pb1 0)].toArray w0 fun e w' => ∃ v, e = .returned v ∧ ∃ q0 : Value, v = q0 ∧ Ctx Fs.flatten w0 w' [Item.own q0 (rr.1 : (Int × Int × Int × Bool)), Item.box pb1 [u1, (.int .i64 rr.2.2.1), (.int .i64 rr.2.2.2)]] := by
 refine calls_of_W Try.func100 rfl rfl ?_
 have hC0 := Ctx.startIn hH hn
 unfold S.l27Call at hF
 refine W_seq_reg ?_
 refine WL_alloc hC0 zero35 rfl rfl (fun b1 w1 hC1 hB1 => ?_)
 refine WL_nil ?_
 refine W_seq_reg ?_
 refine WL_move rfl rfl ?_
 obtain ⟨x1, hr1, hF⟩ := bind_some hF
 have hC2 := hC1.f1
 obtain ⟨Fs1, hH1, hn1, hF1, hO1, hb1⟩ := Ctx.lend2 (As := [Item.box b1 [(.int .i64 0), (.int .i64 0), (.int .i64 0), (.bool false)]]) [Item.box pb1 [u1, (.int .i64 a1.2.1), (.int .i64 a1.2.2)]] hC2
 refine WL_call Try.call104 rfl rfl (c_S_l1Below pb1 (a1.1, a1.2.1, a1.2.2) u1 (RO.lent g1 hC2.keep hF1) 8 hH1 hn1 x1 hr1) ?_
 rintro _ w2 ⟨rfl, hq1⟩
 have hC3 : Ctx Fs.flatten w0 w2 [Item.box pb1 [u1, (.int .i64 x1.2.2.1), (.int .i64 x1.2.2.2)], Item.box b1 [(.int .i64 0), (.int .i64 0), (.int .i64 0), (.bool false)]] := hb1 _ _ hq1
 refine WL_move rfl rfl ?_
 obtain ⟨x2, hr2, hF⟩ := bind_some hF
 obtain ⟨Fs2, hH2, hn2, hF2, hO2, hb2⟩ := Ctx.lend2 (As := [Item.box b1 [(.int .i64 0), (.int .i64 0), (.int .i64 0), (.bool false)]]) [Item.box pb1 [u1, (.int .i64 x1.2.2.1), (.int .i64 x1.2.2.2)]] hC3
 refine WL_call Try.call104 rfl rfl (c_S_l1Below pb1 (a1.1, x1.2.2.1, x1.2.2.2) u1 (RO.lent g1 hC3.keep hF2) 5 hH2 hn2 x2 hr2) ?_
 rintro _ w3 ⟨rfl, hq2⟩
 have hC4 : Ctx Fs.flatten w0 w3 [Item.box pb1 [u1, (.int .i64 x2.2.2.1), (.int .i64 x2.2.2.2)], Item.box b1 [(.int .i64 0), (.int .i64 0), (.int .i64 0), (.bool false)]] := hb2 _ _ hq2
 refine WL_build (vs := [(0, (.int .i64 x1.1)), (1, (.int .i64 x2.1))]) rfl rfl rfl (built35_0_1 rfl rfl) ?_
 refine WL_alloc hC4 zero35 rfl rfl (fun b2 w4 hC5 hB2 => ?_)
 refine WL_store_box_agg (cs' := [(.int .i64 x1.1), (.int .i64 x2.1), (.int .i64 0), (.bool false)]) (new := [(.int .i64 x1.1), (.int .i64 x2.1), (.int .i64 0), (.bool false)]) hC5 0 rfl rfl (by intro v hv; simp only [List.mem_cons, List.not_mem_nil, or_false] at hv; rcases hv with rfl | rfl | rfl | rfl; exact rfl; exact rfl; exact rfl; exact rfl) rfl Try.sizeOf35 rfl rfl (fun w5 hC6 => ?_)
 try dsimp only [List.set] at hC6
 refine WL_nil ?_
 refine W_seq ?_
 refine W_seq_reg ?_
 refine WL_move rfl rfl ?_
 obtain ⟨x3, hr3, hF⟩ := bind_some hF
 have hC7 := hC6.f1
 obtain ⟨Fs3, hH3, hn3, hF3, hO3, hb3⟩ := Ctx.lend2 (As := [Item.box b2 [(.int .i64 x1.1), (.int .i64 x2.1), (.int .i64 0), (.bool false)], Item.box b1 [(.int .i64 0), (.int .i64 0), (.int .i64 0), (.bool false)]]) [Item.box pb1 [u1, (.int .i64 x2.2.2.1), (.int .i64 x2.2.2.2)]] hC7
 refine WL_call Try.call104 rfl rfl (c_S_l1Below pb1 (a1.1, x2.2.2.1, x2.2.2.2) u1 (RO.lent g1 hC7.keep hF3) 12 hH3 hn3 x3 hr3) ?_
 rintro _ w6 ⟨rfl, hq3⟩
 have hC8 : Ctx Fs.flatten w0 w6 [Item.box pb1 [u1, (.int .i64 x3.2.2.1), (.int .i64 x3.2.2.2)], Item.box b2 [(.int .i64 x1.1), (.int .i64 x2.1), (.int .i64 0), (.bool false)], Item.box b1 [(.int .i64 0), (.int .i64 0), (.int .i64 0), (.bool false)]] := hb3 _ _ hq3
 refine WL_nil ?_
 refine W_block ?_
 refine W_seq_reg ?_
 refine WL_eql rfl rfl rfl ?_
 refine WL_assign rfl rfl ?_
 refine WL_nil ?_
 obtain ⟨r1, hr4, hF⟩ := bind_some hF
 refine W_norm (fun l w => ∃ x4 : Int, ∃ x5 : Int, ∃ x6 : Int, ∃ x7 : Int, ∃ x8 : Int, ∃ x9 : Bool, (x4, x5, x6, x7, x8, x9) = r1 ∧ l = [(2, (ptr b1 0)), (3, (ptr b2 0))] ∧ Ctx Fs.flatten w0 w [Item.box pb1 [u1, (.int .i64 x4), (.int .i64 x5)], Item.box b2 [(.int .i64 x6), (.int .i64 x7), (.int .i64 x8), (.bool x9)], Item.box b1 [(.int .i64 0), (.int .i64 0), (.int .i64 0), (.bool false)]]) ?_ ?_
 ·refine W_cond rfl (fun hc1 => ?_) (fun hc1 => ?_)
  ·replace hr4 := ite_t hr4 hc1
   refine W_reg ?_
   refine WL_move rfl rfl ?_
   refine WL_buildSlice (vs := [(.int .i64 (-1)), (.int .i64 1000000), (.int .i64 1000001)]) hC8 Try.underlying22 ty3 rfl rfl rfl rfl (by intro v hv; simp only [List.mem_cons, List.not_mem_nil, or_false] at hv; rcases hv with rfl | rfl | rfl <;> rfl) rfl rfl (fun b3 w9 hC10 hB4 => ?_)
   have hC11 := hC10.row0 (α := Int)
   have hC12 := hC11.triv (int_val (1000001))
   have hC13 := hC12.row1
   have hC14 := hC13.triv (int_val (1000000))
   have hC15 := hC14.row1
   have hC16 := hC15.triv (int_val ((-1)))
   have hC17 := hC16.row1
   have hC18 := hC17.front 1 rfl
   dsimp only [List.eraseIdx, List.cons_append, List.nil_append, List.append_nil] at hC18
   have hC19 : Ctx Fs.flatten w0 w9 (Item.own (.slice (some ⟨b3, 0, none⟩) 3 3) ([(-1), 1000000, 1000001] : List Int) :: [Item.box pb1 [u1, (.int .i64 x3.2.2.1), (.int .i64 x3.2.2.2)], Item.box b2 [(.int .i64 x1.1), (.int .i64 x2.1), (.int .i64 0), (.bool false)], Item.box b1 [(.int .i64 0), (.int .i64 0), (.int .i64 0), (.bool false)]]) := hC18.rowOwn (by simp [maxLen])
   obtain ⟨x10, hr5, hr4⟩ := bind_some hr4
   have hC20 := hC19.f1
   obtain ⟨Fs4, hH4, hn4, hF4, hO4, hb4⟩ := Ctx.lend2 (As := [Item.own (.slice (some ⟨b3, 0, none⟩) 3 3) ([(-1), 1000000, 1000001] : (List Int)), Item.box b2 [(.int .i64 x1.1), (.int .i64 x2.1), (.int .i64 0), (.bool false)], Item.box b1 [(.int .i64 0), (.int .i64 0), (.int .i64 0), (.bool false)]]) [Item.box pb1 [u1, (.int .i64 x3.2.2.1), (.int .i64 x3.2.2.2)]] hC20
   refine WL_call Try.call136 rfl rfl (c_S_l1PickInt pb1 (a1.1, x3.2.2.1, x3.2.2.2) u1 (RO.lent g1 hC20.keep hF4) ([(-1), 1000000, 1000001]) (.slice (some ⟨b3, 0, none⟩) 3 3) (hO4 0 _ _ _ rfl) hH4 hn4 x10 hr5) ?_
   rintro _ w10 ⟨rfl, hq4⟩
   have hC21 : Ctx Fs.flatten w0 w10 [Item.box pb1 [u1, (.int .i64 x10.2.2.1), (.int .i64 x10.2.2.2)], Item.own (.slice (some ⟨b3, 0, none⟩) 3 3) ([(-1), 1000000, 1000001] : (List Int)), Item.box b2 [(.int .i64 x1.1), (.int .i64 x2.1), (.int .i64 0), (.bool false)], Item.box b1 [(.int .i64 0), (.int .i64 0), (.int .i64 0), (.bool false)]] := hb4 _ _ hq4
   refine WL_field Try.underlying35 rfl rfl (fun w => ⟨_, Try.sizeOf3 w⟩) rfl rfl ?_
   refine WL_store_box (cs' := [(.int .i64 x10.1), (.int .i64 x2.1), (.int .i64 0), (.bool false)]) hC21 2 rfl rfl rfl rfl Try.sizeOf3 rfl rfl (fun w11 hC22 => ?_)
   try dsimp only [List.set] at hC22
   refine WL_nil ?_
   have hq5 := Option.some.inj hr4
   subst hq5
   have hC23 := hC22.f3
   have hC24 := hC23.f3
   have hC25 := hC24.f2
   have hC26 := hC25.h3
   refine nrm_sub (l' := [(2, (ptr b1 0)), (3, (ptr b2 0))]) ⟨rfl, rfl, trivial⟩ ?_
   exact ⟨x10.2.2.1, x10.2.2.2, x10.1, x2.1, 0, false, rfl, rfl, hC26⟩
  replace hr4 := ite_f hr4 hc1
  refine W_seq_reg ?_
  refine WL_eql rfl rfl rfl ?_
  refine WL_assign rfl rfl ?_
  refine WL_nil ?_
  obtain ⟨r2, hr6, hr4⟩ := bind_some hr4
  refine W_norm (fun l w => ∃ x11 : Int, ∃ x12 : Int, ∃ x13 : Int, ∃ x14 : Int, ∃ x15 : Int, ∃ x16 : Bool, (x11, x12, x13, x14, x15, x16) = r2 ∧ l = [(2, (ptr b1 0)), (3, (ptr b2 0))] ∧ Ctx Fs.flatten w0 w [Item.box pb1 [u1, (.int .i64 x11), (.int .i64 x12)], Item.box b2 [(.int .i64 x13), (.int .i64 x14), (.int .i64 x15), (.bool x16)], Item.box b1 [(.int .i64 0), (.int .i64 0), (.int .i64 0), (.bool false)]]) ?_ ?_
  ·refine W_cond rfl (fun hc2 => ?_) (fun hc2 => ?_)
   ·replace hr6 := ite_t hr6 hc2
    refine W_reg ?_
    refine WL_field Try.underlying35 rfl rfl (fun w => ⟨_, Try.sizeOf4 w⟩) rfl rfl ?_
    refine WL_store_box (cs' := [(.int .i64 x1.1), (.int .i64 x2.1), (.int .i64 0), (.bool true)]) hC8 1 rfl rfl rfl rfl Try.sizeOf4 rfl rfl (fun w13 hC28 => ?_)
    try dsimp only [List.set] at hC28
    refine WL_nil ?_
    have hq6 := Option.some.inj hr6
    subst hq6
    refine nrm_sub (l' := [(2, (ptr b1 0)), (3, (ptr b2 0))]) ⟨rfl, rfl, trivial⟩ ?_
    exact ⟨x3.2.2.1, x3.2.2.2, x1.1, x2.1, 0, true, rfl, rfl, hC28⟩
   replace hr6 := ite_f hr6 hc2
   refine W_seq_reg ?_
   refine WL_eql rfl rfl rfl ?_
   refine WL_assign rfl rfl ?_
   refine WL_nil ?_
   obtain ⟨r3, hr7, hr6⟩ := bind_some hr6
   refine W_norm (fun l w => ∃ x17 : Int, ∃ x18 : Int, ∃ x19 : Int, ∃ x20 : Int, ∃ x21 : Int, ∃ x22 : Bool, (x17, x18, x19, x20, x21, x22) = r3 ∧ l = [(2, (ptr b1 0)), (3, (ptr b2 0))] ∧ Ctx Fs.flatten w0 w [Item.box pb1 [u1, (.int .i64 x17), (.int .i64 x18)], Item.box b2 [(.int .i64 x19), (.int .i64 x20), (.int .i64 x21), (.bool x22)], Item.box b1 [(.int .i64 0), (.int .i64 0), (.int .i64 0), (.bool false)]]) ?_ ?_
   ·refine W_cond rfl (fun hc3 => ?_) (fun hc3 => ?_)
    ·replace hr7 := ite_t hr7 hc3
     refine W_reg ?_
     refine WL_move rfl rfl ?_
     refine WL_buildSlice (vs := [(.int .i64 (-1)), (.int .i64 99), (.int .i64 100)]) hC8 Try.underlying22 ty3 rfl rfl rfl rfl (by intro v hv; simp only [List.mem_cons, List.not_mem_nil, or_false] at hv; rcases hv with rfl | rfl | rfl <;> rfl) rfl rfl (fun b4 w15 hC30 hB7 => ?_)
     have hC31 := hC30.row0 (α := Int)
     have hC32 := hC31.triv (int_val (100))
     have hC33 := hC32.row1
     have hC34 := hC33.triv (int_val (99))
     have hC35 := hC34.row1
     have hC36 := hC35.triv (int_val ((-1)))
     have hC37 := hC36.row1
     have hC38 := hC37.front 1 rfl
     dsimp only [List.eraseIdx, List.cons_append, List.nil_append, List.append_nil] at hC38
     have hC39 : Ctx Fs.flatten w0 w15 (Item.own (.slice (some ⟨b4, 0, none⟩) 3 3) ([(-1), 99, 100] : List Int) :: [Item.box pb1 [u1, (.int .i64 x3.2.2.1), (.int .i64 x3.2.2.2)], Item.box b2 [(.int .i64 x1.1), (.int .i64 x2.1), (.int .i64 0), (.bool false)], Item.box b1 [(.int .i64 0), (.int .i64 0), (.int .i64 0), (.bool false)]]) := hC38.rowOwn (by simp [maxLen])
     obtain ⟨x23, hr8, hr7⟩ := bind_some hr7
     have hC40 := hC39.f1
     obtain ⟨Fs5, hH5, hn5, hF5, hO5, hb5⟩ := Ctx.lend2 (As := [Item.own (.slice (some ⟨b4, 0, none⟩) 3 3) ([(-1), 99, 100] : (List Int)), Item.box b2 [(.int .i64 x1.1), (.int .i64 x2.1), (.int .i64 0), (.bool false)], Item.box b1 [(.int .i64 0), (.int .i64 0), (.int .i64 0), (.bool false)]]) [Item.box pb1 [u1, (.int .i64 x3.2.2.1), (.int .i64 x3.2.2.2)]] hC40
     refine WL_call Try.call136 rfl rfl (c_S_l1PickInt pb1 (a1.1, x3.2.2.1, x3.2.2.2) u1 (RO.lent g1 hC40.keep hF5) ([(-1), 99, 100]) (.slice (some ⟨b4, 0, none⟩) 3 3) (hO5 0 _ _ _ rfl) hH5 hn5 x23 hr8) ?_
     rintro _ w16 ⟨rfl, hq7⟩
     have hC41 : Ctx Fs.flatten w0 w16 [Item.box pb1 [u1, (.int .i64 x23.2.2.1), (.int .i64 x23.2.2.2)], Item.own (.slice (some ⟨b4, 0, none⟩) 3 3) ([(-1), 99, 100] : (List Int)), Item.box b2 [(.int .i64 x1.1), (.int .i64 x2.1), (.int .i64 0), (.bool false)], Item.box b1 [(.int .i64 0), (.int .i64 0), (.int .i64 0), (.bool false)]] := hb5 _ _ hq7
     refine WL_field Try.underlying35 rfl rfl (fun w => ⟨_, Try.sizeOf3 w⟩) rfl rfl ?_
     refine WL_store_box (cs' := [(.int .i64 x1.1), (.int .i64 x23.1), (.int .i64 0), (.bool false)]) hC41 2 rfl rfl rfl rfl Try.sizeOf3 rfl rfl (fun w17 hC42 => ?_)
     try dsimp only [List.set] at hC42
     refine WL_nil ?_
     have hq8 := Option.some.inj hr7
     subst hq8
     have hC43 := hC42.f3
     have hC44 := hC43.f3
     have hC45 := hC44.f2
     have hC46 := hC45.h3
     refine nrm_sub (l' := [(2, (ptr b1 0)), (3, (ptr b2 0))]) ⟨rfl, rfl, trivial⟩ ?_
     exact ⟨x23.2.2.1, x23.2.2.2, x1.1, x23.1, 0, false, rfl, rfl, hC46⟩
    replace hr7 := ite_f hr7 hc3
    refine W_skip ?_
    have hq9 := Option.some.inj hr7
    subst hq9
    refine nrm_sub (l' := [(2, (ptr b1 0)), (3, (ptr b2 0))]) ⟨rfl, rfl, trivial⟩ ?_
    exact ⟨x3.2.2.1, x3.2.2.2, x1.1, x2.1, 0, false, rfl, rfl, hC8⟩
   rintro l3 _ w14 hs3 ⟨x17, x18, x19, x20, x21, x22, rfl, rfl, hC29⟩
   try dsimp only at hr6
   have hq10 := Option.some.inj hr6
   subst hq10
   refine nrm_subs (l2 := [(2, (ptr b1 0)), (3, (ptr b2 0))]) hs3 ⟨rfl, rfl, trivial⟩ ?_
   exact ⟨x17, x18, x19, x20, x21, x22, rfl, rfl, hC29⟩
  rintro l2 _ w12 hs2 ⟨x11, x12, x13, x14, x15, x16, rfl, rfl, hC27⟩
  try dsimp only at hr4
  have hq11 := Option.some.inj hr4
  subst hq11
  refine nrm_subs (l2 := [(2, (ptr b1 0)), (3, (ptr b2 0))]) hs2 ⟨rfl, rfl, trivial⟩ ?_
  exact ⟨x11, x12, x13, x14, x15, x16, rfl, rfl, hC27⟩
 rintro l1 _ w7 hs1 ⟨x4, x5, x6, x7, x8, x9, rfl, rfl, hC9⟩
 try dsimp only at hF
 refine blk_normal ?_
 refine nrm_sub' hs1 ?_
 clear hs1
 refine W_seq_reg ?_
 refine WL_load_box_agg [(.int .i64 x6), (.int .i64 x7), (.int .i64 x8), (.bool x9)] hC9 1 rfl rfl rfl Try.isAgg35 Try.sizeOf35 rfl rfl ?_
 refine WL_store_box_agg (cs' := [(.int .i64 x6), (.int .i64 x7), (.int .i64 x8), (.bool x9)]) (new := [(.int .i64 x6), (.int .i64 x7), (.int .i64 x8), (.bool x9)]) hC9 2 rfl rfl (by intro v hv; simp only [List.mem_cons, List.not_mem_nil, or_false] at hv; rcases hv with rfl | rfl | rfl | rfl; exact rfl; exact rfl; exact rfl; exact rfl) rfl Try.sizeOf35 rfl rfl (fun w18 hC47 => ?_)
 try dsimp only [List.set] at hC47
 refine WL_nil ?_
 refine W_ret ?_
 have hq12 := Option.some.inj hF
 subst hq12
 refine fn_retG1 rfl (rv_cell_agg (cs' := [(.int .i64 x6), (.int .i64 x7), (.int .i64 x8), (.bool x9)]) hC47 (i := 2) rfl rfl rfl Try.isAgg35 Try.sizeOf35 rfl) ?_
 have hC48 := own_st35 x6 x7 x8 x9 hC47
 have hC49 := hC48.h2
 exact ⟨_, rfl, _, rfl, hC49⟩

theorem c_S_l27Fates {w0 : World} {Fs : List (List Nat)} (pb1 : Nat) (a1 : ((List UInt8) × Int × Int)) (u1 : Value) (g1 : RO Fs.flatten w0 u1 a1.1) (hH : Hold [Item.box pb1 [u1, (.int .i64 a1.2.1), (.int .i64 a1.2.2)]] w0 Fs) (hn : Fs.flatten.Nodup) (rr : ((List Int) × ((List UInt8) × Int × Int))) (hF : S.l27Fates a1 = some rr) :
 Calls Try.prog 106 [(ptr pb1 0)].toArray w0 fun e w' => ∃ v, e = .returned v ∧ ∃ q0 : Value, v = q0 ∧ Ctx Fs.flatten w0 w' [Item.own q0 (rr.1 : (List Int)), Item.box pb1 [u1, (.int .i64 rr.2.2.1), (.int .i64 rr.2.2.2)]] := by
 refine calls_of_W Try.func106 rfl rfl ?_
 have hC0 := Ctx.startIn hH hn
 unfold S.l27Fates at hF
 refine W_seq_reg ?_
 refine WL_assign rfl rfl ?_
 refine WL_nil ?_
 refine W_seq_reg ?_
 refine WL_buildSlice (vs := []) hC0 Try.underlying22 ty3 rfl rfl rfl rfl (by simp) rfl rfl (fun b1 w1 hC1 hB1 => ?_)
 have hC2 := hC1.row0 (α := Int)
 have hC3 := hC2.front 1 rfl
 dsimp only [List.eraseIdx, List.cons_append, List.nil_append, List.append_nil] at hC3
 have hC4 : Ctx Fs.flatten w0 w1 (Item.own (.slice (some ⟨b1, 0, none⟩) 0 0) (([] : List Int) : List Int) :: [Item.box pb1 [u1, (.int .i64 a1.2.1), (.int .i64 a1.2.2)]]) := hC3.rowOwn (by simp [maxLen])
 refine WL_assign rfl rfl ?_
 refine WL_nil ?_
 refine W_seq ?_
 refine W_seq_reg ?_
 refine WL_move rfl rfl ?_
 obtain ⟨x1, hr1, hF⟩ := bind_some hF
 have hC5 := hC4.f1
 obtain ⟨Fs1, hH1, hn1, hF1, hO1, hb1⟩ := Ctx.lend2 (As := [Item.own (.slice (some ⟨b1, 0, none⟩) 0 0) (([] : List Int) : (List Int))]) [Item.box pb1 [u1, (.int .i64 a1.2.1), (.int .i64 a1.2.2)]] hC5
 refine WL_call Try.call104 rfl rfl (c_S_l1Below pb1 (a1.1, a1.2.1, a1.2.2) u1 (RO.lent g1 hC5.keep hF1) 7 hH1 hn1 x1 hr1) ?_
 rintro _ w2 ⟨rfl, hq1⟩
 have hC6 : Ctx Fs.flatten w0 w2 [Item.box pb1 [u1, (.int .i64 x1.2.2.1), (.int .i64 x1.2.2.2)], Item.own (.slice (some ⟨b1, 0, none⟩) 0 0) (([] : List Int) : (List Int))] := hb1 _ _ hq1
 refine WL_assign rfl rfl ?_
 refine WL_nil ?_
 obtain ⟨r1, hr2, hF⟩ := bind_some hF
 refine W_norm (fun l w => ∃ x6 : Int, ∃ x7 : Int, ∃ v2 : Value, ∃ x8 : (List Int), (x6, x7, x8) = r1 ∧ l = [(3, v2)] ∧ Ctx Fs.flatten w0 w [Item.box pb1 [u1, (.int .i64 x6), (.int .i64 x7)], Item.own v2 (x8 : (List Int))]) ?_ ?_
 ·refine W_block ?_
  refine W.sub (l' := [(0, (ptr pb1 0)), (3, (.slice (some ⟨b1, 0, none⟩) 0 0)), (4, (.int .i64 x1.1))]) ?_ ⟨rfl, rfl, rfl, trivial⟩
  refine W_loop (fun k l w => ∃ x2 : Int, ∃ x3 : Int, ∃ v1 : Value, ∃ x4 : (List Int), ∃ x5 : Int, l = [(0, (ptr pb1 0)), (3, v1), (4, (.int .i64 x5))] ∧ Ctx Fs.flatten w0 w [Item.box pb1 [u1, (.int .i64 x2), (.int .i64 x3)], Item.own v1 (x4 : (List Int))] ∧ S.l27Fates_l1 a1 k x2 x3 x4 x5 = some r1) FUEL ⟨x1.2.2.1, x1.2.2.2, (.slice (some ⟨b1, 0, none⟩) 0 0), ([] : List Int), x1.1, rfl, hC6, hr2⟩ ?_
  clear hr2
  rintro k1 _ w3 ⟨x2, x3, v1, x4, x5, rfl, hC7, hL1⟩
  cases k1 with
  | zero => rw [S.l27Fates_l1] at hL1; cases hL1
  | succ k1 =>
   rw [S.l27Fates_l1] at hL1
   refine W_seq ?_
   refine W_seq_reg ?_
   refine WL_move rfl rfl ?_
   refine WL_gtr rfl rfl rfl ?_
   refine WL_nil ?_
   refine W_cond rfl (fun hc1 => ?_) (fun hc1 => ?_)
   ·replace hL1 := ite_t hL1 hc1
    refine W_skip ?_
    refine nrm_normal ?_
    refine W_seq ?_
    refine W_block ?_
    refine W_seq_reg ?_
    refine WL_move rfl rfl ?_
    obtain ⟨x9, hr3, hL1⟩ := bind_some hL1
    obtain ⟨Fs2, hH2, hn2, hF2, hO2, hb2⟩ := Ctx.lend2 (As := [Item.own v1 (x4 : (List Int))]) [Item.box pb1 [u1, (.int .i64 x2), (.int .i64 x3)]] hC7
    refine WL_call Try.call104 rfl rfl (c_S_l1Below pb1 (a1.1, x2, x3) u1 (RO.lent g1 hC7.keep hF2) 5 hH2 hn2 x9 hr3) ?_
    rintro _ w4 ⟨rfl, hq2⟩
    have hC8 : Ctx Fs.flatten w0 w4 [Item.box pb1 [u1, (.int .i64 x9.2.2.1), (.int .i64 x9.2.2.2)], Item.own v1 (x4 : (List Int))] := hb2 _ _ hq2
    refine WL_assign rfl rfl ?_
    refine WL_nil ?_
    refine W_reg ?_
    refine WL_move rfl rfl ?_
    refine WL_move rfl rfl ?_
    refine WL_buildSlice (vs := [(.int .i64 x9.1)]) hC8 Try.underlying22 ty3 rfl rfl rfl rfl (by intro v hv; simp only [List.mem_cons, List.not_mem_nil, or_false] at hv; rcases hv with rfl <;> rfl) rfl rfl (fun b2 w5 hC9 hB3 => ?_)
    have hC10 := hC9.row0 (α := Int)
    have hC11 := hC10.triv (int_val (x9.1))
    have hC12 := hC11.row1
    have hC13 := hC12.front 1 rfl
    dsimp only [List.eraseIdx, List.cons_append, List.nil_append, List.append_nil] at hC13
    have hC14 : Ctx Fs.flatten w0 w5 (Item.own (.slice (some ⟨b2, 0, none⟩) 1 1) ([x9.1] : List Int) :: [Item.box pb1 [u1, (.int .i64 x9.2.2.1), (.int .i64 x9.2.2.2)], Item.own v1 (x4 : (List Int))]) := hC13.rowOwn (by simp [maxLen])
    obtain ⟨x10, hx1, hL1⟩ := bind_some hL1
    refine WL_append_flat (α := Int) hC14 2 rfl (hC14.ro 0 rfl) (Keep.refl _ _) Try.underlying22 ty3 rfl hx1 rfl rfl rfl (fun v3 w6 hC15 => ?_)
    try dsimp only [List.set] at hC15
    refine WL_assign rfl rfl ?_
    refine WL_nil ?_
    refine blk_normal ?_
    refine nrm_normal ?_
    refine W_reg ?_
    refine WL_move rfl rfl ?_
    refine WL_sub rfl rfl rfl ?_
    refine WL_assign rfl rfl ?_
    refine WL_nil ?_
    have hC16 := hC15.f2
    have hC17 := hC16.f2
    have hC18 := hC17.h2
    refine nrm_sub (l' := [(0, (ptr pb1 0)), (3, v3), (4, (.int .i64 (w64 (x5 - 1))))]) ⟨rfl, rfl, rfl, trivial⟩ ?_
    exact ⟨k1, Nat.lt_succ_self _, x9.2.2.1, x9.2.2.2, v3, x10, w64 (x5 - 1), rfl, hC18, hL1⟩
   replace hL1 := ite_f hL1 hc1
   refine W_exit ?_
   refine nrm_exit ?_
   refine nrm_exit ?_
   refine blk_exit ?_
   have hq3 := Option.some.inj hL1
   subst hq3
   refine nrm_sub (l' := [(3, v1)]) ⟨rfl, trivial⟩ ?_
   exact ⟨x2, x3, v1, x4, rfl, rfl, hC7⟩
 rintro l2 _ w7 hs2 ⟨x6, x7, v2, x8, rfl, rfl, hC19⟩
 try dsimp only at hF
 refine nrm_sub' hs2 ?_
 clear hs2
 refine W_seq_reg ?_
 refine WL_move rfl rfl ?_
 refine WL_assign rfl rfl ?_
 refine WL_nil ?_
 refine W_ret ?_
 have hq4 := Option.some.inj hF
 subst hq4
 refine fn_ret1 rfl rfl ?_
 have hC20 := hC19.f1
 exact ⟨_, rfl, _, rfl, hC20⟩

theorem c_S_DrawFinishCall {w0 : World} (a1 : (List UInt8)) (u1 : Value) (g1 : RO [] w0 u1 a1) (rr : (((List Int) × Int × Int) × (Int × Int × Int × Bool) × (List Int))) (hF : S.DrawFinishCall a1 = some rr) :
 Calls Try.prog 41 [u1].toArray w0 fun e w' => ∃ v, e = .returned v ∧ Res3 w0 rr.1 rr.2.1 rr.2.2 v w' := by
 refine calls_of_W Try.func41 rfl rfl ?_
 have hC0 := Ctx.start w0
 unfold S.DrawFinishCall at hF
 refine W_seq_reg ?_
 refine WL_alloc hC0 zero26 rfl rfl (fun b1 w1 hC1 hB1 => ?_)
 refine WL_alloc hC1 zero35 rfl rfl (fun b2 w2 hC2 hB2 => ?_)
 refine WL_assign rfl rfl ?_
 refine WL_nil ?_
 refine W_seq_reg ?_
 refine WL_move rfl rfl ?_
 obtain ⟨x1, hr1, hF⟩ := bind_some hF
 refine WL_call Try.call98 rfl rfl (c_S_l1New a1 u1 (g1.now hC2.keep) x1 hr1) ?_
 rintro _ w3 ⟨b3, rfl, hq1⟩
 have hC3 : Ctx [] w0 w3 [Item.box b3 [u1, (.int .i64 x1.2.1), (.int .i64 x1.2.2)], Item.box b2 [(.int .i64 0), (.int .i64 0), (.int .i64 0), (.bool false)], Item.box b1 [(.slice none 0 0), (.int .i64 0), (.int .i64 0)]] := hC2.push2 hq1
 refine WL_assign rfl rfl ?_
 refine WL_nil ?_
 refine W_seq_reg ?_
 refine WL_move rfl rfl ?_
 obtain ⟨x2, hr2, hF⟩ := bind_some hF
 obtain ⟨Fs2, hH2, hn2, hF2, hO2, hb2⟩ := Ctx.lend2 (As := [Item.box b2 [(.int .i64 0), (.int .i64 0), (.int .i64 0), (.bool false)], Item.box b1 [(.slice none 0 0), (.int .i64 0), (.int .i64 0)]]) [Item.box b3 [u1, (.int .i64 x1.2.1), (.int .i64 x1.2.2)]] hC3
 refine WL_call Try.call99 rfl rfl (c_S_l27Ledger b3 (a1, x1.2.1, x1.2.2) u1 (RO.lent g1 hC3.keep hF2) hH2 hn2 x2 hr2) ?_
 rintro v1 w4 ⟨_, rfl, hq2⟩
 have hC4 : Ctx [] w0 w4 [Item.own v1 (x2.1 : ((List Int) × Int × Int)), Item.box b3 [u1, (.int .i64 x2.2.2.1), (.int .i64 x2.2.2.2)], Item.box b2 [(.int .i64 0), (.int .i64 0), (.int .i64 0), (.bool false)], Item.box b1 [(.slice none 0 0), (.int .i64 0), (.int .i64 0)]] := hb2 _ _ hq2
 obtain ⟨v2, rfl, hC5⟩ := st26_own hC4
 refine WL_alloc hC5 zero26 rfl rfl (fun b4 w5 hC6 hB3 => ?_)
 refine WL_store_box_agg (cs' := [v2, (.int .i64 x2.1.2.1), (.int .i64 x2.1.2.2)]) (new := [v2, (.int .i64 x2.1.2.1), (.int .i64 x2.1.2.2)]) hC6 0 rfl rfl (by intro v hv; simp only [List.mem_cons, List.not_mem_nil, or_false] at hv; rcases hv with rfl | rfl | rfl; exact (ro_one (hC6.ro 1 rfl)); exact rfl; exact rfl) rfl Try.sizeOf26 rfl rfl (fun w6 hC7 => ?_)
 try dsimp only [List.set] at hC7
 refine WL_nil ?_
 refine W_seq_reg ?_
 refine WL_move rfl rfl ?_
 obtain ⟨x3, hr3, hF⟩ := bind_some hF
 have hC8 := hC7.f2
 obtain ⟨Fs3, hH3, hn3, hF3, hO3, hb3⟩ := Ctx.lend2 (As := [Item.box b4 [v2, (.int .i64 x2.1.2.1), (.int .i64 x2.1.2.2)], Item.own v2 (x2.1.1 : (List Int)), Item.box b2 [(.int .i64 0), (.int .i64 0), (.int .i64 0), (.bool false)], Item.box b1 [(.slice none 0 0), (.int .i64 0), (.int .i64 0)]]) [Item.box b3 [u1, (.int .i64 x2.2.2.1), (.int .i64 x2.2.2.2)]] hC8
 refine WL_call Try.call100 rfl rfl (c_S_l27Call b3 (a1, x2.2.2.1, x2.2.2.2) u1 (RO.lent g1 hC8.keep hF3) hH3 hn3 x3 hr3) ?_
 rintro v3 w7 ⟨_, rfl, hq3⟩
 have hC9 : Ctx [] w0 w7 [Item.own v3 (x3.1 : (Int × Int × Int × Bool)), Item.box b3 [u1, (.int .i64 x3.2.2.1), (.int .i64 x3.2.2.2)], Item.box b4 [v2, (.int .i64 x2.1.2.1), (.int .i64 x2.1.2.2)], Item.own v2 (x2.1.1 : (List Int)), Item.box b2 [(.int .i64 0), (.int .i64 0), (.int .i64 0), (.bool false)], Item.box b1 [(.slice none 0 0), (.int .i64 0), (.int .i64 0)]] := hb3 _ _ hq3
 obtain ⟨rfl, hC10⟩ := st35_own hC9
 refine WL_alloc hC10 zero35 rfl rfl (fun b5 w9 hC11 hB4 => ?_)
 refine WL_store_box_agg (cs' := [(.int .i64 x3.1.1), (.int .i64 x3.1.2.1), (.int .i64 x3.1.2.2.1), (.bool x3.1.2.2.2)]) (new := [(.int .i64 x3.1.1), (.int .i64 x3.1.2.1), (.int .i64 x3.1.2.2.1), (.bool x3.1.2.2.2)]) hC11 0 rfl rfl (by intro v hv; simp only [List.mem_cons, List.not_mem_nil, or_false] at hv; rcases hv with rfl | rfl | rfl | rfl; exact rfl; exact rfl; exact rfl; exact rfl) rfl Try.sizeOf35 rfl rfl (fun w10 hC12 => ?_)
 try dsimp only [List.set] at hC12
 refine WL_nil ?_
 obtain ⟨r1, hr4, hF⟩ := bind_some hF
 refine W_cut (fun l w => ∃ x4 : Int, ∃ x5 : Int, ∃ x6 : Int, ∃ x7 : Int, ∃ x8 : Int, ∃ x9 : Bool, ∃ v4 : Value, ∃ x10 : (List Int), ∃ x11 : Int, ∃ x12 : Int, ∃ v5 : Value, ∃ x13 : (List Int), (x4, x5, x6, x7, x8, x9, x10, x11, x12, x13) = r1 ∧ l = [(2, (ptr b1 0)), (3, (ptr b2 0)), (4, v5)] ∧ Ctx [] w0 w [Item.own v5 (x13 : (List Int)), Item.own v4 (x10 : (List Int)), Item.box b2 [(.int .i64 x6), (.int .i64 x7), (.int .i64 x8), (.bool x9)], Item.box b1 [v4, (.int .i64 x11), (.int .i64 x12)]]) ?_ ?_
 ·refine W_drawn 7 rfl hmix (fun w12 hB6 => ?_)
  have hC14 := hC12.grow hB6
  refine WA_tk 2 (by kernel_rfl) rfl rfl (fl_move rfl) ?_
  refine WL_move rfl rfl ?_
  refine WL_nil ?_
  refine WA_all3 (i := 0) (j := 1) (m := 3) (by kernel_rfl) rfl rfl rfl ?_ ?_ ?_
  ·refine WL_load_box_agg [v2, (.int .i64 x2.1.2.1), (.int .i64 x2.1.2.2)] hC14 2 rfl rfl rfl Try.isAgg26 Try.sizeOf26 rfl rfl ?_
   refine WL_nil ?_
   refine WA_all2 (i := 1) (j := 3) (by kernel_rfl) rfl rfl ?_ ?_
   ·refine WL_load_box_agg [(.int .i64 x3.1.1), (.int .i64 x3.1.2.1), (.int .i64 x3.1.2.2.1), (.bool x3.1.2.2.2)] hC14 0 rfl rfl rfl Try.isAgg35 Try.sizeOf35 rfl rfl ?_
    refine WL_nil ?_
    obtain ⟨x14, hr5, hr4⟩ := bind_some hr4
    refine WA_one 3 (by kernel_rfl) rfl ?_
    have hC15 := hC14.f1
    obtain ⟨Fs4, hH4, hn4, hF4, hO4, hb4⟩ := Ctx.lend2 (As := [Item.box b5 [(.int .i64 x3.1.1), (.int .i64 x3.1.2.1), (.int .i64 x3.1.2.2.1), (.bool x3.1.2.2.2)], Item.box b4 [v2, (.int .i64 x2.1.2.1), (.int .i64 x2.1.2.2)], Item.own v2 (x2.1.1 : (List Int)), Item.box b2 [(.int .i64 0), (.int .i64 0), (.int .i64 0), (.bool false)], Item.box b1 [(.slice none 0 0), (.int .i64 0), (.int .i64 0)]]) [Item.box b3 [u1, (.int .i64 x3.2.2.1), (.int .i64 x3.2.2.2)]] hC15
    refine WL_call Try.call106 rfl rfl (c_S_l27Fates b3 (a1, x3.2.2.1, x3.2.2.2) u1 (RO.lent g1 hC15.keep hF4) hH4 hn4 x14 hr5) ?_
    rintro v6 w13 ⟨_, rfl, hq4⟩
    have hC16 : Ctx [] w0 w13 [Item.own v6 (x14.1 : (List Int)), Item.box b3 [u1, (.int .i64 x14.2.2.1), (.int .i64 x14.2.2.2)], Item.box b5 [(.int .i64 x3.1.1), (.int .i64 x3.1.2.1), (.int .i64 x3.1.2.2.1), (.bool x3.1.2.2.2)], Item.box b4 [v2, (.int .i64 x2.1.2.1), (.int .i64 x2.1.2.2)], Item.own v2 (x2.1.1 : (List Int)), Item.box b2 [(.int .i64 0), (.int .i64 0), (.int .i64 0), (.bool false)], Item.box b1 [(.slice none 0 0), (.int .i64 0), (.int .i64 0)]] := hb4 _ _ hq4
    refine WL_nil ?_
    refine WA_one 4 (by kernel_rfl) rfl ?_
    refine WL_store_box_agg (cs' := [v2, (.int .i64 x2.1.2.1), (.int .i64 x2.1.2.2)]) (new := [v2, (.int .i64 x2.1.2.1), (.int .i64 x2.1.2.2)]) hC16 6 rfl rfl (by intro v hv; simp only [List.mem_cons, List.not_mem_nil, or_false] at hv; rcases hv with rfl | rfl | rfl; exact (ro_one (hC16.ro 4 rfl)); exact rfl; exact rfl) rfl Try.sizeOf26 rfl rfl (fun w14 hC17 => ?_)
    try dsimp only [List.set] at hC17
    refine WL_nil ?_
    refine WA_one 5 (by kernel_rfl) rfl ?_
    refine WL_store_box_agg (cs' := [(.int .i64 x3.1.1), (.int .i64 x3.1.2.1), (.int .i64 x3.1.2.2.1), (.bool x3.1.2.2.2)]) (new := [(.int .i64 x3.1.1), (.int .i64 x3.1.2.1), (.int .i64 x3.1.2.2.1), (.bool x3.1.2.2.2)]) hC17 5 rfl rfl (by intro v hv; simp only [List.mem_cons, List.not_mem_nil, or_false] at hv; rcases hv with rfl | rfl | rfl | rfl; exact rfl; exact rfl; exact rfl; exact rfl) rfl Try.sizeOf35 rfl rfl (fun w15 hC18 => ?_)
    try dsimp only [List.set] at hC18
    refine WL_nil ?_
    refine WA_tk 6 (by kernel_rfl) rfl rfl (fl_assign rfl) ?_
    refine WL_assign rfl rfl ?_
    refine WL_nil ?_
    refine WA_done (by kernel_rfl) ?_
    have hq5 := Option.some.inj hr4
    subst hq5
    have hC19 := hC18.f6
    have hC20 := hC19.f6
    have hC21 := hC20.f6
    have hC22 := hC21.f3
    have hC23 := hC22.h4
    refine nrm_sub (l' := [(2, (ptr b1 0)), (3, (ptr b2 0)), (4, v6)]) ⟨rfl, rfl, rfl, trivial⟩ ?_
    exact ⟨x14.2.2.1, x14.2.2.2, x3.1.1, x3.1.2.1, x3.1.2.2.1, x3.1.2.2.2, v2, x2.1.1, x2.1.2.1, x2.1.2.2, v6, x14.1, rfl, rfl, hC23⟩
   obtain ⟨x14, hr5, hr4⟩ := bind_some hr4
   have hC15 := hC14.f1
   obtain ⟨Fs4, hH4, hn4, hF4, hO4, hb4⟩ := Ctx.lend2 (As := [Item.box b5 [(.int .i64 x3.1.1), (.int .i64 x3.1.2.1), (.int .i64 x3.1.2.2.1), (.bool x3.1.2.2.2)], Item.box b4 [v2, (.int .i64 x2.1.2.1), (.int .i64 x2.1.2.2)], Item.own v2 (x2.1.1 : (List Int)), Item.box b2 [(.int .i64 0), (.int .i64 0), (.int .i64 0), (.bool false)], Item.box b1 [(.slice none 0 0), (.int .i64 0), (.int .i64 0)]]) [Item.box b3 [u1, (.int .i64 x3.2.2.1), (.int .i64 x3.2.2.2)]] hC15
   refine WL_call Try.call106 rfl rfl (c_S_l27Fates b3 (a1, x3.2.2.1, x3.2.2.2) u1 (RO.lent g1 hC15.keep hF4) hH4 hn4 x14 hr5) ?_
   rintro v6 w13 ⟨_, rfl, hq4⟩
   have hC16 : Ctx [] w0 w13 [Item.own v6 (x14.1 : (List Int)), Item.box b3 [u1, (.int .i64 x14.2.2.1), (.int .i64 x14.2.2.2)], Item.box b5 [(.int .i64 x3.1.1), (.int .i64 x3.1.2.1), (.int .i64 x3.1.2.2.1), (.bool x3.1.2.2.2)], Item.box b4 [v2, (.int .i64 x2.1.2.1), (.int .i64 x2.1.2.2)], Item.own v2 (x2.1.1 : (List Int)), Item.box b2 [(.int .i64 0), (.int .i64 0), (.int .i64 0), (.bool false)], Item.box b1 [(.slice none 0 0), (.int .i64 0), (.int .i64 0)]] := hb4 _ _ hq4
   refine WL_nil ?_
   refine WA_all2 (i := 1) (j := 4) (by kernel_rfl) rfl rfl ?_ ?_
   ·refine WL_load_box_agg [(.int .i64 x3.1.1), (.int .i64 x3.1.2.1), (.int .i64 x3.1.2.2.1), (.bool x3.1.2.2.2)] hC16 2 rfl rfl rfl Try.isAgg35 Try.sizeOf35 rfl rfl ?_
    refine WL_nil ?_
    refine WA_one 4 (by kernel_rfl) rfl ?_
    refine WL_store_box_agg (cs' := [v2, (.int .i64 x2.1.2.1), (.int .i64 x2.1.2.2)]) (new := [v2, (.int .i64 x2.1.2.1), (.int .i64 x2.1.2.2)]) hC16 6 rfl rfl (by intro v hv; simp only [List.mem_cons, List.not_mem_nil, or_false] at hv; rcases hv with rfl | rfl | rfl; exact (ro_one (hC16.ro 4 rfl)); exact rfl; exact rfl) rfl Try.sizeOf26 rfl rfl (fun w14 hC17 => ?_)
    try dsimp only [List.set] at hC17
    refine WL_nil ?_
    refine WA_one 5 (by kernel_rfl) rfl ?_
    refine WL_store_box_agg (cs' := [(.int .i64 x3.1.1), (.int .i64 x3.1.2.1), (.int .i64 x3.1.2.2.1), (.bool x3.1.2.2.2)]) (new := [(.int .i64 x3.1.1), (.int .i64 x3.1.2.1), (.int .i64 x3.1.2.2.1), (.bool x3.1.2.2.2)]) hC17 5 rfl rfl (by intro v hv; simp only [List.mem_cons, List.not_mem_nil, or_false] at hv; rcases hv with rfl | rfl | rfl | rfl; exact rfl; exact rfl; exact rfl; exact rfl) rfl Try.sizeOf35 rfl rfl (fun w15 hC18 => ?_)
    try dsimp only [List.set] at hC18
    refine WL_nil ?_
    refine WA_tk 6 (by kernel_rfl) rfl rfl (fl_assign rfl) ?_
    refine WL_assign rfl rfl ?_
    refine WL_nil ?_
    refine WA_done (by kernel_rfl) ?_
    have hq5 := Option.some.inj hr4
    subst hq5
    have hC19 := hC18.f6
    have hC20 := hC19.f6
    have hC21 := hC20.f6
    have hC22 := hC21.f3
    have hC23 := hC22.h4
    refine nrm_sub (l' := [(2, (ptr b1 0)), (3, (ptr b2 0)), (4, v6)]) ⟨rfl, rfl, rfl, trivial⟩ ?_
    exact ⟨x14.2.2.1, x14.2.2.2, x3.1.1, x3.1.2.1, x3.1.2.2.1, x3.1.2.2.2, v2, x2.1.1, x2.1.2.1, x2.1.2.2, v6, x14.1, rfl, rfl, hC23⟩
   refine WL_store_box_agg (cs' := [v2, (.int .i64 x2.1.2.1), (.int .i64 x2.1.2.2)]) (new := [v2, (.int .i64 x2.1.2.1), (.int .i64 x2.1.2.2)]) hC16 6 rfl rfl (by intro v hv; simp only [List.mem_cons, List.not_mem_nil, or_false] at hv; rcases hv with rfl | rfl | rfl; exact (ro_one (hC16.ro 4 rfl)); exact rfl; exact rfl) rfl Try.sizeOf26 rfl rfl (fun w14 hC17 => ?_)
   try dsimp only [List.set] at hC17
   refine WL_nil ?_
   refine WA_one 1 (by kernel_rfl) rfl ?_
   refine WL_load_box_agg [(.int .i64 x3.1.1), (.int .i64 x3.1.2.1), (.int .i64 x3.1.2.2.1), (.bool x3.1.2.2.2)] hC17 2 rfl rfl rfl Try.isAgg35 Try.sizeOf35 rfl rfl ?_
   refine WL_nil ?_
   refine WA_one 5 (by kernel_rfl) rfl ?_
   refine WL_store_box_agg (cs' := [(.int .i64 x3.1.1), (.int .i64 x3.1.2.1), (.int .i64 x3.1.2.2.1), (.bool x3.1.2.2.2)]) (new := [(.int .i64 x3.1.1), (.int .i64 x3.1.2.1), (.int .i64 x3.1.2.2.1), (.bool x3.1.2.2.2)]) hC17 5 rfl rfl (by intro v hv; simp only [List.mem_cons, List.not_mem_nil, or_false] at hv; rcases hv with rfl | rfl | rfl | rfl; exact rfl; exact rfl; exact rfl; exact rfl) rfl Try.sizeOf35 rfl rfl (fun w15 hC18 => ?_)
   try dsimp only [List.set] at hC18
   refine WL_nil ?_
   refine WA_tk 6 (by kernel_rfl) rfl rfl (fl_assign rfl) ?_
   refine WL_assign rfl rfl ?_
   refine WL_nil ?_
   refine WA_done (by kernel_rfl) ?_
   have hq5 := Option.some.inj hr4
   subst hq5
   have hC19 := hC18.f6
   have hC20 := hC19.f6
   have hC21 := hC20.f6
   have hC22 := hC21.f3
   have hC23 := hC22.h4
   refine nrm_sub (l' := [(2, (ptr b1 0)), (3, (ptr b2 0)), (4, v6)]) ⟨rfl, rfl, rfl, trivial⟩ ?_
   exact ⟨x14.2.2.1, x14.2.2.2, x3.1.1, x3.1.2.1, x3.1.2.2.1, x3.1.2.2.2, v2, x2.1.1, x2.1.2.1, x2.1.2.2, v6, x14.1, rfl, rfl, hC23⟩
  ·refine WL_load_box_agg [(.int .i64 x3.1.1), (.int .i64 x3.1.2.1), (.int .i64 x3.1.2.2.1), (.bool x3.1.2.2.2)] hC14 0 rfl rfl rfl Try.isAgg35 Try.sizeOf35 rfl rfl ?_
   refine WL_nil ?_
   refine WA_all2 (i := 0) (j := 3) (by kernel_rfl) rfl rfl ?_ ?_
   ·refine WL_load_box_agg [v2, (.int .i64 x2.1.2.1), (.int .i64 x2.1.2.2)] hC14 2 rfl rfl rfl Try.isAgg26 Try.sizeOf26 rfl rfl ?_
    refine WL_nil ?_
    obtain ⟨x14, hr5, hr4⟩ := bind_some hr4
    refine WA_one 3 (by kernel_rfl) rfl ?_
    have hC15 := hC14.f1
    obtain ⟨Fs4, hH4, hn4, hF4, hO4, hb4⟩ := Ctx.lend2 (As := [Item.box b5 [(.int .i64 x3.1.1), (.int .i64 x3.1.2.1), (.int .i64 x3.1.2.2.1), (.bool x3.1.2.2.2)], Item.box b4 [v2, (.int .i64 x2.1.2.1), (.int .i64 x2.1.2.2)], Item.own v2 (x2.1.1 : (List Int)), Item.box b2 [(.int .i64 0), (.int .i64 0), (.int .i64 0), (.bool false)], Item.box b1 [(.slice none 0 0), (.int .i64 0), (.int .i64 0)]]) [Item.box b3 [u1, (.int .i64 x3.2.2.1), (.int .i64 x3.2.2.2)]] hC15
    refine WL_call Try.call106 rfl rfl (c_S_l27Fates b3 (a1, x3.2.2.1, x3.2.2.2) u1 (RO.lent g1 hC15.keep hF4) hH4 hn4 x14 hr5) ?_
    rintro v6 w13 ⟨_, rfl, hq4⟩
    have hC16 : Ctx [] w0 w13 [Item.own v6 (x14.1 : (List Int)), Item.box b3 [u1, (.int .i64 x14.2.2.1), (.int .i64 x14.2.2.2)], Item.box b5 [(.int .i64 x3.1.1), (.int .i64 x3.1.2.1), (.int .i64 x3.1.2.2.1), (.bool x3.1.2.2.2)], Item.box b4 [v2, (.int .i64 x2.1.2.1), (.int .i64 x2.1.2.2)], Item.own v2 (x2.1.1 : (List Int)), Item.box b2 [(.int .i64 0), (.int .i64 0), (.int .i64 0), (.bool false)], Item.box b1 [(.slice none 0 0), (.int .i64 0), (.int .i64 0)]] := hb4 _ _ hq4
    refine WL_nil ?_
    refine WA_one 4 (by kernel_rfl) rfl ?_
    refine WL_store_box_agg (cs' := [v2, (.int .i64 x2.1.2.1), (.int .i64 x2.1.2.2)]) (new := [v2, (.int .i64 x2.1.2.1), (.int .i64 x2.1.2.2)]) hC16 6 rfl rfl (by intro v hv; simp only [List.mem_cons, List.not_mem_nil, or_false] at hv; rcases hv with rfl | rfl | rfl; exact (ro_one (hC16.ro 4 rfl)); exact rfl; exact rfl) rfl Try.sizeOf26 rfl rfl (fun w14 hC17 => ?_)
    try dsimp only [List.set] at hC17
    refine WL_nil ?_
    refine WA_one 5 (by kernel_rfl) rfl ?_
    refine WL_store_box_agg (cs' := [(.int .i64 x3.1.1), (.int .i64 x3.1.2.1), (.int .i64 x3.1.2.2.1), (.bool x3.1.2.2.2)]) (new := [(.int .i64 x3.1.1), (.int .i64 x3.1.2.1), (.int .i64 x3.1.2.2.1), (.bool x3.1.2.2.2)]) hC17 5 rfl rfl (by intro v hv; simp only [List.mem_cons, List.not_mem_nil, or_false] at hv; rcases hv with rfl | rfl | rfl | rfl; exact rfl; exact rfl; exact rfl; exact rfl) rfl Try.sizeOf35 rfl rfl (fun w15 hC18 => ?_)
    try dsimp only [List.set] at hC18
    refine WL_nil ?_
    refine WA_tk 6 (by kernel_rfl) rfl rfl (fl_assign rfl) ?_
    refine WL_assign rfl rfl ?_
    refine WL_nil ?_
    refine WA_done (by kernel_rfl) ?_
    have hq5 := Option.some.inj hr4
    subst hq5
    have hC19 := hC18.f6
    have hC20 := hC19.f6
    have hC21 := hC20.f6
    have hC22 := hC21.f3
    have hC23 := hC22.h4
    refine nrm_sub (l' := [(2, (ptr b1 0)), (3, (ptr b2 0)), (4, v6)]) ⟨rfl, rfl, rfl, trivial⟩ ?_
    exact ⟨x14.2.2.1, x14.2.2.2, x3.1.1, x3.1.2.1, x3.1.2.2.1, x3.1.2.2.2, v2, x2.1.1, x2.1.2.1, x2.1.2.2, v6, x14.1, rfl, rfl, hC23⟩
   obtain ⟨x14, hr5, hr4⟩ := bind_some hr4
   have hC15 := hC14.f1
   obtain ⟨Fs4, hH4, hn4, hF4, hO4, hb4⟩ := Ctx.lend2 (As := [Item.box b5 [(.int .i64 x3.1.1), (.int .i64 x3.1.2.1), (.int .i64 x3.1.2.2.1), (.bool x3.1.2.2.2)], Item.box b4 [v2, (.int .i64 x2.1.2.1), (.int .i64 x2.1.2.2)], Item.own v2 (x2.1.1 : (List Int)), Item.box b2 [(.int .i64 0), (.int .i64 0), (.int .i64 0), (.bool false)], Item.box b1 [(.slice none 0 0), (.int .i64 0), (.int .i64 0)]]) [Item.box b3 [u1, (.int .i64 x3.2.2.1), (.int .i64 x3.2.2.2)]] hC15
   refine WL_call Try.call106 rfl rfl (c_S_l27Fates b3 (a1, x3.2.2.1, x3.2.2.2) u1 (RO.lent g1 hC15.keep hF4) hH4 hn4 x14 hr5) ?_
   rintro v6 w13 ⟨_, rfl, hq4⟩
   have hC16 : Ctx [] w0 w13 [Item.own v6 (x14.1 : (List Int)), Item.box b3 [u1, (.int .i64 x14.2.2.1), (.int .i64 x14.2.2.2)], Item.box b5 [(.int .i64 x3.1.1), (.int .i64 x3.1.2.1), (.int .i64 x3.1.2.2.1), (.bool x3.1.2.2.2)], Item.box b4 [v2, (.int .i64 x2.1.2.1), (.int .i64 x2.1.2.2)], Item.own v2 (x2.1.1 : (List Int)), Item.box b2 [(.int .i64 0), (.int .i64 0), (.int .i64 0), (.bool false)], Item.box b1 [(.slice none 0 0), (.int .i64 0), (.int .i64 0)]] := hb4 _ _ hq4
   refine WL_nil ?_
   refine WA_one 0 (by kernel_rfl) rfl ?_
   refine WL_load_box_agg [v2, (.int .i64 x2.1.2.1), (.int .i64 x2.1.2.2)] hC16 3 rfl rfl rfl Try.isAgg26 Try.sizeOf26 rfl rfl ?_
   refine WL_nil ?_
   refine WA_one 4 (by kernel_rfl) rfl ?_
   refine WL_store_box_agg (cs' := [v2, (.int .i64 x2.1.2.1), (.int .i64 x2.1.2.2)]) (new := [v2, (.int .i64 x2.1.2.1), (.int .i64 x2.1.2.2)]) hC16 6 rfl rfl (by intro v hv; simp only [List.mem_cons, List.not_mem_nil, or_false] at hv; rcases hv with rfl | rfl | rfl; exact (ro_one (hC16.ro 4 rfl)); exact rfl; exact rfl) rfl Try.sizeOf26 rfl rfl (fun w14 hC17 => ?_)
   try dsimp only [List.set] at hC17
   refine WL_nil ?_
   refine WA_one 5 (by kernel_rfl) rfl ?_
   refine WL_store_box_agg (cs' := [(.int .i64 x3.1.1), (.int .i64 x3.1.2.1), (.int .i64 x3.1.2.2.1), (.bool x3.1.2.2.2)]) (new := [(.int .i64 x3.1.1), (.int .i64 x3.1.2.1), (.int .i64 x3.1.2.2.1), (.bool x3.1.2.2.2)]) hC17 5 rfl rfl (by intro v hv; simp only [List.mem_cons, List.not_mem_nil, or_false] at hv; rcases hv with rfl | rfl | rfl | rfl; exact rfl; exact rfl; exact rfl; exact rfl) rfl Try.sizeOf35 rfl rfl (fun w15 hC18 => ?_)
   try dsimp only [List.set] at hC18
   refine WL_nil ?_
   refine WA_tk 6 (by kernel_rfl) rfl rfl (fl_assign rfl) ?_
   refine WL_assign rfl rfl ?_
   refine WL_nil ?_
   refine WA_done (by kernel_rfl) ?_
   have hq5 := Option.some.inj hr4
   subst hq5
   have hC19 := hC18.f6
   have hC20 := hC19.f6
   have hC21 := hC20.f6
   have hC22 := hC21.f3
   have hC23 := hC22.h4
   refine nrm_sub (l' := [(2, (ptr b1 0)), (3, (ptr b2 0)), (4, v6)]) ⟨rfl, rfl, rfl, trivial⟩ ?_
   exact ⟨x14.2.2.1, x14.2.2.2, x3.1.1, x3.1.2.1, x3.1.2.2.1, x3.1.2.2.2, v2, x2.1.1, x2.1.2.1, x2.1.2.2, v6, x14.1, rfl, rfl, hC23⟩
  obtain ⟨x14, hr5, hr4⟩ := bind_some hr4
  have hC15 := hC14.f1
  obtain ⟨Fs4, hH4, hn4, hF4, hO4, hb4⟩ := Ctx.lend2 (As := [Item.box b5 [(.int .i64 x3.1.1), (.int .i64 x3.1.2.1), (.int .i64 x3.1.2.2.1), (.bool x3.1.2.2.2)], Item.box b4 [v2, (.int .i64 x2.1.2.1), (.int .i64 x2.1.2.2)], Item.own v2 (x2.1.1 : (List Int)), Item.box b2 [(.int .i64 0), (.int .i64 0), (.int .i64 0), (.bool false)], Item.box b1 [(.slice none 0 0), (.int .i64 0), (.int .i64 0)]]) [Item.box b3 [u1, (.int .i64 x3.2.2.1), (.int .i64 x3.2.2.2)]] hC15
  refine WL_call Try.call106 rfl rfl (c_S_l27Fates b3 (a1, x3.2.2.1, x3.2.2.2) u1 (RO.lent g1 hC15.keep hF4) hH4 hn4 x14 hr5) ?_
  rintro v6 w13 ⟨_, rfl, hq4⟩
  have hC16 : Ctx [] w0 w13 [Item.own v6 (x14.1 : (List Int)), Item.box b3 [u1, (.int .i64 x14.2.2.1), (.int .i64 x14.2.2.2)], Item.box b5 [(.int .i64 x3.1.1), (.int .i64 x3.1.2.1), (.int .i64 x3.1.2.2.1), (.bool x3.1.2.2.2)], Item.box b4 [v2, (.int .i64 x2.1.2.1), (.int .i64 x2.1.2.2)], Item.own v2 (x2.1.1 : (List Int)), Item.box b2 [(.int .i64 0), (.int .i64 0), (.int .i64 0), (.bool false)], Item.box b1 [(.slice none 0 0), (.int .i64 0), (.int .i64 0)]] := hb4 _ _ hq4
  refine WL_nil ?_
  refine WA.sub (l' := [(0, u1), (2, (ptr b1 0)), (3, (ptr b2 0)), (4, (.slice none 0 0)), (5, (ptr b3 0)), (6, (ptr b4 0)), (7, (ptr b5 0)), (8, u1), (9, (ptr b3 0)), (10, (ptr b3 0)), (11, (.agg #[v2, (.int .i64 x2.1.2.1), (.int .i64 x2.1.2.2)])), (12, (ptr b3 0)), (13, (.agg #[(.int .i64 x3.1.1), (.int .i64 x3.1.2.1), (.int .i64 x3.1.2.2.1), (.bool x3.1.2.2.2)])), (16, (ptr b3 0)), (17, v6)]) ?_ ⟨rfl, rfl, rfl, rfl, rfl, rfl, rfl, rfl, rfl, rfl, rfl, rfl, rfl, rfl, rfl, trivial⟩
  refine WA_postsO [⟨0, [], fun vs => PW.val (.agg #[v2, (.int .i64 x2.1.2.1), (.int .i64 x2.1.2.2)]), []⟩, ⟨1, [], fun vs => PW.val (.agg #[(.int .i64 x3.1.1), (.int .i64 x3.1.2.1), (.int .i64 x3.1.2.2.1), (.bool x3.1.2.2.2)]), []⟩] [[], []] [1] 3 rfl (by kernel_rfl) (by kernel_rfl) ?_ ⟨?_, ?_, trivial⟩
  ·refine StepsE_cons rfl ?_ ?_
   ·intro w14 hB7
    refine DepsE_nil ?_
    refine ⟨_, rfl, ?_⟩
    refine WL_load_box_agg [v2, (.int .i64 x2.1.2.1), (.int .i64 x2.1.2.2)] (hC16.grow hB7) 3 rfl rfl rfl Try.isAgg26 Try.sizeOf26 rfl rfl ?_
    refine WL_nil ?_
    exact FinE_val (Below.refl _ _) rfl rfl ⟨rfl, rfl⟩
   refine StepsE_cons rfl ?_ ?_
   ·intro w14 hB7
    refine DepsE_nil ?_
    refine ⟨_, rfl, ?_⟩
    refine WL_load_box_agg [(.int .i64 x3.1.1), (.int .i64 x3.1.2.1), (.int .i64 x3.1.2.2.1), (.bool x3.1.2.2.2)] (hC16.grow hB7) 2 rfl rfl rfl Try.isAgg35 Try.sizeOf35 rfl rfl ?_
    refine WL_nil ?_
    exact FinE_val (Below.refl _ _) rfl rfl ⟨rfl, rfl⟩
   exact StepsE_nil
  ·intro g' hg'
   obtain rfl : g' = 3 := hg'
   intro w15 hB8
   refine AllE_cons rfl rfl rfl ?_
   rintro _ _ ⟨rfl, rfl⟩
   refine AllE_cons rfl rfl rfl ?_
   rintro _ _ ⟨rfl, rfl⟩
   refine AllE_nil ?_
   intro hn5 hb5
   have hC17 := hC16.grow hB8
   refine WA_one 4 (by kernel_rfl) rfl ?_
   refine WL_store_box_agg (cs' := [v2, (.int .i64 x2.1.2.1), (.int .i64 x2.1.2.2)]) (new := [v2, (.int .i64 x2.1.2.1), (.int .i64 x2.1.2.2)]) hC17 6 rfl rfl (by intro v hv; simp only [List.mem_cons, List.not_mem_nil, or_false] at hv; rcases hv with rfl | rfl | rfl; exact (ro_one (hC17.ro 4 rfl)); exact rfl; exact rfl) rfl Try.sizeOf26 rfl rfl (fun w16 hC18 => ?_)
   try dsimp only [List.set] at hC18
   refine WL_nil ?_
   refine WA_one 5 (by kernel_rfl) rfl ?_
   refine WL_store_box_agg (cs' := [(.int .i64 x3.1.1), (.int .i64 x3.1.2.1), (.int .i64 x3.1.2.2.1), (.bool x3.1.2.2.2)]) (new := [(.int .i64 x3.1.1), (.int .i64 x3.1.2.1), (.int .i64 x3.1.2.2.1), (.bool x3.1.2.2.2)]) hC18 5 rfl rfl (by intro v hv; simp only [List.mem_cons, List.not_mem_nil, or_false] at hv; rcases hv with rfl | rfl | rfl | rfl; exact rfl; exact rfl; exact rfl; exact rfl) rfl Try.sizeOf35 rfl rfl (fun w17 hC19 => ?_)
   try dsimp only [List.set] at hC19
   refine WL_nil ?_
   refine WA_tk 6 (by kernel_rfl) rfl rfl (fl_assign rfl) ?_
   refine WL_assign rfl rfl ?_
   refine WL_nil ?_
   refine WA_done (by kernel_rfl) ?_
   have hq5 := Option.some.inj hr4
   subst hq5
   have hC20 := hC19.f6
   have hC21 := hC20.f6
   have hC22 := hC21.f6
   have hC23 := hC22.f3
   have hC24 := hC23.h4
   refine nrm_sub (l' := [(2, (ptr b1 0)), (3, (ptr b2 0)), (4, v6)]) ⟨rfl, rfl, rfl, trivial⟩ ?_
   exact ⟨x14.2.2.1, x14.2.2.2, x3.1.1, x3.1.2.1, x3.1.2.2.1, x3.1.2.2.2, v2, x2.1.1, x2.1.2.1, x2.1.2.2, v6, x14.1, rfl, rfl, hC24⟩
  intro g' hg'
  obtain rfl : g' = 4 := hg'
  intro w15 hB8
  refine AllE_cons rfl rfl rfl ?_
  rintro _ _ ⟨rfl, rfl⟩
  refine AllE_nil ?_
  intro hn5 hb5
  have hC17 := hC16.grow hB8
  refine WA_all2 (i := 1) (j := 4) (by kernel_rfl) rfl rfl ?_ ?_
  ·refine WL_load_box_agg [(.int .i64 x3.1.1), (.int .i64 x3.1.2.1), (.int .i64 x3.1.2.2.1), (.bool x3.1.2.2.2)] hC17 2 rfl rfl rfl Try.isAgg35 Try.sizeOf35 rfl rfl ?_
   refine WL_nil ?_
   refine WA_one 4 (by kernel_rfl) rfl ?_
   refine WL_store_box_agg (cs' := [v2, (.int .i64 x2.1.2.1), (.int .i64 x2.1.2.2)]) (new := [v2, (.int .i64 x2.1.2.1), (.int .i64 x2.1.2.2)]) hC17 6 rfl rfl (by intro v hv; simp only [List.mem_cons, List.not_mem_nil, or_false] at hv; rcases hv with rfl | rfl | rfl; exact (ro_one (hC17.ro 4 rfl)); exact rfl; exact rfl) rfl Try.sizeOf26 rfl rfl (fun w16 hC18 => ?_)
   try dsimp only [List.set] at hC18
   refine WL_nil ?_
   refine WA_one 5 (by kernel_rfl) rfl ?_
   refine WL_store_box_agg (cs' := [(.int .i64 x3.1.1), (.int .i64 x3.1.2.1), (.int .i64 x3.1.2.2.1), (.bool x3.1.2.2.2)]) (new := [(.int .i64 x3.1.1), (.int .i64 x3.1.2.1), (.int .i64 x3.1.2.2.1), (.bool x3.1.2.2.2)]) hC18 5 rfl rfl (by intro v hv; simp only [List.mem_cons, List.not_mem_nil, or_false] at hv; rcases hv with rfl | rfl | rfl | rfl; exact rfl; exact rfl; exact rfl; exact rfl) rfl Try.sizeOf35 rfl rfl (fun w17 hC19 => ?_)
   try dsimp only [List.set] at hC19
   refine WL_nil ?_
   refine WA_tk 6 (by kernel_rfl) rfl rfl (fl_assign rfl) ?_
   refine WL_assign rfl rfl ?_
   refine WL_nil ?_
   refine WA_done (by kernel_rfl) ?_
   have hq5 := Option.some.inj hr4
   subst hq5
   have hC20 := hC19.f6
   have hC21 := hC20.f6
   have hC22 := hC21.f6
   have hC23 := hC22.f3
   have hC24 := hC23.h4
   refine nrm_sub (l' := [(2, (ptr b1 0)), (3, (ptr b2 0)), (4, v6)]) ⟨rfl, rfl, rfl, trivial⟩ ?_
   exact ⟨x14.2.2.1, x14.2.2.2, x3.1.1, x3.1.2.1, x3.1.2.2.1, x3.1.2.2.2, v2, x2.1.1, x2.1.2.1, x2.1.2.2, v6, x14.1, rfl, rfl, hC24⟩
  refine WL_store_box_agg (cs' := [v2, (.int .i64 x2.1.2.1), (.int .i64 x2.1.2.2)]) (new := [v2, (.int .i64 x2.1.2.1), (.int .i64 x2.1.2.2)]) hC17 6 rfl rfl (by intro v hv; simp only [List.mem_cons, List.not_mem_nil, or_false] at hv; rcases hv with rfl | rfl | rfl; exact (ro_one (hC17.ro 4 rfl)); exact rfl; exact rfl) rfl Try.sizeOf26 rfl rfl (fun w16 hC18 => ?_)
  try dsimp only [List.set] at hC18
  refine WL_nil ?_
  refine WA_one 1 (by kernel_rfl) rfl ?_
  refine WL_load_box_agg [(.int .i64 x3.1.1), (.int .i64 x3.1.2.1), (.int .i64 x3.1.2.2.1), (.bool x3.1.2.2.2)] hC18 2 rfl rfl rfl Try.isAgg35 Try.sizeOf35 rfl rfl ?_
  refine WL_nil ?_
  refine WA_one 5 (by kernel_rfl) rfl ?_
  refine WL_store_box_agg (cs' := [(.int .i64 x3.1.1), (.int .i64 x3.1.2.1), (.int .i64 x3.1.2.2.1), (.bool x3.1.2.2.2)]) (new := [(.int .i64 x3.1.1), (.int .i64 x3.1.2.1), (.int .i64 x3.1.2.2.1), (.bool x3.1.2.2.2)]) hC18 5 rfl rfl (by intro v hv; simp only [List.mem_cons, List.not_mem_nil, or_false] at hv; rcases hv with rfl | rfl | rfl | rfl; exact rfl; exact rfl; exact rfl; exact rfl) rfl Try.sizeOf35 rfl rfl (fun w17 hC19 => ?_)
  try dsimp only [List.set] at hC19
  refine WL_nil ?_
  refine WA_tk 6 (by kernel_rfl) rfl rfl (fl_assign rfl) ?_
  refine WL_assign rfl rfl ?_
  refine WL_nil ?_
  refine WA_done (by kernel_rfl) ?_
  have hq5 := Option.some.inj hr4
  subst hq5
  have hC20 := hC19.f6
  have hC21 := hC20.f6
  have hC22 := hC21.f6
  have hC23 := hC22.f3
  have hC24 := hC23.h4
  refine nrm_sub (l' := [(2, (ptr b1 0)), (3, (ptr b2 0)), (4, v6)]) ⟨rfl, rfl, rfl, trivial⟩ ?_
  exact ⟨x14.2.2.1, x14.2.2.2, x3.1.1, x3.1.2.1, x3.1.2.2.1, x3.1.2.2.2, v2, x2.1.1, x2.1.2.1, x2.1.2.2, v6, x14.1, rfl, rfl, hC24⟩
 rintro _ w11 ⟨x4, x5, x6, x7, x8, x9, v4, x10, x11, x12, v5, x13, rfl, rfl, hC13⟩
 try dsimp only at hF
 refine W_ret ?_
 have hq6 := Option.some.inj hF
 subst hq6
 refine fn_retG3 rfl (rv_cell_agg (cs' := [v4, (.int .i64 x11), (.int .i64 x12)]) hC13 (i := 3) rfl rfl rfl Try.isAgg26 Try.sizeOf26 rfl) (rv_cell_agg (cs' := [(.int .i64 x6), (.int .i64 x7), (.int .i64 x8), (.bool x9)]) hC13 (i := 2) rfl rfl rfl Try.isAgg35 Try.sizeOf35 rfl) (rv_tmp rfl) ?_
 have hC26 := own_st35 x6 x7 x8 x9 hC13
 have hC28 := hC26.f2
 have hC27 := own_st26 v4 x10 x11 x12 hC28
 exact ⟨_, rfl, res3_of hC27⟩

end Go.Gx.Px
