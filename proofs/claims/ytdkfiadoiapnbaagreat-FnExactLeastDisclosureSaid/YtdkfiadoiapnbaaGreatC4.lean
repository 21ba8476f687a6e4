/- The contracts of the Go functions against the pure functions, printed by program. Conditions: each says them. -/
import Derived.Test.YtdkfiadoiapnbaaGreatC3
set_option linter.unusedVariables false
set_option linter.unusedSimpArgs false
set_option maxRecDepth 100000
set_option maxHeartbeats 4000000
namespace Go.Gx.Px
open Go.Proofs Go.RowKit

theorem c_M_LeastDisclosure_c2 {w0 : World} (a1 : (List Int)) (u1 : Value) (g1 : RO [] w0 u1 a1) (pb1 : Nat) (ax1 : (List (Int × (List Int) × Int × Int × Int))) (g2 : ROAt [] w0 pb1 0 ax1) (pb2 : Nat) (ax2 : ((List Int) × (List (Int × (List Int))))) (g3 : ROAt [] w0 pb2 0 ax2) (pb3 : Nat) (ax3 : (List Int)) (g4 : ROAt [] w0 pb3 0 ax3) (rr : Bool) (hF : M.LeastDisclosure_c2 a1 ax1 ax2 ax3 = some rr) :
 Calls Tryz.prog 68 [u1, (ptr pb1 0), (ptr pb2 0), (ptr pb3 0)].toArray w0 fun e w' => ∃ v, e = .returned v ∧ Res w0 rr v w' := by
 refine calls_of_W Tryz.func68 rfl rfl ?_
 have hC0 := Ctx.start w0
 unfold M.LeastDisclosure_c2 at hF
 refine W_seq_reg ?_
 refine WL_boxK (cs := [u1]) hC0 (ro_cells g1) rfl rfl (fun b1 w1 hC1 hB1 hN1 => ?_)
 refine WL_assign rfl rfl ?_
 refine WL_nil ?_
 obtain ⟨r1, hr1, hF⟩ := bind_some hF
 refine W_cut (fun l w => ∃ x1 : Bool, x1 = r1 ∧ l = [(7, (.bool x1))] ∧ Ctx [] w0 w []) ?_ ?_
 ·refine W_drawn 12 rfl hmix (fun w3 hB3 => ?_)
  have hC3 := hC1.grow hB3
  refine WA_tk 4 (by kernel_rfl) rfl rfl (fl_makeFunc rfl) ?_
  refine WL_makeFunc rfl rfl ?_
  refine WL_nil ?_
  refine WA_all3 (i := 0) (j := 1) (m := 2) (by kernel_rfl) rfl rfl rfl ?_ ?_ ?_
  ·refine WL_load ty33 g2 hC3.keep rfl rfl (fun v1 h1 => ?_)
   refine WL_nil ?_
   refine WA_all2 (i := 1) (j := 2) (by kernel_rfl) rfl rfl ?_ ?_
   ·refine WL_load ty37 g3 hC3.keep rfl rfl (fun v2 h2 => ?_)
    obtain ⟨v3, v4, rfl, h3, h4⟩ := ro_st37 h2
    refine WL_nil ?_
    refine WA_one 2 (by kernel_rfl) rfl ?_
    refine WL_load ty22 g4 hC3.keep rfl rfl (fun v5 h5 => ?_)
    refine WL_nil ?_
    obtain ⟨x2, hr2, hr1⟩ := bind_some hr1
    refine WA_one 3 (by kernel_rfl) rfl ?_
    refine WL_call Tryz.call69 rfl rfl (c_Slices_Clone_Lint_int ax3 v5 (h5.now hC3.keep) x2 hr2) ?_
    rintro v6 w4 ⟨hB4, F1, hv1, hn1, hb1⟩
    have hC4 := hC3.push hB4 (A := Item.own v6 x2) hv1 hn1 hb1
    refine WL_nil ?_
    obtain ⟨x3, hr3, hr1⟩ := bind_some hr1
    refine WA_one 5 (by kernel_rfl) rfl ?_
    obtain ⟨Fs1, hH1, hn2, hF1, hO1, hX1, hb2⟩ := Ctx.lend3 (As := [Item.box b1 [u1]]) [Item.own v6 (x2 : (List Int))] hC4
    refine WL_call Tryz.call64 rfl rfl (c_Slices_DeleteFunc_Lint_int_M_LeastDisclosure_c2_c1 x2 v6 b1 a1 (roat_box (hX1 0 _ _ rfl) (repd_slice (RO.lent g1 hC4.keep hF1))) pb3 ax3 (ROAt.lent g4 hC4.keep hF1) hH1 hn2 x3 hr3) ?_
    rintro v7 w5 ⟨_, rfl, hq1⟩
    have hC6 : Ctx [] w0 w5 [Item.own v7 (x3 : (List Int)), Item.box b1 [u1]] := hb2 _ _ hq1
    refine WL_nil ?_
    obtain ⟨x4, hr4, hr1⟩ := bind_some hr1
    refine WA_one 6 (by kernel_rfl) rfl ?_
    refine WL_call Tryz.call59 rfl rfl (c_M_privateOrder ax1 v1 (h1.now hC6.keep) ax2 v3 (h3.now hC6.keep) v4 (h4.now hC6.keep) x3 v7 ((hC6.ro 0 rfl).now (Keep.refl _ _)) x4 hr4) ?_
    rintro _ w6 ⟨hB5, v8, v9, F2, F3, rfl, hv2, hv3, hn3, hb3⟩
    obtain ⟨rfl, rfl⟩ := val_bool hv3
    have hC7 := hC6.pushL hB5 (Bs := [Item.own v8 x4.1]) (Fs := [F2]) ⟨F2, _, rfl, hv2, rfl⟩ (by simpa using hn3) (fun b h => hb3 b (by simpa using h))
    refine WL_nil ?_
    refine WA_tk 7 (by kernel_rfl) rfl rfl (fl_move rfl) ?_
    refine WL_move rfl rfl ?_
    refine WL_nil ?_
    refine WA_tk 8 (by kernel_rfl) rfl rfl (fl_extract rfl rfl) ?_
    refine WL_extract rfl rfl rfl ?_
    refine WL_nil ?_
    refine WA_tk 9 (by kernel_rfl) rfl rfl (fl_extract rfl rfl) ?_
    refine WL_extract rfl rfl rfl ?_
    refine WL_nil ?_
    refine WA_tk 10 (by kernel_rfl) rfl rfl (fl_assign rfl) ?_
    refine WL_assign rfl rfl ?_
    refine WL_nil ?_
    refine WA_tk 11 (by kernel_rfl) rfl rfl (fl_assign rfl) ?_
    refine WL_assign rfl rfl ?_
    refine WL_nil ?_
    refine WA_done (by kernel_rfl) ?_
    have hq2 := Option.some.inj hr1
    subst hq2
    have hC8 := hC7.h0
    refine nrm_sub (l' := [(7, (.bool x4.2))]) ⟨rfl, trivial⟩ ?_
    exact ⟨x4.2, rfl, rfl, hC8⟩
   refine WL_load ty22 g4 hC3.keep rfl rfl (fun v2 h2 => ?_)
   refine WL_nil ?_
   refine WA_all2 (i := 1) (j := 3) (by kernel_rfl) rfl rfl ?_ ?_
   ·refine WL_load ty37 g3 hC3.keep rfl rfl (fun v3 h3 => ?_)
    obtain ⟨v4, v5, rfl, h4, h5⟩ := ro_st37 h3
    refine WL_nil ?_
    obtain ⟨x2, hr2, hr1⟩ := bind_some hr1
    refine WA_one 3 (by kernel_rfl) rfl ?_
    refine WL_call Tryz.call69 rfl rfl (c_Slices_Clone_Lint_int ax3 v2 (h2.now hC3.keep) x2 hr2) ?_
    rintro v6 w4 ⟨hB4, F1, hv1, hn1, hb1⟩
    have hC4 := hC3.push hB4 (A := Item.own v6 x2) hv1 hn1 hb1
    refine WL_nil ?_
    obtain ⟨x3, hr3, hr1⟩ := bind_some hr1
    refine WA_one 5 (by kernel_rfl) rfl ?_
    obtain ⟨Fs1, hH1, hn2, hF1, hO1, hX1, hb2⟩ := Ctx.lend3 (As := [Item.box b1 [u1]]) [Item.own v6 (x2 : (List Int))] hC4
    refine WL_call Tryz.call64 rfl rfl (c_Slices_DeleteFunc_Lint_int_M_LeastDisclosure_c2_c1 x2 v6 b1 a1 (roat_box (hX1 0 _ _ rfl) (repd_slice (RO.lent g1 hC4.keep hF1))) pb3 ax3 (ROAt.lent g4 hC4.keep hF1) hH1 hn2 x3 hr3) ?_
    rintro v7 w5 ⟨_, rfl, hq1⟩
    have hC6 : Ctx [] w0 w5 [Item.own v7 (x3 : (List Int)), Item.box b1 [u1]] := hb2 _ _ hq1
    refine WL_nil ?_
    obtain ⟨x4, hr4, hr1⟩ := bind_some hr1
    refine WA_one 6 (by kernel_rfl) rfl ?_
    refine WL_call Tryz.call59 rfl rfl (c_M_privateOrder ax1 v1 (h1.now hC6.keep) ax2 v4 (h4.now hC6.keep) v5 (h5.now hC6.keep) x3 v7 ((hC6.ro 0 rfl).now (Keep.refl _ _)) x4 hr4) ?_
    rintro _ w6 ⟨hB5, v8, v9, F2, F3, rfl, hv2, hv3, hn3, hb3⟩
    obtain ⟨rfl, rfl⟩ := val_bool hv3
    have hC7 := hC6.pushL hB5 (Bs := [Item.own v8 x4.1]) (Fs := [F2]) ⟨F2, _, rfl, hv2, rfl⟩ (by simpa using hn3) (fun b h => hb3 b (by simpa using h))
    refine WL_nil ?_
    refine WA_tk 7 (by kernel_rfl) rfl rfl (fl_move rfl) ?_
    refine WL_move rfl rfl ?_
    refine WL_nil ?_
    refine WA_tk 8 (by kernel_rfl) rfl rfl (fl_extract rfl rfl) ?_
    refine WL_extract rfl rfl rfl ?_
    refine WL_nil ?_
    refine WA_tk 9 (by kernel_rfl) rfl rfl (fl_extract rfl rfl) ?_
    refine WL_extract rfl rfl rfl ?_
    refine WL_nil ?_
    refine WA_tk 10 (by kernel_rfl) rfl rfl (fl_assign rfl) ?_
    refine WL_assign rfl rfl ?_
    refine WL_nil ?_
    refine WA_tk 11 (by kernel_rfl) rfl rfl (fl_assign rfl) ?_
    refine WL_assign rfl rfl ?_
    refine WL_nil ?_
    refine WA_done (by kernel_rfl) ?_
    have hq2 := Option.some.inj hr1
    subst hq2
    have hC8 := hC7.h0
    refine nrm_sub (l' := [(7, (.bool x4.2))]) ⟨rfl, trivial⟩ ?_
    exact ⟨x4.2, rfl, rfl, hC8⟩
   obtain ⟨x2, hr2, hr1⟩ := bind_some hr1
   refine WL_call Tryz.call69 rfl rfl (c_Slices_Clone_Lint_int ax3 v2 (h2.now hC3.keep) x2 hr2) ?_
   rintro v3 w4 ⟨hB4, F1, hv1, hn1, hb1⟩
   have hC4 := hC3.push hB4 (A := Item.own v3 x2) hv1 hn1 hb1
   refine WL_nil ?_
   refine WA_all2 (i := 1) (j := 5) (by kernel_rfl) rfl rfl ?_ ?_
   ·refine WL_load ty37 g3 hC4.keep rfl rfl (fun v4 h3 => ?_)
    obtain ⟨v5, v6, rfl, h4, h5⟩ := ro_st37 h3
    refine WL_nil ?_
    obtain ⟨x3, hr3, hr1⟩ := bind_some hr1
    refine WA_one 5 (by kernel_rfl) rfl ?_
    obtain ⟨Fs1, hH1, hn2, hF1, hO1, hX1, hb2⟩ := Ctx.lend3 (As := [Item.box b1 [u1]]) [Item.own v3 (x2 : (List Int))] hC4
    refine WL_call Tryz.call64 rfl rfl (c_Slices_DeleteFunc_Lint_int_M_LeastDisclosure_c2_c1 x2 v3 b1 a1 (roat_box (hX1 0 _ _ rfl) (repd_slice (RO.lent g1 hC4.keep hF1))) pb3 ax3 (ROAt.lent g4 hC4.keep hF1) hH1 hn2 x3 hr3) ?_
    rintro v7 w5 ⟨_, rfl, hq1⟩
    have hC6 : Ctx [] w0 w5 [Item.own v7 (x3 : (List Int)), Item.box b1 [u1]] := hb2 _ _ hq1
    refine WL_nil ?_
    obtain ⟨x4, hr4, hr1⟩ := bind_some hr1
    refine WA_one 6 (by kernel_rfl) rfl ?_
    refine WL_call Tryz.call59 rfl rfl (c_M_privateOrder ax1 v1 (h1.now hC6.keep) ax2 v5 (h4.now hC6.keep) v6 (h5.now hC6.keep) x3 v7 ((hC6.ro 0 rfl).now (Keep.refl _ _)) x4 hr4) ?_
    rintro _ w6 ⟨hB5, v8, v9, F2, F3, rfl, hv2, hv3, hn3, hb3⟩
    obtain ⟨rfl, rfl⟩ := val_bool hv3
    have hC7 := hC6.pushL hB5 (Bs := [Item.own v8 x4.1]) (Fs := [F2]) ⟨F2, _, rfl, hv2, rfl⟩ (by simpa using hn3) (fun b h => hb3 b (by simpa using h))
    refine WL_nil ?_
    refine WA_tk 7 (by kernel_rfl) rfl rfl (fl_move rfl) ?_
    refine WL_move rfl rfl ?_
    refine WL_nil ?_
    refine WA_tk 8 (by kernel_rfl) rfl rfl (fl_extract rfl rfl) ?_
    refine WL_extract rfl rfl rfl ?_
    refine WL_nil ?_
    refine WA_tk 9 (by kernel_rfl) rfl rfl (fl_extract rfl rfl) ?_
    refine WL_extract rfl rfl rfl ?_
    refine WL_nil ?_
    refine WA_tk 10 (by kernel_rfl) rfl rfl (fl_assign rfl) ?_
    refine WL_assign rfl rfl ?_
    refine WL_nil ?_
    refine WA_tk 11 (by kernel_rfl) rfl rfl (fl_assign rfl) ?_
    refine WL_assign rfl rfl ?_
    refine WL_nil ?_
    refine WA_done (by kernel_rfl) ?_
    have hq2 := Option.some.inj hr1
    subst hq2
    have hC8 := hC7.h0
    refine nrm_sub (l' := [(7, (.bool x4.2))]) ⟨rfl, trivial⟩ ?_
    exact ⟨x4.2, rfl, rfl, hC8⟩
   obtain ⟨x3, hr3, hr1⟩ := bind_some hr1
   obtain ⟨Fs1, hH1, hn2, hF1, hO1, hX1, hb2⟩ := Ctx.lend3 (As := [Item.box b1 [u1]]) [Item.own v3 (x2 : (List Int))] hC4
   refine WL_call Tryz.call64 rfl rfl (c_Slices_DeleteFunc_Lint_int_M_LeastDisclosure_c2_c1 x2 v3 b1 a1 (roat_box (hX1 0 _ _ rfl) (repd_slice (RO.lent g1 hC4.keep hF1))) pb3 ax3 (ROAt.lent g4 hC4.keep hF1) hH1 hn2 x3 hr3) ?_
   rintro v4 w5 ⟨_, rfl, hq1⟩
   have hC6 : Ctx [] w0 w5 [Item.own v4 (x3 : (List Int)), Item.box b1 [u1]] := hb2 _ _ hq1
   refine WL_nil ?_
   refine WA_one 1 (by kernel_rfl) rfl ?_
   refine WL_load ty37 g3 hC6.keep rfl rfl (fun v5 h3 => ?_)
   obtain ⟨v6, v7, rfl, h4, h5⟩ := ro_st37 h3
   refine WL_nil ?_
   obtain ⟨x4, hr4, hr1⟩ := bind_some hr1
   refine WA_one 6 (by kernel_rfl) rfl ?_
   refine WL_call Tryz.call59 rfl rfl (c_M_privateOrder ax1 v1 (h1.now hC6.keep) ax2 v6 (h4.now hC6.keep) v7 (h5.now hC6.keep) x3 v4 ((hC6.ro 0 rfl).now (Keep.refl _ _)) x4 hr4) ?_
   rintro _ w6 ⟨hB5, v8, v9, F2, F3, rfl, hv2, hv3, hn3, hb3⟩
   obtain ⟨rfl, rfl⟩ := val_bool hv3
   have hC7 := hC6.pushL hB5 (Bs := [Item.own v8 x4.1]) (Fs := [F2]) ⟨F2, _, rfl, hv2, rfl⟩ (by simpa using hn3) (fun b h => hb3 b (by simpa using h))
   refine WL_nil ?_
   refine WA_tk 7 (by kernel_rfl) rfl rfl (fl_move rfl) ?_
   refine WL_move rfl rfl ?_
   refine WL_nil ?_
   refine WA_tk 8 (by kernel_rfl) rfl rfl (fl_extract rfl rfl) ?_
   refine WL_extract rfl rfl rfl ?_
   refine WL_nil ?_
   refine WA_tk 9 (by kernel_rfl) rfl rfl (fl_extract rfl rfl) ?_
   refine WL_extract rfl rfl rfl ?_
   refine WL_nil ?_
   refine WA_tk 10 (by kernel_rfl) rfl rfl (fl_assign rfl) ?_
   refine WL_assign rfl rfl ?_
   refine WL_nil ?_
   refine WA_tk 11 (by kernel_rfl) rfl rfl (fl_assign rfl) ?_
   refine WL_assign rfl rfl ?_
   refine WL_nil ?_
   refine WA_done (by kernel_rfl) ?_
   have hq2 := Option.some.inj hr1
   subst hq2
   have hC8 := hC7.h0
   refine nrm_sub (l' := [(7, (.bool x4.2))]) ⟨rfl, trivial⟩ ?_
   exact ⟨x4.2, rfl, rfl, hC8⟩
  ·refine WL_load ty37 g3 hC3.keep rfl rfl (fun v1 h1 => ?_)
   obtain ⟨v2, v3, rfl, h2, h3⟩ := ro_st37 h1
   refine WL_nil ?_
   refine WA_all2 (i := 0) (j := 2) (by kernel_rfl) rfl rfl ?_ ?_
   ·refine WL_load ty33 g2 hC3.keep rfl rfl (fun v4 h4 => ?_)
    refine WL_nil ?_
    refine WA_one 2 (by kernel_rfl) rfl ?_
    refine WL_load ty22 g4 hC3.keep rfl rfl (fun v5 h5 => ?_)
    refine WL_nil ?_
    obtain ⟨x2, hr2, hr1⟩ := bind_some hr1
    refine WA_one 3 (by kernel_rfl) rfl ?_
    refine WL_call Tryz.call69 rfl rfl (c_Slices_Clone_Lint_int ax3 v5 (h5.now hC3.keep) x2 hr2) ?_
    rintro v6 w4 ⟨hB4, F1, hv1, hn1, hb1⟩
    have hC4 := hC3.push hB4 (A := Item.own v6 x2) hv1 hn1 hb1
    refine WL_nil ?_
    obtain ⟨x3, hr3, hr1⟩ := bind_some hr1
    refine WA_one 5 (by kernel_rfl) rfl ?_
    obtain ⟨Fs1, hH1, hn2, hF1, hO1, hX1, hb2⟩ := Ctx.lend3 (As := [Item.box b1 [u1]]) [Item.own v6 (x2 : (List Int))] hC4
    refine WL_call Tryz.call64 rfl rfl (c_Slices_DeleteFunc_Lint_int_M_LeastDisclosure_c2_c1 x2 v6 b1 a1 (roat_box (hX1 0 _ _ rfl) (repd_slice (RO.lent g1 hC4.keep hF1))) pb3 ax3 (ROAt.lent g4 hC4.keep hF1) hH1 hn2 x3 hr3) ?_
    rintro v7 w5 ⟨_, rfl, hq1⟩
    have hC6 : Ctx [] w0 w5 [Item.own v7 (x3 : (List Int)), Item.box b1 [u1]] := hb2 _ _ hq1
    refine WL_nil ?_
    obtain ⟨x4, hr4, hr1⟩ := bind_some hr1
    refine WA_one 6 (by kernel_rfl) rfl ?_
    refine WL_call Tryz.call59 rfl rfl (c_M_privateOrder ax1 v4 (h4.now hC6.keep) ax2 v2 (h2.now hC6.keep) v3 (h3.now hC6.keep) x3 v7 ((hC6.ro 0 rfl).now (Keep.refl _ _)) x4 hr4) ?_
    rintro _ w6 ⟨hB5, v8, v9, F2, F3, rfl, hv2, hv3, hn3, hb3⟩
    obtain ⟨rfl, rfl⟩ := val_bool hv3
    have hC7 := hC6.pushL hB5 (Bs := [Item.own v8 x4.1]) (Fs := [F2]) ⟨F2, _, rfl, hv2, rfl⟩ (by simpa using hn3) (fun b h => hb3 b (by simpa using h))
    refine WL_nil ?_
    refine WA_tk 7 (by kernel_rfl) rfl rfl (fl_move rfl) ?_
    refine WL_move rfl rfl ?_
    refine WL_nil ?_
    refine WA_tk 8 (by kernel_rfl) rfl rfl (fl_extract rfl rfl) ?_
    refine WL_extract rfl rfl rfl ?_
    refine WL_nil ?_
    refine WA_tk 9 (by kernel_rfl) rfl rfl (fl_extract rfl rfl) ?_
    refine WL_extract rfl rfl rfl ?_
    refine WL_nil ?_
    refine WA_tk 10 (by kernel_rfl) rfl rfl (fl_assign rfl) ?_
    refine WL_assign rfl rfl ?_
    refine WL_nil ?_
    refine WA_tk 11 (by kernel_rfl) rfl rfl (fl_assign rfl) ?_
    refine WL_assign rfl rfl ?_
    refine WL_nil ?_
    refine WA_done (by kernel_rfl) ?_
    have hq2 := Option.some.inj hr1
    subst hq2
    have hC8 := hC7.h0
    refine nrm_sub (l' := [(7, (.bool x4.2))]) ⟨rfl, trivial⟩ ?_
    exact ⟨x4.2, rfl, rfl, hC8⟩
   refine WL_load ty22 g4 hC3.keep rfl rfl (fun v4 h4 => ?_)
   refine WL_nil ?_
   refine WA_all2 (i := 0) (j := 3) (by kernel_rfl) rfl rfl ?_ ?_
   ·refine WL_load ty33 g2 hC3.keep rfl rfl (fun v5 h5 => ?_)
    refine WL_nil ?_
    obtain ⟨x2, hr2, hr1⟩ := bind_some hr1
    refine WA_one 3 (by kernel_rfl) rfl ?_
    refine WL_call Tryz.call69 rfl rfl (c_Slices_Clone_Lint_int ax3 v4 (h4.now hC3.keep) x2 hr2) ?_
    rintro v6 w4 ⟨hB4, F1, hv1, hn1, hb1⟩
    have hC4 := hC3.push hB4 (A := Item.own v6 x2) hv1 hn1 hb1
    refine WL_nil ?_
    obtain ⟨x3, hr3, hr1⟩ := bind_some hr1
    refine WA_one 5 (by kernel_rfl) rfl ?_
    obtain ⟨Fs1, hH1, hn2, hF1, hO1, hX1, hb2⟩ := Ctx.lend3 (As := [Item.box b1 [u1]]) [Item.own v6 (x2 : (List Int))] hC4
    refine WL_call Tryz.call64 rfl rfl (c_Slices_DeleteFunc_Lint_int_M_LeastDisclosure_c2_c1 x2 v6 b1 a1 (roat_box (hX1 0 _ _ rfl) (repd_slice (RO.lent g1 hC4.keep hF1))) pb3 ax3 (ROAt.lent g4 hC4.keep hF1) hH1 hn2 x3 hr3) ?_
    rintro v7 w5 ⟨_, rfl, hq1⟩
    have hC6 : Ctx [] w0 w5 [Item.own v7 (x3 : (List Int)), Item.box b1 [u1]] := hb2 _ _ hq1
    refine WL_nil ?_
    obtain ⟨x4, hr4, hr1⟩ := bind_some hr1
    refine WA_one 6 (by kernel_rfl) rfl ?_
    refine WL_call Tryz.call59 rfl rfl (c_M_privateOrder ax1 v5 (h5.now hC6.keep) ax2 v2 (h2.now hC6.keep) v3 (h3.now hC6.keep) x3 v7 ((hC6.ro 0 rfl).now (Keep.refl _ _)) x4 hr4) ?_
    rintro _ w6 ⟨hB5, v8, v9, F2, F3, rfl, hv2, hv3, hn3, hb3⟩
    obtain ⟨rfl, rfl⟩ := val_bool hv3
    have hC7 := hC6.pushL hB5 (Bs := [Item.own v8 x4.1]) (Fs := [F2]) ⟨F2, _, rfl, hv2, rfl⟩ (by simpa using hn3) (fun b h => hb3 b (by simpa using h))
    refine WL_nil ?_
    refine WA_tk 7 (by kernel_rfl) rfl rfl (fl_move rfl) ?_
    refine WL_move rfl rfl ?_
    refine WL_nil ?_
    refine WA_tk 8 (by kernel_rfl) rfl rfl (fl_extract rfl rfl) ?_
    refine WL_extract rfl rfl rfl ?_
    refine WL_nil ?_
    refine WA_tk 9 (by kernel_rfl) rfl rfl (fl_extract rfl rfl) ?_
    refine WL_extract rfl rfl rfl ?_
    refine WL_nil ?_
    refine WA_tk 10 (by kernel_rfl) rfl rfl (fl_assign rfl) ?_
    refine WL_assign rfl rfl ?_
    refine WL_nil ?_
    refine WA_tk 11 (by kernel_rfl) rfl rfl (fl_assign rfl) ?_
    refine WL_assign rfl rfl ?_
    refine WL_nil ?_
    refine WA_done (by kernel_rfl) ?_
    have hq2 := Option.some.inj hr1
    subst hq2
    have hC8 := hC7.h0
    refine nrm_sub (l' := [(7, (.bool x4.2))]) ⟨rfl, trivial⟩ ?_
    exact ⟨x4.2, rfl, rfl, hC8⟩
   obtain ⟨x2, hr2, hr1⟩ := bind_some hr1
   refine WL_call Tryz.call69 rfl rfl (c_Slices_Clone_Lint_int ax3 v4 (h4.now hC3.keep) x2 hr2) ?_
   rintro v5 w4 ⟨hB4, F1, hv1, hn1, hb1⟩
   have hC4 := hC3.push hB4 (A := Item.own v5 x2) hv1 hn1 hb1
   refine WL_nil ?_
   refine WA_all2 (i := 0) (j := 5) (by kernel_rfl) rfl rfl ?_ ?_
   ·refine WL_load ty33 g2 hC4.keep rfl rfl (fun v6 h5 => ?_)
    refine WL_nil ?_
    obtain ⟨x3, hr3, hr1⟩ := bind_some hr1
    refine WA_one 5 (by kernel_rfl) rfl ?_
    obtain ⟨Fs1, hH1, hn2, hF1, hO1, hX1, hb2⟩ := Ctx.lend3 (As := [Item.box b1 [u1]]) [Item.own v5 (x2 : (List Int))] hC4
    refine WL_call Tryz.call64 rfl rfl (c_Slices_DeleteFunc_Lint_int_M_LeastDisclosure_c2_c1 x2 v5 b1 a1 (roat_box (hX1 0 _ _ rfl) (repd_slice (RO.lent g1 hC4.keep hF1))) pb3 ax3 (ROAt.lent g4 hC4.keep hF1) hH1 hn2 x3 hr3) ?_
    rintro v7 w5 ⟨_, rfl, hq1⟩
    have hC6 : Ctx [] w0 w5 [Item.own v7 (x3 : (List Int)), Item.box b1 [u1]] := hb2 _ _ hq1
    refine WL_nil ?_
    obtain ⟨x4, hr4, hr1⟩ := bind_some hr1
    refine WA_one 6 (by kernel_rfl) rfl ?_
    refine WL_call Tryz.call59 rfl rfl (c_M_privateOrder ax1 v6 (h5.now hC6.keep) ax2 v2 (h2.now hC6.keep) v3 (h3.now hC6.keep) x3 v7 ((hC6.ro 0 rfl).now (Keep.refl _ _)) x4 hr4) ?_
    rintro _ w6 ⟨hB5, v8, v9, F2, F3, rfl, hv2, hv3, hn3, hb3⟩
    obtain ⟨rfl, rfl⟩ := val_bool hv3
    have hC7 := hC6.pushL hB5 (Bs := [Item.own v8 x4.1]) (Fs := [F2]) ⟨F2, _, rfl, hv2, rfl⟩ (by simpa using hn3) (fun b h => hb3 b (by simpa using h))
    refine WL_nil ?_
    refine WA_tk 7 (by kernel_rfl) rfl rfl (fl_move rfl) ?_
    refine WL_move rfl rfl ?_
    refine WL_nil ?_
    refine WA_tk 8 (by kernel_rfl) rfl rfl (fl_extract rfl rfl) ?_
    refine WL_extract rfl rfl rfl ?_
    refine WL_nil ?_
    refine WA_tk 9 (by kernel_rfl) rfl rfl (fl_extract rfl rfl) ?_
    refine WL_extract rfl rfl rfl ?_
    refine WL_nil ?_
    refine WA_tk 10 (by kernel_rfl) rfl rfl (fl_assign rfl) ?_
    refine WL_assign rfl rfl ?_
    refine WL_nil ?_
    refine WA_tk 11 (by kernel_rfl) rfl rfl (fl_assign rfl) ?_
    refine WL_assign rfl rfl ?_
    refine WL_nil ?_
    refine WA_done (by kernel_rfl) ?_
    have hq2 := Option.some.inj hr1
    subst hq2
    have hC8 := hC7.h0
    refine nrm_sub (l' := [(7, (.bool x4.2))]) ⟨rfl, trivial⟩ ?_
    exact ⟨x4.2, rfl, rfl, hC8⟩
   obtain ⟨x3, hr3, hr1⟩ := bind_some hr1
   obtain ⟨Fs1, hH1, hn2, hF1, hO1, hX1, hb2⟩ := Ctx.lend3 (As := [Item.box b1 [u1]]) [Item.own v5 (x2 : (List Int))] hC4
   refine WL_call Tryz.call64 rfl rfl (c_Slices_DeleteFunc_Lint_int_M_LeastDisclosure_c2_c1 x2 v5 b1 a1 (roat_box (hX1 0 _ _ rfl) (repd_slice (RO.lent g1 hC4.keep hF1))) pb3 ax3 (ROAt.lent g4 hC4.keep hF1) hH1 hn2 x3 hr3) ?_
   rintro v6 w5 ⟨_, rfl, hq1⟩
   have hC6 : Ctx [] w0 w5 [Item.own v6 (x3 : (List Int)), Item.box b1 [u1]] := hb2 _ _ hq1
   refine WL_nil ?_
   refine WA_one 0 (by kernel_rfl) rfl ?_
   refine WL_load ty33 g2 hC6.keep rfl rfl (fun v7 h5 => ?_)
   refine WL_nil ?_
   obtain ⟨x4, hr4, hr1⟩ := bind_some hr1
   refine WA_one 6 (by kernel_rfl) rfl ?_
   refine WL_call Tryz.call59 rfl rfl (c_M_privateOrder ax1 v7 (h5.now hC6.keep) ax2 v2 (h2.now hC6.keep) v3 (h3.now hC6.keep) x3 v6 ((hC6.ro 0 rfl).now (Keep.refl _ _)) x4 hr4) ?_
   rintro _ w6 ⟨hB5, v8, v9, F2, F3, rfl, hv2, hv3, hn3, hb3⟩
   obtain ⟨rfl, rfl⟩ := val_bool hv3
   have hC7 := hC6.pushL hB5 (Bs := [Item.own v8 x4.1]) (Fs := [F2]) ⟨F2, _, rfl, hv2, rfl⟩ (by simpa using hn3) (fun b h => hb3 b (by simpa using h))
   refine WL_nil ?_
   refine WA_tk 7 (by kernel_rfl) rfl rfl (fl_move rfl) ?_
   refine WL_move rfl rfl ?_
   refine WL_nil ?_
   refine WA_tk 8 (by kernel_rfl) rfl rfl (fl_extract rfl rfl) ?_
   refine WL_extract rfl rfl rfl ?_
   refine WL_nil ?_
   refine WA_tk 9 (by kernel_rfl) rfl rfl (fl_extract rfl rfl) ?_
   refine WL_extract rfl rfl rfl ?_
   refine WL_nil ?_
   refine WA_tk 10 (by kernel_rfl) rfl rfl (fl_assign rfl) ?_
   refine WL_assign rfl rfl ?_
   refine WL_nil ?_
   refine WA_tk 11 (by kernel_rfl) rfl rfl (fl_assign rfl) ?_
   refine WL_assign rfl rfl ?_
   refine WL_nil ?_
   refine WA_done (by kernel_rfl) ?_
   have hq2 := Option.some.inj hr1
   subst hq2
   have hC8 := hC7.h0
   refine nrm_sub (l' := [(7, (.bool x4.2))]) ⟨rfl, trivial⟩ ?_
   exact ⟨x4.2, rfl, rfl, hC8⟩
  refine WL_load ty22 g4 hC3.keep rfl rfl (fun v1 h1 => ?_)
  refine WL_nil ?_
  refine WA_all3 (i := 0) (j := 1) (m := 3) (by kernel_rfl) rfl rfl rfl ?_ ?_ ?_
  ·refine WL_load ty33 g2 hC3.keep rfl rfl (fun v2 h2 => ?_)
   refine WL_nil ?_
   refine WA_all2 (i := 1) (j := 3) (by kernel_rfl) rfl rfl ?_ ?_
   ·refine WL_load ty37 g3 hC3.keep rfl rfl (fun v3 h3 => ?_)
    obtain ⟨v4, v5, rfl, h4, h5⟩ := ro_st37 h3
    refine WL_nil ?_
    obtain ⟨x2, hr2, hr1⟩ := bind_some hr1
    refine WA_one 3 (by kernel_rfl) rfl ?_
    refine WL_call Tryz.call69 rfl rfl (c_Slices_Clone_Lint_int ax3 v1 (h1.now hC3.keep) x2 hr2) ?_
    rintro v6 w4 ⟨hB4, F1, hv1, hn1, hb1⟩
    have hC4 := hC3.push hB4 (A := Item.own v6 x2) hv1 hn1 hb1
    refine WL_nil ?_
    obtain ⟨x3, hr3, hr1⟩ := bind_some hr1
    refine WA_one 5 (by kernel_rfl) rfl ?_
    obtain ⟨Fs1, hH1, hn2, hF1, hO1, hX1, hb2⟩ := Ctx.lend3 (As := [Item.box b1 [u1]]) [Item.own v6 (x2 : (List Int))] hC4
    refine WL_call Tryz.call64 rfl rfl (c_Slices_DeleteFunc_Lint_int_M_LeastDisclosure_c2_c1 x2 v6 b1 a1 (roat_box (hX1 0 _ _ rfl) (repd_slice (RO.lent g1 hC4.keep hF1))) pb3 ax3 (ROAt.lent g4 hC4.keep hF1) hH1 hn2 x3 hr3) ?_
    rintro v7 w5 ⟨_, rfl, hq1⟩
    have hC6 : Ctx [] w0 w5 [Item.own v7 (x3 : (List Int)), Item.box b1 [u1]] := hb2 _ _ hq1
    refine WL_nil ?_
    obtain ⟨x4, hr4, hr1⟩ := bind_some hr1
    refine WA_one 6 (by kernel_rfl) rfl ?_
    refine WL_call Tryz.call59 rfl rfl (c_M_privateOrder ax1 v2 (h2.now hC6.keep) ax2 v4 (h4.now hC6.keep) v5 (h5.now hC6.keep) x3 v7 ((hC6.ro 0 rfl).now (Keep.refl _ _)) x4 hr4) ?_
    rintro _ w6 ⟨hB5, v8, v9, F2, F3, rfl, hv2, hv3, hn3, hb3⟩
    obtain ⟨rfl, rfl⟩ := val_bool hv3
    have hC7 := hC6.pushL hB5 (Bs := [Item.own v8 x4.1]) (Fs := [F2]) ⟨F2, _, rfl, hv2, rfl⟩ (by simpa using hn3) (fun b h => hb3 b (by simpa using h))
    refine WL_nil ?_
    refine WA_tk 7 (by kernel_rfl) rfl rfl (fl_move rfl) ?_
    refine WL_move rfl rfl ?_
    refine WL_nil ?_
    refine WA_tk 8 (by kernel_rfl) rfl rfl (fl_extract rfl rfl) ?_
    refine WL_extract rfl rfl rfl ?_
    refine WL_nil ?_
    refine WA_tk 9 (by kernel_rfl) rfl rfl (fl_extract rfl rfl) ?_
    refine WL_extract rfl rfl rfl ?_
    refine WL_nil ?_
    refine WA_tk 10 (by kernel_rfl) rfl rfl (fl_assign rfl) ?_
    refine WL_assign rfl rfl ?_
    refine WL_nil ?_
    refine WA_tk 11 (by kernel_rfl) rfl rfl (fl_assign rfl) ?_
    refine WL_assign rfl rfl ?_
    refine WL_nil ?_
    refine WA_done (by kernel_rfl) ?_
    have hq2 := Option.some.inj hr1
    subst hq2
    have hC8 := hC7.h0
    refine nrm_sub (l' := [(7, (.bool x4.2))]) ⟨rfl, trivial⟩ ?_
    exact ⟨x4.2, rfl, rfl, hC8⟩
   obtain ⟨x2, hr2, hr1⟩ := bind_some hr1
   refine WL_call Tryz.call69 rfl rfl (c_Slices_Clone_Lint_int ax3 v1 (h1.now hC3.keep) x2 hr2) ?_
   rintro v3 w4 ⟨hB4, F1, hv1, hn1, hb1⟩
   have hC4 := hC3.push hB4 (A := Item.own v3 x2) hv1 hn1 hb1
   refine WL_nil ?_
   refine WA_all2 (i := 1) (j := 5) (by kernel_rfl) rfl rfl ?_ ?_
   ·refine WL_load ty37 g3 hC4.keep rfl rfl (fun v4 h3 => ?_)
    obtain ⟨v5, v6, rfl, h4, h5⟩ := ro_st37 h3
    refine WL_nil ?_
    obtain ⟨x3, hr3, hr1⟩ := bind_some hr1
    refine WA_one 5 (by kernel_rfl) rfl ?_
    obtain ⟨Fs1, hH1, hn2, hF1, hO1, hX1, hb2⟩ := Ctx.lend3 (As := [Item.box b1 [u1]]) [Item.own v3 (x2 : (List Int))] hC4
    refine WL_call Tryz.call64 rfl rfl (c_Slices_DeleteFunc_Lint_int_M_LeastDisclosure_c2_c1 x2 v3 b1 a1 (roat_box (hX1 0 _ _ rfl) (repd_slice (RO.lent g1 hC4.keep hF1))) pb3 ax3 (ROAt.lent g4 hC4.keep hF1) hH1 hn2 x3 hr3) ?_
    rintro v7 w5 ⟨_, rfl, hq1⟩
    have hC6 : Ctx [] w0 w5 [Item.own v7 (x3 : (List Int)), Item.box b1 [u1]] := hb2 _ _ hq1
    refine WL_nil ?_
    obtain ⟨x4, hr4, hr1⟩ := bind_some hr1
    refine WA_one 6 (by kernel_rfl) rfl ?_
    refine WL_call Tryz.call59 rfl rfl (c_M_privateOrder ax1 v2 (h2.now hC6.keep) ax2 v5 (h4.now hC6.keep) v6 (h5.now hC6.keep) x3 v7 ((hC6.ro 0 rfl).now (Keep.refl _ _)) x4 hr4) ?_
    rintro _ w6 ⟨hB5, v8, v9, F2, F3, rfl, hv2, hv3, hn3, hb3⟩
    obtain ⟨rfl, rfl⟩ := val_bool hv3
    have hC7 := hC6.pushL hB5 (Bs := [Item.own v8 x4.1]) (Fs := [F2]) ⟨F2, _, rfl, hv2, rfl⟩ (by simpa using hn3) (fun b h => hb3 b (by simpa using h))
    refine WL_nil ?_
    refine WA_tk 7 (by kernel_rfl) rfl rfl (fl_move rfl) ?_
    refine WL_move rfl rfl ?_
    refine WL_nil ?_
    refine WA_tk 8 (by kernel_rfl) rfl rfl (fl_extract rfl rfl) ?_
    refine WL_extract rfl rfl rfl ?_
    refine WL_nil ?_
    refine WA_tk 9 (by kernel_rfl) rfl rfl (fl_extract rfl rfl) ?_
    refine WL_extract rfl rfl rfl ?_
    refine WL_nil ?_
    refine WA_tk 10 (by kernel_rfl) rfl rfl (fl_assign rfl) ?_
    refine WL_assign rfl rfl ?_
    refine WL_nil ?_
    refine WA_tk 11 (by kernel_rfl) rfl rfl (fl_assign rfl) ?_
    refine WL_assign rfl rfl ?_
    refine WL_nil ?_
    refine WA_done (by kernel_rfl) ?_
    have hq2 := Option.some.inj hr1
    subst hq2
    have hC8 := hC7.h0
    refine nrm_sub (l' := [(7, (.bool x4.2))]) ⟨rfl, trivial⟩ ?_
    exact ⟨x4.2, rfl, rfl, hC8⟩
   obtain ⟨x3, hr3, hr1⟩ := bind_some hr1
   obtain ⟨Fs1, hH1, hn2, hF1, hO1, hX1, hb2⟩ := Ctx.lend3 (As := [Item.box b1 [u1]]) [Item.own v3 (x2 : (List Int))] hC4
   refine WL_call Tryz.call64 rfl rfl (c_Slices_DeleteFunc_Lint_int_M_LeastDisclosure_c2_c1 x2 v3 b1 a1 (roat_box (hX1 0 _ _ rfl) (repd_slice (RO.lent g1 hC4.keep hF1))) pb3 ax3 (ROAt.lent g4 hC4.keep hF1) hH1 hn2 x3 hr3) ?_
   rintro v4 w5 ⟨_, rfl, hq1⟩
   have hC6 : Ctx [] w0 w5 [Item.own v4 (x3 : (List Int)), Item.box b1 [u1]] := hb2 _ _ hq1
   refine WL_nil ?_
   refine WA_one 1 (by kernel_rfl) rfl ?_
   refine WL_load ty37 g3 hC6.keep rfl rfl (fun v5 h3 => ?_)
   obtain ⟨v6, v7, rfl, h4, h5⟩ := ro_st37 h3
   refine WL_nil ?_
   obtain ⟨x4, hr4, hr1⟩ := bind_some hr1
   refine WA_one 6 (by kernel_rfl) rfl ?_
   refine WL_call Tryz.call59 rfl rfl (c_M_privateOrder ax1 v2 (h2.now hC6.keep) ax2 v6 (h4.now hC6.keep) v7 (h5.now hC6.keep) x3 v4 ((hC6.ro 0 rfl).now (Keep.refl _ _)) x4 hr4) ?_
   rintro _ w6 ⟨hB5, v8, v9, F2, F3, rfl, hv2, hv3, hn3, hb3⟩
   obtain ⟨rfl, rfl⟩ := val_bool hv3
   have hC7 := hC6.pushL hB5 (Bs := [Item.own v8 x4.1]) (Fs := [F2]) ⟨F2, _, rfl, hv2, rfl⟩ (by simpa using hn3) (fun b h => hb3 b (by simpa using h))
   refine WL_nil ?_
   refine WA_tk 7 (by kernel_rfl) rfl rfl (fl_move rfl) ?_
   refine WL_move rfl rfl ?_
   refine WL_nil ?_
   refine WA_tk 8 (by kernel_rfl) rfl rfl (fl_extract rfl rfl) ?_
   refine WL_extract rfl rfl rfl ?_
   refine WL_nil ?_
   refine WA_tk 9 (by kernel_rfl) rfl rfl (fl_extract rfl rfl) ?_
   refine WL_extract rfl rfl rfl ?_
   refine WL_nil ?_
   refine WA_tk 10 (by kernel_rfl) rfl rfl (fl_assign rfl) ?_
   refine WL_assign rfl rfl ?_
   refine WL_nil ?_
   refine WA_tk 11 (by kernel_rfl) rfl rfl (fl_assign rfl) ?_
   refine WL_assign rfl rfl ?_
   refine WL_nil ?_
   refine WA_done (by kernel_rfl) ?_
   have hq2 := Option.some.inj hr1
   subst hq2
   have hC8 := hC7.h0
   refine nrm_sub (l' := [(7, (.bool x4.2))]) ⟨rfl, trivial⟩ ?_
   exact ⟨x4.2, rfl, rfl, hC8⟩
  ·refine WL_load ty37 g3 hC3.keep rfl rfl (fun v2 h2 => ?_)
   obtain ⟨v3, v4, rfl, h3, h4⟩ := ro_st37 h2
   refine WL_nil ?_
   refine WA_all2 (i := 0) (j := 3) (by kernel_rfl) rfl rfl ?_ ?_
   ·refine WL_load ty33 g2 hC3.keep rfl rfl (fun v5 h5 => ?_)
    refine WL_nil ?_
    obtain ⟨x2, hr2, hr1⟩ := bind_some hr1
    refine WA_one 3 (by kernel_rfl) rfl ?_
    refine WL_call Tryz.call69 rfl rfl (c_Slices_Clone_Lint_int ax3 v1 (h1.now hC3.keep) x2 hr2) ?_
    rintro v6 w4 ⟨hB4, F1, hv1, hn1, hb1⟩
    have hC4 := hC3.push hB4 (A := Item.own v6 x2) hv1 hn1 hb1
    refine WL_nil ?_
    obtain ⟨x3, hr3, hr1⟩ := bind_some hr1
    refine WA_one 5 (by kernel_rfl) rfl ?_
    obtain ⟨Fs1, hH1, hn2, hF1, hO1, hX1, hb2⟩ := Ctx.lend3 (As := [Item.box b1 [u1]]) [Item.own v6 (x2 : (List Int))] hC4
    refine WL_call Tryz.call64 rfl rfl (c_Slices_DeleteFunc_Lint_int_M_LeastDisclosure_c2_c1 x2 v6 b1 a1 (roat_box (hX1 0 _ _ rfl) (repd_slice (RO.lent g1 hC4.keep hF1))) pb3 ax3 (ROAt.lent g4 hC4.keep hF1) hH1 hn2 x3 hr3) ?_
    rintro v7 w5 ⟨_, rfl, hq1⟩
    have hC6 : Ctx [] w0 w5 [Item.own v7 (x3 : (List Int)), Item.box b1 [u1]] := hb2 _ _ hq1
    refine WL_nil ?_
    obtain ⟨x4, hr4, hr1⟩ := bind_some hr1
    refine WA_one 6 (by kernel_rfl) rfl ?_
    refine WL_call Tryz.call59 rfl rfl (c_M_privateOrder ax1 v5 (h5.now hC6.keep) ax2 v3 (h3.now hC6.keep) v4 (h4.now hC6.keep) x3 v7 ((hC6.ro 0 rfl).now (Keep.refl _ _)) x4 hr4) ?_
    rintro _ w6 ⟨hB5, v8, v9, F2, F3, rfl, hv2, hv3, hn3, hb3⟩
    obtain ⟨rfl, rfl⟩ := val_bool hv3
    have hC7 := hC6.pushL hB5 (Bs := [Item.own v8 x4.1]) (Fs := [F2]) ⟨F2, _, rfl, hv2, rfl⟩ (by simpa using hn3) (fun b h => hb3 b (by simpa using h))
    refine WL_nil ?_
    refine WA_tk 7 (by kernel_rfl) rfl rfl (fl_move rfl) ?_
    refine WL_move rfl rfl ?_
    refine WL_nil ?_
    refine WA_tk 8 (by kernel_rfl) rfl rfl (fl_extract rfl rfl) ?_
    refine WL_extract rfl rfl rfl ?_
    refine WL_nil ?_
    refine WA_tk 9 (by kernel_rfl) rfl rfl (fl_extract rfl rfl) ?_
    refine WL_extract rfl rfl rfl ?_
    refine WL_nil ?_
    refine WA_tk 10 (by kernel_rfl) rfl rfl (fl_assign rfl) ?_
    refine WL_assign rfl rfl ?_
    refine WL_nil ?_
    refine WA_tk 11 (by kernel_rfl) rfl rfl (fl_assign rfl) ?_
    refine WL_assign rfl rfl ?_
    refine WL_nil ?_
    refine WA_done (by kernel_rfl) ?_
    have hq2 := Option.some.inj hr1
    subst hq2
    have hC8 := hC7.h0
    refine nrm_sub (l' := [(7, (.bool x4.2))]) ⟨rfl, trivial⟩ ?_
    exact ⟨x4.2, rfl, rfl, hC8⟩
   obtain ⟨x2, hr2, hr1⟩ := bind_some hr1
   refine WL_call Tryz.call69 rfl rfl (c_Slices_Clone_Lint_int ax3 v1 (h1.now hC3.keep) x2 hr2) ?_
   rintro v5 w4 ⟨hB4, F1, hv1, hn1, hb1⟩
   have hC4 := hC3.push hB4 (A := Item.own v5 x2) hv1 hn1 hb1
   refine WL_nil ?_
   refine WA_all2 (i := 0) (j := 5) (by kernel_rfl) rfl rfl ?_ ?_
   ·refine WL_load ty33 g2 hC4.keep rfl rfl (fun v6 h5 => ?_)
    refine WL_nil ?_
    obtain ⟨x3, hr3, hr1⟩ := bind_some hr1
    refine WA_one 5 (by kernel_rfl) rfl ?_
    obtain ⟨Fs1, hH1, hn2, hF1, hO1, hX1, hb2⟩ := Ctx.lend3 (As := [Item.box b1 [u1]]) [Item.own v5 (x2 : (List Int))] hC4
    refine WL_call Tryz.call64 rfl rfl (c_Slices_DeleteFunc_Lint_int_M_LeastDisclosure_c2_c1 x2 v5 b1 a1 (roat_box (hX1 0 _ _ rfl) (repd_slice (RO.lent g1 hC4.keep hF1))) pb3 ax3 (ROAt.lent g4 hC4.keep hF1) hH1 hn2 x3 hr3) ?_
    rintro v7 w5 ⟨_, rfl, hq1⟩
    have hC6 : Ctx [] w0 w5 [Item.own v7 (x3 : (List Int)), Item.box b1 [u1]] := hb2 _ _ hq1
    refine WL_nil ?_
    obtain ⟨x4, hr4, hr1⟩ := bind_some hr1
    refine WA_one 6 (by kernel_rfl) rfl ?_
    refine WL_call Tryz.call59 rfl rfl (c_M_privateOrder ax1 v6 (h5.now hC6.keep) ax2 v3 (h3.now hC6.keep) v4 (h4.now hC6.keep) x3 v7 ((hC6.ro 0 rfl).now (Keep.refl _ _)) x4 hr4) ?_
    rintro _ w6 ⟨hB5, v8, v9, F2, F3, rfl, hv2, hv3, hn3, hb3⟩
    obtain ⟨rfl, rfl⟩ := val_bool hv3
    have hC7 := hC6.pushL hB5 (Bs := [Item.own v8 x4.1]) (Fs := [F2]) ⟨F2, _, rfl, hv2, rfl⟩ (by simpa using hn3) (fun b h => hb3 b (by simpa using h))
    refine WL_nil ?_
    refine WA_tk 7 (by kernel_rfl) rfl rfl (fl_move rfl) ?_
    refine WL_move rfl rfl ?_
    refine WL_nil ?_
    refine WA_tk 8 (by kernel_rfl) rfl rfl (fl_extract rfl rfl) ?_
    refine WL_extract rfl rfl rfl ?_
    refine WL_nil ?_
    refine WA_tk 9 (by kernel_rfl) rfl rfl (fl_extract rfl rfl) ?_
    refine WL_extract rfl rfl rfl ?_
    refine WL_nil ?_
    refine WA_tk 10 (by kernel_rfl) rfl rfl (fl_assign rfl) ?_
    refine WL_assign rfl rfl ?_
    refine WL_nil ?_
    refine WA_tk 11 (by kernel_rfl) rfl rfl (fl_assign rfl) ?_
    refine WL_assign rfl rfl ?_
    refine WL_nil ?_
    refine WA_done (by kernel_rfl) ?_
    have hq2 := Option.some.inj hr1
    subst hq2
    have hC8 := hC7.h0
    refine nrm_sub (l' := [(7, (.bool x4.2))]) ⟨rfl, trivial⟩ ?_
    exact ⟨x4.2, rfl, rfl, hC8⟩
   obtain ⟨x3, hr3, hr1⟩ := bind_some hr1
   obtain ⟨Fs1, hH1, hn2, hF1, hO1, hX1, hb2⟩ := Ctx.lend3 (As := [Item.box b1 [u1]]) [Item.own v5 (x2 : (List Int))] hC4
   refine WL_call Tryz.call64 rfl rfl (c_Slices_DeleteFunc_Lint_int_M_LeastDisclosure_c2_c1 x2 v5 b1 a1 (roat_box (hX1 0 _ _ rfl) (repd_slice (RO.lent g1 hC4.keep hF1))) pb3 ax3 (ROAt.lent g4 hC4.keep hF1) hH1 hn2 x3 hr3) ?_
   rintro v6 w5 ⟨_, rfl, hq1⟩
   have hC6 : Ctx [] w0 w5 [Item.own v6 (x3 : (List Int)), Item.box b1 [u1]] := hb2 _ _ hq1
   refine WL_nil ?_
   refine WA_one 0 (by kernel_rfl) rfl ?_
   refine WL_load ty33 g2 hC6.keep rfl rfl (fun v7 h5 => ?_)
   refine WL_nil ?_
   obtain ⟨x4, hr4, hr1⟩ := bind_some hr1
   refine WA_one 6 (by kernel_rfl) rfl ?_
   refine WL_call Tryz.call59 rfl rfl (c_M_privateOrder ax1 v7 (h5.now hC6.keep) ax2 v3 (h3.now hC6.keep) v4 (h4.now hC6.keep) x3 v6 ((hC6.ro 0 rfl).now (Keep.refl _ _)) x4 hr4) ?_
   rintro _ w6 ⟨hB5, v8, v9, F2, F3, rfl, hv2, hv3, hn3, hb3⟩
   obtain ⟨rfl, rfl⟩ := val_bool hv3
   have hC7 := hC6.pushL hB5 (Bs := [Item.own v8 x4.1]) (Fs := [F2]) ⟨F2, _, rfl, hv2, rfl⟩ (by simpa using hn3) (fun b h => hb3 b (by simpa using h))
   refine WL_nil ?_
   refine WA_tk 7 (by kernel_rfl) rfl rfl (fl_move rfl) ?_
   refine WL_move rfl rfl ?_
   refine WL_nil ?_
   refine WA_tk 8 (by kernel_rfl) rfl rfl (fl_extract rfl rfl) ?_
   refine WL_extract rfl rfl rfl ?_
   refine WL_nil ?_
   refine WA_tk 9 (by kernel_rfl) rfl rfl (fl_extract rfl rfl) ?_
   refine WL_extract rfl rfl rfl ?_
   refine WL_nil ?_
   refine WA_tk 10 (by kernel_rfl) rfl rfl (fl_assign rfl) ?_
   refine WL_assign rfl rfl ?_
   refine WL_nil ?_
   refine WA_tk 11 (by kernel_rfl) rfl rfl (fl_assign rfl) ?_
   refine WL_assign rfl rfl ?_
   refine WL_nil ?_
   refine WA_done (by kernel_rfl) ?_
   have hq2 := Option.some.inj hr1
   subst hq2
   have hC8 := hC7.h0
   refine nrm_sub (l' := [(7, (.bool x4.2))]) ⟨rfl, trivial⟩ ?_
   exact ⟨x4.2, rfl, rfl, hC8⟩
  obtain ⟨x2, hr2, hr1⟩ := bind_some hr1
  refine WL_call Tryz.call69 rfl rfl (c_Slices_Clone_Lint_int ax3 v1 (h1.now hC3.keep) x2 hr2) ?_
  rintro v2 w4 ⟨hB4, F1, hv1, hn1, hb1⟩
  have hC4 := hC3.push hB4 (A := Item.own v2 x2) hv1 hn1 hb1
  refine WL_nil ?_
  refine WA_all3 (i := 0) (j := 1) (m := 5) (by kernel_rfl) rfl rfl rfl ?_ ?_ ?_
  ·refine WL_load ty33 g2 hC4.keep rfl rfl (fun v3 h2 => ?_)
   refine WL_nil ?_
   refine WA_all2 (i := 1) (j := 5) (by kernel_rfl) rfl rfl ?_ ?_
   ·refine WL_load ty37 g3 hC4.keep rfl rfl (fun v4 h3 => ?_)
    obtain ⟨v5, v6, rfl, h4, h5⟩ := ro_st37 h3
    refine WL_nil ?_
    obtain ⟨x3, hr3, hr1⟩ := bind_some hr1
    refine WA_one 5 (by kernel_rfl) rfl ?_
    obtain ⟨Fs1, hH1, hn2, hF1, hO1, hX1, hb2⟩ := Ctx.lend3 (As := [Item.box b1 [u1]]) [Item.own v2 (x2 : (List Int))] hC4
    refine WL_call Tryz.call64 rfl rfl (c_Slices_DeleteFunc_Lint_int_M_LeastDisclosure_c2_c1 x2 v2 b1 a1 (roat_box (hX1 0 _ _ rfl) (repd_slice (RO.lent g1 hC4.keep hF1))) pb3 ax3 (ROAt.lent g4 hC4.keep hF1) hH1 hn2 x3 hr3) ?_
    rintro v7 w5 ⟨_, rfl, hq1⟩
    have hC6 : Ctx [] w0 w5 [Item.own v7 (x3 : (List Int)), Item.box b1 [u1]] := hb2 _ _ hq1
    refine WL_nil ?_
    obtain ⟨x4, hr4, hr1⟩ := bind_some hr1
    refine WA_one 6 (by kernel_rfl) rfl ?_
    refine WL_call Tryz.call59 rfl rfl (c_M_privateOrder ax1 v3 (h2.now hC6.keep) ax2 v5 (h4.now hC6.keep) v6 (h5.now hC6.keep) x3 v7 ((hC6.ro 0 rfl).now (Keep.refl _ _)) x4 hr4) ?_
    rintro _ w6 ⟨hB5, v8, v9, F2, F3, rfl, hv2, hv3, hn3, hb3⟩
    obtain ⟨rfl, rfl⟩ := val_bool hv3
    have hC7 := hC6.pushL hB5 (Bs := [Item.own v8 x4.1]) (Fs := [F2]) ⟨F2, _, rfl, hv2, rfl⟩ (by simpa using hn3) (fun b h => hb3 b (by simpa using h))
    refine WL_nil ?_
    refine WA_tk 7 (by kernel_rfl) rfl rfl (fl_move rfl) ?_
    refine WL_move rfl rfl ?_
    refine WL_nil ?_
    refine WA_tk 8 (by kernel_rfl) rfl rfl (fl_extract rfl rfl) ?_
    refine WL_extract rfl rfl rfl ?_
    refine WL_nil ?_
    refine WA_tk 9 (by kernel_rfl) rfl rfl (fl_extract rfl rfl) ?_
    refine WL_extract rfl rfl rfl ?_
    refine WL_nil ?_
    refine WA_tk 10 (by kernel_rfl) rfl rfl (fl_assign rfl) ?_
    refine WL_assign rfl rfl ?_
    refine WL_nil ?_
    refine WA_tk 11 (by kernel_rfl) rfl rfl (fl_assign rfl) ?_
    refine WL_assign rfl rfl ?_
    refine WL_nil ?_
    refine WA_done (by kernel_rfl) ?_
    have hq2 := Option.some.inj hr1
    subst hq2
    have hC8 := hC7.h0
    refine nrm_sub (l' := [(7, (.bool x4.2))]) ⟨rfl, trivial⟩ ?_
    exact ⟨x4.2, rfl, rfl, hC8⟩
   obtain ⟨x3, hr3, hr1⟩ := bind_some hr1
   obtain ⟨Fs1, hH1, hn2, hF1, hO1, hX1, hb2⟩ := Ctx.lend3 (As := [Item.box b1 [u1]]) [Item.own v2 (x2 : (List Int))] hC4
   refine WL_call Tryz.call64 rfl rfl (c_Slices_DeleteFunc_Lint_int_M_LeastDisclosure_c2_c1 x2 v2 b1 a1 (roat_box (hX1 0 _ _ rfl) (repd_slice (RO.lent g1 hC4.keep hF1))) pb3 ax3 (ROAt.lent g4 hC4.keep hF1) hH1 hn2 x3 hr3) ?_
   rintro v4 w5 ⟨_, rfl, hq1⟩
   have hC6 : Ctx [] w0 w5 [Item.own v4 (x3 : (List Int)), Item.box b1 [u1]] := hb2 _ _ hq1
   refine WL_nil ?_
   refine WA_one 1 (by kernel_rfl) rfl ?_
   refine WL_load ty37 g3 hC6.keep rfl rfl (fun v5 h3 => ?_)
   obtain ⟨v6, v7, rfl, h4, h5⟩ := ro_st37 h3
   refine WL_nil ?_
   obtain ⟨x4, hr4, hr1⟩ := bind_some hr1
   refine WA_one 6 (by kernel_rfl) rfl ?_
   refine WL_call Tryz.call59 rfl rfl (c_M_privateOrder ax1 v3 (h2.now hC6.keep) ax2 v6 (h4.now hC6.keep) v7 (h5.now hC6.keep) x3 v4 ((hC6.ro 0 rfl).now (Keep.refl _ _)) x4 hr4) ?_
   rintro _ w6 ⟨hB5, v8, v9, F2, F3, rfl, hv2, hv3, hn3, hb3⟩
   obtain ⟨rfl, rfl⟩ := val_bool hv3
   have hC7 := hC6.pushL hB5 (Bs := [Item.own v8 x4.1]) (Fs := [F2]) ⟨F2, _, rfl, hv2, rfl⟩ (by simpa using hn3) (fun b h => hb3 b (by simpa using h))
   refine WL_nil ?_
   refine WA_tk 7 (by kernel_rfl) rfl rfl (fl_move rfl) ?_
   refine WL_move rfl rfl ?_
   refine WL_nil ?_
   refine WA_tk 8 (by kernel_rfl) rfl rfl (fl_extract rfl rfl) ?_
   refine WL_extract rfl rfl rfl ?_
   refine WL_nil ?_
   refine WA_tk 9 (by kernel_rfl) rfl rfl (fl_extract rfl rfl) ?_
   refine WL_extract rfl rfl rfl ?_
   refine WL_nil ?_
   refine WA_tk 10 (by kernel_rfl) rfl rfl (fl_assign rfl) ?_
   refine WL_assign rfl rfl ?_
   refine WL_nil ?_
   refine WA_tk 11 (by kernel_rfl) rfl rfl (fl_assign rfl) ?_
   refine WL_assign rfl rfl ?_
   refine WL_nil ?_
   refine WA_done (by kernel_rfl) ?_
   have hq2 := Option.some.inj hr1
   subst hq2
   have hC8 := hC7.h0
   refine nrm_sub (l' := [(7, (.bool x4.2))]) ⟨rfl, trivial⟩ ?_
   exact ⟨x4.2, rfl, rfl, hC8⟩
  ·refine WL_load ty37 g3 hC4.keep rfl rfl (fun v3 h2 => ?_)
   obtain ⟨v4, v5, rfl, h3, h4⟩ := ro_st37 h2
   refine WL_nil ?_
   refine WA_all2 (i := 0) (j := 5) (by kernel_rfl) rfl rfl ?_ ?_
   ·refine WL_load ty33 g2 hC4.keep rfl rfl (fun v6 h5 => ?_)
    refine WL_nil ?_
    obtain ⟨x3, hr3, hr1⟩ := bind_some hr1
    refine WA_one 5 (by kernel_rfl) rfl ?_
    obtain ⟨Fs1, hH1, hn2, hF1, hO1, hX1, hb2⟩ := Ctx.lend3 (As := [Item.box b1 [u1]]) [Item.own v2 (x2 : (List Int))] hC4
    refine WL_call Tryz.call64 rfl rfl (c_Slices_DeleteFunc_Lint_int_M_LeastDisclosure_c2_c1 x2 v2 b1 a1 (roat_box (hX1 0 _ _ rfl) (repd_slice (RO.lent g1 hC4.keep hF1))) pb3 ax3 (ROAt.lent g4 hC4.keep hF1) hH1 hn2 x3 hr3) ?_
    rintro v7 w5 ⟨_, rfl, hq1⟩
    have hC6 : Ctx [] w0 w5 [Item.own v7 (x3 : (List Int)), Item.box b1 [u1]] := hb2 _ _ hq1
    refine WL_nil ?_
    obtain ⟨x4, hr4, hr1⟩ := bind_some hr1
    refine WA_one 6 (by kernel_rfl) rfl ?_
    refine WL_call Tryz.call59 rfl rfl (c_M_privateOrder ax1 v6 (h5.now hC6.keep) ax2 v4 (h3.now hC6.keep) v5 (h4.now hC6.keep) x3 v7 ((hC6.ro 0 rfl).now (Keep.refl _ _)) x4 hr4) ?_
    rintro _ w6 ⟨hB5, v8, v9, F2, F3, rfl, hv2, hv3, hn3, hb3⟩
    obtain ⟨rfl, rfl⟩ := val_bool hv3
    have hC7 := hC6.pushL hB5 (Bs := [Item.own v8 x4.1]) (Fs := [F2]) ⟨F2, _, rfl, hv2, rfl⟩ (by simpa using hn3) (fun b h => hb3 b (by simpa using h))
    refine WL_nil ?_
    refine WA_tk 7 (by kernel_rfl) rfl rfl (fl_move rfl) ?_
    refine WL_move rfl rfl ?_
    refine WL_nil ?_
    refine WA_tk 8 (by kernel_rfl) rfl rfl (fl_extract rfl rfl) ?_
    refine WL_extract rfl rfl rfl ?_
    refine WL_nil ?_
    refine WA_tk 9 (by kernel_rfl) rfl rfl (fl_extract rfl rfl) ?_
    refine WL_extract rfl rfl rfl ?_
    refine WL_nil ?_
    refine WA_tk 10 (by kernel_rfl) rfl rfl (fl_assign rfl) ?_
    refine WL_assign rfl rfl ?_
    refine WL_nil ?_
    refine WA_tk 11 (by kernel_rfl) rfl rfl (fl_assign rfl) ?_
    refine WL_assign rfl rfl ?_
    refine WL_nil ?_
    refine WA_done (by kernel_rfl) ?_
    have hq2 := Option.some.inj hr1
    subst hq2
    have hC8 := hC7.h0
    refine nrm_sub (l' := [(7, (.bool x4.2))]) ⟨rfl, trivial⟩ ?_
    exact ⟨x4.2, rfl, rfl, hC8⟩
   obtain ⟨x3, hr3, hr1⟩ := bind_some hr1
   obtain ⟨Fs1, hH1, hn2, hF1, hO1, hX1, hb2⟩ := Ctx.lend3 (As := [Item.box b1 [u1]]) [Item.own v2 (x2 : (List Int))] hC4
   refine WL_call Tryz.call64 rfl rfl (c_Slices_DeleteFunc_Lint_int_M_LeastDisclosure_c2_c1 x2 v2 b1 a1 (roat_box (hX1 0 _ _ rfl) (repd_slice (RO.lent g1 hC4.keep hF1))) pb3 ax3 (ROAt.lent g4 hC4.keep hF1) hH1 hn2 x3 hr3) ?_
   rintro v6 w5 ⟨_, rfl, hq1⟩
   have hC6 : Ctx [] w0 w5 [Item.own v6 (x3 : (List Int)), Item.box b1 [u1]] := hb2 _ _ hq1
   refine WL_nil ?_
   refine WA_one 0 (by kernel_rfl) rfl ?_
   refine WL_load ty33 g2 hC6.keep rfl rfl (fun v7 h5 => ?_)
   refine WL_nil ?_
   obtain ⟨x4, hr4, hr1⟩ := bind_some hr1
   refine WA_one 6 (by kernel_rfl) rfl ?_
   refine WL_call Tryz.call59 rfl rfl (c_M_privateOrder ax1 v7 (h5.now hC6.keep) ax2 v4 (h3.now hC6.keep) v5 (h4.now hC6.keep) x3 v6 ((hC6.ro 0 rfl).now (Keep.refl _ _)) x4 hr4) ?_
   rintro _ w6 ⟨hB5, v8, v9, F2, F3, rfl, hv2, hv3, hn3, hb3⟩
   obtain ⟨rfl, rfl⟩ := val_bool hv3
   have hC7 := hC6.pushL hB5 (Bs := [Item.own v8 x4.1]) (Fs := [F2]) ⟨F2, _, rfl, hv2, rfl⟩ (by simpa using hn3) (fun b h => hb3 b (by simpa using h))
   refine WL_nil ?_
   refine WA_tk 7 (by kernel_rfl) rfl rfl (fl_move rfl) ?_
   refine WL_move rfl rfl ?_
   refine WL_nil ?_
   refine WA_tk 8 (by kernel_rfl) rfl rfl (fl_extract rfl rfl) ?_
   refine WL_extract rfl rfl rfl ?_
   refine WL_nil ?_
   refine WA_tk 9 (by kernel_rfl) rfl rfl (fl_extract rfl rfl) ?_
   refine WL_extract rfl rfl rfl ?_
   refine WL_nil ?_
   refine WA_tk 10 (by kernel_rfl) rfl rfl (fl_assign rfl) ?_
   refine WL_assign rfl rfl ?_
   refine WL_nil ?_
   refine WA_tk 11 (by kernel_rfl) rfl rfl (fl_assign rfl) ?_
   refine WL_assign rfl rfl ?_
   refine WL_nil ?_
   refine WA_done (by kernel_rfl) ?_
   have hq2 := Option.some.inj hr1
   subst hq2
   have hC8 := hC7.h0
   refine nrm_sub (l' := [(7, (.bool x4.2))]) ⟨rfl, trivial⟩ ?_
   exact ⟨x4.2, rfl, rfl, hC8⟩
  obtain ⟨x3, hr3, hr1⟩ := bind_some hr1
  obtain ⟨Fs1, hH1, hn2, hF1, hO1, hX1, hb2⟩ := Ctx.lend3 (As := [Item.box b1 [u1]]) [Item.own v2 (x2 : (List Int))] hC4
  refine WL_call Tryz.call64 rfl rfl (c_Slices_DeleteFunc_Lint_int_M_LeastDisclosure_c2_c1 x2 v2 b1 a1 (roat_box (hX1 0 _ _ rfl) (repd_slice (RO.lent g1 hC4.keep hF1))) pb3 ax3 (ROAt.lent g4 hC4.keep hF1) hH1 hn2 x3 hr3) ?_
  rintro v3 w5 ⟨_, rfl, hq1⟩
  have hC6 : Ctx [] w0 w5 [Item.own v3 (x3 : (List Int)), Item.box b1 [u1]] := hb2 _ _ hq1
  refine WL_nil ?_
  refine WA.sub (l' := [(0, u1), (1, (ptr pb1 0)), (2, (ptr pb2 0)), (3, (ptr pb3 0)), (4, (ptr b1 0)), (5, (.bool false)), (11, v1), (12, v2), (13, (.func (.func 70) #[] #[(ptr b1 0), (ptr pb3 0)])), (14, v3)]) ?_ ⟨rfl, rfl, rfl, rfl, rfl, rfl, rfl, rfl, rfl, rfl, trivial⟩
  refine WA_postsE [⟨0, [], fun vs => PW.ro [] w0 ax1, []⟩, ⟨1, [], fun vs => PW.ro [] w0 ax2, []⟩] [[], []] 6 rfl (by kernel_rfl) (by kernel_rfl) rfl ?_ ?_
  ·refine StepsE_cons rfl ?_ ?_
   ·intro w6 hB5
    refine DepsE_nil ?_
    refine ⟨_, rfl, ?_⟩
    refine WL_load ty33 g2 (hC6.keep.then hB5) rfl rfl (fun v4 h2 => ?_)
    refine WL_nil ?_
    exact FinE_val (Below.refl _ _) rfl rfl ⟨rfl, h2⟩
   refine StepsE_cons rfl ?_ ?_
   ·intro w6 hB5
    refine DepsE_nil ?_
    refine ⟨_, rfl, ?_⟩
    refine WL_load ty37 g3 (hC6.keep.then hB5) rfl rfl (fun v8 h6 => ?_)
    refine WL_nil ?_
    exact FinE_val (Below.refl _ _) rfl rfl ⟨rfl, h6⟩
   exact StepsE_nil
  intro w7 hB6
  refine AllE_cons rfl rfl rfl ?_
  rintro v4 _ ⟨rfl, h2⟩
  refine AllE_cons rfl rfl rfl ?_
  rintro v8 _ ⟨rfl, h6⟩
  obtain ⟨v6, v7, rfl, h4, h5⟩ := ro_st37 h6
  refine AllE_nil ?_
  intro hn3 hb3
  have hC7 := hC6.grow hB6
  obtain ⟨x4, hr4, hr1⟩ := bind_some hr1
  refine WA_one 6 (by kernel_rfl) rfl ?_
  refine WL_call Tryz.call59 rfl rfl (c_M_privateOrder ax1 v4 (h2.now hC7.keep) ax2 v6 (h4.now hC7.keep) v7 (h5.now hC7.keep) x3 v3 ((hC7.ro 0 rfl).now (Keep.refl _ _)) x4 hr4) ?_
  rintro _ w9 ⟨hB7, v9, v10, F2, F3, rfl, hv2, hv3, hn4, hb4⟩
  obtain ⟨rfl, rfl⟩ := val_bool hv3
  have hC8 := hC7.pushL hB7 (Bs := [Item.own v9 x4.1]) (Fs := [F2]) ⟨F2, _, rfl, hv2, rfl⟩ (by simpa using hn4) (fun b h => hb4 b (by simpa using h))
  refine WL_nil ?_
  refine WA_tk 7 (by kernel_rfl) rfl rfl (fl_move rfl) ?_
  refine WL_move rfl rfl ?_
  refine WL_nil ?_
  refine WA_tk 8 (by kernel_rfl) rfl rfl (fl_extract rfl rfl) ?_
  refine WL_extract rfl rfl rfl ?_
  refine WL_nil ?_
  refine WA_tk 9 (by kernel_rfl) rfl rfl (fl_extract rfl rfl) ?_
  refine WL_extract rfl rfl rfl ?_
  refine WL_nil ?_
  refine WA_tk 10 (by kernel_rfl) rfl rfl (fl_assign rfl) ?_
  refine WL_assign rfl rfl ?_
  refine WL_nil ?_
  refine WA_tk 11 (by kernel_rfl) rfl rfl (fl_assign rfl) ?_
  refine WL_assign rfl rfl ?_
  refine WL_nil ?_
  refine WA_done (by kernel_rfl) ?_
  have hq2 := Option.some.inj hr1
  subst hq2
  have hC9 := hC8.h0
  refine nrm_sub (l' := [(7, (.bool x4.2))]) ⟨rfl, trivial⟩ ?_
  exact ⟨x4.2, rfl, rfl, hC9⟩
 rintro _ w2 ⟨x1, rfl, rfl, hC2⟩
 try dsimp only at hF
 refine W_seq_reg ?_
 refine WL_move rfl rfl ?_
 refine WL_assign rfl rfl ?_
 refine WL_nil (W_ret ?_)
 have hq3 := Option.some.inj hF
 subst hq3
 refine fn_ret1 rfl rfl ?_
 exact ⟨_, rfl, bool_res hC2 _⟩

theorem c_Slices_IndexFunc_Lint_int_M_LeastDisclosure_c1 {w0 : World} (a1 : (List Int)) (u1 : Value) (g1 : RO [] w0 u1 a1) (pb1 : Nat) (ax1 : (List Int)) (g2 : ROAt [] w0 pb1 0 ax1) (rr : Int) (hF : Slices.IndexFunc_Lint_int_M_LeastDisclosure_c1 a1 ax1 = some rr) :
 Calls Tryz.prog 99 [u1, (.func (.func 65) #[] #[(ptr pb1 0)])].toArray w0 fun e w' => ∃ v, e = .returned v ∧ Res w0 rr v w' := by
 refine calls_of_W Tryz.func99 rfl rfl ?_
 have hC0 := Ctx.start w0
 unfold Slices.IndexFunc_Lint_int_M_LeastDisclosure_c1 at hF
 refine W_seq_reg ?_
 refine WL_assign rfl rfl ?_
 refine WL_nil (W_seq (W_seq_reg ?_))
 refine WL_move rfl rfl ?_
 refine WL_len Tryz.underlying22 g1 rfl rfl ?_
 refine WL_move rfl rfl ?_
 refine WL_nil ?_
 obtain ⟨r1, hr1, hF⟩ := bind_some hF
 refine W_norm (fun l w => .inl () = r1 ∧ l = [] ∧ Below w0.heap.size w0 w ∧ Ctx [] w0 w []) ?_ ?_
 ·refine W_block ?_
  refine W.sub (l' := [(0, u1), (1, (.func (.func 65) #[] #[(ptr pb1 0)])), (7, (.int .i64 (List.length a1 : Int))), (8, (.int .i64 0))]) ?_ ⟨rfl, rfl, rfl, rfl, trivial⟩
  refine W_loop (fun k l w => ∃ x1 : Int, l = [(0, u1), (1, (.func (.func 65) #[] #[(ptr pb1 0)])), (7, (.int .i64 (List.length a1 : Int))), (8, (.int .i64 x1))] ∧ Below w0.heap.size w0 w ∧ Ctx [] w0 w [] ∧ Slices.IndexFunc_Lint_int_M_LeastDisclosure_c1_l1 a1 ax1 k x1 = some r1) FUEL ⟨0, rfl, (Below.refl _ _), hC0, hr1⟩ ?_
  clear hr1
  rintro k1 _ w1 ⟨x1, rfl, hB1, hC1, hL1⟩
  cases k1 with
  | zero => rw [Slices.IndexFunc_Lint_int_M_LeastDisclosure_c1_l1] at hL1; cases hL1
  | succ k1 =>
   rw [Slices.IndexFunc_Lint_int_M_LeastDisclosure_c1_l1] at hL1
   refine W_seq_reg ?_
   refine WL_lss rfl rfl rfl ?_
   refine WL_nil (W_seq ?_)
   refine W_cond rfl (fun hc1 => ?_) (fun hc1 => ?_)
   ·replace hL1 := ite_t hL1 hc1
    refine W_skip (nrm_normal (W_seq (W_block (W_seq_reg ?_))))
    refine WL_move rfl rfl ?_
    refine WL_assign rfl rfl ?_
    refine WL_nil (W_seq_reg ?_)
    refine WL_move rfl rfl ?_
    refine WL_move rfl rfl ?_
    refine WL_move rfl rfl ?_
    obtain ⟨x2, hx1, hL1⟩ := bind_some hL1
    refine WL_index Tryz.underlying22 ty3 g1 hx1 rfl rfl rfl (fun b1 o1 h1 => ?_)
    refine WL_load ty3 h1 hC1.keep rfl rfl (fun v1 h2 => ?_)
    obtain rfl := ro_int h2
    obtain ⟨x3, hr2, hL1⟩ := bind_some hL1
    refine WL_callv (cap := [(ptr pb1 0)]) Tryz.call65 rfl rfl rfl (c_M_LeastDisclosure_c1 x2 pb1 ax1 (g2.now hC1.keep) x3 hr2) ?_
    intro _ w2 hv1
    obtain ⟨rfl, hB2⟩ := res_bool hv1
    have hC2 := hC1.grow hB2
    refine WL_nil ?_
    refine W_cond rfl (fun hc2 => ?_) (fun hc2 => ?_)
    ·replace hL1 := ite_t hL1 hc2
     refine W_seq_reg ?_
     refine WL_move rfl rfl ?_
     refine WL_assign rfl rfl ?_
     refine WL_nil (W_ret (blk_ret (nrm_ret (nrm_ret (blk_ret (nrm_ret (nrm_ret ?_)))))))
     have hq1 := Option.some.inj hL1
     subst hq1
     dsimp only at hF
     have hq2 := Option.some.inj hF
     subst hq2
     refine fn_ret1 rfl rfl ?_
     exact ⟨_, rfl, int_res hC2 _⟩
    replace hL1 := ite_f hL1 hc2
    refine W_skip (blk_normal (nrm_normal (W_reg ?_)))
    refine WL_add rfl rfl rfl ?_
    refine WL_move rfl rfl ?_
    refine WL_nil ?_
    refine nrm_sub (l' := [(0, u1), (1, (.func (.func 65) #[] #[(ptr pb1 0)])), (7, (.int .i64 (List.length a1 : Int))), (8, (.int .i64 (w64 (x1 + 1))))]) ⟨rfl, rfl, rfl, rfl, trivial⟩ ?_
    exact ⟨k1, Nat.lt_succ_self _, w64 (x1 + 1), rfl, ((Keep.of hB1).then hB2).below, hC2, hL1⟩
   replace hL1 := ite_f hL1 hc1
   refine W_exit (nrm_exit (nrm_exit (blk_exit ?_)))
   have hq3 := Option.some.inj hL1
   subst hq3
   refine nrm_sub (l' := []) trivial ?_
   exact ⟨rfl, rfl, (Keep.of hB1).below, hC1⟩
 rintro l2 _ w3 hs2 ⟨rfl, rfl, hB3, hC3⟩
 try dsimp only at hF
 refine nrm_sub' hs2 ?_
 clear hs2
 refine W_seq_reg ?_
 refine WL_assign rfl rfl ?_
 refine WL_nil (W_ret ?_)
 have hq4 := Option.some.inj hF
 subst hq4
 refine fn_ret1 rfl rfl ?_
 exact ⟨_, rfl, int_res hC3 _⟩

theorem c_Slices_DeleteFunc_Lint_int_M_LeastDisclosure_c1 {Fs : List (List Nat)} {w0 : World} (a1 : (List Int)) (u1 : Value) (pb1 : Nat) (ax1 : (List Int)) (g1 : ROAt Fs.flatten w0 pb1 0 ax1) (hH : Hold [Item.own u1 (a1 : (List Int))] w0 Fs) (hn : Fs.flatten.Nodup) (rr : (List Int)) (hF : Slices.DeleteFunc_Lint_int_M_LeastDisclosure_c1 a1 ax1 = some rr) :
 Calls Tryz.prog 64 [u1, (.func (.func 65) #[] #[(ptr pb1 0)])].toArray w0 fun e w' => ∃ v, e = .returned v ∧ ∃ q0 : Value, v = q0 ∧ Ctx Fs.flatten w0 w' [Item.own q0 (rr : (List Int))] := by
 refine calls_of_W Tryz.func64 rfl rfl ?_
 have hC0 := Ctx.startIn hH hn
 unfold Slices.DeleteFunc_Lint_int_M_LeastDisclosure_c1 at hF
 obtain ⟨x, hx, hF⟩ := bind_some hF
 refine W_seq_reg ?_
 refine WL_assign rfl rfl ?_
 refine WL_nil (W_seq_reg ?_)
 refine WL_move rfl rfl ?_
 refine WL_move rfl rfl ?_
 refine WL_call Tryz.call99 rfl rfl (c_Slices_IndexFunc_Lint_int_M_LeastDisclosure_c1 a1 u1 (hC0.ro 0 rfl) pb1 ax1 (g1.now (Keep.refl _ _)) x hx) ?_
 intro _ w1 hv1
 obtain ⟨rfl, hB1⟩ := res_int hv1
 have hC1 := hC0.grow hB1
 refine WL_assign rfl rfl ?_
 refine WL_nil (W_seq (W_seq_reg ?_))
 refine WL_move rfl rfl ?_
 refine WL_eql rfl rfl rfl ?_
 by_cases hx1 : x = -1
 ·rw [if_pos hx1] at hF
  obtain rfl := Option.some.inj hF
  rw [decide_eq_true hx1]
  refine WL_nil ?_
  refine W_cond_t rfl ?_
  refine W_seq_reg ?_
  refine WL_move rfl rfl ?_
  refine WL_assign rfl rfl ?_
  refine WL_nil (W_ret (nrm_ret ?_))
  refine fn_ret1 rfl rfl ?_
  exact ⟨_, rfl, _, rfl, hC1⟩
 rw [if_neg hx1] at hF
 have hr : 0 ≤ x ∧ x < (a1.length : Int) := Classical.byContradiction fun h => by rw [if_neg h] at hF; cases hF
 rw [if_pos hr] at hF
 obtain ⟨m, rfl⟩ : ∃ m : Nat, x = m := ⟨x.toNat, by omega⟩
 have hm : m < a1.length := by omega
 have hlim := (hC0.ro 0 rfl).lt
 simp only [maxLen] at hlim
 rw [Int.toNat_natCast] at hF
 rw [decide_eq_false hx1]
 refine WL_nil ?_
 refine W_cond_f rfl ?_
 refine W_skip (nrm_normal (W_seq (W_seq_reg ?_)))
 refine WL_move rfl rfl ?_
 refine WL_add rfl rfl rfl ?_
 rw [show w64 ((m : Int) + 1) = ((m + 1 : Nat) : Int) by rw [w64_id (by omega) (by omega)]; omega]
 refine WL_assign rfl rfl ?_
 refine WL_nil ?_
 obtain ⟨b, c, rfl, hc1, hc2, hD0⟩ := hC1.del_open hm
 have hml : (a1.take m).length = m := by rw [List.length_take]; omega
 refine W_norm (fun l w => ∃ kept : List Int, ∃ g : Nat, l = [(0, .slice (some ⟨b, 0, none⟩) a1.length c), (5, .int .i64 (kept.length : Int))] ∧ 0 < g ∧ kept.length + g = a1.length ∧ kept = rr ∧ Ctx Fs.flatten w0 w [Item.del b c kept g ([] : List Int)]) ?_ ?_
 ·refine W_block ?_
  refine W.sub (l' := [(0, .slice (some ⟨b, 0, none⟩) a1.length c), (1, (.func (.func 65) #[] #[(ptr pb1 0)])), (5, .int .i64 (m : Int)), (6, .int .i64 ((m + 1 : Nat) : Int))]) ?_ ⟨rfl, rfl, rfl, rfl, trivial⟩
  refine W_loop (fun k l w => ∃ kept : List Int, ∃ g : Nat, ∃ rest : List Int, l = [(0, .slice (some ⟨b, 0, none⟩) a1.length c), (1, (.func (.func 65) #[] #[(ptr pb1 0)])), (5, .int .i64 (kept.length : Int)), (6, .int .i64 ((kept.length + g : Nat) : Int))] ∧ 0 < g ∧ kept.length + g + rest.length = a1.length ∧ dfl (fun e => M.LeastDisclosure_c1 e ax1) kept rest = some rr ∧ k = rest.length ∧ Ctx Fs.flatten w0 w [Item.del b c kept g rest]) (a1.drop (m + 1)).length ⟨a1.take m, 1, a1.drop (m + 1), by rw [hml], by omega, by rw [hml, List.length_drop]; omega, hF, rfl, hD0⟩ ?_
  clear hF hD0
  rintro k1 _ w2 ⟨kept, g, rest, rfl, hg, hlen, hL, hk, hD⟩
  refine W_seq (W_seq_reg ?_)
  refine WL_move rfl rfl ?_
  refine WL_move rfl rfl ?_
  refine WL_len_raw Tryz.underlying22 rfl rfl ?_
  refine WL_lss rfl rfl rfl ?_
  cases rest with
  | nil =>
   have hq := Option.some.inj hL
   simp only [List.length_nil, Nat.add_zero] at hlen
   rw [decide_eq_false (show ¬ ((kept.length + g : Nat) : Int) < (a1.length : Int) by omega)]
   refine WL_nil ?_
   refine W_cond_f rfl ?_
   refine W_exit (nrm_exit (nrm_exit (blk_exit ?_)))
   refine nrm_sub (l' := [(0, .slice (some ⟨b, 0, none⟩) a1.length c), (5, .int .i64 (kept.length : Int))]) ⟨rfl, rfl, trivial⟩ ?_
   exact ⟨kept, g, rfl, hg, hlen, hq, hD⟩
  | cons x rest =>
   simp only [List.length_cons] at hlen hk
   rw [decide_eq_true (show ((kept.length + g : Nat) : Int) < (a1.length : Int) by omega)]
   refine WL_nil ?_
   refine W_cond_t rfl ?_
   refine W_skip (nrm_normal (W_seq (W_block (W_seq_reg ?_))))
   refine WL_move rfl rfl ?_
   refine WL_move rfl rfl ?_
   refine WL_index_raw Tryz.underlying22 ty3 (show kept.length + g < a1.length by omega) rfl rfl rfl ?_
   obtain ⟨cs, hcs, hD1⟩ := hD.del_head
   obtain ⟨hro, row, T, hh, hrow⟩ := hD1.delh_row
   refine WL_load_raw ty3 hh (by rw [Nat.zero_add]; exact hrow) hcs rfl rfl ?_
   obtain rfl := cells_of_int hcs (ro_int hro)
   rw [show mkv (Rep.agg Int) [(.int .i64 x)] = (.int .i64 x) from rfl]
   refine WL_assign rfl rfl ?_
   refine WL_nil (W_seq_reg ?_)
   refine WL_move rfl rfl ?_
   refine WL_move rfl rfl ?_
   obtain ⟨q, hq, hL⟩ := bind_some (show (M.LeastDisclosure_c1 x ax1).bind (fun b => dfl (fun e => M.LeastDisclosure_c1 e ax1) (if b then kept else kept ++ [x]) rest) = some rr from hL)
   refine WL_callv (cap := [(ptr pb1 0)]) Tryz.call65 rfl rfl rfl (c_M_LeastDisclosure_c1 x pb1 ax1 (g1.now hD1.keep) q hq) ?_
   intro _ w5 hv2
   obtain ⟨rfl, hB5⟩ := res_bool hv2
   have hD4 := hD1.grow hB5
   refine WL_not rfl rfl ?_
   refine WL_nil ?_
   refine W_cond rfl (fun hq1 => ?_) (fun hq1 => ?_)
   ·have hqf : q = false := by simpa using hq1
    rw [hqf] at hL
    rw [if_neg (by simp)] at hL
    refine W_seq_reg ?_
    refine WL_move rfl rfl ?_
    refine WL_move rfl rfl ?_
    refine WL_move rfl rfl ?_
    refine WL_index_raw Tryz.underlying22 ty3 (show kept.length < a1.length by omega) rfl rfl rfl ?_
    refine WL_store_del hD4 hg ty3 rfl rfl rfl (fun w6 hD5 => ?_)
    refine WL_nil (W_reg ?_)
    refine WL_move rfl rfl ?_
    refine WL_add rfl rfl rfl ?_
    rw [show w64 ((kept.length : Int) + 1) = ((kept ++ [x]).length : Int) by rw [w64_id (by omega) (by omega), List.length_append]; rfl]
    refine WL_assign rfl rfl ?_
    refine WL_nil (blk_normal (nrm_normal (W_reg ?_)))
    refine WL_move rfl rfl ?_
    refine WL_add rfl rfl rfl ?_
    rw [show w64 (((kept.length + g : Nat) : Int) + 1) = (((kept ++ [x]).length + g : Nat) : Int) by rw [w64_id (by omega) (by omega), List.length_append]; simp only [List.length_cons, List.length_nil]; omega]
    refine WL_assign rfl rfl ?_
    refine WL_nil ?_
    refine nrm_sub (l' := [(0, .slice (some ⟨b, 0, none⟩) a1.length c), (1, (.func (.func 65) #[] #[(ptr pb1 0)])), (5, .int .i64 ((kept ++ [x]).length : Int)), (6, .int .i64 (((kept ++ [x]).length + g : Nat) : Int))]) ⟨rfl, rfl, rfl, rfl, trivial⟩ ?_
    exact ⟨rest.length, by omega, kept ++ [x], g, rest, rfl, hg, by rw [List.length_append]; simp only [List.length_cons, List.length_nil]; omega, hL, rfl, hD5⟩
   have hqt : q = true := by simpa using hq1
   rw [hqt] at hL
   rw [if_pos rfl] at hL
   refine W_skip (blk_normal (nrm_normal (W_reg ?_)))
   refine WL_move rfl rfl ?_
   refine WL_add rfl rfl rfl ?_
   rw [show w64 (((kept.length + g : Nat) : Int) + 1) = ((kept.length + (g + 1) : Nat) : Int) by rw [w64_id (by omega) (by omega)]; omega]
   refine WL_assign rfl rfl ?_
   refine WL_nil ?_
   refine nrm_sub (l' := [(0, .slice (some ⟨b, 0, none⟩) a1.length c), (1, (.func (.func 65) #[] #[(ptr pb1 0)])), (5, .int .i64 (kept.length : Int)), (6, .int .i64 ((kept.length + (g + 1) : Nat) : Int))]) ⟨rfl, rfl, rfl, rfl, trivial⟩ ?_
   have hD5 := hD4.del_skip
   exact ⟨rest.length, by omega, kept, g + 1, rest, rfl, by omega, by omega, hL, rfl, hD5⟩
 rintro l2 _ w8 hs2 ⟨kept, g, rfl, hg, hlen, rfl, hD⟩
 refine nrm_sub' hs2 ?_
 clear hs2
 refine W_seq_reg ?_
 refine WL_move rfl rfl ?_
 refine WL_move rfl rfl ?_
 refine WL_sl_l Tryz.underlying22 ty3 (show kept.length < c by omega) (show kept.length ≤ a1.length by omega) hc1 rfl rfl rfl ?_
 refine WL_clear_del hD Tryz.underlying22 ty3 zc3 (by intro v hv; simp only [List.mem_cons, List.not_mem_nil, or_false] at hv; rcases hv with rfl <;> rfl) hlen.symm rfl hg (fun w9 hD9 => ?_)
 refine WL_nil (W_seq_reg ?_)
 refine WL_move rfl rfl ?_
 refine WL_move rfl rfl ?_
 refine WL_sl_h Tryz.underlying22 ty3 (hi := kept.length) (by omega) (by omega) rfl rfl rfl ?_
 refine WL_assign rfl rfl ?_
 refine WL_nil (W_ret ?_)
 refine fn_ret1 rfl rfl ?_
 exact ⟨_, rfl, _, rfl, hD9⟩

theorem c_M_smallest_M_LeastDisclosure_c2 {w0 : World} (a1 : Int) (pb1 : Nat) (ax1 : (List (Int × (List Int) × Int × Int × Int))) (g1 : ROAt [] w0 pb1 0 ax1) (pb2 : Nat) (ax2 : ((List Int) × (List (Int × (List Int))))) (g2 : ROAt [] w0 pb2 0 ax2) (pb3 : Nat) (ax3 : (List Int)) (g3 : ROAt [] w0 pb3 0 ax3) (rr : ((List Int) × Bool)) (hF : M.smallest_M_LeastDisclosure_c2 a1 ax1 ax2 ax3 = some rr) :
 Calls Tryz.prog 67 [(.int .i64 a1), (.func (.func 68) #[] #[(ptr pb1 0), (ptr pb2 0), (ptr pb3 0)])].toArray w0 fun e w' => ∃ v, e = .returned v ∧ Res2 w0 rr.1 rr.2 v w' := by
 refine calls_of_W Tryz.func67 rfl rfl ?_
 have hC0 := Ctx.start w0
 unfold M.smallest_M_LeastDisclosure_c2 at hF
 refine W_seq_reg ?_
 refine WL_assign rfl rfl ?_
 refine WL_assign rfl rfl ?_
 refine WL_nil (W_seq_reg ?_)
 refine WL_assign rfl rfl ?_
 refine WL_nil (W_seq (W_seq_reg ?_))
 refine WL_move rfl rfl ?_
 obtain ⟨_, hx1, hF⟩ := bind_some hF
 refine WL_shl (nn_some hx1) rfl rfl rfl ?_
 refine WL_move rfl rfl ?_
 refine WL_nil ?_
 obtain ⟨r1, hr1, hF⟩ := bind_some hF
 refine W_norm (fun l w => ∃ v2 : Value, ∃ x4 : (List Int), ∃ x5 : Bool, (x4, x5) = r1 ∧ l = [(6, v2)] ∧ Ctx [] w0 w [Item.own v2 (x4 : (List Int))] ∧ NilB v2 x5) ?_ ?_
 ·refine W_block ?_
  have hC28 := hC0.triv (nil_val (α := Int))
  refine W.sub (l' := [(0, (.int .i64 a1)), (1, (.func (.func 68) #[] #[(ptr pb1 0), (ptr pb2 0), (ptr pb3 0)])), (6, (.slice none 0 0)), (11, (.int .i64 (shl 1 a1))), (12, (.int .i64 0))]) ?_ ⟨rfl, rfl, rfl, rfl, rfl, trivial⟩
  refine W_loop (fun k l w => ∃ v1 : Value, ∃ x1 : (List Int), ∃ x2 : Bool, ∃ x3 : Int, l = [(0, (.int .i64 a1)), (1, (.func (.func 68) #[] #[(ptr pb1 0), (ptr pb2 0), (ptr pb3 0)])), (6, v1), (11, (.int .i64 (shl 1 a1))), (12, (.int .i64 x3))] ∧ Ctx [] w0 w [Item.own v1 (x1 : (List Int))] ∧ NilB v1 x2 ∧ M.smallest_M_LeastDisclosure_c2_l1 a1 ax1 ax2 ax3 k x1 x2 x3 = some r1) FUEL ⟨(.slice none 0 0), [], true, 0, rfl, hC28, nilB_nil, hr1⟩ ?_
  clear hr1
  rintro k1 _ w1 ⟨v1, x1, x2, x3, rfl, hC1, hnb1, hL1⟩
  cases k1 with
  | zero => rw [M.smallest_M_LeastDisclosure_c2_l1] at hL1; cases hL1
  | succ k1 =>
   rw [M.smallest_M_LeastDisclosure_c2_l1] at hL1
   refine W_seq_reg ?_
   refine WL_lss rfl rfl rfl ?_
   refine WL_nil (W_seq ?_)
   refine W_cond rfl (fun hc1 => ?_) (fun hc1 => ?_)
   ·replace hL1 := ite_t hL1 hc1
    refine W_skip (nrm_normal (W_seq (W_block (W_seq_reg ?_))))
    refine WL_move rfl rfl ?_
    refine WL_assign rfl rfl ?_
    refine WL_nil (W_seq_reg ?_)
    refine WL_buildSlice (vs := []) hC1 Tryz.underlying22 ty3 rfl rfl rfl rfl (by simp) rfl rfl (fun b1 w2 hC2 hB2 => ?_)
    have hC3 := hC2.row0 (α := Int)
    have hC4 := hC3.front 1 rfl
    dsimp only [List.eraseIdx, List.cons_append, List.nil_append, List.append_nil] at hC4
    have hC5 : Ctx [] w0 w2 (Item.own (.slice (some ⟨b1, 0, none⟩) 0 0) (([] : List Int) : List Int) :: [Item.own v1 (x1 : (List Int))]) := hC4.rowOwn (by simp [maxLen])
    refine WL_assign rfl rfl ?_
    refine WL_nil (W_seq (W_seq_reg ?_))
    refine WL_move rfl rfl ?_
    refine WL_move rfl rfl ?_
    refine WL_nil ?_
    obtain ⟨r2, hr2, hL1⟩ := bind_some hL1
    refine W_norm (fun l w => ∃ v4 : Value, ∃ x9 : (List Int), ∃ x10 : Bool, (x9, x10) = r2 ∧ l = [(0, (.int .i64 a1)), (1, (.func (.func 68) #[] #[(ptr pb1 0), (ptr pb2 0), (ptr pb3 0)])), (6, v1), (8, v4), (11, (.int .i64 (shl 1 a1))), (12, (.int .i64 x3))] ∧ Ctx [] w0 w [Item.own v4 (x9 : (List Int)), Item.own v1 (x1 : (List Int))] ∧ NilB v4 x10) ?_ ?_
    ·refine W_block ?_
     refine W.sub (l' := [(0, (.int .i64 a1)), (1, (.func (.func 68) #[] #[(ptr pb1 0), (ptr pb2 0), (ptr pb3 0)])), (6, v1), (7, (.int .i64 x3)), (8, (.slice (some ⟨b1, 0, none⟩) 0 0)), (11, (.int .i64 (shl 1 a1))), (12, (.int .i64 x3)), (16, (.int .i64 a1)), (17, (.int .i64 0))]) ?_ ⟨rfl, rfl, rfl, rfl, rfl, rfl, rfl, rfl, rfl, trivial⟩
     refine W_loop (fun k l w => ∃ v3 : Value, ∃ x6 : (List Int), ∃ x7 : Bool, ∃ x8 : Int, l = [(0, (.int .i64 a1)), (1, (.func (.func 68) #[] #[(ptr pb1 0), (ptr pb2 0), (ptr pb3 0)])), (6, v1), (7, (.int .i64 x3)), (8, v3), (11, (.int .i64 (shl 1 a1))), (12, (.int .i64 x3)), (16, (.int .i64 a1)), (17, (.int .i64 x8))] ∧ Ctx [] w0 w [Item.own v3 (x6 : (List Int)), Item.own v1 (x1 : (List Int))] ∧ NilB v3 x7 ∧ M.smallest_M_LeastDisclosure_c2_l2 a1 x3 k x6 x7 x8 = some r2) FUEL ⟨(.slice (some ⟨b1, 0, none⟩) 0 0), ([] : List Int), false, 0, rfl, hC5, nilB_some, hr2⟩ ?_
     clear hr2
     rintro k2 _ w3 ⟨v3, x6, x7, x8, rfl, hC6, hnb3, hL2⟩
     cases k2 with
     | zero => rw [M.smallest_M_LeastDisclosure_c2_l2] at hL2; cases hL2
     | succ k2 =>
      rw [M.smallest_M_LeastDisclosure_c2_l2] at hL2
      refine W_seq_reg ?_
      refine WL_lss rfl rfl rfl ?_
      refine WL_nil (W_seq ?_)
      refine W_cond rfl (fun hc2 => ?_) (fun hc2 => ?_)
      ·replace hL2 := ite_t hL2 hc2
       refine W_skip (nrm_normal (W_seq (W_block (W_seq_reg ?_))))
       refine WL_move rfl rfl ?_
       refine WL_assign rfl rfl ?_
       refine WL_nil (W_seq_reg ?_)
       refine WL_move rfl rfl ?_
       refine WL_move rfl rfl ?_
       obtain ⟨_, hx2, hL2⟩ := bind_some hL2
       refine WL_shr (nn_some hx2) rfl rfl rfl ?_
       refine WL_band rfl rfl rfl ?_
       refine WL_eql rfl rfl rfl ?_
       refine WL_nil ?_
       obtain ⟨r3, hr3, hL2⟩ := bind_some hL2
       refine W_norm (fun l w => ∃ v5 : Value, ∃ x11 : (List Int), ∃ x12 : Bool, (x11, x12) = r3 ∧ l = [(0, (.int .i64 a1)), (1, (.func (.func 68) #[] #[(ptr pb1 0), (ptr pb2 0), (ptr pb3 0)])), (6, v1), (7, (.int .i64 x3)), (8, v5), (11, (.int .i64 (shl 1 a1))), (12, (.int .i64 x3)), (16, (.int .i64 a1)), (17, (.int .i64 x8))] ∧ Ctx [] w0 w [Item.own v5 (x11 : (List Int)), Item.own v1 (x1 : (List Int))] ∧ NilB v5 x12) ?_ ?_
       ·refine W_cond rfl (fun hc3 => ?_) (fun hc3 => ?_)
        ·replace hr3 := ite_t hr3 hc3
         refine W_reg ?_
         refine WL_move rfl rfl ?_
         refine WL_move rfl rfl ?_
         refine WL_buildSlice (vs := [(.int .i64 x8)]) hC6 Tryz.underlying22 ty3 rfl rfl rfl rfl (by intro v hv; simp only [List.mem_cons, List.not_mem_nil, or_false] at hv; rcases hv with rfl <;> rfl) rfl rfl (fun b2 w5 hC8 hB5 => ?_)
         have hC9 := hC8.row0 (α := Int)
         have hC10 := hC9.triv (int_val (x8))
         have hC11 := hC10.row1
         have hC12 := hC11.front 1 rfl
         dsimp only [List.eraseIdx, List.cons_append, List.nil_append, List.append_nil] at hC12
         have hC13 : Ctx [] w0 w5 (Item.own (.slice (some ⟨b2, 0, none⟩) 1 1) ([x8] : List Int) :: [Item.own v3 (x6 : (List Int)), Item.own v1 (x1 : (List Int))]) := hC12.rowOwn (by simp [maxLen])
         obtain ⟨x13, hx3, hr3⟩ := bind_some hr3
         refine WL_append_flat (α := Int) hC13 1 rfl (hC13.ro 0 rfl) (Keep.refl _ _) Tryz.underlying22 ty3 rfl hx3 rfl rfl rfl (fun v6 w6 hC14 => ?_)
         try dsimp only [List.set] at hC14
         refine WL_assign rfl rfl ?_
         refine WL_nil ?_
         have hq1 := Option.some.inj hr3
         subst hq1
         have hC15 := hC14.f2
         have hC16 := hC15.f2
         have hC17 := hC16.h2
         refine nrm_sub (l' := [(0, (.int .i64 a1)), (1, (.func (.func 68) #[] #[(ptr pb1 0), (ptr pb2 0), (ptr pb3 0)])), (6, v1), (7, (.int .i64 x3)), (8, v6), (11, (.int .i64 (shl 1 a1))), (12, (.int .i64 x3)), (16, (.int .i64 a1)), (17, (.int .i64 x8))]) ⟨rfl, rfl, rfl, rfl, rfl, rfl, rfl, rfl, rfl, trivial⟩ ?_
         exact ⟨v6, x13, false, rfl, rfl, hC17, (nilB_own hC14 1 rfl (app_ne hx3))⟩
        replace hr3 := ite_f hr3 hc3
        refine W_skip ?_
        have hq2 := Option.some.inj hr3
        subst hq2
        refine nrm_sub (l' := [(0, (.int .i64 a1)), (1, (.func (.func 68) #[] #[(ptr pb1 0), (ptr pb2 0), (ptr pb3 0)])), (6, v1), (7, (.int .i64 x3)), (8, v3), (11, (.int .i64 (shl 1 a1))), (12, (.int .i64 x3)), (16, (.int .i64 a1)), (17, (.int .i64 x8))]) ⟨rfl, rfl, rfl, rfl, rfl, rfl, rfl, rfl, rfl, trivial⟩ ?_
        exact ⟨v3, x6, x7, rfl, rfl, hC6, hnb3⟩
       rintro l3 _ w4 hs3 ⟨v5, x11, x12, rfl, rfl, hC7, hnb5⟩
       try dsimp only at hL2
       refine blk_normal ?_
       refine nrm_sub' hs3 ?_
       clear hs3
       refine W_reg ?_
       refine WL_add rfl rfl rfl ?_
       refine WL_move rfl rfl ?_
       refine WL_nil ?_
       refine nrm_sub (l' := [(0, (.int .i64 a1)), (1, (.func (.func 68) #[] #[(ptr pb1 0), (ptr pb2 0), (ptr pb3 0)])), (6, v1), (7, (.int .i64 x3)), (8, v5), (11, (.int .i64 (shl 1 a1))), (12, (.int .i64 x3)), (16, (.int .i64 a1)), (17, (.int .i64 (w64 (x8 + 1))))]) ⟨rfl, rfl, rfl, rfl, rfl, rfl, rfl, rfl, rfl, trivial⟩ ?_
       exact ⟨k2, Nat.lt_succ_self _, v5, x11, x12, w64 (x8 + 1), rfl, hC7, hnb5, hL2⟩
      replace hL2 := ite_f hL2 hc2
      refine W_exit (nrm_exit (nrm_exit (blk_exit ?_)))
      have hq3 := Option.some.inj hL2
      subst hq3
      refine nrm_sub (l' := [(0, (.int .i64 a1)), (1, (.func (.func 68) #[] #[(ptr pb1 0), (ptr pb2 0), (ptr pb3 0)])), (6, v1), (8, v3), (11, (.int .i64 (shl 1 a1))), (12, (.int .i64 x3))]) ⟨rfl, rfl, rfl, rfl, rfl, rfl, trivial⟩ ?_
      exact ⟨v3, x6, x7, rfl, rfl, hC6, hnb3⟩
    rintro l4 _ w7 hs4 ⟨v4, x9, x10, rfl, rfl, hC18, hnb4⟩
    try dsimp only at hL1
    refine nrm_sub' hs4 ?_
    clear hs4
    obtain ⟨r4, hr4, hL1⟩ := bind_some hL1
    refine W_cut (fun l w => ∃ x14 : Bool, x14 = r4 ∧ l = [(0, (.int .i64 a1)), (1, (.func (.func 68) #[] #[(ptr pb1 0), (ptr pb2 0), (ptr pb3 0)])), (6, v1), (8, v4), (11, (.int .i64 (shl 1 a1))), (12, (.int .i64 x3)), (56, (.bool x14))] ∧ Below w7.heap.size w7 w ∧ Ctx [] w0 w [Item.own v4 (x9 : (List Int)), Item.own v1 (x1 : (List Int))]) ?_ ?_
    ·refine W_reg ?_
     refine WL_move rfl rfl ?_
     refine WL_nil_eql Tryz.underlying22 hnb1 rfl rfl ?_
     refine WL_move rfl rfl ?_
     refine WL_fork (fun hc4 => ?_) (fun hc4 => ?_)
     ·replace hr4 := ite_t hr4 hc4
      refine WL_guard_skip rfl rfl (by simp) rfl ?_
      refine WL_guard_skip rfl rfl (by simp) rfl ?_
      refine WL_guard_skip rfl rfl (by simp) rfl ?_
      refine WL_guard_skip rfl rfl (by simp) rfl ?_
      refine WL_guard_skip rfl rfl (by simp) rfl ?_
      refine WL_pick_t rfl rfl rfl ?_
      refine WL_move rfl rfl ?_
      refine WL_guard_skip rfl rfl (by simp) rfl ?_
      refine WL_guard_skip rfl rfl (by simp) rfl ?_
      refine WL_guard_skip rfl rfl (by simp) rfl ?_
      refine WL_guard_skip rfl rfl (by simp) rfl ?_
      refine WL_guard_skip rfl rfl (by simp) rfl ?_
      refine WL_guard_skip rfl rfl (by simp) rfl ?_
      refine WL_guard_skip rfl rfl (by simp [undef]) rfl ?_
      refine WL_guard_skip rfl rfl (by simp [undef]) rfl ?_
      refine WL_guard_skip rfl rfl (by simp [undef]) rfl ?_
      refine WL_guard_skip rfl rfl (by simp [undef]) rfl ?_
      refine WL_guard_skip rfl rfl (by simp) rfl ?_
      refine WL_pick_t rfl rfl rfl ?_
      refine WL_move rfl rfl ?_
      refine WL_guard rfl rfl ?_
      refine WL_move rfl rfl ?_
      refine WL_guard rfl rfl ?_
      refine WL_move rfl rfl ?_
      obtain ⟨x15, hr5, hr4⟩ := bind_some hr4
      refine WL_guard rfl rfl ?_
      refine WL_callv (cap := [(ptr pb1 0), (ptr pb2 0), (ptr pb3 0)]) Tryz.call68 rfl rfl rfl (c_M_LeastDisclosure_c2 x9 v4 ((hC18.ro 0 rfl).now (Keep.refl _ _)) pb1 ax1 (g1.now hC18.keep) pb2 ax2 (g2.now hC18.keep) pb3 ax3 (g3.now hC18.keep) x15 hr5) ?_
      intro _ w10 hv1
      obtain ⟨rfl, hB8⟩ := res_bool hv1
      have hC20 := hC18.grow hB8
      refine WL_pick_t rfl rfl rfl ?_
      refine WL_nil ?_
      have hq4 := Option.some.inj hr4
      subst hq4
      refine nrm_sub (l' := [(0, (.int .i64 a1)), (1, (.func (.func 68) #[] #[(ptr pb1 0), (ptr pb2 0), (ptr pb3 0)])), (6, v1), (8, v4), (11, (.int .i64 (shl 1 a1))), (12, (.int .i64 x3)), (56, (.bool x15))]) ⟨rfl, rfl, rfl, rfl, rfl, rfl, rfl, trivial⟩ ?_
      exact ⟨x15, rfl, rfl, (Keep.of hB8).below, hC20⟩
     replace hr4 := ite_f hr4 hc4
     refine WL_guard rfl rfl ?_
     refine WL_move rfl rfl ?_
     refine WL_guard rfl rfl ?_
     refine WL_len Tryz.underlying22 (hC18.ro 0 rfl) rfl rfl ?_
     refine WL_guard rfl rfl ?_
     refine WL_move rfl rfl ?_
     refine WL_guard rfl rfl ?_
     refine WL_len Tryz.underlying22 (hC18.ro 1 rfl) rfl rfl ?_
     refine WL_guard rfl rfl ?_
     refine WL_lss rfl rfl rfl ?_
     refine WL_pick_f rfl rfl rfl ?_
     refine WL_move rfl rfl ?_
     refine WL_fork (fun hc5 => ?_) (fun hc5 => ?_)
     ·replace hr4 := ite_t hr4 hc5
      refine WL_guard_skip rfl rfl (by simp) rfl ?_
      refine WL_guard_skip rfl rfl (by simp) rfl ?_
      refine WL_guard_skip rfl rfl (by simp) rfl ?_
      refine WL_guard_skip rfl rfl (by simp) rfl ?_
      refine WL_guard_skip rfl rfl (by simp) rfl ?_
      refine WL_guard_skip rfl rfl (by simp) rfl ?_
      refine WL_guard_skip rfl rfl (by simp [undef]) rfl ?_
      refine WL_guard_skip rfl rfl (by simp [undef]) rfl ?_
      refine WL_guard_skip rfl rfl (by simp [undef]) rfl ?_
      refine WL_guard_skip rfl rfl (by simp [undef]) rfl ?_
      refine WL_guard_skip rfl rfl (by simp) rfl ?_
      refine WL_pick_t rfl rfl rfl ?_
      refine WL_move rfl rfl ?_
      refine WL_guard rfl rfl ?_
      refine WL_move rfl rfl ?_
      refine WL_guard rfl rfl ?_
      refine WL_move rfl rfl ?_
      obtain ⟨x16, hr6, hr4⟩ := bind_some hr4
      refine WL_guard rfl rfl ?_
      refine WL_callv (cap := [(ptr pb1 0), (ptr pb2 0), (ptr pb3 0)]) Tryz.call68 rfl rfl rfl (c_M_LeastDisclosure_c2 x9 v4 ((hC18.ro 0 rfl).now (Keep.refl _ _)) pb1 ax1 (g1.now hC18.keep) pb2 ax2 (g2.now hC18.keep) pb3 ax3 (g3.now hC18.keep) x16 hr6) ?_
      intro _ w11 hv2
      obtain ⟨rfl, hB9⟩ := res_bool hv2
      have hC21 := hC18.grow hB9
      refine WL_pick_t rfl rfl rfl ?_
      refine WL_nil ?_
      have hq5 := Option.some.inj hr4
      subst hq5
      refine nrm_sub (l' := [(0, (.int .i64 a1)), (1, (.func (.func 68) #[] #[(ptr pb1 0), (ptr pb2 0), (ptr pb3 0)])), (6, v1), (8, v4), (11, (.int .i64 (shl 1 a1))), (12, (.int .i64 x3)), (56, (.bool x16))]) ⟨rfl, rfl, rfl, rfl, rfl, rfl, rfl, trivial⟩ ?_
      exact ⟨x16, rfl, rfl, (Keep.of hB9).below, hC21⟩
     replace hr4 := ite_f hr4 hc5
     refine WL_guard rfl rfl ?_
     refine WL_move rfl rfl ?_
     refine WL_guard rfl rfl ?_
     refine WL_len Tryz.underlying22 (hC18.ro 0 rfl) rfl rfl ?_
     refine WL_guard rfl rfl ?_
     refine WL_move rfl rfl ?_
     refine WL_guard rfl rfl ?_
     refine WL_len Tryz.underlying22 (hC18.ro 1 rfl) rfl rfl ?_
     refine WL_guard rfl rfl ?_
     refine WL_eql rfl rfl rfl ?_
     refine WL_guard rfl rfl ?_
     refine WL_move rfl rfl ?_
     refine WL_fork (fun hc6 => ?_) (fun hc6 => ?_)
     ·replace hr4 := ite_t hr4 hc6
      refine WL_guard rfl rfl ?_
      refine WL_move rfl rfl ?_
      refine WL_guard rfl rfl ?_
      refine WL_move rfl rfl ?_
      obtain ⟨x17, hr7, hr4⟩ := bind_some hr4
      refine WL_guard rfl rfl ?_
      refine WL_call Tryz.call101 rfl rfl (c_Slices_Compare_Lint_int x9 v4 ((hC18.ro 0 rfl).now (Keep.refl _ _)) x1 v1 ((hC18.ro 1 rfl).now (Keep.refl _ _)) x17 hr7) ?_
      intro _ w12 hv3
      obtain ⟨rfl, hB10⟩ := res_int hv3
      have hC22 := hC18.grow hB10
      refine WL_guard rfl rfl ?_
      refine WL_lss rfl rfl rfl ?_
      refine WL_guard rfl rfl ?_
      refine WL_pick_t rfl rfl rfl ?_
      refine WL_pick_f rfl rfl rfl ?_
      refine WL_move rfl rfl ?_
      refine WL_fork (fun hc7 => ?_) (fun hc7 => ?_)
      ·replace hr4 := ite_t hr4 hc7
       refine WL_guard rfl rfl ?_
       refine WL_move rfl rfl ?_
       refine WL_guard rfl rfl ?_
       refine WL_move rfl rfl ?_
       obtain ⟨x18, hr8, hr4⟩ := bind_some hr4
       refine WL_guard rfl rfl ?_
       refine WL_callv (cap := [(ptr pb1 0), (ptr pb2 0), (ptr pb3 0)]) Tryz.call68 rfl rfl rfl (c_M_LeastDisclosure_c2 x9 v4 ((hC22.ro 0 rfl).now (Keep.refl _ _)) pb1 ax1 (g1.now hC22.keep) pb2 ax2 (g2.now hC22.keep) pb3 ax3 (g3.now hC22.keep) x18 hr8) ?_
       intro _ w13 hv4
       obtain ⟨rfl, hB11⟩ := res_bool hv4
       have hC23 := hC22.grow hB11
       refine WL_pick_t rfl rfl rfl ?_
       refine WL_nil ?_
       have hq6 := Option.some.inj hr4
       subst hq6
       refine nrm_sub (l' := [(0, (.int .i64 a1)), (1, (.func (.func 68) #[] #[(ptr pb1 0), (ptr pb2 0), (ptr pb3 0)])), (6, v1), (8, v4), (11, (.int .i64 (shl 1 a1))), (12, (.int .i64 x3)), (56, (.bool x18))]) ⟨rfl, rfl, rfl, rfl, rfl, rfl, rfl, trivial⟩ ?_
       exact ⟨x18, rfl, rfl, ((Keep.of hB10).then hB11).below, hC23⟩
      replace hr4 := ite_f hr4 hc7
      refine WL_guard_skip rfl rfl (by simp) rfl ?_
      refine WL_guard_skip rfl rfl (by simp) rfl ?_
      refine WL_guard_skip rfl rfl (by simp) rfl ?_
      refine WL_pick_f rfl rfl rfl ?_
      refine WL_nil ?_
      have hq7 := Option.some.inj hr4
      subst hq7
      refine nrm_sub (l' := [(0, (.int .i64 a1)), (1, (.func (.func 68) #[] #[(ptr pb1 0), (ptr pb2 0), (ptr pb3 0)])), (6, v1), (8, v4), (11, (.int .i64 (shl 1 a1))), (12, (.int .i64 x3)), (56, (.bool false))]) ⟨rfl, rfl, rfl, rfl, rfl, rfl, rfl, trivial⟩ ?_
      exact ⟨false, rfl, rfl, (Keep.of hB10).below, hC22⟩
     replace hr4 := ite_f hr4 hc6
     refine WL_guard_skip rfl rfl (by simp) rfl ?_
     refine WL_guard_skip rfl rfl (by simp) rfl ?_
     refine WL_guard_skip rfl rfl (by simp) rfl ?_
     refine WL_guard_skip rfl rfl (by simp) rfl ?_
     refine WL_guard rfl rfl ?_
     refine WL_pick_f rfl rfl rfl ?_
     refine WL_pick_f rfl rfl rfl ?_
     refine WL_move rfl rfl ?_
     refine WL_guard_skip rfl rfl (by simp) rfl ?_
     refine WL_guard_skip rfl rfl (by simp) rfl ?_
     refine WL_guard_skip rfl rfl (by simp) rfl ?_
     refine WL_pick_f rfl rfl rfl ?_
     refine WL_nil ?_
     have hq8 := Option.some.inj hr4
     subst hq8
     refine nrm_sub (l' := [(0, (.int .i64 a1)), (1, (.func (.func 68) #[] #[(ptr pb1 0), (ptr pb2 0), (ptr pb3 0)])), (6, v1), (8, v4), (11, (.int .i64 (shl 1 a1))), (12, (.int .i64 x3)), (56, (.bool false))]) ⟨rfl, rfl, rfl, rfl, rfl, rfl, rfl, trivial⟩ ?_
     exact ⟨false, rfl, rfl, (Below.refl _ _), hC18⟩
    rintro _ w9 ⟨x14, rfl, rfl, hB7, hC19⟩
    try dsimp only at hL1
    obtain ⟨r5, hr9, hL1⟩ := bind_some hL1
    refine W_norm (fun l w => ∃ v7 : Value, ∃ x19 : (List Int), ∃ x20 : Bool, (x19, x20) = r5 ∧ l = [(0, (.int .i64 a1)), (1, (.func (.func 68) #[] #[(ptr pb1 0), (ptr pb2 0), (ptr pb3 0)])), (6, v7), (11, (.int .i64 (shl 1 a1))), (12, (.int .i64 x3))] ∧ Below w9.heap.size w9 w ∧ Ctx [] w0 w [Item.own v7 (x19 : (List Int))] ∧ NilB v7 x20) ?_ ?_
    ·refine W_cond rfl (fun hc8 => ?_) (fun hc8 => ?_)
     ·replace hr9 := ite_t hr9 hc8
      refine W_reg ?_
      refine WL_move rfl rfl ?_
      refine WL_assign rfl rfl ?_
      refine WL_nil ?_
      have hq9 := Option.some.inj hr9
      subst hq9
      have hC25 := hC19.h1
      refine nrm_sub (l' := [(0, (.int .i64 a1)), (1, (.func (.func 68) #[] #[(ptr pb1 0), (ptr pb2 0), (ptr pb3 0)])), (6, v4), (11, (.int .i64 (shl 1 a1))), (12, (.int .i64 x3))]) ⟨rfl, rfl, rfl, rfl, rfl, trivial⟩ ?_
      exact ⟨v4, x9, x10, rfl, rfl, (Below.refl _ _), hC25, hnb4⟩
     replace hr9 := ite_f hr9 hc8
     refine W_skip ?_
     have hq10 := Option.some.inj hr9
     subst hq10
     have hC26 := hC19.f1
     have hC27 := hC26.h1
     refine nrm_sub (l' := [(0, (.int .i64 a1)), (1, (.func (.func 68) #[] #[(ptr pb1 0), (ptr pb2 0), (ptr pb3 0)])), (6, v1), (11, (.int .i64 (shl 1 a1))), (12, (.int .i64 x3))]) ⟨rfl, rfl, rfl, rfl, rfl, trivial⟩ ?_
     exact ⟨v1, x1, x2, rfl, rfl, (Below.refl _ _), hC27, hnb1⟩
    rintro l6 _ w14 hs6 ⟨v7, x19, x20, rfl, rfl, hB12, hC24, hnb6⟩
    try dsimp only at hL1
    refine blk_normal ?_
    refine nrm_sub' hs6 ?_
    clear hs6
    refine W_reg ?_
    refine WL_add rfl rfl rfl ?_
    refine WL_move rfl rfl ?_
    refine WL_nil ?_
    refine nrm_sub (l' := [(0, (.int .i64 a1)), (1, (.func (.func 68) #[] #[(ptr pb1 0), (ptr pb2 0), (ptr pb3 0)])), (6, v7), (11, (.int .i64 (shl 1 a1))), (12, (.int .i64 (w64 (x3 + 1))))]) ⟨rfl, rfl, rfl, rfl, rfl, trivial⟩ ?_
    exact ⟨k1, Nat.lt_succ_self _, v7, x19, x20, w64 (x3 + 1), rfl, hC24, hnb6, hL1⟩
   replace hL1 := ite_f hL1 hc1
   refine W_exit (nrm_exit (nrm_exit (blk_exit ?_)))
   have hq11 := Option.some.inj hL1
   subst hq11
   refine nrm_sub (l' := [(6, v1)]) ⟨rfl, trivial⟩ ?_
   exact ⟨v1, x1, x2, rfl, rfl, hC1, hnb1⟩
 rintro l7 _ w15 hs7 ⟨v2, x4, x5, rfl, rfl, hC29, hnb2⟩
 try dsimp only at hF
 refine nrm_sub' hs7 ?_
 clear hs7
 refine W_seq_reg ?_
 refine WL_move rfl rfl ?_
 refine WL_move rfl rfl ?_
 refine WL_nil_neq Tryz.underlying22 hnb2 rfl rfl ?_
 refine WL_assign rfl rfl ?_
 refine WL_assign rfl rfl ?_
 refine WL_nil (W_ret ?_)
 have hq12 := Option.some.inj hF
 subst hq12
 refine fn_ret2 rfl rfl rfl ?_
 have hC30 := hC29.triv (bool_val ((!x5)))
 have hC31 := hC30.f1
 exact ⟨_, rfl, res2_of hC31⟩

theorem c_M_LeastDisclosure {w0 : World} (a1 : (List Int)) (u1 : Value) (g1 : RO [] w0 u1 a1) (a2 : (List (Int × (List Int) × Int × Int × Int))) (u2 : Value) (g2 : RO [] w0 u2 a2) (a3 : ((List Int) × (List (Int × (List Int))))) (u3 : Value) (g3 : RO [] w0 u3 a3.1) (u4 : Value) (g4 : RO [] w0 u4 a3.2) (a4 : (List Int)) (u5 : Value) (g5 : RO [] w0 u5 a4) (rr : ((List Int) × Bool)) (hF : M.LeastDisclosure a1 a2 a3 a4 = some rr) :
 Calls Tryz.prog 28 [u1, u2, (.agg #[u3, u4]), u5].toArray w0 fun e w' => ∃ v, e = .returned v ∧ Res2 w0 rr.1 rr.2 v w' := by
 refine calls_of_W Tryz.func28 rfl rfl ?_
 have hC0 := Ctx.start w0
 unfold M.LeastDisclosure at hF
 refine W_seq_reg ?_
 refine WL_boxK (cs := [u2]) hC0 (ro_cells g2) rfl rfl (fun b1 w1 hC1 hB1 hN1 => ?_)
 refine WL_boxK (cs := [u3, u4]) hC1 rfl rfl rfl (fun b2 w2 hC2 hB2 hN2 => ?_)
 refine WL_boxK (cs := [u5]) hC2 (ro_cells g5) rfl rfl (fun b3 w3 hC3 hB3 hN3 => ?_)
 refine WL_assign rfl rfl ?_
 refine WL_assign rfl rfl ?_
 refine WL_nil (W_seq_reg ?_)
 refine WL_load_box_agg [u3, u4] hC3 1 rfl rfl rfl Tryz.isAgg37 Tryz.sizeOf37 rfl rfl ?_
 obtain ⟨x1, hr1, hF⟩ := bind_some hF
 refine WL_call Tryz.call63 rfl rfl (c_M_ConstantsOf (a3.1, a3.2) u3 (g3.now hC3.keep) u4 (g4.now hC3.keep) x1 hr1) ?_
 rintro v1 w4 ⟨hB4, F1, hv1, hn1, hb1⟩
 have hC4 := hC3.push hB4 (A := Item.own v1 x1) hv1 hn1 hb1
 refine WL_assign rfl rfl ?_
 refine WL_nil (W_seq ?_)
 obtain ⟨r1, hr2, hF⟩ := bind_some hF
 refine W_cut (fun l w => ∃ x2 : Bool, x2 = r1 ∧ l = [(5, (ptr b1 0)), (6, (ptr b2 0)), (7, (ptr b3 0)), (10, v1), (28, (.bool x2))] ∧ Below w4.heap.size w4 w ∧ Ctx [] w0 w [Item.own v1 (x1 : (List Int)), Item.box b3 [u5], Item.box b2 [u3, u4], Item.box b1 [u2]]) ?_ ?_
 ·refine W_reg ?_
  refine WL_move rfl rfl ?_
  refine WL_load_box hC4 3 rfl rfl Tryz.isAgg33 rfl rfl ?_
  refine WL_load_box_agg [u3, u4] hC4 2 rfl rfl rfl Tryz.isAgg37 Tryz.sizeOf37 rfl rfl ?_
  obtain ⟨x3, hr3, hr2⟩ := bind_some hr2
  refine WL_call Tryz.call58 rfl rfl (c_M_areAsked a1 u1 (g1.now hC4.keep) a2 u2 (g2.now hC4.keep) (a3.1, a3.2) u3 (g3.now hC4.keep) u4 (g4.now hC4.keep) x3 hr3) ?_
  intro _ w6 hv2
  obtain ⟨rfl, hB6⟩ := res_bool hv2
  have hC6 := hC4.grow hB6
  refine WL_not rfl rfl ?_
  refine WL_move rfl rfl ?_
  refine WL_fork (fun hc1 => ?_) (fun hc1 => ?_)
  ·replace hr2 := ite_t hr2 hc1
   refine WL_guard_skip rfl rfl (by simp) rfl ?_
   refine WL_guard_skip rfl rfl (by simp) rfl ?_
   refine WL_guard_skip rfl rfl (by simp) rfl ?_
   refine WL_pick_t rfl rfl rfl ?_
   refine WL_nil ?_
   have hq1 := Option.some.inj hr2
   subst hq1
   refine nrm_sub (l' := [(5, (ptr b1 0)), (6, (ptr b2 0)), (7, (ptr b3 0)), (10, v1), (28, (.bool true))]) ⟨rfl, rfl, rfl, rfl, rfl, trivial⟩ ?_
   exact ⟨true, rfl, rfl, (Keep.of hB6).below, hC6⟩
  replace hr2 := ite_f hr2 hc1
  refine WL_guard rfl rfl ?_
  refine WL_move rfl rfl ?_
  refine WL_guard rfl rfl ?_
  refine WL_len Tryz.underlying22 (hC6.ro 0 rfl) rfl rfl ?_
  refine WL_guard rfl rfl ?_
  refine WL_gtr rfl rfl rfl ?_
  refine WL_pick_f rfl rfl rfl ?_
  refine WL_nil ?_
  have hq2 := Option.some.inj hr2
  subst hq2
  refine nrm_sub (l' := [(5, (ptr b1 0)), (6, (ptr b2 0)), (7, (ptr b3 0)), (10, v1), (28, (.bool (decide (8 < (List.length x1 : Int)))))]) ⟨rfl, rfl, rfl, rfl, rfl, trivial⟩ ?_
  exact ⟨(decide (8 < (List.length x1 : Int))), rfl, rfl, (Keep.of hB6).below, hC6⟩
 rintro _ w5 ⟨x2, rfl, rfl, hB5, hC5⟩
 try dsimp only at hF
 refine W_cond rfl (fun hc2 => ?_) (fun hc2 => ?_)
 ·replace hF := ite_t hF hc2
  refine W_seq_reg ?_
  refine WL_assign rfl rfl ?_
  refine WL_assign rfl rfl ?_
  refine WL_nil (W_ret (nrm_ret ?_))
  have hq3 := Option.some.inj hF
  subst hq3
  refine fn_ret2 rfl rfl rfl ?_
  have hC7 := hC5.triv (bool_val (false))
  have hC8 := hC7.triv (nil_val (α := Int))
  exact ⟨_, rfl, res2_of hC8⟩
 replace hF := ite_f hF hc2
 refine W_skip (nrm_normal (W_seq_reg ?_))
 refine WL_move rfl rfl ?_
 refine WL_makeFunc rfl rfl ?_
 obtain ⟨x4, hr4, hF⟩ := bind_some hF
 obtain ⟨Fs1, hH1, hn2, hF1, hO1, hX1, hb2⟩ := Ctx.lend3 (As := [Item.box b3 [u5], Item.box b2 [u3, u4], Item.box b1 [u2]]) [Item.own v1 (x1 : (List Int))] hC5
 refine WL_call Tryz.call64 rfl rfl (c_Slices_DeleteFunc_Lint_int_M_LeastDisclosure_c1 x1 v1 b3 a4 (roat_box (hX1 0 _ _ rfl) (repd_slice (RO.lent g5 hC5.keep hF1))) hH1 hn2 x4 hr4) ?_
 rintro v2 w7 ⟨_, rfl, hq4⟩
 have hC10 : Ctx [] w0 w7 [Item.own v2 (x4 : (List Int)), Item.box b3 [u5], Item.box b2 [u3, u4], Item.box b1 [u2]] := hb2 _ _ hq4
 refine WL_allocK hC10 zero22 rfl rfl (fun b4 w9 hC11 hB7 hN4 => ?_)
 refine WL_store_boxK (cs' := [v2]) hC11 0 rfl rfl (ro_one (hC11.ro 1 rfl)) rfl Tryz.sizeOf22 rfl rfl (fun w10 hC12 hKp1 => ?_)
 try dsimp only [List.set] at hC12
 have hk1 := Keep.over (Keep.of hB7) hN4 hKp1
 refine WL_nil (W_seq_reg ?_)
 refine WL_load_box hC12 0 rfl rfl Tryz.isAgg22 rfl rfl ?_
 refine WL_len Tryz.underlying22 (hC12.ro 1 rfl) rfl rfl ?_
 refine WL_makeFunc rfl rfl ?_
 obtain ⟨x5, hr5, hF⟩ := bind_some hF
 refine WL_call Tryz.call67 rfl rfl (c_M_smallest_M_LeastDisclosure_c2 (List.length x4 : Int) b1 a2 (hC12.boxAt 4 rfl (repw_slice (g2.now hC12.keep))) b2 (a3.1, a3.2) (hC12.boxAt 3 rfl (repw_pair (repw_slice (g3.now hC12.keep)) (repw_slice (g4.now hC12.keep)))) b4 x4 (hC12.boxAt 0 rfl (repw_slice (hC12.ro 1 rfl))) x5 hr5) ?_
 rintro _ w11 ⟨hB8, v3, v4, F2, F3, rfl, hv3, hv4, hn3, hb3⟩
 obtain ⟨rfl, rfl⟩ := val_bool hv4
 have hC13 := hC12.pushL hB8 (Bs := [Item.own v3 x5.1]) (Fs := [F2]) ⟨F2, _, rfl, hv3, rfl⟩ (by simpa using hn3) (fun b h => hb3 b (by simpa using h))
 refine WL_move rfl rfl ?_
 refine WL_extract rfl rfl rfl ?_
 refine WL_extract rfl rfl rfl ?_
 refine WL_assign rfl rfl ?_
 refine WL_assign rfl rfl ?_
 refine WL_nil (W_seq (W_seq_reg ?_))
 refine WL_move rfl rfl ?_
 refine WL_not rfl rfl ?_
 refine WL_nil ?_
 refine W_cond rfl (fun hc3 => ?_) (fun hc3 => ?_)
 ·replace hF := ite_t hF hc3
  refine W_seq_reg ?_
  refine WL_assign rfl rfl ?_
  refine WL_assign rfl rfl ?_
  refine WL_nil (W_ret (nrm_ret ?_))
  have hq5 := Option.some.inj hF
  subst hq5
  refine fn_ret2 rfl rfl rfl ?_
  have hC14 := hC13.triv (bool_val (false))
  have hC15 := hC14.triv (nil_val (α := Int))
  exact ⟨_, rfl, res2_of hC15⟩
 replace hF := ite_f hF hc3
 refine W_skip (nrm_normal (W_seq_reg ?_))
 refine WL_buildSlice (vs := []) hC13 Tryz.underlying22 ty3 rfl rfl rfl rfl (by simp) rfl rfl (fun b5 w12 hC16 hB9 => ?_)
 have hC17 := hC16.row0 (α := Int)
 have hC18 := hC17.front 1 rfl
 dsimp only [List.eraseIdx, List.cons_append, List.nil_append, List.append_nil] at hC18
 have hC19 : Ctx [] w0 w12 (Item.own (.slice (some ⟨b5, 0, none⟩) 0 0) (([] : List Int) : List Int) :: [Item.own v3 (x5.1 : (List Int)), Item.box b4 [v2], Item.own v2 (x4 : (List Int)), Item.box b3 [u5], Item.box b2 [u3, u4], Item.box b1 [u2]]) := hC18.rowOwn (by simp [maxLen])
 refine WL_assign rfl rfl ?_
 refine WL_nil (W_seq (W_seq_reg ?_))
 refine WL_move rfl rfl ?_
 refine WL_len Tryz.underlying22 (hC19.ro 1 rfl) rfl rfl ?_
 refine WL_move rfl rfl ?_
 refine WL_nil ?_
 obtain ⟨r2, hr6, hF⟩ := bind_some hF
 refine W_norm (fun l w => ∃ v6 : Value, ∃ x8 : (List Int), x8 = r2 ∧ l = [(14, v6)] ∧ Ctx [] w0 w [Item.own v6 (x8 : (List Int))]) ?_ ?_
 ·refine W_block ?_
  have hC34 := hC19.f3
  have hC35 := hC34.f3
  have hC36 := hC35.f3
  have hC37 := hC36.f3
  have hC38 := hC37.h4
  refine W.sub (l' := [(11, (ptr b4 0)), (14, (.slice (some ⟨b5, 0, none⟩) 0 0)), (42, v3), (43, (.int .i64 (List.length x5.1 : Int))), (44, (.int .i64 0))]) ?_ ⟨rfl, rfl, rfl, rfl, rfl, trivial⟩
  refine W_loop (fun k l w => ∃ v5 : Value, ∃ x6 : (List Int), ∃ x7 : Int, l = [(11, (ptr b4 0)), (14, v5), (42, v3), (43, (.int .i64 (List.length x5.1 : Int))), (44, (.int .i64 x7))] ∧ Ctx [] w0 w [Item.own v5 (x6 : (List Int)), Item.own v3 (x5.1 : (List Int)), Item.box b4 [v2], Item.own v2 (x4 : (List Int))] ∧ M.LeastDisclosure_l1 x5 x4 k x6 x7 = some r2) FUEL ⟨(.slice (some ⟨b5, 0, none⟩) 0 0), ([] : List Int), 0, rfl, hC38, hr6⟩ ?_
  clear hr6
  rintro k1 _ w13 ⟨v5, x6, x7, rfl, hC20, hL1⟩
  cases k1 with
  | zero => rw [M.LeastDisclosure_l1] at hL1; cases hL1
  | succ k1 =>
   rw [M.LeastDisclosure_l1] at hL1
   refine W_seq_reg ?_
   refine WL_lss rfl rfl rfl ?_
   refine WL_nil (W_seq ?_)
   refine W_cond rfl (fun hc4 => ?_) (fun hc4 => ?_)
   ·replace hL1 := ite_t hL1 hc4
    refine W_skip (nrm_normal (W_seq (W_block (W_seq_reg ?_))))
    obtain ⟨x9, hx1, hL1⟩ := bind_some hL1
    refine WL_index Tryz.underlying22 ty3 (hC20.ro 1 rfl) hx1 rfl rfl rfl (fun b6 o1 h1 => ?_)
    refine WL_load ty3 h1 (Keep.refl _ _) rfl rfl (fun v7 h2 => ?_)
    obtain rfl := ro_int h2
    refine WL_assign rfl rfl ?_
    refine WL_nil (W_reg ?_)
    refine WL_move rfl rfl ?_
    refine WL_load_box hC20 2 rfl rfl Tryz.isAgg22 rfl rfl ?_
    refine WL_move rfl rfl ?_
    obtain ⟨x10, hx2, hL1⟩ := bind_some hL1
    refine WL_index Tryz.underlying22 ty3 (hC20.ro 3 rfl) hx2 rfl rfl rfl (fun b7 o2 h3 => ?_)
    refine WL_load ty3 h3 (Keep.refl _ _) rfl rfl (fun v8 h4 => ?_)
    obtain rfl := ro_int h4
    refine WL_buildSlice (vs := [(.int .i64 x10)]) hC20 Tryz.underlying22 ty3 rfl rfl rfl rfl (by intro v hv; simp only [List.mem_cons, List.not_mem_nil, or_false] at hv; rcases hv with rfl <;> rfl) rfl rfl (fun b8 w14 hC21 hB11 => ?_)
    have hC22 := hC21.row0 (α := Int)
    have hC23 := hC22.triv (int_val (x10))
    have hC24 := hC23.row1
    have hC25 := hC24.front 1 rfl
    dsimp only [List.eraseIdx, List.cons_append, List.nil_append, List.append_nil] at hC25
    have hC26 : Ctx [] w0 w14 (Item.own (.slice (some ⟨b8, 0, none⟩) 1 1) ([x10] : List Int) :: [Item.own v5 (x6 : (List Int)), Item.own v3 (x5.1 : (List Int)), Item.box b4 [v2], Item.own v2 (x4 : (List Int))]) := hC25.rowOwn (by simp [maxLen])
    obtain ⟨x11, hx3, hL1⟩ := bind_some hL1
    refine WL_append_flat (α := Int) hC26 1 rfl (hC26.ro 0 rfl) (Keep.refl _ _) Tryz.underlying22 ty3 rfl hx3 rfl rfl rfl (fun v9 w15 hC27 => ?_)
    try dsimp only [List.set] at hC27
    refine WL_assign rfl rfl ?_
    refine WL_nil (blk_normal (nrm_normal (W_reg ?_)))
    refine WL_add rfl rfl rfl ?_
    refine WL_move rfl rfl ?_
    refine WL_nil ?_
    have hC28 := hC27.f4
    have hC29 := hC28.f4
    have hC30 := hC29.f4
    have hC31 := hC30.f4
    have hC32 := hC31.h4
    refine nrm_sub (l' := [(11, (ptr b4 0)), (14, v9), (42, v3), (43, (.int .i64 (List.length x5.1 : Int))), (44, (.int .i64 (w64 (x7 + 1))))]) ⟨rfl, rfl, rfl, rfl, rfl, trivial⟩ ?_
    exact ⟨k1, Nat.lt_succ_self _, v9, x11, w64 (x7 + 1), rfl, hC32, hL1⟩
   replace hL1 := ite_f hL1 hc4
   refine W_exit (nrm_exit (nrm_exit (blk_exit ?_)))
   have hq6 := Option.some.inj hL1
   subst hq6
   have hC33 := hC20.h1
   refine nrm_sub (l' := [(14, v5)]) ⟨rfl, trivial⟩ ?_
   exact ⟨v5, x6, rfl, rfl, hC33⟩
 rintro l3 _ w16 hs3 ⟨v6, x8, rfl, rfl, hC39⟩
 try dsimp only at hF
 refine nrm_sub' hs3 ?_
 clear hs3
 refine W_seq_reg ?_
 refine WL_move rfl rfl ?_
 refine WL_assign rfl rfl ?_
 refine WL_assign rfl rfl ?_
 refine WL_nil (W_ret ?_)
 have hq7 := Option.some.inj hF
 subst hq7
 refine fn_ret2 rfl rfl rfl ?_
 have hC40 := hC39.triv (bool_val (true))
 have hC41 := hC40.f1
 exact ⟨_, rfl, res2_of hC41⟩

theorem c_Q_heldIntS {w0 : World} (a1 : (List Int)) (u1 : Value) (g1 : RO [] w0 u1 a1) (a2 : Int) (rr : Int) (hF : Q.heldIntS a1 a2 = some rr) :
 Calls Tryz.prog 29 [u1, (.int .i64 a2)].toArray w0 fun e w' => ∃ v, e = .returned v ∧ Res w0 rr v w' := by
 refine calls_of_W Tryz.func29 rfl rfl ?_
 have hC0 := Ctx.start w0
 unfold Q.heldIntS at hF
 refine W_seq_reg ?_
 refine WL_assign rfl rfl ?_
 refine WL_nil (W_seq (W_seq_reg ?_))
 refine WL_assign rfl rfl ?_
 refine WL_nil ?_
 obtain ⟨r1, hr1, hF⟩ := bind_some hF
 refine W_norm (fun l w => ∃ x3 : Int, .inl x3 = r1 ∧ l = [(1, (.int .i64 x3))] ∧ Below w0.heap.size w0 w ∧ Ctx [] w0 w []) ?_ ?_
 ·refine W_block ?_
  refine W.sub (l' := [(0, u1), (1, (.int .i64 a2)), (5, (.int .i64 0))]) ?_ ⟨rfl, rfl, rfl, trivial⟩
  refine W_loop (fun k l w => ∃ x1 : Int, ∃ x2 : Int, l = [(0, u1), (1, (.int .i64 x1)), (5, (.int .i64 x2))] ∧ Below w0.heap.size w0 w ∧ Ctx [] w0 w [] ∧ Q.heldIntS_l1 a1 k x1 x2 = some r1) FUEL ⟨a2, 0, rfl, (Below.refl _ _), hC0, hr1⟩ ?_
  clear hr1
  rintro k1 _ w1 ⟨x1, x2, rfl, hB1, hC1, hL1⟩
  cases k1 with
  | zero => rw [Q.heldIntS_l1] at hL1; cases hL1
  | succ k1 =>
   rw [Q.heldIntS_l1] at hL1
   refine W_seq (W_seq_reg ?_)
   refine WL_move rfl rfl ?_
   refine WL_move rfl rfl ?_
   refine WL_len Tryz.underlying22 g1 rfl rfl ?_
   refine WL_lss rfl rfl rfl ?_
   refine WL_nil ?_
   refine W_cond rfl (fun hc1 => ?_) (fun hc1 => ?_)
   ·replace hL1 := ite_t hL1 hc1
    refine W_skip (nrm_normal (W_seq (W_block (W_seq (W_seq_reg ?_)))))
    refine WL_move rfl rfl ?_
    refine WL_move rfl rfl ?_
    obtain ⟨x4, hx1, hL1⟩ := bind_some hL1
    refine WL_index Tryz.underlying22 ty3 g1 hx1 rfl rfl rfl (fun b1 o1 h1 => ?_)
    refine WL_load ty3 h1 hC1.keep rfl rfl (fun v1 h2 => ?_)
    obtain rfl := ro_int h2
    refine WL_move rfl rfl ?_
    refine WL_neq rfl rfl rfl ?_
    refine WL_nil ?_
    refine W_cond rfl (fun hc2 => ?_) (fun hc2 => ?_)
    ·replace hL1 := ite_t hL1 hc2
     refine W_seq_reg ?_
     refine WL_assign rfl rfl ?_
     refine WL_nil (W_ret (nrm_ret (blk_ret (nrm_ret (nrm_ret (blk_ret (nrm_ret (nrm_ret ?_))))))))
     have hq1 := Option.some.inj hL1
     subst hq1
     dsimp only at hF
     have hq2 := Option.some.inj hF
     subst hq2
     refine fn_ret1 rfl rfl ?_
     exact ⟨_, rfl, int_res hC1 _⟩
    replace hL1 := ite_f hL1 hc2
    refine W_skip (nrm_normal (W_reg ?_))
    refine WL_move rfl rfl ?_
    refine WL_add rfl rfl rfl ?_
    refine WL_assign rfl rfl ?_
    refine WL_nil (blk_normal (nrm_normal (W_reg ?_)))
    refine WL_move rfl rfl ?_
    refine WL_add rfl rfl rfl ?_
    refine WL_assign rfl rfl ?_
    refine WL_nil ?_
    refine nrm_sub (l' := [(0, u1), (1, (.int .i64 (w64 (x1 + 1)))), (5, (.int .i64 (w64 (x2 + 1))))]) ⟨rfl, rfl, rfl, trivial⟩ ?_
    exact ⟨k1, Nat.lt_succ_self _, w64 (x1 + 1), w64 (x2 + 1), rfl, (Keep.of hB1).below, hC1, hL1⟩
   replace hL1 := ite_f hL1 hc1
   refine W_exit (nrm_exit (nrm_exit (blk_exit ?_)))
   have hq3 := Option.some.inj hL1
   subst hq3
   refine nrm_sub (l' := [(1, (.int .i64 x1))]) ⟨rfl, trivial⟩ ?_
   exact ⟨x1, rfl, rfl, (Keep.of hB1).below, hC1⟩
 rintro l2 _ w2 hs2 ⟨x3, rfl, rfl, hB2, hC2⟩
 try dsimp only at hF
 refine nrm_sub' hs2 ?_
 clear hs2
 refine W_seq_reg ?_
 refine WL_move rfl rfl ?_
 refine WL_assign rfl rfl ?_
 refine WL_nil (W_ret ?_)
 have hq4 := Option.some.inj hF
 subst hq4
 refine fn_ret1 rfl rfl ?_
 exact ⟨_, rfl, int_res hC2 _⟩

theorem c_Q_FnExactLeastDisclosure {w0 : World} (a1 : (List Int)) (u1 : Value) (g1 : RO [] w0 u1 a1) (a2 : (List (Int × (List Int) × Int × Int × Int))) (u2 : Value) (g2 : RO [] w0 u2 a2) (a3 : ((List Int) × (List (Int × (List Int))))) (u3 : Value) (g3 : RO [] w0 u3 a3.1) (u4 : Value) (g4 : RO [] w0 u4 a3.2) (a4 : (List Int)) (u5 : Value) (g5 : RO [] w0 u5 a4) (rr : Bool) (hF : Q.FnExactLeastDisclosure a1 a2 a3 a4 = some rr) :
 Calls Tryz.prog 5 [u1, u2, (.agg #[u3, u4]), u5].toArray w0 fun e w' => ∃ v, e = .returned v ∧ Res w0 rr v w' := by
 refine calls_of_W Tryz.func5 rfl rfl ?_
 have hC0 := Ctx.start w0
 unfold Q.FnExactLeastDisclosure at hF
 refine W_seq_reg ?_
 refine WL_boxK (cs := [u3, u4]) hC0 rfl rfl rfl (fun b1 w1 hC1 hB1 hN1 => ?_)
 refine WL_assign rfl rfl ?_
 refine WL_nil (W_seq (W_seq_reg ?_))
 refine WL_move rfl rfl ?_
 refine WL_len Tryz.underlying22 g1 rfl rfl ?_
 refine WL_gtr rfl rfl rfl ?_
 refine WL_nil ?_
 refine W_cond rfl (fun hc1 => ?_) (fun hc1 => ?_)
 ·replace hF := ite_t hF hc1
  refine W_seq_reg ?_
  refine WL_assign rfl rfl ?_
  refine WL_nil (W_ret (nrm_ret ?_))
  have hq1 := Option.some.inj hF
  subst hq1
  refine fn_ret1 rfl rfl ?_
  exact ⟨_, rfl, bool_res hC1 _⟩
 replace hF := ite_f hF hc1
 refine W_skip (nrm_normal (W_seq (W_seq_reg ?_)))
 refine WL_move rfl rfl ?_
 refine WL_len Tryz.underlying22 g5 rfl rfl ?_
 refine WL_gtr rfl rfl rfl ?_
 refine WL_nil ?_
 refine W_cond rfl (fun hc2 => ?_) (fun hc2 => ?_)
 ·replace hF := ite_t hF hc2
  refine W_seq_reg ?_
  refine WL_assign rfl rfl ?_
  refine WL_nil (W_ret (nrm_ret ?_))
  have hq2 := Option.some.inj hF
  subst hq2
  refine fn_ret1 rfl rfl ?_
  exact ⟨_, rfl, bool_res hC1 _⟩
 replace hF := ite_f hF hc2
 refine W_skip (nrm_normal (W_seq_reg ?_))
 refine WL_assign rfl rfl ?_
 refine WL_nil (W_seq_reg ?_)
 refine WL_move rfl rfl ?_
 refine WL_move rfl rfl ?_
 obtain ⟨x1, hr1, hF⟩ := bind_some hF
 refine WL_call Tryz.call7 rfl rfl (c_Q_szMethodS a2 u2 (g2.now hC1.keep) 1048576 x1 hr1) ?_
 intro _ w2 hv1
 obtain ⟨rfl, hB2⟩ := res_int hv1
 have hC2 := hC1.grow hB2
 refine WL_assign rfl rfl ?_
 refine WL_nil (W_seq (W_seq_reg ?_))
 refine WL_move rfl rfl ?_
 refine WL_lss rfl rfl rfl ?_
 refine WL_nil ?_
 refine W_cond rfl (fun hc3 => ?_) (fun hc3 => ?_)
 ·replace hF := ite_t hF hc3
  refine W_seq_reg ?_
  refine WL_assign rfl rfl ?_
  refine WL_nil (W_ret (nrm_ret ?_))
  have hq3 := Option.some.inj hF
  subst hq3
  refine fn_ret1 rfl rfl ?_
  exact ⟨_, rfl, bool_res hC2 _⟩
 replace hF := ite_f hF hc3
 refine W_skip (nrm_normal (W_seq_reg ?_))
 refine WL_load_box_agg [u3, u4] hC2 0 rfl rfl rfl Tryz.isAgg26 Tryz.sizeOf26 rfl rfl ?_
 refine WL_move rfl rfl ?_
 obtain ⟨x2, hr2, hF⟩ := bind_some hF
 refine WL_call Tryz.call8 rfl rfl (c_Q_szQuery (a3.1, a3.2) u3 (g3.now hC2.keep) u4 (g4.now hC2.keep) x1 x2 hr2) ?_
 intro _ w3 hv2
 obtain ⟨rfl, hB3⟩ := res_int hv2
 have hC3 := hC2.grow hB3
 refine WL_assign rfl rfl ?_
 refine WL_nil (W_seq (W_seq_reg ?_))
 refine WL_move rfl rfl ?_
 refine WL_lss rfl rfl rfl ?_
 refine WL_nil ?_
 refine W_cond rfl (fun hc4 => ?_) (fun hc4 => ?_)
 ·replace hF := ite_t hF hc4
  refine W_seq_reg ?_
  refine WL_assign rfl rfl ?_
  refine WL_nil (W_ret (nrm_ret ?_))
  have hq4 := Option.some.inj hF
  subst hq4
  refine fn_ret1 rfl rfl ?_
  exact ⟨_, rfl, bool_res hC3 _⟩
 replace hF := ite_f hF hc4
 refine W_skip (nrm_normal (W_seq ?_))
 refine W_drawn 14 rfl hmix (fun w4 hB4 => ?_)
 have hC4 := hC3.grow hB4
 refine WA_tk 0 (by kernel_rfl) rfl rfl (fl_move rfl) ?_
 refine WL_move rfl rfl ?_
 refine WL_nil ?_
 refine WA_tk 2 (by kernel_rfl) rfl rfl (fl_move rfl) ?_
 refine WL_move rfl rfl ?_
 refine WL_nil ?_
 refine WA_tk 6 (by kernel_rfl) rfl rfl (fl_move rfl) ?_
 refine WL_move rfl rfl ?_
 refine WL_nil ?_
 obtain ⟨x3, hr3, hF⟩ := bind_some hF
 obtain ⟨x4, hr4, hF⟩ := bind_some hF
 refine WA.sub (l' := [(0, u1), (1, u2), (2, (.agg #[u3, u4])), (3, u5), (6, (ptr b1 0)), (8, (.bool false)), (9, (.int .i64 x2)), (23, u1), (24, (.int .i64 (List.length a1 : Int))), (25, (.bool (decide (1048576 < (List.length a1 : Int))))), (26, u5), (27, (.int .i64 (List.length a4 : Int))), (28, (.bool (decide (1048576 < (List.length a4 : Int))))), (29, u2), (30, (.int .i64 1048576)), (31, (.int .i64 x1)), (32, (.int .i64 x1)), (33, (.bool (decide (x1 < 0)))), (34, (.agg #[u3, u4])), (35, (.int .i64 x1)), (36, (.int .i64 x2)), (37, (.int .i64 x2)), (38, (.bool (decide (x2 < 0)))), (40, u1), (42, u2), (46, u5)]) ?_ ⟨rfl, rfl, rfl, rfl, rfl, rfl, rfl, rfl, rfl, rfl, rfl, rfl, rfl, rfl, rfl, rfl, rfl, rfl, rfl, rfl, rfl, rfl, rfl, rfl, rfl, rfl, trivial⟩
 refine WA_postsE [⟨1, [], fun vs => PW.own x3, []⟩, ⟨3, [], fun vs => PW.own x4, []⟩, ⟨4, [], fun vs => PW.val (.agg #[u3, u4]), []⟩] [[], [], []] 8 rfl (by kernel_rfl) (by kernel_rfl) rfl ?_ ?_
 ·refine StepsE_cons rfl ?_ ?_
  ·intro w7 hB7
   refine DepsE_nil ?_
   refine ⟨_, rfl, ?_⟩
   refine WL_call Tryz.call11 rfl rfl (c_Q_toIntS a1 u1 (g1.now (hC4.keep.then hB7)) x3 hr3) ?_
   rintro v1 w5 ⟨hB5, F1, hv3, hn1, hb1⟩
   refine WL_nil ?_
   exact FinE_own hB5 rfl rfl hv3 hn1 hb1 (Val.inh hv3)
  refine StepsE_cons rfl ?_ ?_
  ·intro w7 hB7
   refine DepsE_nil ?_
   refine ⟨_, rfl, ?_⟩
   refine WL_call Tryz.call12 rfl rfl (c_Q_toMethodS a2 u2 (g2.now (hC4.keep.then hB7)) x4 hr4) ?_
   rintro v2 w6 ⟨hB6, F2, hv4, hn2, hb2⟩
   refine WL_nil ?_
   exact FinE_own hB6 rfl rfl hv4 hn2 hb2 (Val.inh hv4)
  refine StepsE_cons rfl ?_ ?_
  ·intro w7 hB7
   refine DepsE_nil ?_
   refine ⟨_, rfl, ?_⟩
   refine WL_load_box_agg [u3, u4] (hC4.grow hB7) 0 rfl rfl rfl Tryz.isAgg26 Tryz.sizeOf26 rfl rfl ?_
   refine WL_nil ?_
   exact FinE_val (Below.refl _ _) rfl rfl ⟨rfl, rfl⟩
  exact StepsE_nil
 intro w9 hB8
 refine AllE_cons rfl rfl rfl ?_
 intro v1 F1 hv3
 refine AllE_cons rfl rfl rfl ?_
 intro v2 F2 hv4
 refine AllE_cons rfl rfl rfl ?_
 rintro _ _ ⟨rfl, rfl⟩
 refine AllE_nil ?_
 intro hn3 hb3
 have hC5 := hC4.pushL hB8 (Bs := [Item.own v2 (x4 : (List (Int × (List Int) × Int × Int × Int))), Item.own v1 (x3 : (List Int))]) (Fs := [F2, F1]) ⟨F2, _, rfl, hv4, F1, _, rfl, hv3, rfl⟩ (by simpa using hn3) (fun b h => (hb3 b (by simpa using h)).1)
 obtain ⟨x5, hr5, hF⟩ := bind_some hF
 refine WA_one 5 (by kernel_rfl) rfl ?_
 refine WL_call Tryz.call13 rfl rfl (c_Q_toQuery (a3.1, a3.2) u3 (g3.now hC5.keep) u4 (g4.now hC5.keep) x5 hr5) ?_
 rintro v3 w10 ⟨hB9, F3, hv5, hn4, hb4⟩
 have hC6 := hC5.push hB9 (A := Item.own v3 x5) hv5 hn4 hb4
 obtain ⟨v4, v5, rfl, hC7⟩ := st37_own hC6
 refine WL_nil ?_
 obtain ⟨x6, hr6, hF⟩ := bind_some hF
 refine WA_one 7 (by kernel_rfl) rfl ?_
 refine WL_call Tryz.call11 rfl rfl (c_Q_toIntS a4 u5 (g5.now hC7.keep) x6 hr6) ?_
 rintro v6 w11 ⟨hB10, F4, hv6, hn5, hb5⟩
 have hC8 := hC7.push hB10 (A := Item.own v6 x6) hv6 hn5 hb5
 refine WL_nil ?_
 obtain ⟨x7, hr7, hF⟩ := bind_some hF
 refine WA_one 8 (by kernel_rfl) rfl ?_
 refine WL_call Tryz.call27 rfl rfl (c_S_LeastDisclosure x3 v1 ((hC8.ro 4 rfl).now (Keep.refl _ _)) x4 v2 ((hC8.ro 3 rfl).now (Keep.refl _ _)) x5 v4 ((hC8.ro 1 rfl).now (Keep.refl _ _)) v5 ((hC8.ro 2 rfl).now (Keep.refl _ _)) x6 v6 ((hC8.ro 0 rfl).now (Keep.refl _ _)) x7 hr7) ?_
 rintro _ w12 ⟨hB11, v7, v8, F5, F6, rfl, hv7, hv8, hn6, hb6⟩
 obtain ⟨rfl, rfl⟩ := val_bool hv8
 have hC9 := hC8.pushL hB11 (Bs := [Item.own v7 x7.1]) (Fs := [F5]) ⟨F5, _, rfl, hv7, rfl⟩ (by simpa using hn6) (fun b h => hb6 b (by simpa using h))
 refine WL_nil ?_
 refine WA_tk 9 (by kernel_rfl) rfl rfl (fl_move rfl) ?_
 refine WL_move rfl rfl ?_
 refine WL_nil ?_
 refine WA_tk 10 (by kernel_rfl) rfl rfl (fl_extract rfl rfl) ?_
 refine WL_extract rfl rfl rfl ?_
 refine WL_nil ?_
 refine WA_tk 11 (by kernel_rfl) rfl rfl (fl_extract rfl rfl) ?_
 refine WL_extract rfl rfl rfl ?_
 refine WL_nil ?_
 refine WA_tk 12 (by kernel_rfl) rfl rfl (fl_assign rfl) ?_
 refine WL_assign rfl rfl ?_
 refine WL_nil ?_
 refine WA_tk 13 (by kernel_rfl) rfl rfl (fl_assign rfl) ?_
 refine WL_assign rfl rfl ?_
 refine WL_nil ?_
 refine WA_done (by kernel_rfl) ?_
 refine nrm_normal (W_seq_reg ?_)
 refine WL_move rfl rfl ?_
 obtain ⟨x8, hr8, hF⟩ := bind_some hF
 refine WL_call Tryz.call11 rfl rfl (c_Q_toIntS a1 u1 (g1.now hC9.keep) x8 hr8) ?_
 rintro v9 w13 ⟨hB12, F7, hv9, hn7, hb7⟩
 have hC10 := hC9.push hB12 (A := Item.own v9 x8) hv9 hn7 hb7
 refine WL_assign rfl rfl ?_
 refine WL_nil (W_seq_reg ?_)
 refine WL_move rfl rfl ?_
 obtain ⟨x9, hr9, hF⟩ := bind_some hF
 refine WL_call Tryz.call12 rfl rfl (c_Q_toMethodS a2 u2 (g2.now hC10.keep) x9 hr9) ?_
 rintro v10 w14 ⟨hB13, F8, hv10, hn8, hb8⟩
 have hC11 := hC10.push hB13 (A := Item.own v10 x9) hv10 hn8 hb8
 refine WL_assign rfl rfl ?_
 refine WL_nil (W_seq_reg ?_)
 refine WL_load_box_agg [u3, u4] hC11 8 rfl rfl rfl Tryz.isAgg26 Tryz.sizeOf26 rfl rfl ?_
 obtain ⟨x10, hr10, hF⟩ := bind_some hF
 refine WL_call Tryz.call13 rfl rfl (c_Q_toQuery (a3.1, a3.2) u3 (g3.now hC11.keep) u4 (g4.now hC11.keep) x10 hr10) ?_
 rintro v11 w15 ⟨hB14, F9, hv11, hn9, hb9⟩
 have hC12 := hC11.push hB14 (A := Item.own v11 x10) hv11 hn9 hb9
 obtain ⟨v12, v13, rfl, hC13⟩ := st37_own hC12
 refine WL_allocK hC13 zero37 rfl rfl (fun b2 w16 hC14 hB15 hN2 => ?_)
 refine WL_store_box_aggK (cs' := [v12, v13]) (new := [v12, v13]) hC14 0 rfl rfl (by intro v hv; simp only [List.mem_cons, List.not_mem_nil, or_false] at hv; rcases hv with rfl | rfl; exact (ro_one (hC14.ro 1 rfl)); exact (ro_one (hC14.ro 2 rfl))) rfl Tryz.sizeOf37 rfl rfl (fun w17 hC15 hKp1 => ?_)
 try dsimp only [List.set] at hC15
 have hk1 := Keep.over ((((((((((((Keep.of hB1).then hB2).then hB3).then hB4).then hB8).then hB9).then hB10).then hB11).then hB12).then hB13).then hB14).then hB15) (Nat.le_trans (((((((((((Keep.of hB1).then hB2).then hB3).then hB4).then hB8).then hB9).then hB10).then hB11).then hB12).then hB13).then hB14).size hN2) hKp1
 have hk2 := Keep.over (((((((((((Keep.of hB2).then hB3).then hB4).then hB8).then hB9).then hB10).then hB11).then hB12).then hB13).then hB14).then hB15) (Nat.le_trans ((((((((((Keep.of hB2).then hB3).then hB4).then hB8).then hB9).then hB10).then hB11).then hB12).then hB13).then hB14).size hN2) hKp1
 have hk3 := Keep.over ((((((((((Keep.of hB3).then hB4).then hB8).then hB9).then hB10).then hB11).then hB12).then hB13).then hB14).then hB15) (Nat.le_trans (((((((((Keep.of hB3).then hB4).then hB8).then hB9).then hB10).then hB11).then hB12).then hB13).then hB14).size hN2) hKp1
 have hk4 := Keep.over (((((((((Keep.of hB4).then hB8).then hB9).then hB10).then hB11).then hB12).then hB13).then hB14).then hB15) (Nat.le_trans ((((((((Keep.of hB4).then hB8).then hB9).then hB10).then hB11).then hB12).then hB13).then hB14).size hN2) hKp1
 have hk5 := Keep.over ((((((((Keep.of hB8).then hB9).then hB10).then hB11).then hB12).then hB13).then hB14).then hB15) (Nat.le_trans (((((((Keep.of hB8).then hB9).then hB10).then hB11).then hB12).then hB13).then hB14).size hN2) hKp1
 have hk6 := Keep.over (((((((Keep.of hB9).then hB10).then hB11).then hB12).then hB13).then hB14).then hB15) (Nat.le_trans ((((((Keep.of hB9).then hB10).then hB11).then hB12).then hB13).then hB14).size hN2) hKp1
 have hk7 := Keep.over ((((((Keep.of hB10).then hB11).then hB12).then hB13).then hB14).then hB15) (Nat.le_trans (((((Keep.of hB10).then hB11).then hB12).then hB13).then hB14).size hN2) hKp1
 have hk8 := Keep.over (((((Keep.of hB11).then hB12).then hB13).then hB14).then hB15) (Nat.le_trans ((((Keep.of hB11).then hB12).then hB13).then hB14).size hN2) hKp1
 have hk9 := Keep.over ((((Keep.of hB12).then hB13).then hB14).then hB15) (Nat.le_trans (((Keep.of hB12).then hB13).then hB14).size hN2) hKp1
 have hk10 := Keep.over (((Keep.of hB13).then hB14).then hB15) (Nat.le_trans ((Keep.of hB13).then hB14).size hN2) hKp1
 have hk11 := Keep.over ((Keep.of hB14).then hB15) (Nat.le_trans (Keep.of hB14).size hN2) hKp1
 have hk12 := Keep.over (Keep.of hB15) hN2 hKp1
 refine WL_nil (W_seq_reg ?_)
 refine WL_move rfl rfl ?_
 obtain ⟨x11, hr11, hF⟩ := bind_some hF
 refine WL_call Tryz.call11 rfl rfl (c_Q_toIntS a4 u5 (g5.now hC15.keep) x11 hr11) ?_
 rintro v14 w18 ⟨hB16, F10, hv12, hn10, hb10⟩
 have hC16 := hC15.push hB16 (A := Item.own v14 x11) hv12 hn10 hb10
 refine WL_assign rfl rfl ?_
 refine WL_nil (W_seq_reg ?_)
 refine WL_move rfl rfl ?_
 refine WL_move rfl rfl ?_
 refine WL_load_box_agg [v12, v13] hC16 1 rfl rfl rfl Tryz.isAgg37 Tryz.sizeOf37 rfl rfl ?_
 refine WL_move rfl rfl ?_
 obtain ⟨x12, hr12, hF⟩ := bind_some hF
 refine WL_call Tryz.call28 rfl rfl (c_M_LeastDisclosure x8 v9 ((hC16.ro 5 rfl).now (Keep.refl _ _)) x9 v10 ((hC16.ro 4 rfl).now (Keep.refl _ _)) (x10.1, x10.2) v12 ((hC16.ro 2 rfl).now (Keep.refl _ _)) v13 ((hC16.ro 3 rfl).now (Keep.refl _ _)) x11 v14 ((hC16.ro 0 rfl).now (Keep.refl _ _)) x12 hr12) ?_
 rintro _ w19 ⟨hB17, v15, v16, F11, F12, rfl, hv13, hv14, hn11, hb11⟩
 obtain ⟨rfl, rfl⟩ := val_bool hv14
 have hC17 := hC16.pushL hB17 (Bs := [Item.own v15 x12.1]) (Fs := [F11]) ⟨F11, _, rfl, hv13, rfl⟩ (by simpa using hn11) (fun b h => hb11 b (by simpa using h))
 refine WL_move rfl rfl ?_
 refine WL_extract rfl rfl rfl ?_
 refine WL_extract rfl rfl rfl ?_
 refine WL_assign rfl rfl ?_
 refine WL_assign rfl rfl ?_
 refine WL_nil (W_seq ?_)
 obtain ⟨r1, hr13, hF⟩ := bind_some hF
 refine W_cut (fun l w => ∃ x13 : Bool, x13 = r1 ∧ l = [(0, u1), (1, u2), (3, u5), (6, (ptr b1 0)), (10, v7), (11, (.bool x7.2)), (12, v9), (13, v10), (14, (ptr b2 0)), (15, v14), (16, v15), (17, (.bool x12.2)), (75, (.bool x13))] ∧ Below w19.heap.size w19 w ∧ Ctx [] w0 w [Item.own v15 (x12.1 : (List Int)), Item.own v14 (x11 : (List Int)), Item.box b2 [v12, v13], Item.own v12 (x10.1 : (List Int)), Item.own v13 (x10.2 : (List (Int × (List Int)))), Item.own v10 (x9 : (List (Int × (List Int) × Int × Int × Int))), Item.own v9 (x8 : (List Int)), Item.own v7 (x7.1 : (List Int)), Item.box b1 [u3, u4]]) ?_ ?_
 ·refine W_reg ?_
  refine WL_move rfl rfl ?_
  refine WL_move rfl rfl ?_
  obtain ⟨x14, hr14, hr13⟩ := bind_some hr13
  refine WL_call Tryz.call16 rfl rfl (c_Q_eqIntS x12.1 v15 ((hC17.ro 0 rfl).now (Keep.refl _ _)) x7.1 v7 ((hC17.ro 7 rfl).now (Keep.refl _ _)) x14 hr14) ?_
  intro _ w21 hv15
  obtain ⟨rfl, hB19⟩ := res_bool hv15
  have hC19 := hC17.grow hB19
  refine WL_not rfl rfl ?_
  refine WL_move rfl rfl ?_
  refine WL_fork (fun hc5 => ?_) (fun hc5 => ?_)
  ·replace hr13 := ite_t hr13 hc5
   refine WL_guard_skip rfl rfl (by simp) rfl ?_
   refine WL_guard_skip rfl rfl (by simp) rfl ?_
   refine WL_guard_skip rfl rfl (by simp) rfl ?_
   refine WL_pick_t rfl rfl rfl ?_
   refine WL_nil ?_
   have hq5 := Option.some.inj hr13
   subst hq5
   have hC20 := hC19.f13
   have hC21 := hC20.f8
   have hC22 := hC21.f8
   have hC23 := hC22.f8
   have hC24 := hC23.f8
   have hC25 := hC24.f8
   have hC26 := hC25.f8
   have hC27 := hC26.f8
   have hC28 := hC27.f8
   have hC29 := hC28.h9
   refine nrm_sub (l' := [(0, u1), (1, u2), (3, u5), (6, (ptr b1 0)), (10, v7), (11, (.bool x7.2)), (12, v9), (13, v10), (14, (ptr b2 0)), (15, v14), (16, v15), (17, (.bool x12.2)), (75, (.bool true))]) ⟨rfl, rfl, rfl, rfl, rfl, rfl, rfl, rfl, rfl, rfl, rfl, rfl, rfl, trivial⟩ ?_
   exact ⟨true, rfl, rfl, (Keep.of hB19).below, hC29⟩
  replace hr13 := ite_f hr13 hc5
  refine WL_guard rfl rfl ?_
  refine WL_move rfl rfl ?_
  refine WL_guard rfl rfl ?_
  refine WL_move rfl rfl ?_
  refine WL_guard rfl rfl ?_
  refine WL_bool_neq Tryz.underlying4 rfl rfl rfl ?_
  refine WL_pick_f rfl rfl rfl ?_
  refine WL_nil ?_
  have hq6 := Option.some.inj hr13
  subst hq6
  have hC30 := hC19.f13
  have hC31 := hC30.f8
  have hC32 := hC31.f8
  have hC33 := hC32.f8
  have hC34 := hC33.f8
  have hC35 := hC34.f8
  have hC36 := hC35.f8
  have hC37 := hC36.f8
  have hC38 := hC37.f8
  have hC39 := hC38.h9
  refine nrm_sub (l' := [(0, u1), (1, u2), (3, u5), (6, (ptr b1 0)), (10, v7), (11, (.bool x7.2)), (12, v9), (13, v10), (14, (ptr b2 0)), (15, v14), (16, v15), (17, (.bool x12.2)), (75, (.bool (!decide (x12.2 = x7.2))))]) ⟨rfl, rfl, rfl, rfl, rfl, rfl, rfl, rfl, rfl, rfl, rfl, rfl, rfl, trivial⟩ ?_
  exact ⟨(!decide (x12.2 = x7.2)), rfl, rfl, (Keep.of hB19).below, hC39⟩
 rintro _ w20 ⟨x13, rfl, rfl, hB18, hC18⟩
 try dsimp only at hF
 refine W_cond rfl (fun hc6 => ?_) (fun hc6 => ?_)
 ·replace hF := ite_t hF hc6
  refine W_seq_reg ?_
  refine WL_assign rfl rfl ?_
  refine WL_nil (W_ret (nrm_ret ?_))
  have hq7 := Option.some.inj hF
  subst hq7
  refine fn_ret1 rfl rfl ?_
  exact ⟨_, rfl, bool_res hC18 _⟩
 replace hF := ite_f hF hc6
 refine W_skip (nrm_normal (W_seq (W_seq_reg ?_)))
 refine WL_move rfl rfl ?_
 refine WL_move rfl rfl ?_
 obtain ⟨x15, hr15, hF⟩ := bind_some hF
 refine WL_call Tryz.call11 rfl rfl (c_Q_toIntS a1 u1 (g1.now hC18.keep) x15 hr15) ?_
 rintro v17 w22 ⟨hB20, F13, hv16, hn12, hb12⟩
 have hC40 := hC18.push hB20 (A := Item.own v17 x15) hv16 hn12 hb12
 obtain ⟨x16, hr16, hF⟩ := bind_some hF
 refine WL_call Tryz.call16 rfl rfl (c_Q_eqIntS x8 v9 ((hC40.ro 7 rfl).now (Keep.refl _ _)) x15 v17 ((hC40.ro 0 rfl).now (Keep.refl _ _)) x16 hr16) ?_
 intro _ w23 hv17
 obtain ⟨rfl, hB21⟩ := res_bool hv17
 have hC41 := hC40.grow hB21
 refine WL_not rfl rfl ?_
 refine WL_nil ?_
 refine W_cond rfl (fun hc7 => ?_) (fun hc7 => ?_)
 ·replace hF := ite_t hF hc7
  refine W_seq_reg ?_
  refine WL_assign rfl rfl ?_
  refine WL_nil (W_ret (nrm_ret ?_))
  have hq8 := Option.some.inj hF
  subst hq8
  refine fn_ret1 rfl rfl ?_
  exact ⟨_, rfl, bool_res hC41 _⟩
 replace hF := ite_f hF hc7
 refine W_skip (nrm_normal (W_seq (W_seq_reg ?_)))
 refine WL_move rfl rfl ?_
 refine WL_move rfl rfl ?_
 obtain ⟨x17, hr17, hF⟩ := bind_some hF
 refine WL_call Tryz.call12 rfl rfl (c_Q_toMethodS a2 u2 (g2.now hC41.keep) x17 hr17) ?_
 rintro v18 w24 ⟨hB22, F14, hv18, hn13, hb13⟩
 have hC42 := hC41.push hB22 (A := Item.own v18 x17) hv18 hn13 hb13
 obtain ⟨x18, hr18, hF⟩ := bind_some hF
 refine WL_call Tryz.call17 rfl rfl (c_Q_eqMethodS x9 v10 ((hC42.ro 7 rfl).now (Keep.refl _ _)) x17 v18 ((hC42.ro 0 rfl).now (Keep.refl _ _)) x18 hr18) ?_
 intro _ w25 hv19
 obtain ⟨rfl, hB23⟩ := res_bool hv19
 have hC43 := hC42.grow hB23
 refine WL_not rfl rfl ?_
 refine WL_nil ?_
 refine W_cond rfl (fun hc8 => ?_) (fun hc8 => ?_)
 ·replace hF := ite_t hF hc8
  refine W_seq_reg ?_
  refine WL_assign rfl rfl ?_
  refine WL_nil (W_ret (nrm_ret ?_))
  have hq9 := Option.some.inj hF
  subst hq9
  refine fn_ret1 rfl rfl ?_
  exact ⟨_, rfl, bool_res hC43 _⟩
 replace hF := ite_f hF hc8
 refine W_skip (nrm_normal (W_seq (W_seq ?_)))
 refine W_drawn 5 rfl hmix (fun w26 hB24 => ?_)
 have hC44 := hC43.grow hB24
 obtain ⟨x19, hr19, hF⟩ := bind_some hF
 refine WA.sub (l' := [(0, u1), (1, u2), (3, u5), (6, (ptr b1 0)), (10, v7), (11, (.bool x7.2)), (12, v9), (13, v10), (14, (ptr b2 0)), (15, v14), (16, v15), (17, (.bool x12.2)), (75, (.bool x13)), (76, v9), (77, u1), (78, v17), (79, (.bool x16)), (80, (.bool (!x16))), (81, v10), (82, u2), (83, v18), (84, (.bool x18)), (85, (.bool (!x18)))]) ?_ ⟨rfl, rfl, rfl, rfl, rfl, rfl, rfl, rfl, rfl, rfl, rfl, rfl, rfl, rfl, rfl, rfl, rfl, rfl, rfl, rfl, rfl, rfl, rfl, trivial⟩
 refine WA_postsE [⟨0, [], fun vs => PW.val (.agg #[v12, v13]), []⟩, ⟨1, [], fun vs => PW.val (.agg #[u3, u4]), []⟩, ⟨2, [], fun vs => PW.own x19, []⟩] [[], [], [1]] 2 rfl (by kernel_rfl) (by kernel_rfl) rfl ?_ ?_
 ·refine StepsE_cons rfl ?_ ?_
  ·intro w28 hB26
   refine DepsE_nil ?_
   refine ⟨_, rfl, ?_⟩
   refine WL_load_box_agg [v12, v13] (hC44.grow hB26) 4 rfl rfl rfl Tryz.isAgg37 Tryz.sizeOf37 rfl rfl ?_
   refine WL_nil ?_
   exact FinE_val (Below.refl _ _) rfl rfl ⟨rfl, rfl⟩
  refine StepsE_cons rfl ?_ ?_
  ·intro w28 hB26
   refine DepsE_nil ?_
   refine ⟨_, rfl, ?_⟩
   refine WL_load_box_agg [u3, u4] (hC44.grow hB26) 10 rfl rfl rfl Tryz.isAgg26 Tryz.sizeOf26 rfl rfl ?_
   refine WL_nil ?_
   exact FinE_val (Below.refl _ _) rfl rfl ⟨rfl, rfl⟩
  refine StepsE_cons rfl ?_ ?_
  ·intro w28 hB26
   refine DepsE_cons rfl rfl rfl ?_
   rintro _ _ ⟨rfl, rfl⟩ _
   refine DepsE_nil ?_
   refine ⟨_, rfl, ?_⟩
   refine WL_call Tryz.call13 rfl rfl (c_Q_toQuery (a3.1, a3.2) u3 (g3.now (hC44.keep.then hB26)) u4 (g4.now (hC44.keep.then hB26)) x19 hr19) ?_
   rintro v19 w27 ⟨hB25, F15, hv20, hn14, hb14⟩
   refine WL_nil ?_
   exact FinE_own hB25 rfl rfl hv20 hn14 hb14 (Val.inh hv20)
  exact StepsE_nil
 intro w29 hB27
 refine AllE_cons rfl rfl rfl ?_
 rintro _ _ ⟨rfl, rfl⟩
 refine AllE_cons rfl rfl rfl ?_
 rintro _ _ ⟨rfl, rfl⟩
 refine AllE_cons rfl rfl rfl ?_
 intro v19 F15 hv20
 refine AllE_nil ?_
 intro hn15 hb15
 have hC45 := hC44.pushL hB27 (Bs := [Item.own v19 (x19 : ((List Int) × (List (Int × (List Int)))))]) (Fs := [F15]) ⟨F15, _, rfl, hv20, rfl⟩ (by simpa using hn15) (fun b h => (hb15 b (by simpa using h)).1)
 obtain ⟨v22, v23, rfl, hC46⟩ := st37_own hC45
 obtain ⟨x20, hr20, hF⟩ := bind_some hF
 refine WA_one 3 (by kernel_rfl) rfl ?_
 refine WL_call Tryz.call18 rfl rfl (c_Q_eqQuery (x10.1, x10.2) v12 ((hC46.ro 7 rfl).now (Keep.refl _ _)) v13 ((hC46.ro 8 rfl).now (Keep.refl _ _)) x19 v22 ((hC46.ro 0 rfl).now (Keep.refl _ _)) v23 ((hC46.ro 1 rfl).now (Keep.refl _ _)) x20 hr20) ?_
 intro _ w30 hv21
 obtain ⟨rfl, hB28⟩ := res_bool hv21
 have hC47 := hC46.grow hB28
 refine WL_nil ?_
 refine WA_tk 4 (by kernel_rfl) rfl rfl (fl_not rfl) ?_
 refine WL_not rfl rfl ?_
 refine WL_nil ?_
 refine WA_done (by kernel_rfl) ?_
 refine nrm_normal ?_
 refine W_cond rfl (fun hc9 => ?_) (fun hc9 => ?_)
 ·replace hF := ite_t hF hc9
  refine W_seq_reg ?_
  refine WL_assign rfl rfl ?_
  refine WL_nil (W_ret (nrm_ret ?_))
  have hq10 := Option.some.inj hF
  subst hq10
  refine fn_ret1 rfl rfl ?_
  exact ⟨_, rfl, bool_res hC47 _⟩
 replace hF := ite_f hF hc9
 refine W_skip (nrm_normal (W_seq (W_seq_reg ?_)))
 refine WL_move rfl rfl ?_
 refine WL_move rfl rfl ?_
 obtain ⟨x21, hr21, hF⟩ := bind_some hF
 refine WL_call Tryz.call11 rfl rfl (c_Q_toIntS a4 u5 (g5.now hC47.keep) x21 hr21) ?_
 rintro v24 w31 ⟨hB29, F16, hv22, hn16, hb16⟩
 have hC48 := hC47.push hB29 (A := Item.own v24 x21) hv22 hn16 hb16
 obtain ⟨x22, hr22, hF⟩ := bind_some hF
 refine WL_call Tryz.call16 rfl rfl (c_Q_eqIntS x11 v14 ((hC48.ro 6 rfl).now (Keep.refl _ _)) x21 v24 ((hC48.ro 0 rfl).now (Keep.refl _ _)) x22 hr22) ?_
 intro _ w32 hv23
 obtain ⟨rfl, hB30⟩ := res_bool hv23
 have hC49 := hC48.grow hB30
 refine WL_not rfl rfl ?_
 refine WL_nil ?_
 refine W_cond rfl (fun hc10 => ?_) (fun hc10 => ?_)
 ·replace hF := ite_t hF hc10
  refine W_seq_reg ?_
  refine WL_assign rfl rfl ?_
  refine WL_nil (W_ret (nrm_ret ?_))
  have hq11 := Option.some.inj hF
  subst hq11
  refine fn_ret1 rfl rfl ?_
  exact ⟨_, rfl, bool_res hC49 _⟩
 replace hF := ite_f hF hc10
 refine W_skip (nrm_normal (W_seq_reg ?_))
 refine WL_assign rfl rfl ?_
 refine WL_nil (W_seq_reg ?_)
 refine WL_move rfl rfl ?_
 refine WL_move rfl rfl ?_
 obtain ⟨x23, hr23, hF⟩ := bind_some hF
 have hC50 := hC49.f11
 obtain ⟨Fs1, hH1, hn17, hF1, hO1, hb17⟩ := Ctx.lend2 (As := [Item.own v24 (x21 : (List Int)), Item.own v22 (x19.1 : (List Int)), Item.own v23 (x19.2 : (List (Int × (List Int)))), Item.own v18 (x17 : (List (Int × (List Int) × Int × Int × Int))), Item.own v17 (x15 : (List Int)), Item.own v15 (x12.1 : (List Int)), Item.own v14 (x11 : (List Int)), Item.box b2 [v12, v13], Item.own v12 (x10.1 : (List Int)), Item.own v13 (x10.2 : (List (Int × (List Int)))), Item.own v10 (x9 : (List (Int × (List Int) × Int × Int × Int))), Item.own v7 (x7.1 : (List Int)), Item.box b1 [u3, u4]]) [Item.own v9 (x8 : (List Int))] hC50
 refine WL_call Tryz.call22 rfl rfl (c_Q_markIntS x8 v9 1 hH1 hn17 x23 hr23) ?_
 rintro _ w33 ⟨rfl, hq12⟩
 have hC51 : Ctx [] w0 w33 [Item.own v9 (x23.2 : (List Int)), Item.own v24 (x21 : (List Int)), Item.own v22 (x19.1 : (List Int)), Item.own v23 (x19.2 : (List (Int × (List Int)))), Item.own v18 (x17 : (List (Int × (List Int) × Int × Int × Int))), Item.own v17 (x15 : (List Int)), Item.own v15 (x12.1 : (List Int)), Item.own v14 (x11 : (List Int)), Item.box b2 [v12, v13], Item.own v12 (x10.1 : (List Int)), Item.own v13 (x10.2 : (List (Int × (List Int)))), Item.own v10 (x9 : (List (Int × (List Int) × Int × Int × Int))), Item.own v7 (x7.1 : (List Int)), Item.box b1 [u3, u4]] := hb17 _ _ hq12
 refine WL_assign rfl rfl ?_
 refine WL_nil (W_seq_reg ?_)
 refine WL_move rfl rfl ?_
 refine WL_move rfl rfl ?_
 obtain ⟨x24, hr24, hF⟩ := bind_some hF
 have hC52 := hC51.f11
 obtain ⟨Fs2, hH2, hn18, hF2, hO2, hb18⟩ := Ctx.lend2 (As := [Item.own v9 (x23.2 : (List Int)), Item.own v24 (x21 : (List Int)), Item.own v22 (x19.1 : (List Int)), Item.own v23 (x19.2 : (List (Int × (List Int)))), Item.own v18 (x17 : (List (Int × (List Int) × Int × Int × Int))), Item.own v17 (x15 : (List Int)), Item.own v15 (x12.1 : (List Int)), Item.own v14 (x11 : (List Int)), Item.box b2 [v12, v13], Item.own v12 (x10.1 : (List Int)), Item.own v13 (x10.2 : (List (Int × (List Int)))), Item.own v7 (x7.1 : (List Int)), Item.box b1 [u3, u4]]) [Item.own v10 (x9 : (List (Int × (List Int) × Int × Int × Int)))] hC52
 refine WL_call Tryz.call23 rfl rfl (c_Q_markMethodS x9 v10 x23.1 hH2 hn18 x24 hr24) ?_
 rintro _ w34 ⟨rfl, hq13⟩
 have hC53 : Ctx [] w0 w34 [Item.own v10 (x24.2 : (List (Int × (List Int) × Int × Int × Int))), Item.own v9 (x23.2 : (List Int)), Item.own v24 (x21 : (List Int)), Item.own v22 (x19.1 : (List Int)), Item.own v23 (x19.2 : (List (Int × (List Int)))), Item.own v18 (x17 : (List (Int × (List Int) × Int × Int × Int))), Item.own v17 (x15 : (List Int)), Item.own v15 (x12.1 : (List Int)), Item.own v14 (x11 : (List Int)), Item.box b2 [v12, v13], Item.own v12 (x10.1 : (List Int)), Item.own v13 (x10.2 : (List (Int × (List Int)))), Item.own v7 (x7.1 : (List Int)), Item.box b1 [u3, u4]] := hb18 _ _ hq13
 refine WL_assign rfl rfl ?_
 refine WL_nil (W_seq_reg ?_)
 refine WL_load_box_agg [v12, v13] hC53 9 rfl rfl rfl Tryz.isAgg37 Tryz.sizeOf37 rfl rfl ?_
 refine WL_move rfl rfl ?_
 obtain ⟨x25, hr25, hF⟩ := bind_some hF
 have hC54 := hC53.f11
 have hC55 := hC54.f11
 obtain ⟨Fs3, hH3, hn19, hF3, hO3, hb19⟩ := Ctx.lend2 (As := [Item.own v10 (x24.2 : (List (Int × (List Int) × Int × Int × Int))), Item.own v9 (x23.2 : (List Int)), Item.own v24 (x21 : (List Int)), Item.own v22 (x19.1 : (List Int)), Item.own v23 (x19.2 : (List (Int × (List Int)))), Item.own v18 (x17 : (List (Int × (List Int) × Int × Int × Int))), Item.own v17 (x15 : (List Int)), Item.own v15 (x12.1 : (List Int)), Item.own v14 (x11 : (List Int)), Item.box b2 [v12, v13], Item.own v7 (x7.1 : (List Int)), Item.box b1 [u3, u4]]) [Item.own v12 (x10.1 : (List Int)), Item.own v13 (x10.2 : (List (Int × (List Int))))] hC55
 refine WL_call Tryz.call24 rfl rfl (c_Q_markQuery (x10.1, x10.2) v12 v13 x24.1 hH3 hn19 x25 hr25) ?_
 rintro _ w35 ⟨rfl, hq14⟩
 have hC56 : Ctx [] w0 w35 [Item.own v12 (x25.2.1 : (List Int)), Item.own v13 (x25.2.2 : (List (Int × (List Int)))), Item.own v10 (x24.2 : (List (Int × (List Int) × Int × Int × Int))), Item.own v9 (x23.2 : (List Int)), Item.own v24 (x21 : (List Int)), Item.own v22 (x19.1 : (List Int)), Item.own v23 (x19.2 : (List (Int × (List Int)))), Item.own v18 (x17 : (List (Int × (List Int) × Int × Int × Int))), Item.own v17 (x15 : (List Int)), Item.own v15 (x12.1 : (List Int)), Item.own v14 (x11 : (List Int)), Item.box b2 [v12, v13], Item.own v7 (x7.1 : (List Int)), Item.box b1 [u3, u4]] := hb19 _ _ hq14
 refine WL_assign rfl rfl ?_
 refine WL_nil (W_seq_reg ?_)
 refine WL_move rfl rfl ?_
 refine WL_move rfl rfl ?_
 obtain ⟨x26, hr26, hF⟩ := bind_some hF
 have hC57 := hC56.f10
 obtain ⟨Fs4, hH4, hn20, hF4, hO4, hb20⟩ := Ctx.lend2 (As := [Item.own v12 (x25.2.1 : (List Int)), Item.own v13 (x25.2.2 : (List (Int × (List Int)))), Item.own v10 (x24.2 : (List (Int × (List Int) × Int × Int × Int))), Item.own v9 (x23.2 : (List Int)), Item.own v24 (x21 : (List Int)), Item.own v22 (x19.1 : (List Int)), Item.own v23 (x19.2 : (List (Int × (List Int)))), Item.own v18 (x17 : (List (Int × (List Int) × Int × Int × Int))), Item.own v17 (x15 : (List Int)), Item.own v15 (x12.1 : (List Int)), Item.box b2 [v12, v13], Item.own v7 (x7.1 : (List Int)), Item.box b1 [u3, u4]]) [Item.own v14 (x11 : (List Int))] hC57
 refine WL_call Tryz.call22 rfl rfl (c_Q_markIntS x11 v14 x25.1 hH4 hn20 x26 hr26) ?_
 rintro _ w36 ⟨rfl, hq15⟩
 have hC58 : Ctx [] w0 w36 [Item.own v14 (x26.2 : (List Int)), Item.own v12 (x25.2.1 : (List Int)), Item.own v13 (x25.2.2 : (List (Int × (List Int)))), Item.own v10 (x24.2 : (List (Int × (List Int) × Int × Int × Int))), Item.own v9 (x23.2 : (List Int)), Item.own v24 (x21 : (List Int)), Item.own v22 (x19.1 : (List Int)), Item.own v23 (x19.2 : (List (Int × (List Int)))), Item.own v18 (x17 : (List (Int × (List Int) × Int × Int × Int))), Item.own v17 (x15 : (List Int)), Item.own v15 (x12.1 : (List Int)), Item.box b2 [v12, v13], Item.own v7 (x7.1 : (List Int)), Item.box b1 [u3, u4]] := hb20 _ _ hq15
 refine WL_assign rfl rfl ?_
 refine WL_nil (W_seq ?_)
 obtain ⟨r2, hr27, hF⟩ := bind_some hF
 refine W_cut (fun l w => ∃ x27 : Bool, x27 = r2 ∧ l = [(0, u1), (1, u2), (3, u5), (6, (ptr b1 0)), (10, v7), (11, (.bool x7.2)), (16, v15), (120, (.bool x27))] ∧ Below w36.heap.size w36 w ∧ Ctx [] w0 w [Item.own v15 (x12.1 : (List Int)), Item.own v7 (x7.1 : (List Int)), Item.box b1 [u3, u4]]) ?_ ?_
 ·refine W_reg ?_
  refine WL_move rfl rfl ?_
  refine WL_lss rfl rfl rfl ?_
  refine WL_move rfl rfl ?_
  refine WL_fork (fun hc11 => ?_) (fun hc11 => ?_)
  ·replace hr27 := ite_t hr27 hc11
   refine WL_guard_skip rfl rfl (by simp) rfl ?_
   refine WL_guard_skip rfl rfl (by simp) rfl ?_
   refine WL_guard_skip rfl rfl (by simp) rfl ?_
   refine WL_guard_skip rfl rfl (by simp) rfl ?_
   refine WL_pick_t rfl rfl rfl ?_
   refine WL_move rfl rfl ?_
   refine WL_guard_skip rfl rfl (by simp) rfl ?_
   refine WL_guard_skip rfl rfl (by simp) rfl ?_
   refine WL_guard_skip rfl rfl (by simp) rfl ?_
   refine WL_pick_t rfl rfl rfl ?_
   refine WL_nil ?_
   have hq16 := Option.some.inj hr27
   subst hq16
   have hC60 := hC58.f13
   have hC61 := hC60.f13
   have hC62 := hC61.f12
   have hC63 := hC62.h3
   refine nrm_sub (l' := [(0, u1), (1, u2), (3, u5), (6, (ptr b1 0)), (10, v7), (11, (.bool x7.2)), (16, v15), (120, (.bool true))]) ⟨rfl, rfl, rfl, rfl, rfl, rfl, rfl, rfl, trivial⟩ ?_
   exact ⟨true, rfl, rfl, (Below.refl _ _), hC63⟩
  replace hr27 := ite_f hr27 hc11
  refine WL_guard rfl rfl ?_
  refine WL_move rfl rfl ?_
  refine WL_guard rfl rfl ?_
  refine WL_move rfl rfl ?_
  obtain ⟨x28, hr28, hr27⟩ := bind_some hr27
  refine WL_guard rfl rfl ?_
  refine WL_call Tryz.call16 rfl rfl (c_Q_eqIntS x12.1 v15 ((hC58.ro 10 rfl).now (Keep.refl _ _)) x7.1 v7 ((hC58.ro 12 rfl).now (Keep.refl _ _)) x28 hr28) ?_
  intro _ w38 hv24
  obtain ⟨rfl, hB32⟩ := res_bool hv24
  have hC64 := hC58.grow hB32
  refine WL_guard rfl rfl ?_
  refine WL_not rfl rfl ?_
  refine WL_pick_f rfl rfl rfl ?_
  refine WL_move rfl rfl ?_
  refine WL_fork (fun hc12 => ?_) (fun hc12 => ?_)
  ·replace hr27 := ite_t hr27 hc12
   refine WL_guard_skip rfl rfl (by simp) rfl ?_
   refine WL_guard_skip rfl rfl (by simp) rfl ?_
   refine WL_guard_skip rfl rfl (by simp) rfl ?_
   refine WL_pick_t rfl rfl rfl ?_
   refine WL_nil ?_
   have hq17 := Option.some.inj hr27
   subst hq17
   have hC65 := hC64.f13
   have hC66 := hC65.f13
   have hC67 := hC66.f12
   have hC68 := hC67.h3
   refine nrm_sub (l' := [(0, u1), (1, u2), (3, u5), (6, (ptr b1 0)), (10, v7), (11, (.bool x7.2)), (16, v15), (120, (.bool true))]) ⟨rfl, rfl, rfl, rfl, rfl, rfl, rfl, rfl, trivial⟩ ?_
   exact ⟨true, rfl, rfl, (Keep.of hB32).below, hC68⟩
  replace hr27 := ite_f hr27 hc12
  refine WL_guard rfl rfl ?_
  refine WL_move rfl rfl ?_
  refine WL_guard rfl rfl ?_
  refine WL_move rfl rfl ?_
  refine WL_guard rfl rfl ?_
  refine WL_bool_neq Tryz.underlying4 rfl rfl rfl ?_
  refine WL_pick_f rfl rfl rfl ?_
  refine WL_nil ?_
  have hq18 := Option.some.inj hr27
  subst hq18
  have hC69 := hC64.f13
  have hC70 := hC69.f13
  have hC71 := hC70.f12
  have hC72 := hC71.h3
  refine nrm_sub (l' := [(0, u1), (1, u2), (3, u5), (6, (ptr b1 0)), (10, v7), (11, (.bool x7.2)), (16, v15), (120, (.bool (!decide (x12.2 = x7.2))))]) ⟨rfl, rfl, rfl, rfl, rfl, rfl, rfl, rfl, trivial⟩ ?_
  exact ⟨(!decide (x12.2 = x7.2)), rfl, rfl, (Keep.of hB32).below, hC72⟩
 rintro _ w37 ⟨x27, rfl, rfl, hB31, hC59⟩
 try dsimp only at hF
 refine W_cond rfl (fun hc13 => ?_) (fun hc13 => ?_)
 ·replace hF := ite_t hF hc13
  refine W_seq_reg ?_
  refine WL_assign rfl rfl ?_
  refine WL_nil (W_ret (nrm_ret ?_))
  have hq19 := Option.some.inj hF
  subst hq19
  refine fn_ret1 rfl rfl ?_
  exact ⟨_, rfl, bool_res hC59 _⟩
 replace hF := ite_f hF hc13
 refine W_skip (nrm_normal (W_seq_reg ?_))
 refine WL_assign rfl rfl ?_
 refine WL_nil (W_seq_reg ?_)
 refine WL_move rfl rfl ?_
 refine WL_move rfl rfl ?_
 obtain ⟨x29, hr29, hF⟩ := bind_some hF
 obtain ⟨Fs5, hH5, hn21, hF5, hO5, hb21⟩ := Ctx.lend2 (As := [Item.own v7 (x7.1 : (List Int)), Item.box b1 [u3, u4]]) [Item.own v15 (x12.1 : (List Int))] hC59
 refine WL_call Tryz.call22 rfl rfl (c_Q_markIntS x12.1 v15 1 hH5 hn21 x29 hr29) ?_
 rintro _ w39 ⟨rfl, hq20⟩
 have hC74 : Ctx [] w0 w39 [Item.own v15 (x29.2 : (List Int)), Item.own v7 (x7.1 : (List Int)), Item.box b1 [u3, u4]] := hb21 _ _ hq20
 refine WL_assign rfl rfl ?_
 refine WL_nil (W_seq_reg ?_)
 refine WL_assign rfl rfl ?_
 refine WL_nil (W_seq_reg ?_)
 refine WL_move rfl rfl ?_
 refine WL_move rfl rfl ?_
 obtain ⟨x30, hr30, hF⟩ := bind_some hF
 refine WL_call Tryz.call29 rfl rfl (c_Q_heldIntS x29.2 v15 ((hC74.ro 0 rfl).now (Keep.refl _ _)) 1 x30 hr30) ?_
 intro _ w40 hv25
 obtain ⟨rfl, hB33⟩ := res_int hv25
 have hC75 := hC74.grow hB33
 refine WL_assign rfl rfl ?_
 refine WL_nil (W_seq (W_seq_reg ?_))
 refine WL_move rfl rfl ?_
 refine WL_lss rfl rfl rfl ?_
 refine WL_nil ?_
 refine W_cond rfl (fun hc14 => ?_) (fun hc14 => ?_)
 ·replace hF := ite_t hF hc14
  refine W_seq_reg ?_
  refine WL_assign rfl rfl ?_
  refine WL_nil (W_ret (nrm_ret ?_))
  have hq21 := Option.some.inj hF
  subst hq21
  refine fn_ret1 rfl rfl ?_
  exact ⟨_, rfl, bool_res hC75 _⟩
 replace hF := ite_f hF hc14
 refine W_skip (nrm_normal (W_seq (W_seq_reg ?_)))
 refine WL_move rfl rfl ?_
 refine WL_move rfl rfl ?_
 refine WL_neq rfl rfl rfl ?_
 refine WL_nil ?_
 refine W_cond rfl (fun hc15 => ?_) (fun hc15 => ?_)
 ·replace hF := ite_t hF hc15
  refine W_seq_reg ?_
  refine WL_assign rfl rfl ?_
  refine WL_nil (W_ret (nrm_ret ?_))
  have hq22 := Option.some.inj hF
  subst hq22
  refine fn_ret1 rfl rfl ?_
  exact ⟨_, rfl, bool_res hC75 _⟩
 replace hF := ite_f hF hc15
 refine W_skip (nrm_normal (W_seq ?_))
 refine W_drawn 14 rfl hmix (fun w41 hB34 => ?_)
 have hC76 := hC75.grow hB34
 refine WA_tk 0 (by kernel_rfl) rfl rfl (fl_move rfl) ?_
 refine WL_move rfl rfl ?_
 refine WL_nil ?_
 refine WA_tk 2 (by kernel_rfl) rfl rfl (fl_move rfl) ?_
 refine WL_move rfl rfl ?_
 refine WL_nil ?_
 refine WA_tk 6 (by kernel_rfl) rfl rfl (fl_move rfl) ?_
 refine WL_move rfl rfl ?_
 refine WL_nil ?_
 obtain ⟨x31, hr31, hF⟩ := bind_some hF
 obtain ⟨x32, hr32, hF⟩ := bind_some hF
 refine WA.sub (l' := [(0, u1), (1, u2), (3, u5), (6, (ptr b1 0)), (10, v7), (11, (.bool x7.2)), (16, v15), (19, (.int .i64 x29.1)), (20, (.int .i64 x30)), (120, (.bool x27)), (121, v15), (122, (.int .i64 1)), (123, (.int .i64 x29.1)), (124, v15), (125, (.int .i64 1)), (126, (.int .i64 x30)), (127, (.int .i64 x30)), (128, (.bool (decide (x30 < 0)))), (129, (.int .i64 x30)), (130, (.int .i64 x29.1)), (131, (.bool (!decide (x30 = x29.1)))), (133, u1), (135, u2), (139, u5)]) ?_ ⟨rfl, rfl, rfl, rfl, rfl, rfl, rfl, rfl, rfl, rfl, rfl, rfl, rfl, rfl, rfl, rfl, rfl, rfl, rfl, rfl, rfl, rfl, rfl, rfl, trivial⟩
 refine WA_postsE [⟨1, [], fun vs => PW.own x31, []⟩, ⟨3, [], fun vs => PW.own x32, []⟩, ⟨4, [], fun vs => PW.val (.agg #[u3, u4]), []⟩] [[], [], []] 8 rfl (by kernel_rfl) (by kernel_rfl) rfl ?_ ?_
 ·refine StepsE_cons rfl ?_ ?_
  ·intro w44 hB37
   refine DepsE_nil ?_
   refine ⟨_, rfl, ?_⟩
   refine WL_call Tryz.call11 rfl rfl (c_Q_toIntS a1 u1 (g1.now (hC76.keep.then hB37)) x31 hr31) ?_
   rintro v25 w42 ⟨hB35, F17, hv26, hn22, hb22⟩
   refine WL_nil ?_
   exact FinE_own hB35 rfl rfl hv26 hn22 hb22 (Val.inh hv26)
  refine StepsE_cons rfl ?_ ?_
  ·intro w44 hB37
   refine DepsE_nil ?_
   refine ⟨_, rfl, ?_⟩
   refine WL_call Tryz.call12 rfl rfl (c_Q_toMethodS a2 u2 (g2.now (hC76.keep.then hB37)) x32 hr32) ?_
   rintro v26 w43 ⟨hB36, F18, hv27, hn23, hb23⟩
   refine WL_nil ?_
   exact FinE_own hB36 rfl rfl hv27 hn23 hb23 (Val.inh hv27)
  refine StepsE_cons rfl ?_ ?_
  ·intro w44 hB37
   refine DepsE_nil ?_
   refine ⟨_, rfl, ?_⟩
   refine WL_load_box_agg [u3, u4] (hC76.grow hB37) 2 rfl rfl rfl Tryz.isAgg26 Tryz.sizeOf26 rfl rfl ?_
   refine WL_nil ?_
   exact FinE_val (Below.refl _ _) rfl rfl ⟨rfl, rfl⟩
  exact StepsE_nil
 intro w45 hB38
 refine AllE_cons rfl rfl rfl ?_
 intro v25 F17 hv26
 refine AllE_cons rfl rfl rfl ?_
 intro v26 F18 hv27
 refine AllE_cons rfl rfl rfl ?_
 rintro _ _ ⟨rfl, rfl⟩
 refine AllE_nil ?_
 intro hn24 hb24
 have hC77 := hC76.pushL hB38 (Bs := [Item.own v26 (x32 : (List (Int × (List Int) × Int × Int × Int))), Item.own v25 (x31 : (List Int))]) (Fs := [F18, F17]) ⟨F18, _, rfl, hv27, F17, _, rfl, hv26, rfl⟩ (by simpa using hn24) (fun b h => (hb24 b (by simpa using h)).1)
 obtain ⟨x33, hr33, hF⟩ := bind_some hF
 refine WA_one 5 (by kernel_rfl) rfl ?_
 refine WL_call Tryz.call13 rfl rfl (c_Q_toQuery (a3.1, a3.2) u3 (g3.now hC77.keep) u4 (g4.now hC77.keep) x33 hr33) ?_
 rintro v27 w46 ⟨hB39, F19, hv28, hn25, hb25⟩
 have hC78 := hC77.push hB39 (A := Item.own v27 x33) hv28 hn25 hb25
 obtain ⟨v28, v29, rfl, hC79⟩ := st37_own hC78
 refine WL_nil ?_
 obtain ⟨x34, hr34, hF⟩ := bind_some hF
 refine WA_one 7 (by kernel_rfl) rfl ?_
 refine WL_call Tryz.call11 rfl rfl (c_Q_toIntS a4 u5 (g5.now hC79.keep) x34 hr34) ?_
 rintro v30 w47 ⟨hB40, F20, hv29, hn26, hb26⟩
 have hC80 := hC79.push hB40 (A := Item.own v30 x34) hv29 hn26 hb26
 refine WL_nil ?_
 obtain ⟨x35, hr35, hF⟩ := bind_some hF
 refine WA_one 8 (by kernel_rfl) rfl ?_
 refine WL_call Tryz.call28 rfl rfl (c_M_LeastDisclosure x31 v25 ((hC80.ro 4 rfl).now (Keep.refl _ _)) x32 v26 ((hC80.ro 3 rfl).now (Keep.refl _ _)) x33 v28 ((hC80.ro 1 rfl).now (Keep.refl _ _)) v29 ((hC80.ro 2 rfl).now (Keep.refl _ _)) x34 v30 ((hC80.ro 0 rfl).now (Keep.refl _ _)) x35 hr35) ?_
 rintro _ w48 ⟨hB41, v31, v32, F21, F22, rfl, hv30, hv31, hn27, hb27⟩
 obtain ⟨rfl, rfl⟩ := val_bool hv31
 have hC81 := hC80.pushL hB41 (Bs := [Item.own v31 x35.1]) (Fs := [F21]) ⟨F21, _, rfl, hv30, rfl⟩ (by simpa using hn27) (fun b h => hb27 b (by simpa using h))
 refine WL_nil ?_
 refine WA_tk 9 (by kernel_rfl) rfl rfl (fl_move rfl) ?_
 refine WL_move rfl rfl ?_
 refine WL_nil ?_
 refine WA_tk 10 (by kernel_rfl) rfl rfl (fl_extract rfl rfl) ?_
 refine WL_extract rfl rfl rfl ?_
 refine WL_nil ?_
 refine WA_tk 11 (by kernel_rfl) rfl rfl (fl_extract rfl rfl) ?_
 refine WL_extract rfl rfl rfl ?_
 refine WL_nil ?_
 refine WA_tk 12 (by kernel_rfl) rfl rfl (fl_assign rfl) ?_
 refine WL_assign rfl rfl ?_
 refine WL_nil ?_
 refine WA_tk 13 (by kernel_rfl) rfl rfl (fl_assign rfl) ?_
 refine WL_assign rfl rfl ?_
 refine WL_nil ?_
 refine WA_done (by kernel_rfl) ?_
 refine nrm_normal (W_seq ?_)
 obtain ⟨r3, hr36, hF⟩ := bind_some hF
 refine W_cut (fun l w => ∃ x36 : Bool, x36 = r3 ∧ l = [(16, v15), (19, (.int .i64 x29.1)), (152, (.bool x36))] ∧ Below w48.heap.size w48 w ∧ Ctx [] w0 w [Item.own v15 (x29.2 : (List Int))]) ?_ ?_
 ·refine W_reg ?_
  refine WL_move rfl rfl ?_
  refine WL_move rfl rfl ?_
  obtain ⟨x37, hr37, hr36⟩ := bind_some hr36
  refine WL_call Tryz.call16 rfl rfl (c_Q_eqIntS x35.1 v31 ((hC81.ro 0 rfl).now (Keep.refl _ _)) x7.1 v7 ((hC81.ro 7 rfl).now (Keep.refl _ _)) x37 hr37) ?_
  intro _ w50 hv32
  obtain ⟨rfl, hB43⟩ := res_bool hv32
  have hC83 := hC81.grow hB43
  refine WL_not rfl rfl ?_
  refine WL_move rfl rfl ?_
  refine WL_fork (fun hc16 => ?_) (fun hc16 => ?_)
  ·replace hr36 := ite_t hr36 hc16
   refine WL_guard_skip rfl rfl (by simp) rfl ?_
   refine WL_guard_skip rfl rfl (by simp) rfl ?_
   refine WL_guard_skip rfl rfl (by simp) rfl ?_
   refine WL_pick_t rfl rfl rfl ?_
   refine WL_nil ?_
   have hq23 := Option.some.inj hr36
   subst hq23
   have hC84 := hC83.f6
   have hC85 := hC84.h1
   refine nrm_sub (l' := [(16, v15), (19, (.int .i64 x29.1)), (152, (.bool true))]) ⟨rfl, rfl, rfl, trivial⟩ ?_
   exact ⟨true, rfl, rfl, (Keep.of hB43).below, hC85⟩
  replace hr36 := ite_f hr36 hc16
  refine WL_guard rfl rfl ?_
  refine WL_move rfl rfl ?_
  refine WL_guard rfl rfl ?_
  refine WL_move rfl rfl ?_
  refine WL_guard rfl rfl ?_
  refine WL_bool_neq Tryz.underlying4 rfl rfl rfl ?_
  refine WL_pick_f rfl rfl rfl ?_
  refine WL_nil ?_
  have hq24 := Option.some.inj hr36
  subst hq24
  have hC86 := hC83.f6
  have hC87 := hC86.h1
  refine nrm_sub (l' := [(16, v15), (19, (.int .i64 x29.1)), (152, (.bool (!decide (x35.2 = x7.2))))]) ⟨rfl, rfl, rfl, trivial⟩ ?_
  exact ⟨(!decide (x35.2 = x7.2)), rfl, rfl, (Keep.of hB43).below, hC87⟩
 rintro _ w49 ⟨x36, rfl, rfl, hB42, hC82⟩
 try dsimp only at hF
 refine W_cond rfl (fun hc17 => ?_) (fun hc17 => ?_)
 ·replace hF := ite_t hF hc17
  refine W_seq_reg ?_
  refine WL_assign rfl rfl ?_
  refine WL_nil (W_ret (nrm_ret ?_))
  have hq25 := Option.some.inj hF
  subst hq25
  refine fn_ret1 rfl rfl ?_
  exact ⟨_, rfl, bool_res hC82 _⟩
 replace hF := ite_f hF hc17
 refine W_skip (nrm_normal (W_seq_reg ?_))
 refine WL_assign rfl rfl ?_
 refine WL_nil (W_seq_reg ?_)
 refine WL_move rfl rfl ?_
 refine WL_move rfl rfl ?_
 obtain ⟨x38, hr38, hF⟩ := bind_some hF
 refine WL_call Tryz.call29 rfl rfl (c_Q_heldIntS x29.2 v15 ((hC82.ro 0 rfl).now (Keep.refl _ _)) 1 x38 hr38) ?_
 intro _ w51 hv33
 obtain ⟨rfl, hB44⟩ := res_int hv33
 have hC88 := hC82.grow hB44
 refine WL_assign rfl rfl ?_
 refine WL_nil (W_seq (W_seq_reg ?_))
 refine WL_move rfl rfl ?_
 refine WL_lss rfl rfl rfl ?_
 refine WL_nil ?_
 refine W_cond rfl (fun hc18 => ?_) (fun hc18 => ?_)
 ·replace hF := ite_t hF hc18
  refine W_seq_reg ?_
  refine WL_assign rfl rfl ?_
  refine WL_nil (W_ret (nrm_ret ?_))
  have hq26 := Option.some.inj hF
  subst hq26
  refine fn_ret1 rfl rfl ?_
  exact ⟨_, rfl, bool_res hC88 _⟩
 replace hF := ite_f hF hc18
 refine W_skip (nrm_normal (W_seq (W_seq_reg ?_)))
 refine WL_move rfl rfl ?_
 refine WL_move rfl rfl ?_
 refine WL_neq rfl rfl rfl ?_
 refine WL_nil ?_
 refine W_cond rfl (fun hc19 => ?_) (fun hc19 => ?_)
 ·replace hF := ite_t hF hc19
  refine W_seq_reg ?_
  refine WL_assign rfl rfl ?_
  refine WL_nil (W_ret (nrm_ret ?_))
  have hq27 := Option.some.inj hF
  subst hq27
  refine fn_ret1 rfl rfl ?_
  exact ⟨_, rfl, bool_res hC88 _⟩
 replace hF := ite_f hF hc19
 refine W_skip (nrm_normal (W_seq_reg ?_))
 refine WL_assign rfl rfl ?_
 refine WL_nil (W_ret ?_)
 have hq28 := Option.some.inj hF
 subst hq28
 refine fn_ret1 rfl rfl ?_
 exact ⟨_, rfl, bool_res hC88 _⟩

end Go.Gx.Px
