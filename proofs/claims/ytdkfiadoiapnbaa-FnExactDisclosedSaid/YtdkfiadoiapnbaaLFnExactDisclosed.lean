/- FnExactDisclosed: for every input the law answers true, and each argument reads as it did. Conditions: none. -/
import Derived.Test.YtdkfiadoiapnbaaC2
import Derived.Test.YtdkfiadoiapnbaaPqs8
import Derived.Test.YtdkfiadoiapnbaaPlF
import Derived.Test.YtdkfiadoiapnbaaRows
import Derived.Test.YtdkfiadoiapnbaaGxG
import Derived.WalkKit
import Derived.ProofKit
import Derived.OpenShut
import Derived.ShutString
import Derived.Carry
namespace Go.Proofs.Ytdkfiadoiapnbaa.fnExactDisclosed
open Go.ChangeShapes Go.WideShapes Go.ChangeAt Go.RowKit Go.Gx Go.Gx.Px
open Go.ChangeMaps (open_string shut_string)
set_option linter.unusedVariables false
set_option linter.unusedSimpArgs false

theorem own : ownKnob Try.prog.godebug = none := by kernel_rfl
theorem laid : laidOutB Try.prog = true := by kernel_rfl
theorem opens3 : Opens Try.prog 3 Int := opens_int Try.underlying3
theorem opens23 : Opens Try.prog 23 (List Int) := opens_slice Try.underlying23 opens3 (by kernel_rfl) (by decide)
theorem opens51 : Opens Try.prog 51 (Int × (List Int) × Int × Int × Int) := opens_struct Try.underlying51 (opensFs_cons opens3 rfl (by kernel_rfl) (opensFs_cons opens23 rfl (by kernel_rfl) (opensFs_cons opens3 rfl (by kernel_rfl) (opensFs_cons opens3 rfl (by kernel_rfl) (opensFs_one opens3 rfl (by kernel_rfl)))))) (by kernel_rfl)
theorem opens22 : Opens Try.prog 22 (List (Int × (List Int) × Int × Int × Int)) := opens_slice Try.underlying22 opens51 (by kernel_rfl) (by decide)
theorem opens72 : Opens Try.prog 72 (Int × (List Int)) := opens_struct Try.underlying72 (opensFs_cons opens3 rfl (by kernel_rfl) (opensFs_one opens23 rfl (by kernel_rfl))) (by kernel_rfl)
theorem opens24 : Opens Try.prog 24 (List (Int × (List Int))) := opens_slice Try.underlying24 opens72 (by kernel_rfl) (by decide)
theorem opens26 : Opens Try.prog 26 ((List Int) × (List (Int × (List Int)))) := opens_struct Try.underlying26 (opensFs_cons opens23 rfl (by kernel_rfl) (opensFs_one opens24 rfl (by kernel_rfl))) (by kernel_rfl)
theorem opens65 : Opens Try.prog 65 (Int × Int) := opens_struct Try.underlying65 (opensFs_cons opens3 rfl (by kernel_rfl) (opensFs_one opens3 rfl (by kernel_rfl))) (by kernel_rfl)
theorem opens27 : Opens Try.prog 27 (List (Int × Int)) := opens_slice Try.underlying27 opens65 (by kernel_rfl) (by decide)

set_option maxRecDepth 100000 in
theorem lifted (os : Os) (started : os.Started) (H : Type) (enc : TypeId × Value → H) :
    ReturnsInHanded {} Try.checked os 3 .any (Rows.fnExactDisclosedSpec.pre6 enc Try.prog Try.f3 Rows.fnExactDisclosedRow.domain false) (Rows.fnExactDisclosedSpec.post enc Try.prog Try.f3 false true false false) := by
  refine returnsInHanded_of_change (C := Try.checked) own started (by kernel_rfl) Try.func3
    (ChangeSpec.witness6 (enc := enc) (C := Try.checked) false ⟨#[], #[.slice none 0 0, .agg #[.slice none 0 0, .slice none 0 0], .slice none 0 0], []⟩ 8 (by kernel_rfl) (by kernel_rfl) (by kernel_rfl) (by kernel_rfl)) ?_
  intro W base args ds gs before hval0 hW hcnd _
  have hval : ∀ (j : Nat) t v, Try.f3.params[j]? = some t → args[j]? = some v → Value.okWide Try.prog W .any base t v := hval0
  have hW' := hW
  obtain ⟨p, q, hA0, hV, rfl, hfz, hnd⟩ := hW
  have hA : DataW.TrodAll enc Try.prog W 0 (fun _ => true) true Try.f3.params.toList args.toList ds p := hA0
  rw [Try.params3] at hA hval
  obtain ⟨v0, vs0, d0, ds0, p0, q0, hargs, rfl, rfl, h0, r0⟩ := trodAll_cons hA
  obtain ⟨v1, vs1, d1, ds1, p1, q1, rfl, rfl, rfl, h1, r1⟩ := trodAll_cons r0
  obtain ⟨v2, vs2, d2, ds2, p2, q2, rfl, rfl, rfl, h2, r2⟩ := trodAll_cons r1
  obtain ⟨rfl, rfl, rfl⟩ := trodAll_nil r2
  obtain rfl : args = #[v0, v1, v2] := by cases args; simp_all
  obtain ⟨rfl, rfl⟩ := trodVars_none hV
  clear hA0 hval0
  simp only [List.append_nil] at hW'
  have hlt := hW'.lt
  have k0 := h0
  obtain ⟨a0, len0, cap0, rfl⟩ := okWide_slice Try.underlying22 (hval 0 22 v0 rfl rfl)
  obtain ⟨x0, g0, b0⟩ := ro_of_trod (v := .slice a0 len0 cap0) opens22 rfl h0
  have k1 := h1
  obtain ⟨cs1, rfl, _, _⟩ : ∃ cs, v1 = .agg cs ∧ cs.size = Try.prog.cellsOf 26 ∧ Row.okWide Try.prog W .any base 26 cs := by have h := (hval 1 26 v1 rfl rfl); unfold Value.okWide at h; rw [Try.underlying26] at h; exact h
  obtain ⟨x1, g1, b1⟩ := ro_of_trod opens26 ⟨_, rfl⟩ h1
  obtain ⟨u1_0, u1_1, e1, g1_0, g1_1⟩ := ro_st26 g1
  rw [e1]
  have k2 := h2
  obtain ⟨a2, len2, cap2, rfl⟩ := okWide_slice Try.underlying27 (hval 2 27 v2 rfl rfl)
  obtain ⟨x2, g2, b2⟩ := ro_of_trod (v := .slice a2 len2 cap2) opens27 rfl h2
  refine (c_Q_FnExactDisclosed x0 _ g0 x1 _ g1_0 _ g1_1 x2 _ g2 true (p_FnExactDisclosed x0 x1 x2 b0 b1 b2)).mono ?_
  rintro e W' ⟨v, rfl, hres⟩
  obtain ⟨rfl, hb⟩ := res_bool hres
  rw [← e1]
  exact ⟨_, rfl, _, _, _, [], _, [], hW', trodAll_cons_mk (shut_bool Try.underlying4 _) trodAll_mk0, (trodAll_cons_mk (Below.trod laid (by kernel_rfl) (of_decide_eq_true (by kernel_rfl)) k0 hb (fun x hx => hlt x (by simp [hx]))) (trodAll_cons_mk (Below.trod laid (by kernel_rfl) (of_decide_eq_true (by kernel_rfl)) k1 hb (fun x hx => hlt x (by simp [hx]))) (trodAll_cons_mk (Below.trod laid (by kernel_rfl) (of_decide_eq_true (by kernel_rfl)) k2 hb (fun x hx => hlt x (by simp [hx]))) trodAll_mk0))), rfl, hb.frame _, fun h => by cases h⟩

theorem over : Rows.fnExactDisclosedRow.holds Try.pinned (OpenSpec.ofChange Rows.fnExactDisclosedSpec) :=
  OpenClaim.holds_of_wide 3 Try.f3 rfl rfl rfl rfl rfl rfl rfl ⟨rfl, rfl, rfl, rfl, rfl⟩ rfl rfl rfl rfl rfl (by kernel_rfl) Try.func3 (by kernel_rfl)
    (of_decide_eq_true (by kernel_rfl)) (by unfold Func.isWrapper; first | (rw [if_pos (by decide +kernel)]; kernel_rfl) | (rw [if_neg (by decide +kernel)]; exact ⟨rfl, rfl⟩))
    (fun os started H enc _ => lifted os started H enc)

theorem proved : Rows.FnExactDisclosedSaid :=
  over
#print axioms proved
end Go.Proofs.Ytdkfiadoiapnbaa.fnExactDisclosed
