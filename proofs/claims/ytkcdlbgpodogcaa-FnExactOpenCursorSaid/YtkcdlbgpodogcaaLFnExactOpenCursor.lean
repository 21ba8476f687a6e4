/- FnExactOpenCursor: for every input the law answers true, and each argument reads as it did. Conditions: none. -/
import Derived.Test.YtkcdlbgpodogcaaC4
import Derived.Test.YtkcdlbgpodogcaaPn
import Derived.Test.YtkcdlbgpodogcaaPas
import Derived.Test.YtkcdlbgpodogcaaPcp
import Derived.Test.YtkcdlbgpodogcaaPc
import Derived.Test.YtkcdlbgpodogcaaPd
import Derived.Test.YtkcdlbgpodogcaaPs
import Derived.Test.YtkcdlbgpodogcaaPe
import Derived.Test.YtkcdlbgpodogcaaPoc
import Derived.Test.YtkcdlbgpodogcaaPlF
import Derived.Test.YtkcdlbgpodogcaaRows
import Derived.Test.YtkcdlbgpodogcaaGxG
import Derived.WalkKit
import Derived.ProofKit
import Derived.OpenShut
import Derived.ShutString
import Derived.Carry
namespace Go.Proofs.Ytkcdlbgpodogcaa.fnExactOpenCursor
open Go.ChangeShapes Go.WideShapes Go.ChangeAt Go.RowKit Go.Gx Go.Gx.Px
open Go.ChangeMaps (open_string shut_string)
set_option linter.unusedVariables false
set_option linter.unusedSimpArgs false

theorem own : ownKnob Try.prog.godebug = none := by kernel_rfl
theorem laid : laidOutB Try.prog = true := by kernel_rfl
theorem opens3 : Opens Try.prog 3 Int := opens_int Try.underlying3
theorem opens22 : Opens Try.prog 22 (List Int) := opens_slice Try.underlying22 opens3 (by kernel_rfl) (by decide)
theorem opens109 : Opens Try.prog 109 (Int × (List Int) × Int × Int × Int) := opens_struct Try.underlying109 (opensFs_cons opens3 rfl (by kernel_rfl) (opensFs_cons opens22 rfl (by kernel_rfl) (opensFs_cons opens3 rfl (by kernel_rfl) (opensFs_cons opens3 rfl (by kernel_rfl) (opensFs_one opens3 rfl (by kernel_rfl)))))) (by kernel_rfl)
theorem opens23 : Opens Try.prog 23 (List (Int × (List Int) × Int × Int × Int)) := opens_slice Try.underlying23 opens109 (by kernel_rfl) (by decide)
theorem opens67 : Opens Try.prog 67 (Int × (List Int)) := opens_struct Try.underlying67 (opensFs_cons opens3 rfl (by kernel_rfl) (opensFs_one opens22 rfl (by kernel_rfl))) (by kernel_rfl)
theorem opens26 : Opens Try.prog 26 (List (Int × (List Int))) := opens_slice Try.underlying26 opens67 (by kernel_rfl) (by decide)
theorem opens65 : Opens Try.prog 65 ((List (Int × (List Int))) × Int) := opens_struct Try.underlying65 (opensFs_cons opens26 rfl (by kernel_rfl) (opensFs_one opens3 rfl (by kernel_rfl))) (by kernel_rfl)
theorem opens25 : Opens Try.prog 25 (Int × (List Int)) := opens_struct Try.underlying25 (opensFs_cons opens3 rfl (by kernel_rfl) (opensFs_one opens22 rfl (by kernel_rfl))) (by kernel_rfl)

set_option maxRecDepth 100000 in
theorem lifted (os : Os) (started : os.Started) (H : Type) (enc : TypeId × Value → H) :
    ReturnsInHanded {} Try.checked os 11 .any (Rows.fnExactOpenCursorSpec.pre6 enc Try.prog Try.f11 Rows.fnExactOpenCursorRow.domain false) (Rows.fnExactOpenCursorSpec.post enc Try.prog Try.f11 false true false false) := by
  refine returnsInHanded_of_change (C := Try.checked) own started (by kernel_rfl) Try.func11
    (ChangeSpec.witness6 (enc := enc) (C := Try.checked) false ⟨#[], #[.slice none 0 0, .slice none 0 0, .agg #[.slice none 0 0, .int .i64 0], .agg #[.int .i64 0, .slice none 0 0]], []⟩ 8 (by kernel_rfl) (by kernel_rfl) (by kernel_rfl) (by kernel_rfl)) ?_
  intro W base args ds gs before hval0 hW hcnd _
  have hval : ∀ (j : Nat) t v, Try.f11.params[j]? = some t → args[j]? = some v → Value.okWide Try.prog W .any base t v := hval0
  have hW' := hW
  obtain ⟨p, q, hA0, hV, rfl, hfz, hnd⟩ := hW
  have hA : DataW.TrodAll enc Try.prog W 0 (fun _ => true) true Try.f11.params.toList args.toList ds p := hA0
  rw [Try.params11] at hA hval
  obtain ⟨v0, vs0, d0, ds0, p0, q0, hargs, rfl, rfl, h0, r0⟩ := trodAll_cons hA
  obtain ⟨v1, vs1, d1, ds1, p1, q1, rfl, rfl, rfl, h1, r1⟩ := trodAll_cons r0
  obtain ⟨v2, vs2, d2, ds2, p2, q2, rfl, rfl, rfl, h2, r2⟩ := trodAll_cons r1
  obtain ⟨v3, vs3, d3, ds3, p3, q3, rfl, rfl, rfl, h3, r3⟩ := trodAll_cons r2
  obtain ⟨rfl, rfl, rfl⟩ := trodAll_nil r3
  obtain rfl : args = #[v0, v1, v2, v3] := by cases args; simp_all
  obtain ⟨rfl, rfl⟩ := trodVars_none hV
  clear hA0 hval0
  simp only [List.append_nil] at hW'
  have hlt := hW'.lt
  have k0 := h0
  obtain ⟨a0, len0, cap0, rfl⟩ := okWide_slice Try.underlying22 (hval 0 22 v0 rfl rfl)
  obtain ⟨x0, g0, b0⟩ := ro_of_trod (v := .slice a0 len0 cap0) opens22 rfl h0
  have k1 := h1
  obtain ⟨a1, len1, cap1, rfl⟩ := okWide_slice Try.underlying23 (hval 1 23 v1 rfl rfl)
  obtain ⟨x1, g1, b1⟩ := ro_of_trod (v := .slice a1 len1 cap1) opens23 rfl h1
  have k2 := h2
  obtain ⟨cs2, rfl, _, _⟩ : ∃ cs, v2 = .agg cs ∧ cs.size = Try.prog.cellsOf 65 ∧ Row.okWide Try.prog W .any base 65 cs := by have h := (hval 2 65 v2 rfl rfl); unfold Value.okWide at h; rw [Try.underlying65] at h; exact h
  obtain ⟨x2, g2, b2⟩ := ro_of_trod opens65 ⟨_, rfl⟩ h2
  obtain ⟨u2_0, e2, g2_0⟩ := ro_st65 g2
  rw [e2]
  have k3 := h3
  obtain ⟨cs3, rfl, _, _⟩ : ∃ cs, v3 = .agg cs ∧ cs.size = Try.prog.cellsOf 25 ∧ Row.okWide Try.prog W .any base 25 cs := by have h := (hval 3 25 v3 rfl rfl); unfold Value.okWide at h; rw [Try.underlying25] at h; exact h
  obtain ⟨x3, g3, b3⟩ := ro_of_trod opens25 ⟨_, rfl⟩ h3
  obtain ⟨u3_0, e3, g3_0⟩ := ro_st25 g3
  rw [e3]
  refine (c_Q_FnExactOpenCursor x0 _ g0 x1 _ g1 x2 _ g2_0 x3 _ g3_0 true (p_FnExactOpenCursor x0 x1 x2 x3 b0 b1 b2 b3)).mono ?_
  rintro e W' ⟨v, rfl, hres⟩
  obtain ⟨rfl, hb⟩ := res_bool hres
  rw [← e2]
  rw [← e3]
  exact ⟨_, rfl, _, _, _, [], _, [], hW', trodAll_cons_mk (shut_bool Try.underlying4 _) trodAll_mk0, (trodAll_cons_mk (Below.trod laid (by kernel_rfl) (of_decide_eq_true (by kernel_rfl)) k0 hb (fun x hx => hlt x (by simp [hx]))) (trodAll_cons_mk (Below.trod laid (by kernel_rfl) (of_decide_eq_true (by kernel_rfl)) k1 hb (fun x hx => hlt x (by simp [hx]))) (trodAll_cons_mk (Below.trod laid (by kernel_rfl) (of_decide_eq_true (by kernel_rfl)) k2 hb (fun x hx => hlt x (by simp [hx]))) (trodAll_cons_mk (Below.trod laid (by kernel_rfl) (of_decide_eq_true (by kernel_rfl)) k3 hb (fun x hx => hlt x (by simp [hx]))) trodAll_mk0)))), rfl, hb.frame _, fun h => by cases h⟩

theorem over : Rows.fnExactOpenCursorRow.holds Try.pinned (OpenSpec.ofChange Rows.fnExactOpenCursorSpec) :=
  OpenClaim.holds_of_wide 11 Try.f11 rfl rfl rfl rfl rfl rfl rfl ⟨rfl, rfl, rfl, rfl, rfl⟩ rfl rfl rfl rfl rfl (by kernel_rfl) Try.func11 (by kernel_rfl)
    (of_decide_eq_true (by kernel_rfl)) (by unfold Func.isWrapper; first | (rw [if_pos (by decide +kernel)]; kernel_rfl) | (rw [if_neg (by decide +kernel)]; exact ⟨rfl, rfl⟩))
    (fun os started H enc _ => lifted os started H enc)

theorem proved : Rows.FnExactOpenCursorSaid :=
  over
#print axioms proved
end Go.Proofs.Ytkcdlbgpodogcaa.fnExactOpenCursor
