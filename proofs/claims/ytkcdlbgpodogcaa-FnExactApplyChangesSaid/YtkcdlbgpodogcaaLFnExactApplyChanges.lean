/- FnExactApplyChanges: for every input the law answers true, and each argument reads as it did. Conditions: none. -/
import Derived.Test.YtkcdlbgpodogcaaC3
import Derived.Test.YtkcdlbgpodogcaaPn
import Derived.Test.YtkcdlbgpodogcaaPcp
import Derived.Test.YtkcdlbgpodogcaaPdl
import Derived.Test.YtkcdlbgpodogcaaPone
import Derived.Test.YtkcdlbgpodogcaaPa
import Derived.Test.YtkcdlbgpodogcaaPc
import Derived.Test.YtkcdlbgpodogcaaPd
import Derived.Test.YtkcdlbgpodogcaaPs
import Derived.Test.YtkcdlbgpodogcaaPhf
import Derived.Test.YtkcdlbgpodogcaaPf
import Derived.Test.YtkcdlbgpodogcaaPac
import Derived.Test.YtkcdlbgpodogcaaPlF
import Derived.Test.YtkcdlbgpodogcaaRows
import Derived.Test.YtkcdlbgpodogcaaGxG
import Derived.WalkKit
import Derived.ProofKit
import Derived.OpenShut
import Derived.ShutString
import Derived.Carry
namespace Go.Proofs.Ytkcdlbgpodogcaa.fnExactApplyChanges
open Go.ChangeShapes Go.WideShapes Go.ChangeAt Go.RowKit Go.Gx Go.Gx.Px
open Go.ChangeMaps (open_string shut_string)
set_option linter.unusedVariables false
set_option linter.unusedSimpArgs false

theorem own : ownKnob Try.prog.godebug = none := by kernel_rfl
theorem laid : laidOutB Try.prog = true := by kernel_rfl
theorem opens3 : Opens Try.prog 3 Int := opens_int Try.underlying3
theorem opens22 : Opens Try.prog 22 (List Int) := opens_slice Try.underlying22 opens3 (by kernel_rfl) (by decide)
theorem opens67 : Opens Try.prog 67 (Int × (List Int)) := opens_struct Try.underlying67 (opensFs_cons opens3 rfl (by kernel_rfl) (opensFs_one opens22 rfl (by kernel_rfl))) (by kernel_rfl)
theorem opens26 : Opens Try.prog 26 (List (Int × (List Int))) := opens_slice Try.underlying26 opens67 (by kernel_rfl) (by decide)
theorem opens65 : Opens Try.prog 65 ((List (Int × (List Int))) × Int) := opens_struct Try.underlying65 (opensFs_cons opens26 rfl (by kernel_rfl) (opensFs_one opens3 rfl (by kernel_rfl))) (by kernel_rfl)
theorem opens4 : Opens Try.prog 4 Bool := opens_bool Try.underlying4
theorem opens69 : Opens Try.prog 69 (Bool × (Int × (List Int))) := opens_struct Try.underlying69 (opensFs_cons opens4 rfl (by kernel_rfl) (opensFs_one opens67 rfl (by kernel_rfl))) (by kernel_rfl)
theorem opens87 : Opens Try.prog 87 (List (Bool × (Int × (List Int)))) := opens_slice Try.underlying87 opens69 (by kernel_rfl) (by decide)

set_option maxRecDepth 100000 in
theorem lifted (os : Os) (started : os.Started) (H : Type) (enc : TypeId × Value → H) :
    ReturnsInHanded {} Try.checked os 10 .any (Rows.fnExactApplyChangesSpec.pre6 enc Try.prog Try.f10 Rows.fnExactApplyChangesRow.domain false) (Rows.fnExactApplyChangesSpec.post enc Try.prog Try.f10 false true false false) := by
  refine returnsInHanded_of_change (C := Try.checked) own started (by kernel_rfl) Try.func10
    (ChangeSpec.witness6 (enc := enc) (C := Try.checked) false ⟨#[], #[.slice none 0 0, .agg #[.slice none 0 0, .int .i64 0], .slice none 0 0], []⟩ 8 (by kernel_rfl) (by kernel_rfl) (by kernel_rfl) (by kernel_rfl)) ?_
  intro W base args ds gs before hval0 hW hcnd _
  have hval : ∀ (j : Nat) t v, Try.f10.params[j]? = some t → args[j]? = some v → Value.okWide Try.prog W .any base t v := hval0
  have hW' := hW
  obtain ⟨p, q, hA0, hV, rfl, hfz, hnd⟩ := hW
  have hA : DataW.TrodAll enc Try.prog W 0 (fun _ => true) true Try.f10.params.toList args.toList ds p := hA0
  rw [Try.params10] at hA hval
  obtain ⟨v0, vs0, d0, ds0, p0, q0, hargs, rfl, rfl, h0, r0⟩ := trodAll_cons hA
  obtain ⟨v1, vs1, d1, ds1, p1, q1, rfl, rfl, rfl, h1, r1⟩ := trodAll_cons r0
  obtain ⟨v2, vs2, d2, ds2, p2, q2, rfl, rfl, rfl, h2, r2⟩ := trodAll_cons r1
  obtain ⟨rfl, rfl, rfl⟩ := trodAll_nil r2
  obtain rfl : args = #[v0, v1, v2] := by cases args; simp_all
  obtain ⟨rfl, rfl⟩ := trodVars_none hV
  clear hA0 hval0
  simp only [List.append_nil] at hW'
  have hlt := hW'.lt
  have k0 := h0
  obtain ⟨a0, len0, cap0, rfl⟩ := okWide_slice Try.underlying22 (hval 0 22 v0 rfl rfl)
  obtain ⟨x0, g0, b0⟩ := ro_of_trod (v := .slice a0 len0 cap0) opens22 rfl h0
  have k1 := h1
  obtain ⟨cs1, rfl, _, _⟩ : ∃ cs, v1 = .agg cs ∧ cs.size = Try.prog.cellsOf 65 ∧ Row.okWide Try.prog W .any base 65 cs := by have h := (hval 1 65 v1 rfl rfl); unfold Value.okWide at h; rw [Try.underlying65] at h; exact h
  obtain ⟨x1, g1, b1⟩ := ro_of_trod opens65 ⟨_, rfl⟩ h1
  obtain ⟨u1_0, e1, g1_0⟩ := ro_st65 g1
  rw [e1]
  have k2 := h2
  obtain ⟨a2, len2, cap2, rfl⟩ := okWide_slice Try.underlying87 (hval 2 87 v2 rfl rfl)
  obtain ⟨x2, g2, b2⟩ := ro_of_trod (v := .slice a2 len2 cap2) opens87 rfl h2
  refine (c_Q_FnExactApplyChanges x0 _ g0 x1 _ g1_0 x2 _ g2 true (p_FnExactApplyChanges x0 x1 x2 b0 b1 b2)).mono ?_
  rintro e W' ⟨v, rfl, hres⟩
  obtain ⟨rfl, hb⟩ := res_bool hres
  rw [← e1]
  exact ⟨_, rfl, _, _, _, [], _, [], hW', trodAll_cons_mk (shut_bool Try.underlying4 _) trodAll_mk0, (trodAll_cons_mk (Below.trod laid (by kernel_rfl) (of_decide_eq_true (by kernel_rfl)) k0 hb (fun x hx => hlt x (by simp [hx]))) (trodAll_cons_mk (Below.trod laid (by kernel_rfl) (of_decide_eq_true (by kernel_rfl)) k1 hb (fun x hx => hlt x (by simp [hx]))) (trodAll_cons_mk (Below.trod laid (by kernel_rfl) (of_decide_eq_true (by kernel_rfl)) k2 hb (fun x hx => hlt x (by simp [hx]))) trodAll_mk0))), rfl, hb.frame _, fun h => by cases h⟩

theorem over : Rows.fnExactApplyChangesRow.holds Try.pinned (OpenSpec.ofChange Rows.fnExactApplyChangesSpec) :=
  OpenClaim.holds_of_wide 10 Try.f10 rfl rfl rfl rfl rfl rfl rfl ⟨rfl, rfl, rfl, rfl, rfl⟩ rfl rfl rfl rfl rfl (by kernel_rfl) Try.func10 (by kernel_rfl)
    (of_decide_eq_true (by kernel_rfl)) (by unfold Func.isWrapper; first | (rw [if_pos (by decide +kernel)]; kernel_rfl) | (rw [if_neg (by decide +kernel)]; exact ⟨rfl, rfl⟩))
    (fun os started H enc _ => lifted os started H enc)

theorem proved : Rows.FnExactApplyChangesSaid :=
  over
#print axioms proved
end Go.Proofs.Ytkcdlbgpodogcaa.fnExactApplyChanges
