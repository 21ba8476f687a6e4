/- FnExactSwapValue: for every input the law answers true, and each argument reads as it did. Conditions: none. -/
import Derived.Test.YtnlaijbfggelfaaC1
import Derived.Test.YtnlaijbfggelfaaPn
import Derived.Test.YtnlaijbfggelfaaPsv
import Derived.Test.YtnlaijbfggelfaaPlF
import Derived.Test.YtnlaijbfggelfaaRows
import Derived.Test.YtnlaijbfggelfaaGxG
import Derived.WalkKit
import Derived.ProofKit
import Derived.OpenShut
import Derived.ShutString
import Derived.Carry
namespace Go.Proofs.Ytnlaijbfggelfaa.fnExactSwapValue
open Go.ChangeShapes Go.WideShapes Go.ChangeAt Go.RowKit Go.Gx Go.Gx.Px
open Go.ChangeMaps (open_string shut_string)
set_option linter.unusedVariables false
set_option linter.unusedSimpArgs false

theorem own : ownKnob Try.prog.godebug = none := by kernel_rfl
theorem laid : laidOutB Try.prog = true := by kernel_rfl
theorem opens3 : Opens Try.prog 3 Int := opens_int Try.underlying3
theorem opens28 : Opens Try.prog 28 (List Int) := opens_slice Try.underlying28 opens3 (by kernel_rfl) (by decide)
theorem opens82 : Opens Try.prog 82 (Int × (List Int)) := opens_struct Try.underlying82 (opensFs_cons opens3 rfl (by kernel_rfl) (opensFs_one opens28 rfl (by kernel_rfl))) (by kernel_rfl)
theorem opens43 : Opens Try.prog 43 (List (Int × (List Int))) := opens_slice Try.underlying43 opens82 (by kernel_rfl) (by decide)
theorem opens45 : Opens Try.prog 45 ((List Int) × (List (Int × (List Int)))) := opens_struct Try.underlying45 (opensFs_cons opens28 rfl (by kernel_rfl) (opensFs_one opens43 rfl (by kernel_rfl))) (by kernel_rfl)

set_option maxRecDepth 100000 in
theorem lifted (os : Os) (started : os.Started) (H : Type) (enc : TypeId × Value → H) :
    ReturnsInHanded {} Try.checked os 4 .any (Rows.fnExactSwapValueSpec.pre6 enc Try.prog Try.f4 Rows.fnExactSwapValueRow.domain false) (Rows.fnExactSwapValueSpec.post enc Try.prog Try.f4 false true false false) := by
  refine returnsInHanded_of_change (C := Try.checked) own started (by kernel_rfl) Try.func4
    (ChangeSpec.witness6 (enc := enc) (C := Try.checked) false ⟨#[], #[.agg #[.slice none 0 0, .slice none 0 0], .int .i64 0, .int .i64 0], []⟩ 8 (by kernel_rfl) (by kernel_rfl) (by kernel_rfl) (by kernel_rfl)) ?_
  intro W base args ds gs before hval0 hW hcnd _
  have hval : ∀ (j : Nat) t v, Try.f4.params[j]? = some t → args[j]? = some v → Value.okWide Try.prog W .any base t v := hval0
  have hW' := hW
  obtain ⟨p, q, hA0, hV, rfl, hfz, hnd⟩ := hW
  have hA : DataW.TrodAll enc Try.prog W 0 (fun _ => true) true Try.f4.params.toList args.toList ds p := hA0
  rw [Try.params4] at hA hval
  obtain ⟨v0, vs0, d0, ds0, p0, q0, hargs, rfl, rfl, h0, r0⟩ := trodAll_cons hA
  obtain ⟨v1, vs1, d1, ds1, p1, q1, rfl, rfl, rfl, h1, r1⟩ := trodAll_cons r0
  obtain ⟨v2, vs2, d2, ds2, p2, q2, rfl, rfl, rfl, h2, r2⟩ := trodAll_cons r1
  obtain ⟨rfl, rfl, rfl⟩ := trodAll_nil r2
  obtain rfl : args = #[v0, v1, v2] := by cases args; simp_all
  obtain ⟨rfl, rfl⟩ := trodVars_none hV
  clear hA0 hval0
  simp only [List.append_nil] at hW'
  have hlt := hW'.lt
  have k0 := h0
  obtain ⟨cs0, rfl, _, _⟩ : ∃ cs, v0 = .agg cs ∧ cs.size = Try.prog.cellsOf 45 ∧ Row.okWide Try.prog W .any base 45 cs := by have h := (hval 0 45 v0 rfl rfl); unfold Value.okWide at h; rw [Try.underlying45] at h; exact h
  obtain ⟨x0, g0, b0⟩ := ro_of_trod opens45 ⟨_, rfl⟩ h0
  obtain ⟨u0_0, u0_1, e0, g0_0, g0_1⟩ := ro_st45 g0
  rw [e0]
  have k1 := h1
  obtain ⟨x1, rfl, rfl, rfl, w1⟩ := open_int Try.underlying3 (hval 1 3 v1 rfl rfl) h1
  have b1 : -9223372036854775808 ≤ x1 ∧ x1 ≤ 9223372036854775807 := by simpa [Lit.wf, IntKind.min, IntKind.max, IntKind.signed, IntKind.bits] using w1
  have k2 := h2
  obtain ⟨x2, rfl, rfl, rfl, w2⟩ := open_int Try.underlying3 (hval 2 3 v2 rfl rfl) h2
  have b2 : -9223372036854775808 ≤ x2 ∧ x2 ≤ 9223372036854775807 := by simpa [Lit.wf, IntKind.min, IntKind.max, IntKind.signed, IntKind.bits] using w2
  refine (c_Q_FnExactSwapValue x0 _ g0_0 _ g0_1 x1 x2 true (p_FnExactSwapValue x0 x1 x2 b0 b1 b2)).mono ?_
  rintro e W' ⟨v, rfl, hres⟩
  obtain ⟨rfl, hb⟩ := res_bool hres
  rw [← e0]
  exact ⟨_, rfl, _, _, _, [], _, [], hW', trodAll_cons_mk (shut_bool Try.underlying4 _) trodAll_mk0, (trodAll_cons_mk (Below.trod laid (by kernel_rfl) (of_decide_eq_true (by kernel_rfl)) k0 hb (fun x hx => hlt x (by simp [hx]))) (trodAll_cons_mk (Below.trod laid (by kernel_rfl) (of_decide_eq_true (by kernel_rfl)) k1 hb (fun x hx => by cases hx)) (trodAll_cons_mk (Below.trod laid (by kernel_rfl) (of_decide_eq_true (by kernel_rfl)) k2 hb (fun x hx => by cases hx)) trodAll_mk0))), rfl, hb.frame _, fun h => by cases h⟩

theorem over : Rows.fnExactSwapValueRow.holds Try.pinned (OpenSpec.ofChange Rows.fnExactSwapValueSpec) :=
  OpenClaim.holds_of_wide 4 Try.f4 rfl rfl rfl rfl rfl rfl rfl ⟨rfl, rfl, rfl, rfl, rfl⟩ rfl rfl rfl rfl rfl (by kernel_rfl) Try.func4 (by kernel_rfl)
    (of_decide_eq_true (by kernel_rfl)) (by unfold Func.isWrapper; first | (rw [if_pos (by decide +kernel)]; kernel_rfl) | (rw [if_neg (by decide +kernel)]; exact ⟨rfl, rfl⟩))
    (fun os started H enc _ => lifted os started H enc)

theorem proved : Rows.FnExactSwapValueSaid :=
  over
#print axioms proved
end Go.Proofs.Ytnlaijbfggelfaa.fnExactSwapValue
