/- FnExactScheduleLog: for every input the law answers true, and each argument reads as it did. Conditions: none. -/
import Derived.Test.YtpkooeejhbjajaaC3
import Derived.Test.YtpkooeejhbjajaaPslA
import Derived.Test.YtpkooeejhbjajaaPwS
import Derived.Test.YtpkooeejhbjajaaPsl
import Derived.Test.YtpkooeejhbjajaaPlF
import Derived.Test.YtpkooeejhbjajaaRows
import Derived.Test.YtpkooeejhbjajaaGxG
import Derived.WalkKit
import Derived.ProofKit
import Derived.OpenShut
import Derived.ShutString
import Derived.Carry
namespace Go.Proofs.Ytpkooeejhbjajaa.fnExactScheduleLog
open Go.ChangeShapes Go.WideShapes Go.ChangeAt Go.RowKit Go.Gx Go.Gx.Px
open Go.ChangeMaps (open_string shut_string)
set_option linter.unusedVariables false
set_option linter.unusedSimpArgs false

theorem own : ownKnob Try.prog.godebug = none := by kernel_rfl
theorem laid : laidOutB Try.prog = true := by kernel_rfl
theorem opens3 : Opens Try.prog 3 Int := opens_int Try.underlying3
theorem opens26 : Opens Try.prog 26 (List Int) := opens_slice Try.underlying26 opens3 (by kernel_rfl) (by decide)
theorem opens52 : Opens Try.prog 52 (Int × (List Int) × Int × Int × Int) := opens_struct Try.underlying52 (opensFs_cons opens3 rfl (by kernel_rfl) (opensFs_cons opens26 rfl (by kernel_rfl) (opensFs_cons opens3 rfl (by kernel_rfl) (opensFs_cons opens3 rfl (by kernel_rfl) (opensFs_one opens3 rfl (by kernel_rfl)))))) (by kernel_rfl)
theorem opens22 : Opens Try.prog 22 (List (Int × (List Int) × Int × Int × Int)) := opens_slice Try.underlying22 opens52 (by kernel_rfl) (by decide)
theorem opens54 : Opens Try.prog 54 (Int × (List Int)) := opens_struct Try.underlying54 (opensFs_cons opens3 rfl (by kernel_rfl) (opensFs_one opens26 rfl (by kernel_rfl))) (by kernel_rfl)
theorem opens23 : Opens Try.prog 23 (List (Int × (List Int))) := opens_slice Try.underlying23 opens54 (by kernel_rfl) (by decide)

set_option maxRecDepth 100000 in
theorem lifted (os : Os) (started : os.Started) (H : Type) (enc : TypeId × Value → H) :
    ReturnsInHanded {} Try.checked os 3 .any (Rows.fnExactScheduleLogSpec.pre6 enc Try.prog Try.f3 Rows.fnExactScheduleLogRow.domain false) (Rows.fnExactScheduleLogSpec.post enc Try.prog Try.f3 false true false false) := by
  refine returnsInHanded_of_change (C := Try.checked) own started (by kernel_rfl) Try.func3
    (ChangeSpec.witness6 (enc := enc) (C := Try.checked) false ⟨#[], #[.slice none 0 0, .slice none 0 0, .int .i64 0, .int .i64 0], []⟩ 8 (by kernel_rfl) (by kernel_rfl) (by kernel_rfl) (by kernel_rfl)) ?_
  intro W base args ds gs before hval0 hW hcnd _
  have hval : ∀ (j : Nat) t v, Try.f3.params[j]? = some t → args[j]? = some v → Value.okWide Try.prog W .any base t v := hval0
  have hW' := hW
  obtain ⟨p, q, hA0, hV, rfl, hfz, hnd⟩ := hW
  have hA : DataW.TrodAll enc Try.prog W 0 (fun _ => true) true Try.f3.params.toList args.toList ds p := hA0
  rw [Try.params3] at hA hval
  obtain ⟨v0, vs0, d0, ds0, p0, q0, hargs, rfl, rfl, h0, r0⟩ := trodAll_cons hA
  obtain ⟨v1, vs1, d1, ds1, p1, q1, rfl, rfl, rfl, h1, r1⟩ := trodAll_cons r0
  obtain ⟨v2, vs2, d2, ds2, p2, q2, rfl, rfl, rfl, h2, r2⟩ := trodAll_cons r1
  obtain ⟨v3, vs3, d3, ds3, p3, q3, rfl, rfl, rfl, h3, r3⟩ := trodAll_cons r2
  obtain ⟨rfl, rfl, rfl⟩ := trodAll_nil r3
  obtain rfl : args = #[v0, v1, v2, v3] := by cases args; simp_all
  obtain ⟨rfl, rfl⟩ := trodVars_none hV
  clear hA0 hval0
  simp only [List.append_nil] at hW'
  have hlt := hW'.lt
  have k0 := h0
  obtain ⟨a0, len0, cap0, rfl⟩ := okWide_slice Try.underlying22 (hval 0 22 v0 rfl rfl)
  obtain ⟨x0, g0, b0⟩ := ro_of_trod (v := .slice a0 len0 cap0) opens22 rfl h0
  have k1 := h1
  obtain ⟨a1, len1, cap1, rfl⟩ := okWide_slice Try.underlying23 (hval 1 23 v1 rfl rfl)
  obtain ⟨x1, g1, b1⟩ := ro_of_trod (v := .slice a1 len1 cap1) opens23 rfl h1
  have k2 := h2
  obtain ⟨x2, rfl, rfl, rfl, w2⟩ := open_int Try.underlying3 (hval 2 3 v2 rfl rfl) h2
  have b2 : -9223372036854775808 ≤ x2 ∧ x2 ≤ 9223372036854775807 := by simpa [Lit.wf, IntKind.min, IntKind.max, IntKind.signed, IntKind.bits] using w2
  have k3 := h3
  obtain ⟨x3, rfl, rfl, rfl, w3⟩ := open_int Try.underlying3 (hval 3 3 v3 rfl rfl) h3
  have b3 : -9223372036854775808 ≤ x3 ∧ x3 ≤ 9223372036854775807 := by simpa [Lit.wf, IntKind.min, IntKind.max, IntKind.signed, IntKind.bits] using w3
  refine (c_Q_FnExactScheduleLog x0 _ g0 x1 _ g1 x2 x3 true (p_FnExactScheduleLog x0 x1 x2 x3 b0 b1 b2 b3)).mono ?_
  rintro e W' ⟨v, rfl, hres⟩
  obtain ⟨rfl, hb⟩ := res_bool hres
  exact ⟨_, rfl, _, _, _, [], _, [], hW', trodAll_cons_mk (shut_bool Try.underlying4 _) trodAll_mk0, (trodAll_cons_mk (Below.trod laid (by kernel_rfl) (of_decide_eq_true (by kernel_rfl)) k0 hb (fun x hx => hlt x (by simp [hx]))) (trodAll_cons_mk (Below.trod laid (by kernel_rfl) (of_decide_eq_true (by kernel_rfl)) k1 hb (fun x hx => hlt x (by simp [hx]))) (trodAll_cons_mk (Below.trod laid (by kernel_rfl) (of_decide_eq_true (by kernel_rfl)) k2 hb (fun x hx => by cases hx)) (trodAll_cons_mk (Below.trod laid (by kernel_rfl) (of_decide_eq_true (by kernel_rfl)) k3 hb (fun x hx => by cases hx)) trodAll_mk0)))), rfl, hb.frame _, fun h => by cases h⟩

theorem over : Rows.fnExactScheduleLogRow.holds Try.pinned (OpenSpec.ofChange Rows.fnExactScheduleLogSpec) :=
  OpenClaim.holds_of_wide 3 Try.f3 rfl rfl rfl rfl rfl rfl rfl ⟨rfl, rfl, rfl, rfl, rfl⟩ rfl rfl rfl rfl rfl (by kernel_rfl) Try.func3 (by kernel_rfl)
    (of_decide_eq_true (by kernel_rfl)) (by unfold Func.isWrapper; first | (rw [if_pos (by decide +kernel)]; kernel_rfl) | (rw [if_neg (by decide +kernel)]; exact ⟨rfl, rfl⟩))
    (fun os started H enc _ => lifted os started H enc)

theorem proved : Rows.FnExactScheduleLogSaid :=
  over
#print axioms proved
end Go.Proofs.Ytpkooeejhbjajaa.fnExactScheduleLog
