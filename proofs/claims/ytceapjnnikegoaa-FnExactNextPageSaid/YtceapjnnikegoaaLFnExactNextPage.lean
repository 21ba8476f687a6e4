/- FnExactNextPage: for every input the law answers true, and each argument reads as it did. Conditions: none. -/
import Derived.Test.YtceapjnnikegoaaC4
import Derived.Test.YtceapjnnikegoaaPn
import Derived.Test.YtceapjnnikegoaaPas
import Derived.Test.YtceapjnnikegoaaPcp
import Derived.Test.YtceapjnnikegoaaPone
import Derived.Test.YtceapjnnikegoaaPa
import Derived.Test.YtceapjnnikegoaaPdl
import Derived.Test.YtceapjnnikegoaaPc
import Derived.Test.YtceapjnnikegoaaPd
import Derived.Test.YtceapjnnikegoaaPs
import Derived.Test.YtceapjnnikegoaaPe
import Derived.Test.YtceapjnnikegoaaPmm
import Derived.Test.YtceapjnnikegoaaPxm
import Derived.Test.YtceapjnnikegoaaPb
import Derived.Test.YtceapjnnikegoaaPacc
import Derived.Test.YtceapjnnikegoaaPnp
import Derived.Test.YtceapjnnikegoaaPlF
import Derived.Test.YtceapjnnikegoaaRows
import Derived.Test.YtceapjnnikegoaaGxG
import Derived.WalkKit
import Derived.ProofKit
import Derived.OpenShut
import Derived.ShutString
import Derived.Carry
namespace Go.Proofs.Ytceapjnnikegoaa.fnExactNextPage
open Go.ChangeShapes Go.WideShapes Go.ChangeAt Go.RowKit Go.Gx Go.Gx.Px
open Go.ChangeMaps (open_string shut_string)
set_option linter.unusedVariables false
set_option linter.unusedSimpArgs false

theorem own : ownKnob Try.prog.godebug = none := by kernel_rfl
theorem laid : laidOutB Try.prog = true := by kernel_rfl
theorem opens3 : Opens Try.prog 3 Int := opens_int Try.underlying3
theorem opens22 : Opens Try.prog 22 (List Int) := opens_slice Try.underlying22 opens3 (by kernel_rfl) (by decide)
theorem opens60 : Opens Try.prog 60 (Int × (List Int) × Int × Int × Int) := opens_struct Try.underlying60 (opensFs_cons opens3 rfl (by kernel_rfl) (opensFs_cons opens22 rfl (by kernel_rfl) (opensFs_cons opens3 rfl (by kernel_rfl) (opensFs_cons opens3 rfl (by kernel_rfl) (opensFs_one opens3 rfl (by kernel_rfl)))))) (by kernel_rfl)
theorem opens23 : Opens Try.prog 23 (List (Int × (List Int) × Int × Int × Int)) := opens_slice Try.underlying23 opens60 (by kernel_rfl) (by decide)
theorem opens83 : Opens Try.prog 83 (Int × (List Int)) := opens_struct Try.underlying83 (opensFs_cons opens3 rfl (by kernel_rfl) (opensFs_one opens22 rfl (by kernel_rfl))) (by kernel_rfl)
theorem opens24 : Opens Try.prog 24 (List (Int × (List Int))) := opens_slice Try.underlying24 opens83 (by kernel_rfl) (by decide)
theorem opens26 : Opens Try.prog 26 ((List (Int × (List Int))) × Int) := opens_struct Try.underlying26 (opensFs_cons opens24 rfl (by kernel_rfl) (opensFs_one opens3 rfl (by kernel_rfl))) (by kernel_rfl)
theorem opens28 : Opens Try.prog 28 (Int × (List Int)) := opens_struct Try.underlying28 (opensFs_cons opens3 rfl (by kernel_rfl) (opensFs_one opens22 rfl (by kernel_rfl))) (by kernel_rfl)
theorem opens30 : Opens Try.prog 30 ((Int × (List Int)) × Int × Int) := opens_struct Try.underlying30 (opensFs_cons opens28 rfl (by kernel_rfl) (opensFs_cons opens3 rfl (by kernel_rfl) (opensFs_one opens3 rfl (by kernel_rfl)))) (by kernel_rfl)

set_option maxRecDepth 100000 in
theorem lifted (os : Os) (started : os.Started) (H : Type) (enc : TypeId × Value → H) :
    ReturnsInHanded {} Try.checked os 3 .any (Rows.fnExactNextPageSpec.pre6 enc Try.prog Try.f3 Rows.fnExactNextPageRow.domain false) (Rows.fnExactNextPageSpec.post enc Try.prog Try.f3 false true false false) := by
  refine returnsInHanded_of_change (C := Try.checked) own started (by kernel_rfl) Try.func3
    (ChangeSpec.witness6 (enc := enc) (C := Try.checked) false ⟨#[], #[.slice none 0 0, .slice none 0 0, .agg #[.slice none 0 0, .int .i64 0], .agg #[.int .i64 0, .slice none 0 0, .int .i64 0, .int .i64 0], .int .i64 0], []⟩ 8 (by kernel_rfl) (by kernel_rfl) (by kernel_rfl) (by kernel_rfl)) ?_
  intro W base args ds gs before hval0 hW hcnd _
  have hval : ∀ (j : Nat) t v, Try.f3.params[j]? = some t → args[j]? = some v → Value.okWide Try.prog W .any base t v := hval0
  have hW' := hW
  obtain ⟨p, q, hA0, hV, rfl, hfz, hnd⟩ := hW
  have hA : DataW.TrodAll enc Try.prog W 0 (fun _ => true) true Try.f3.params.toList args.toList ds p := hA0
  rw [Try.params3] at hA hval
  obtain ⟨v0, vs0, d0, ds0, p0, q0, hargs, rfl, rfl, h0, r0⟩ := trodAll_cons hA
  obtain ⟨v1, vs1, d1, ds1, p1, q1, rfl, rfl, rfl, h1, r1⟩ := trodAll_cons r0
  obtain ⟨v2, vs2, d2, ds2, p2, q2, rfl, rfl, rfl, h2, r2⟩ := trodAll_cons r1
  obtain ⟨v3, vs3, d3, ds3, p3, q3, rfl, rfl, rfl, h3, r3⟩ := trodAll_cons r2
  obtain ⟨v4, vs4, d4, ds4, p4, q4, rfl, rfl, rfl, h4, r4⟩ := trodAll_cons r3
  obtain ⟨rfl, rfl, rfl⟩ := trodAll_nil r4
  obtain rfl : args = #[v0, v1, v2, v3, v4] := by cases args; simp_all
  obtain ⟨rfl, rfl⟩ := trodVars_none hV
  clear hA0 hval0
  simp only [List.append_nil] at hW'
  have hlt := hW'.lt
  have k0 := h0
  obtain ⟨a0, len0, cap0, rfl⟩ := okWide_slice Try.underlying22 (hval 0 22 v0 rfl rfl)
  obtain ⟨x0, g0, b0⟩ := ro_of_trod (v := .slice a0 len0 cap0) opens22 rfl h0
  have k1 := h1
  obtain ⟨a1, len1, cap1, rfl⟩ := okWide_slice Try.underlying23 (hval 1 23 v1 rfl rfl)
  obtain ⟨x1, g1, b1⟩ := ro_of_trod (v := .slice a1 len1 cap1) opens23 rfl h1
  have k2 := h2
  obtain ⟨cs2, rfl, _, _⟩ : ∃ cs, v2 = .agg cs ∧ cs.size = Try.prog.cellsOf 26 ∧ Row.okWide Try.prog W .any base 26 cs := by have h := (hval 2 26 v2 rfl rfl); unfold Value.okWide at h; rw [Try.underlying26] at h; exact h
  obtain ⟨x2, g2, b2⟩ := ro_of_trod opens26 ⟨_, rfl⟩ h2
  obtain ⟨u2_0, e2, g2_0⟩ := ro_st26 g2
  rw [e2]
  have k3 := h3
  obtain ⟨cs3, rfl, _, _⟩ : ∃ cs, v3 = .agg cs ∧ cs.size = Try.prog.cellsOf 30 ∧ Row.okWide Try.prog W .any base 30 cs := by have h := (hval 3 30 v3 rfl rfl); unfold Value.okWide at h; rw [Try.underlying30] at h; exact h
  obtain ⟨x3, g3, b3⟩ := ro_of_trod opens30 ⟨_, rfl⟩ h3
  obtain ⟨u3_0, e3, g3_0⟩ := ro_st30 g3
  rw [e3]
  have k4 := h4
  obtain ⟨x4, rfl, rfl, rfl, w4⟩ := open_int Try.underlying3 (hval 4 3 v4 rfl rfl) h4
  have b4 : -9223372036854775808 ≤ x4 ∧ x4 ≤ 9223372036854775807 := by simpa [Lit.wf, IntKind.min, IntKind.max, IntKind.signed, IntKind.bits] using w4
  refine (c_Q_FnExactNextPage x0 _ g0 x1 _ g1 x2 _ g2_0 x3 _ g3_0 x4 true (p_FnExactNextPage x0 x1 x2 x3 x4 b0 b1 b2 b3 b4)).mono ?_
  rintro e W' ⟨v, rfl, hres⟩
  obtain ⟨rfl, hb⟩ := res_bool hres
  rw [← e2]
  rw [← e3]
  exact ⟨_, rfl, _, _, _, [], _, [], hW', trodAll_cons_mk (shut_bool Try.underlying4 _) trodAll_mk0, (trodAll_cons_mk (Below.trod laid (by kernel_rfl) (of_decide_eq_true (by kernel_rfl)) k0 hb (fun x hx => hlt x (by simp [hx]))) (trodAll_cons_mk (Below.trod laid (by kernel_rfl) (of_decide_eq_true (by kernel_rfl)) k1 hb (fun x hx => hlt x (by simp [hx]))) (trodAll_cons_mk (Below.trod laid (by kernel_rfl) (of_decide_eq_true (by kernel_rfl)) k2 hb (fun x hx => hlt x (by simp [hx]))) (trodAll_cons_mk (Below.trod laid (by kernel_rfl) (of_decide_eq_true (by kernel_rfl)) k3 hb (fun x hx => hlt x (by simp [hx]))) (trodAll_cons_mk (Below.trod laid (by kernel_rfl) (of_decide_eq_true (by kernel_rfl)) k4 hb (fun x hx => by cases hx)) trodAll_mk0))))), rfl, hb.frame _, fun h => by cases h⟩

theorem over : Rows.fnExactNextPageRow.holds Try.pinned (OpenSpec.ofChange Rows.fnExactNextPageSpec) :=
  OpenClaim.holds_of_wide 3 Try.f3 rfl rfl rfl rfl rfl rfl rfl ⟨rfl, rfl, rfl, rfl, rfl⟩ rfl rfl rfl rfl rfl (by kernel_rfl) Try.func3 (by kernel_rfl)
    (of_decide_eq_true (by kernel_rfl)) (by unfold Func.isWrapper; first | (rw [if_pos (by decide +kernel)]; kernel_rfl) | (rw [if_neg (by decide +kernel)]; exact ⟨rfl, rfl⟩))
    (fun os started H enc _ => lifted os started H enc)

theorem proved : Rows.FnExactNextPageSaid :=
  over
#print axioms proved
end Go.Proofs.Ytceapjnnikegoaa.fnExactNextPage
