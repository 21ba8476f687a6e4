/- FnExactReadThrough: for every input the law answers true, and each argument reads as it did. Conditions: none. -/
import Derived.Test.YtceapjnnikegoaaGreatC5
import Derived.Test.YtceapjnnikegoaaGreatPmRt
import Derived.Test.YtceapjnnikegoaaGreatPlF
import Derived.Test.YtceapjnnikegoaaGreatRows
import Derived.Test.YtceapjnnikegoaaGreatGxG
import Derived.WalkKit
import Derived.ProofKit
import Derived.OpenShut
import Derived.ShutString
import Derived.Carry
namespace Go.Proofs.YtceapjnnikegoaaGreat.fnExactReadThrough
open Go.ChangeShapes Go.WideShapes Go.ChangeAt Go.RowKit Go.Gx Go.Gx.Px
open Go.ChangeMaps (open_string shut_string)
set_option linter.unusedVariables false
set_option linter.unusedSimpArgs false

theorem own : ownKnob Tryz.prog.godebug = none := by kernel_rfl
theorem laid : laidOutB Tryz.prog = true := by kernel_rfl
theorem opens3 : Opens Tryz.prog 3 Int := opens_int Tryz.underlying3
theorem opens22 : Opens Tryz.prog 22 (List Int) := opens_slice Tryz.underlying22 opens3 (by kernel_rfl) (by decide)
theorem opens64 : Opens Tryz.prog 64 (Int × (List Int) × Int × Int × Int) := opens_struct Tryz.underlying64 (opensFs_cons opens3 rfl (by kernel_rfl) (opensFs_cons opens22 rfl (by kernel_rfl) (opensFs_cons opens3 rfl (by kernel_rfl) (opensFs_cons opens3 rfl (by kernel_rfl) (opensFs_one opens3 rfl (by kernel_rfl)))))) (by kernel_rfl)
theorem opens23 : Opens Tryz.prog 23 (List (Int × (List Int) × Int × Int × Int)) := opens_slice Tryz.underlying23 opens64 (by kernel_rfl) (by decide)
theorem opens68 : Opens Tryz.prog 68 (Int × (List Int)) := opens_struct Tryz.underlying68 (opensFs_cons opens3 rfl (by kernel_rfl) (opensFs_one opens22 rfl (by kernel_rfl))) (by kernel_rfl)
theorem opens24 : Opens Tryz.prog 24 (List (Int × (List Int))) := opens_slice Tryz.underlying24 opens68 (by kernel_rfl) (by decide)
theorem opens26 : Opens Tryz.prog 26 ((List (Int × (List Int))) × Int) := opens_struct Tryz.underlying26 (opensFs_cons opens24 rfl (by kernel_rfl) (opensFs_one opens3 rfl (by kernel_rfl))) (by kernel_rfl)
theorem opens28 : Opens Tryz.prog 28 (Int × (List Int)) := opens_struct Tryz.underlying28 (opensFs_cons opens3 rfl (by kernel_rfl) (opensFs_one opens22 rfl (by kernel_rfl))) (by kernel_rfl)
theorem opens4 : Opens Tryz.prog 4 Bool := opens_bool Tryz.underlying4
theorem opens70 : Opens Tryz.prog 70 (Bool × (Int × (List Int))) := opens_struct Tryz.underlying70 (opensFs_cons opens4 rfl (by kernel_rfl) (opensFs_one opens68 rfl (by kernel_rfl))) (by kernel_rfl)
theorem opens29 : Opens Tryz.prog 29 (List (Bool × (Int × (List Int)))) := opens_slice Tryz.underlying29 opens70 (by kernel_rfl) (by decide)

set_option maxRecDepth 100000 in
theorem lifted (os : Os) (started : os.Started) (H : Type) (enc : TypeId × Value → H) :
    ReturnsInHanded {} Tryz.checked os 3 .any (Rows.fnExactReadThroughSpec.pre6 enc Tryz.prog Tryz.f3 Rows.fnExactReadThroughRow.domain false) (Rows.fnExactReadThroughSpec.post enc Tryz.prog Tryz.f3 false true false false) := by
  refine returnsInHanded_of_change (C := Tryz.checked) own started (by kernel_rfl) Tryz.func3
    (ChangeSpec.witness6 (enc := enc) (C := Tryz.checked) false ⟨#[], #[.slice none 0 0, .slice none 0 0, .agg #[.slice none 0 0, .int .i64 0], .agg #[.int .i64 0, .slice none 0 0], .int .i64 0, .slice none 0 0, .int .i64 0], []⟩ 8 (by kernel_rfl) (by kernel_rfl) (by kernel_rfl) (by kernel_rfl)) ?_
  intro W base args ds gs before hval0 hW hcnd _
  have hval : ∀ (j : Nat) t v, Tryz.f3.params[j]? = some t → args[j]? = some v → Value.okWide Tryz.prog W .any base t v := hval0
  have hW' := hW
  obtain ⟨p, q, hA0, hV, rfl, hfz, hnd⟩ := hW
  have hA : DataW.TrodAll enc Tryz.prog W 0 (fun _ => true) true Tryz.f3.params.toList args.toList ds p := hA0
  rw [Tryz.params3] at hA hval
  obtain ⟨v0, vs0, d0, ds0, p0, q0, hargs, rfl, rfl, h0, r0⟩ := trodAll_cons hA
  obtain ⟨v1, vs1, d1, ds1, p1, q1, rfl, rfl, rfl, h1, r1⟩ := trodAll_cons r0
  obtain ⟨v2, vs2, d2, ds2, p2, q2, rfl, rfl, rfl, h2, r2⟩ := trodAll_cons r1
  obtain ⟨v3, vs3, d3, ds3, p3, q3, rfl, rfl, rfl, h3, r3⟩ := trodAll_cons r2
  obtain ⟨v4, vs4, d4, ds4, p4, q4, rfl, rfl, rfl, h4, r4⟩ := trodAll_cons r3
  obtain ⟨v5, vs5, d5, ds5, p5, q5, rfl, rfl, rfl, h5, r5⟩ := trodAll_cons r4
  obtain ⟨v6, vs6, d6, ds6, p6, q6, rfl, rfl, rfl, h6, r6⟩ := trodAll_cons r5
  obtain ⟨rfl, rfl, rfl⟩ := trodAll_nil r6
  obtain rfl : args = #[v0, v1, v2, v3, v4, v5, v6] := by cases args; simp_all
  obtain ⟨rfl, rfl⟩ := trodVars_none hV
  clear hA0 hval0
  simp only [List.append_nil] at hW'
  have hlt := hW'.lt
  have k0 := h0
  obtain ⟨a0, len0, cap0, rfl⟩ := okWide_slice Tryz.underlying22 (hval 0 22 v0 rfl rfl)
  obtain ⟨x0, g0, b0⟩ := ro_of_trod (v := .slice a0 len0 cap0) opens22 rfl h0
  have k1 := h1
  obtain ⟨a1, len1, cap1, rfl⟩ := okWide_slice Tryz.underlying23 (hval 1 23 v1 rfl rfl)
  obtain ⟨x1, g1, b1⟩ := ro_of_trod (v := .slice a1 len1 cap1) opens23 rfl h1
  have k2 := h2
  obtain ⟨cs2, rfl, _, _⟩ : ∃ cs, v2 = .agg cs ∧ cs.size = Tryz.prog.cellsOf 26 ∧ Row.okWide Tryz.prog W .any base 26 cs := by have h := (hval 2 26 v2 rfl rfl); unfold Value.okWide at h; rw [Tryz.underlying26] at h; exact h
  obtain ⟨x2, g2, b2⟩ := ro_of_trod opens26 ⟨_, rfl⟩ h2
  obtain ⟨u2_0, e2, g2_0⟩ := ro_st26 g2
  rw [e2]
  have k3 := h3
  obtain ⟨cs3, rfl, _, _⟩ : ∃ cs, v3 = .agg cs ∧ cs.size = Tryz.prog.cellsOf 28 ∧ Row.okWide Tryz.prog W .any base 28 cs := by have h := (hval 3 28 v3 rfl rfl); unfold Value.okWide at h; rw [Tryz.underlying28] at h; exact h
  obtain ⟨x3, g3, b3⟩ := ro_of_trod opens28 ⟨_, rfl⟩ h3
  obtain ⟨u3_0, e3, g3_0⟩ := ro_st28 g3
  rw [e3]
  have k4 := h4
  obtain ⟨x4, rfl, rfl, rfl, w4⟩ := open_int Tryz.underlying3 (hval 4 3 v4 rfl rfl) h4
  have b4 : -9223372036854775808 ≤ x4 ∧ x4 ≤ 9223372036854775807 := by simpa [Lit.wf, IntKind.min, IntKind.max, IntKind.signed, IntKind.bits] using w4
  have k5 := h5
  obtain ⟨a5, len5, cap5, rfl⟩ := okWide_slice Tryz.underlying29 (hval 5 29 v5 rfl rfl)
  obtain ⟨x5, g5, b5⟩ := ro_of_trod (v := .slice a5 len5 cap5) opens29 rfl h5
  have k6 := h6
  obtain ⟨x6, rfl, rfl, rfl, w6⟩ := open_int Tryz.underlying3 (hval 6 3 v6 rfl rfl) h6
  have b6 : -9223372036854775808 ≤ x6 ∧ x6 ≤ 9223372036854775807 := by simpa [Lit.wf, IntKind.min, IntKind.max, IntKind.signed, IntKind.bits] using w6
  refine (c_Q_FnExactReadThrough x0 _ g0 x1 _ g1 x2 _ g2_0 x3 _ g3_0 x4 x5 _ g5 x6 true (p_FnExactReadThrough x0 x1 x2 x3 x4 x5 x6 b0 b1 b2 b3 b4 b5 b6)).mono ?_
  rintro e W' ⟨v, rfl, hres⟩
  obtain ⟨rfl, hb⟩ := res_bool hres
  rw [← e2]
  rw [← e3]
  exact ⟨_, rfl, _, _, _, [], _, [], hW', trodAll_cons_mk (shut_bool Tryz.underlying4 _) trodAll_mk0, (trodAll_cons_mk (Below.trod laid (by kernel_rfl) (of_decide_eq_true (by kernel_rfl)) k0 hb (fun x hx => hlt x (by simp [hx]))) (trodAll_cons_mk (Below.trod laid (by kernel_rfl) (of_decide_eq_true (by kernel_rfl)) k1 hb (fun x hx => hlt x (by simp [hx]))) (trodAll_cons_mk (Below.trod laid (by kernel_rfl) (of_decide_eq_true (by kernel_rfl)) k2 hb (fun x hx => hlt x (by simp [hx]))) (trodAll_cons_mk (Below.trod laid (by kernel_rfl) (of_decide_eq_true (by kernel_rfl)) k3 hb (fun x hx => hlt x (by simp [hx]))) (trodAll_cons_mk (Below.trod laid (by kernel_rfl) (of_decide_eq_true (by kernel_rfl)) k4 hb (fun x hx => by cases hx)) (trodAll_cons_mk (Below.trod laid (by kernel_rfl) (of_decide_eq_true (by kernel_rfl)) k5 hb (fun x hx => hlt x (by simp [hx]))) (trodAll_cons_mk (Below.trod laid (by kernel_rfl) (of_decide_eq_true (by kernel_rfl)) k6 hb (fun x hx => by cases hx)) trodAll_mk0))))))), rfl, hb.frame _, fun h => by cases h⟩

theorem over : Rows.fnExactReadThroughRow.holds Tryz.pinned (OpenSpec.ofChange Rows.fnExactReadThroughSpec) :=
  OpenClaim.holds_of_wide 3 Tryz.f3 rfl rfl rfl rfl rfl rfl rfl ⟨rfl, rfl, rfl, rfl, rfl⟩ rfl rfl rfl rfl rfl (by kernel_rfl) Tryz.func3 (by kernel_rfl)
    (of_decide_eq_true (by kernel_rfl)) (by unfold Func.isWrapper; first | (rw [if_pos (by decide +kernel)]; kernel_rfl) | (rw [if_neg (by decide +kernel)]; exact ⟨rfl, rfl⟩))
    (fun os started H enc _ => lifted os started H enc)

theorem proved : Rows.FnExactReadThroughSaid :=
  over
#print axioms proved
end Go.Proofs.YtceapjnnikegoaaGreat.fnExactReadThrough
