/- FnExactWithout: for every input the law answers true, and each argument reads as it did. Conditions: none. -/
import Derived.Test.YtnjjpmilcajmkaaC2
import Derived.Test.YtnjjpmilcajmkaaPn
import Derived.Test.YtnjjpmilcajmkaaPa
import Derived.Test.YtnjjpmilcajmkaaPw
import Derived.Test.YtnjjpmilcajmkaaPlF
import Derived.Test.YtnjjpmilcajmkaaRows
import Derived.Test.YtnjjpmilcajmkaaGxG
import Derived.WalkKit
import Derived.ProofKit
import Derived.OpenShut
import Derived.ShutString
import Derived.Carry
namespace Go.Proofs.Ytnjjpmilcajmkaa.fnExactWithout
open Go.ChangeShapes Go.WideShapes Go.ChangeAt Go.RowKit Go.Gx Go.Gx.Px
open Go.ChangeMaps (open_string shut_string)
set_option linter.unusedVariables false
set_option linter.unusedSimpArgs false

theorem own : ownKnob Try.prog.godebug = none := by kernel_rfl
theorem laid : laidOutB Try.prog = true := by kernel_rfl
theorem opens3 : Opens Try.prog 3 Int := opens_int Try.underlying3
theorem opens22 : Opens Try.prog 22 (List Int) := opens_slice Try.underlying22 opens3 (by kernel_rfl) (by decide)
theorem opens106 : Opens Try.prog 106 (Int × (List Int)) := opens_struct Try.underlying106 (opensFs_cons opens3 rfl (by kernel_rfl) (opensFs_one opens22 rfl (by kernel_rfl))) (by kernel_rfl)
theorem opens164 : Opens Try.prog 164 (Int × (List Int)) := opens_struct Try.underlying164 (opensFs_cons opens3 rfl (by kernel_rfl) (opensFs_one opens22 rfl (by kernel_rfl))) (by kernel_rfl)
theorem opens95 : Opens Try.prog 95 (List (Int × (List Int))) := opens_slice Try.underlying95 opens164 (by kernel_rfl) (by decide)
theorem opens108 : Opens Try.prog 108 ((Int × (List Int)) × (List (Int × (List Int)))) := opens_struct Try.underlying108 (opensFs_cons opens106 rfl (by kernel_rfl) (opensFs_one opens95 rfl (by kernel_rfl))) (by kernel_rfl)
theorem opens116 : Opens Try.prog 116 (List ((Int × (List Int)) × (List (Int × (List Int))))) := opens_slice Try.underlying116 opens108 (by kernel_rfl) (by decide)

set_option maxRecDepth 100000 in
theorem lifted (os : Os) (started : os.Started) (H : Type) (enc : TypeId × Value → H) :
    ReturnsInHanded {} Try.checked os 13 .any (Rows.fnExactWithoutSpec.pre6 enc Try.prog Try.f13 Rows.fnExactWithoutRow.domain false) (Rows.fnExactWithoutSpec.post enc Try.prog Try.f13 false true false false) := by
  refine returnsInHanded_of_change (C := Try.checked) own started (by kernel_rfl) Try.func13
    (ChangeSpec.witness6 (enc := enc) (C := Try.checked) false ⟨#[], #[.slice none 0 0, .slice none 0 0], []⟩ 8 (by kernel_rfl) (by kernel_rfl) (by kernel_rfl) (by kernel_rfl)) ?_
  intro W base args ds gs before hval0 hW hcnd _
  have hval : ∀ (j : Nat) t v, Try.f13.params[j]? = some t → args[j]? = some v → Value.okWide Try.prog W .any base t v := hval0
  have hW' := hW
  obtain ⟨p, q, hA0, hV, rfl, hfz, hnd⟩ := hW
  have hA : DataW.TrodAll enc Try.prog W 0 (fun _ => true) true Try.f13.params.toList args.toList ds p := hA0
  rw [Try.params13] at hA hval
  obtain ⟨v0, vs0, d0, ds0, p0, q0, hargs, rfl, rfl, h0, r0⟩ := trodAll_cons hA
  obtain ⟨v1, vs1, d1, ds1, p1, q1, rfl, rfl, rfl, h1, r1⟩ := trodAll_cons r0
  obtain ⟨rfl, rfl, rfl⟩ := trodAll_nil r1
  obtain rfl : args = #[v0, v1] := by cases args; simp_all
  obtain ⟨rfl, rfl⟩ := trodVars_none hV
  clear hA0 hval0
  simp only [List.append_nil] at hW'
  have hlt := hW'.lt
  have k0 := h0
  obtain ⟨a0, len0, cap0, rfl⟩ := okWide_slice Try.underlying116 (hval 0 116 v0 rfl rfl)
  obtain ⟨x0, g0, b0⟩ := ro_of_trod (v := .slice a0 len0 cap0) opens116 rfl h0
  have k1 := h1
  obtain ⟨a1, len1, cap1, rfl⟩ := okWide_slice Try.underlying22 (hval 1 22 v1 rfl rfl)
  obtain ⟨x1, g1, b1⟩ := ro_of_trod (v := .slice a1 len1 cap1) opens22 rfl h1
  refine (c_Q_FnExactWithout x0 _ g0 x1 _ g1 true (p_FnExactWithout x0 x1 b0 b1)).mono ?_
  rintro e W' ⟨v, rfl, hres⟩
  obtain ⟨rfl, hb⟩ := res_bool hres
  exact ⟨_, rfl, _, _, _, [], _, [], hW', trodAll_cons_mk (shut_bool Try.underlying4 _) trodAll_mk0, (trodAll_cons_mk (Below.trod laid (by kernel_rfl) (of_decide_eq_true (by kernel_rfl)) k0 hb (fun x hx => hlt x (by simp [hx]))) (trodAll_cons_mk (Below.trod laid (by kernel_rfl) (of_decide_eq_true (by kernel_rfl)) k1 hb (fun x hx => hlt x (by simp [hx]))) trodAll_mk0)), rfl, hb.frame _, fun h => by cases h⟩

theorem over : Rows.fnExactWithoutRow.holds Try.pinned (OpenSpec.ofChange Rows.fnExactWithoutSpec) :=
  OpenClaim.holds_of_wide 13 Try.f13 rfl rfl rfl rfl rfl rfl rfl ⟨rfl, rfl, rfl, rfl, rfl⟩ rfl rfl rfl rfl rfl (by kernel_rfl) Try.func13 (by kernel_rfl)
    (of_decide_eq_true (by kernel_rfl)) (by unfold Func.isWrapper; first | (rw [if_pos (by decide +kernel)]; kernel_rfl) | (rw [if_neg (by decide +kernel)]; exact ⟨rfl, rfl⟩))
    (fun os started H enc _ => lifted os started H enc)

theorem proved : Rows.FnExactWithoutSaid :=
  over
#print axioms proved
end Go.Proofs.Ytnjjpmilcajmkaa.fnExactWithout
