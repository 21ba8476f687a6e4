/- FnExactIsLedger: for every input the law answers true, and each argument reads as it did. Conditions: none. -/
import Derived.Test.YtnccdhglieidhaaC1
import Derived.Test.YtnccdhglieidhaaPlain4
import Derived.Test.YtnccdhglieidhaaPlain6
import Derived.Test.YtnccdhglieidhaaRows
import Derived.Test.YtnccdhglieidhaaGxG
import Derived.WalkKit
import Derived.ProofKit
import Derived.OpenShut
import Derived.ShutString
import Derived.Carry
namespace Go.Proofs.Ytnccdhglieidhaa.fnExactIsLedger
open Go.ChangeShapes Go.WideShapes Go.ChangeAt Go.RowKit Go.Gx Go.Gx.Px
open Go.ChangeMaps (open_string shut_string)
set_option linter.unusedVariables false
set_option linter.unusedSimpArgs false

theorem own : ownKnob Try.prog.godebug = none := by kernel_rfl
theorem laid : laidOutB Try.prog = true := by kernel_rfl
theorem opens3 : Opens Try.prog 3 Int := opens_int Try.underlying3
theorem opens27 : Opens Try.prog 27 (List Int) := opens_slice Try.underlying27 opens3 (by kernel_rfl) (by decide)
theorem opens29 : Opens Try.prog 29 ((List Int) × Int × Int) := opens_struct Try.underlying29 (opensFs_cons opens27 rfl (by kernel_rfl) (opensFs_cons opens3 rfl (by kernel_rfl) (opensFs_one opens3 rfl (by kernel_rfl)))) (by kernel_rfl)

set_option maxRecDepth 100000 in
theorem lifted (os : Os) (started : os.Started) (H : Type) (enc : TypeId × Value → H) :
    ReturnsInHanded {} Try.checked os 6 .any (Rows.fnExactIsLedgerSpec.pre6 enc Try.prog Try.f6 Rows.fnExactIsLedgerRow.domain false) (Rows.fnExactIsLedgerSpec.post enc Try.prog Try.f6 false true false false) := by
  refine returnsInHanded_of_change (C := Try.checked) own started (by kernel_rfl) Try.func6
    (ChangeSpec.witness6 (enc := enc) (C := Try.checked) false ⟨#[], #[.agg #[.slice none 0 0, .int .i64 0, .int .i64 0]], []⟩ 8 (by kernel_rfl) (by kernel_rfl) (by kernel_rfl) (by kernel_rfl)) ?_
  intro W base args ds gs before hval0 hW hcnd _
  have hval : ∀ (j : Nat) t v, Try.f6.params[j]? = some t → args[j]? = some v → Value.okWide Try.prog W .any base t v := hval0
  have hW' := hW
  obtain ⟨p, q, hA0, hV, rfl, hfz, hnd⟩ := hW
  have hA : DataW.TrodAll enc Try.prog W 0 (fun _ => true) true Try.f6.params.toList args.toList ds p := hA0
  rw [Try.params6] at hA hval
  obtain ⟨v0, vs0, d0, ds0, p0, q0, hargs, rfl, rfl, h0, r0⟩ := trodAll_cons hA
  obtain ⟨rfl, rfl, rfl⟩ := trodAll_nil r0
  obtain rfl : args = #[v0] := by cases args; simp_all
  obtain ⟨rfl, rfl⟩ := trodVars_none hV
  clear hA0 hval0
  simp only [List.append_nil] at hW'
  have hlt := hW'.lt
  have k0 := h0
  obtain ⟨cs0, rfl, _, _⟩ : ∃ cs, v0 = .agg cs ∧ cs.size = Try.prog.cellsOf 29 ∧ Row.okWide Try.prog W .any base 29 cs := by have h := (hval 0 29 v0 rfl rfl); unfold Value.okWide at h; rw [Try.underlying29] at h; exact h
  obtain ⟨x0, g0, b0⟩ := ro_of_trod opens29 ⟨_, rfl⟩ h0
  obtain ⟨u0_0, e0, g0_0⟩ := ro_st29 g0
  rw [e0]
  refine (c_Q_FnExactIsLedger x0 _ g0_0 true (p_FnExactIsLedger x0 b0)).mono ?_
  rintro e W' ⟨v, rfl, hres⟩
  obtain ⟨rfl, hb⟩ := res_bool hres
  rw [← e0]
  exact ⟨_, rfl, _, _, _, [], _, [], hW', trodAll_cons_mk (shut_bool Try.underlying4 _) trodAll_mk0, (trodAll_cons_mk (Below.trod laid (by kernel_rfl) (of_decide_eq_true (by kernel_rfl)) k0 hb (fun x hx => hlt x (by simp [hx]))) trodAll_mk0), rfl, hb.frame _, fun h => by cases h⟩

theorem over : Rows.fnExactIsLedgerRow.holds Try.pinned (OpenSpec.ofChange Rows.fnExactIsLedgerSpec) :=
  OpenClaim.holds_of_wide 6 Try.f6 rfl rfl rfl rfl rfl rfl rfl ⟨rfl, rfl, rfl, rfl, rfl⟩ rfl rfl rfl rfl rfl (by kernel_rfl) Try.func6 (by kernel_rfl)
    (of_decide_eq_true (by kernel_rfl)) (by unfold Func.isWrapper; first | (rw [if_pos (by decide +kernel)]; kernel_rfl) | (rw [if_neg (by decide +kernel)]; exact ⟨rfl, rfl⟩))
    (fun os started H enc _ => lifted os started H enc)

theorem proved : Rows.FnExactIsLedgerSaid :=
  over
#print axioms proved
end Go.Proofs.Ytnccdhglieidhaa.fnExactIsLedger
