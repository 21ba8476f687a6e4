/- FnExactDoubtedFacts: for every input the law answers true, and each argument reads as it did. Conditions: none. -/
import Derived.Test.YtngpabaocflipaaGreatC5
import Derived.Test.YtngpabaocflipaaGreatPqs5
import Derived.Test.YtngpabaocflipaaGreatPlF
import Derived.Test.YtngpabaocflipaaGreatRows
import Derived.Test.YtngpabaocflipaaGreatGxG
import Derived.WalkKit
import Derived.ProofKit
import Derived.OpenShut
import Derived.ShutString
import Derived.Carry
namespace Go.Proofs.YtngpabaocflipaaGreat.fnExactDoubtedFacts
open Go.ChangeShapes Go.WideShapes Go.ChangeAt Go.RowKit Go.Gx Go.Gx.Px
open Go.ChangeMaps (open_string shut_string)
set_option linter.unusedVariables false
set_option linter.unusedSimpArgs false

theorem own : ownKnob Tryz.prog.godebug = none := by kernel_rfl
theorem laid : laidOutB Tryz.prog = true := by kernel_rfl
theorem opens3 : Opens Tryz.prog 3 Int := opens_int Tryz.underlying3
theorem opens24 : Opens Tryz.prog 24 (List Int) := opens_slice Tryz.underlying24 opens3 (by kernel_rfl) (by decide)
theorem opens114 : Opens Tryz.prog 114 (Int × (List Int) × Int × Int × Int) := opens_struct Tryz.underlying114 (opensFs_cons opens3 rfl (by kernel_rfl) (opensFs_cons opens24 rfl (by kernel_rfl) (opensFs_cons opens3 rfl (by kernel_rfl) (opensFs_cons opens3 rfl (by kernel_rfl) (opensFs_one opens3 rfl (by kernel_rfl)))))) (by kernel_rfl)
theorem opens54 : Opens Tryz.prog 54 (List (Int × (List Int) × Int × Int × Int)) := opens_slice Tryz.underlying54 opens114 (by kernel_rfl) (by decide)
theorem opens116 : Opens Tryz.prog 116 (Int × (List Int)) := opens_struct Tryz.underlying116 (opensFs_cons opens3 rfl (by kernel_rfl) (opensFs_one opens24 rfl (by kernel_rfl))) (by kernel_rfl)
theorem opens187 : Opens Tryz.prog 187 (Int × (List Int)) := opens_struct Tryz.underlying187 (opensFs_cons opens3 rfl (by kernel_rfl) (opensFs_one opens24 rfl (by kernel_rfl))) (by kernel_rfl)
theorem opens117 : Opens Tryz.prog 117 (List (Int × (List Int))) := opens_slice Tryz.underlying117 opens187 (by kernel_rfl) (by decide)
theorem opens119 : Opens Tryz.prog 119 ((Int × (List Int)) × (List (Int × (List Int)))) := opens_struct Tryz.underlying119 (opensFs_cons opens116 rfl (by kernel_rfl) (opensFs_one opens117 rfl (by kernel_rfl))) (by kernel_rfl)
theorem opens55 : Opens Tryz.prog 55 (List ((Int × (List Int)) × (List (Int × (List Int))))) := opens_slice Tryz.underlying55 opens119 (by kernel_rfl) (by decide)

set_option maxRecDepth 100000 in
theorem lifted (os : Os) (started : os.Started) (H : Type) (enc : TypeId × Value → H) :
    ReturnsInHanded {} Tryz.checked os 8 .any (Rows.fnExactDoubtedFactsSpec.pre6 enc Tryz.prog Tryz.f8 Rows.fnExactDoubtedFactsRow.domain false) (Rows.fnExactDoubtedFactsSpec.post enc Tryz.prog Tryz.f8 false true false false) := by
  refine returnsInHanded_of_change (C := Tryz.checked) own started (by kernel_rfl) Tryz.func8
    (ChangeSpec.witness6 (enc := enc) (C := Tryz.checked) false ⟨#[], #[.slice none 0 0, .slice none 0 0, .slice none 0 0], []⟩ 8 (by kernel_rfl) (by kernel_rfl) (by kernel_rfl) (by kernel_rfl)) ?_
  intro W base args ds gs before hval0 hW hcnd _
  have hval : ∀ (j : Nat) t v, Tryz.f8.params[j]? = some t → args[j]? = some v → Value.okWide Tryz.prog W .any base t v := hval0
  have hW' := hW
  obtain ⟨p, q, hA0, hV, rfl, hfz, hnd⟩ := hW
  have hA : DataW.TrodAll enc Tryz.prog W 0 (fun _ => true) true Tryz.f8.params.toList args.toList ds p := hA0
  rw [Tryz.params8] at hA hval
  obtain ⟨v0, vs0, d0, ds0, p0, q0, hargs, rfl, rfl, h0, r0⟩ := trodAll_cons hA
  obtain ⟨v1, vs1, d1, ds1, p1, q1, rfl, rfl, rfl, h1, r1⟩ := trodAll_cons r0
  obtain ⟨v2, vs2, d2, ds2, p2, q2, rfl, rfl, rfl, h2, r2⟩ := trodAll_cons r1
  obtain ⟨rfl, rfl, rfl⟩ := trodAll_nil r2
  obtain rfl : args = #[v0, v1, v2] := by cases args; simp_all
  obtain ⟨rfl, rfl⟩ := trodVars_none hV
  clear hA0 hval0
  simp only [List.append_nil] at hW'
  have hlt := hW'.lt
  have k0 := h0
  obtain ⟨a0, len0, cap0, rfl⟩ := okWide_slice Tryz.underlying24 (hval 0 24 v0 rfl rfl)
  obtain ⟨x0, g0, b0⟩ := ro_of_trod (v := .slice a0 len0 cap0) opens24 rfl h0
  have k1 := h1
  obtain ⟨a1, len1, cap1, rfl⟩ := okWide_slice Tryz.underlying54 (hval 1 54 v1 rfl rfl)
  obtain ⟨x1, g1, b1⟩ := ro_of_trod (v := .slice a1 len1 cap1) opens54 rfl h1
  have k2 := h2
  obtain ⟨a2, len2, cap2, rfl⟩ := okWide_slice Tryz.underlying55 (hval 2 55 v2 rfl rfl)
  obtain ⟨x2, g2, b2⟩ := ro_of_trod (v := .slice a2 len2 cap2) opens55 rfl h2
  refine (c_Q_FnExactDoubtedFacts x0 _ g0 x1 _ g1 x2 _ g2 true (p_FnExactDoubtedFacts x0 x1 x2 b0 b1 b2)).mono ?_
  rintro e W' ⟨v, rfl, hres⟩
  obtain ⟨rfl, hb⟩ := res_bool hres
  exact ⟨_, rfl, _, _, _, [], _, [], hW', trodAll_cons_mk (shut_bool Tryz.underlying4 _) trodAll_mk0, (trodAll_cons_mk (Below.trod laid (by kernel_rfl) (of_decide_eq_true (by kernel_rfl)) k0 hb (fun x hx => hlt x (by simp [hx]))) (trodAll_cons_mk (Below.trod laid (by kernel_rfl) (of_decide_eq_true (by kernel_rfl)) k1 hb (fun x hx => hlt x (by simp [hx]))) (trodAll_cons_mk (Below.trod laid (by kernel_rfl) (of_decide_eq_true (by kernel_rfl)) k2 hb (fun x hx => hlt x (by simp [hx]))) trodAll_mk0))), rfl, hb.frame _, fun h => by cases h⟩

theorem over : Rows.fnExactDoubtedFactsRow.holds Tryz.pinned (OpenSpec.ofChange Rows.fnExactDoubtedFactsSpec) :=
  OpenClaim.holds_of_wide 8 Tryz.f8 rfl rfl rfl rfl rfl rfl rfl ⟨rfl, rfl, rfl, rfl, rfl⟩ rfl rfl rfl rfl rfl (by kernel_rfl) Tryz.func8 (by kernel_rfl)
    (of_decide_eq_true (by kernel_rfl)) (by unfold Func.isWrapper; first | (rw [if_pos (by decide +kernel)]; kernel_rfl) | (rw [if_neg (by decide +kernel)]; exact ⟨rfl, rfl⟩))
    (fun os started H enc _ => lifted os started H enc)

theorem proved : Rows.FnExactDoubtedFactsSaid :=
  over
#print axioms proved
end Go.Proofs.YtngpabaocflipaaGreat.fnExactDoubtedFacts
