/- The types of the seat, as the library wants them. Conditions: none. -/
import Derived.Test.YtnccdhglieidhaaGxF
import Derived.Test.YtnccdhglieidhaaProg
set_option linter.unusedVariables false
set_option linter.unusedSimpArgs false
namespace Go.Gx.Px
open Go.Proofs
theorem hmix : Try.prog.follows .mixedOrders = true := by kernel_rfl
theorem ty3 : Ty Try.prog 3 Int := ⟨Try.isAgg3, Try.sizeOf3, Try.t3, _, by kernel_rfl, rfl, by decide, rfl, rfl⟩
theorem ty5 : Ty Try.prog 5 UInt8 := ⟨Try.isAgg5, Try.sizeOf5, Try.t5, _, by kernel_rfl, rfl, by decide, rfl, rfl⟩
theorem ty9 : Ty Try.prog 9 Str := ⟨Try.isAgg9, Try.sizeOf9, Try.t9, _, by kernel_rfl, rfl, by decide, rfl, rfl⟩
theorem ty27 : Ty Try.prog 27 (List Int) := ⟨Try.isAgg27, Try.sizeOf27, Try.t27, _, by kernel_rfl, rfl, by decide, rfl, rfl⟩
theorem ty49 : Ty Try.prog 49 (List (Int × (List Int))) := ⟨Try.isAgg49, Try.sizeOf49, Try.t49, _, by kernel_rfl, rfl, by decide, rfl, rfl⟩
theorem ty51 : Ty Try.prog 51 (List (Int × (List Int))) := ⟨Try.isAgg51, Try.sizeOf51, Try.t51, _, by kernel_rfl, rfl, by decide, rfl, rfl⟩
theorem ty106 : Ty Try.prog 106 (Int × (List Int)) := ⟨Try.isAgg106, Try.sizeOf106, Try.t106, _, by kernel_rfl, rfl, by decide, rfl, rfl⟩
theorem ty108 : Ty Try.prog 108 (Int × (List Int)) := ⟨Try.isAgg108, Try.sizeOf108, Try.t108, _, by kernel_rfl, rfl, by decide, rfl, rfl⟩
theorem ty123 : Ty Try.prog 123 (Int × (List Int)) := ⟨Try.isAgg123, Try.sizeOf123, Try.t123, _, by kernel_rfl, rfl, by decide, rfl, rfl⟩
theorem ty138 : Ty Try.prog 138 (Int × (List Int)) := ⟨Try.isAgg138, Try.sizeOf138, Try.t138, _, by kernel_rfl, rfl, by decide, rfl, rfl⟩
theorem ro_st106 {D : List Nat} {w : World} {v : Value} {a : (Int × (List Int))} (h : RO D w v a) : ∃ v1, v = .agg #[.int .i64 a.1, v1] ∧ RO D w v1 a.2 := by
  obtain ⟨F, ⟨cs, rfl, h⟩, hD⟩ := h
  obtain ⟨c1, c2, F1, F2, rfl, rfl, h_0, h_r0⟩ := h
  obtain ⟨rfl, rfl⟩ := h_0
  obtain ⟨p1, cap1, rfl, q1⟩ := h_r0
  refine ⟨_, rfl, ?_⟩
  · exact ⟨_, ⟨[_], rfl, p1, cap1, rfl, q1⟩, fun b hb => hD b (by simp [hb])⟩
theorem ro_st108 {D : List Nat} {w : World} {v : Value} {a : (Int × (List Int))} (h : RO D w v a) : ∃ v1, v = .agg #[.int .i64 a.1, v1] ∧ RO D w v1 a.2 := by
  obtain ⟨F, ⟨cs, rfl, h⟩, hD⟩ := h
  obtain ⟨c1, c2, F1, F2, rfl, rfl, h_0, h_r0⟩ := h
  obtain ⟨rfl, rfl⟩ := h_0
  obtain ⟨p1, cap1, rfl, q1⟩ := h_r0
  refine ⟨_, rfl, ?_⟩
  · exact ⟨_, ⟨[_], rfl, p1, cap1, rfl, q1⟩, fun b hb => hD b (by simp [hb])⟩
theorem ro_st123 {D : List Nat} {w : World} {v : Value} {a : (Int × (List Int))} (h : RO D w v a) : ∃ v1, v = .agg #[.int .i64 a.1, v1] ∧ RO D w v1 a.2 := by
  obtain ⟨F, ⟨cs, rfl, h⟩, hD⟩ := h
  obtain ⟨c1, c2, F1, F2, rfl, rfl, h_0, h_r0⟩ := h
  obtain ⟨rfl, rfl⟩ := h_0
  obtain ⟨p1, cap1, rfl, q1⟩ := h_r0
  refine ⟨_, rfl, ?_⟩
  · exact ⟨_, ⟨[_], rfl, p1, cap1, rfl, q1⟩, fun b hb => hD b (by simp [hb])⟩
theorem ro_st138 {D : List Nat} {w : World} {v : Value} {a : (Int × (List Int))} (h : RO D w v a) : ∃ v1, v = .agg #[.int .i64 a.1, v1] ∧ RO D w v1 a.2 := by
  obtain ⟨F, ⟨cs, rfl, h⟩, hD⟩ := h
  obtain ⟨c1, c2, F1, F2, rfl, rfl, h_0, h_r0⟩ := h
  obtain ⟨rfl, rfl⟩ := h_0
  obtain ⟨p1, cap1, rfl, q1⟩ := h_r0
  refine ⟨_, rfl, ?_⟩
  · exact ⟨_, ⟨[_], rfl, p1, cap1, rfl, q1⟩, fun b hb => hD b (by simp [hb])⟩
end Go.Gx.Px
