/- The types of the seat, as the library wants them. Conditions: none. -/
import Derived.Test.YtceapjnnikegoaaGreatGxEq
import Derived.Test.YtceapjnnikegoaaGreatProg
set_option linter.unusedVariables false
set_option linter.unusedSimpArgs false
namespace Go.Gx.Px
open Go.Proofs
theorem hmix : Tryz.prog.follows .mixedOrders = true := by kernel_rfl
theorem ty3 : Ty Tryz.prog 3 Int := ⟨Tryz.isAgg3, Tryz.sizeOf3, Tryz.t3, _, by kernel_rfl, rfl, by decide, rfl, rfl⟩
theorem ty22 : Ty Tryz.prog 22 (List Int) := ⟨Tryz.isAgg22, Tryz.sizeOf22, Tryz.t22, _, by kernel_rfl, rfl, by decide, rfl, rfl⟩
theorem ty64 : Ty Tryz.prog 64 (Int × (List Int) × Int × Int × Int) := ⟨Tryz.isAgg64, Tryz.sizeOf64, Tryz.t64, _, by kernel_rfl, rfl, by decide, rfl, rfl⟩
theorem ty68 : Ty Tryz.prog 68 (Int × (List Int)) := ⟨Tryz.isAgg68, Tryz.sizeOf68, Tryz.t68, _, by kernel_rfl, rfl, by decide, rfl, rfl⟩
theorem ty70 : Ty Tryz.prog 70 (Bool × (Int × (List Int))) := ⟨Tryz.isAgg70, Tryz.sizeOf70, Tryz.t70, _, by kernel_rfl, rfl, by decide, rfl, rfl⟩
theorem ty81 : Ty Tryz.prog 81 (Int × (List Int)) := ⟨Tryz.isAgg81, Tryz.sizeOf81, Tryz.t81, _, by kernel_rfl, rfl, by decide, rfl, rfl⟩
theorem ty83 : Ty Tryz.prog 83 (Bool × (Int × (List Int))) := ⟨Tryz.isAgg83, Tryz.sizeOf83, Tryz.t83, _, by kernel_rfl, rfl, by decide, rfl, rfl⟩
theorem ty84 : Ty Tryz.prog 84 (Int × (List Int) × Int × Int × Int) := ⟨Tryz.isAgg84, Tryz.sizeOf84, Tryz.t84, _, by kernel_rfl, rfl, by decide, rfl, rfl⟩
theorem ro_st26 {D : List Nat} {w : World} {v : Value} {a : ((List (Int × (List Int))) × Int)} (h : RO D w v a) : ∃ v1, v = .agg #[v1, .int .i64 a.2] ∧ RO D w v1 a.1 := by
  obtain ⟨F, ⟨cs, rfl, h⟩, hD⟩ := h
  obtain ⟨c1, c2, F1, F2, rfl, rfl, h_0, h_r0⟩ := h
  obtain ⟨p1, cap1, rfl, q1⟩ := h_0
  obtain ⟨rfl, rfl⟩ := h_r0
  refine ⟨_, rfl, ?_⟩
  · exact ⟨_, ⟨[_], rfl, p1, cap1, rfl, q1⟩, fun b hb => hD b (by simp [hb])⟩
theorem own_st26 {D : List Nat} {w0 w : World} {As : List Item} (v0 : Value) (x0 : (List (Int × (List Int)))) (x1 : Int) (h : Ctx D w0 w (Item.own v0 x0 :: As)) : Ctx D w0 w (Item.own (.agg #[v0, .int .i64 x1]) ((x0, x1) : ((List (Int × (List Int))) × Int)) :: As) := by
  obtain ⟨k, Gs, hrest, h4, h5⟩ := h
  obtain ⟨F0, Gs, rfl, ⟨c0, rfl, p0, cap0, rfl, q0⟩, hrest⟩ := hrest
  exact ⟨k, _ :: Gs, ⟨_, Gs, rfl, ⟨[_, _], rfl, ⟨_, _, _, _, rfl, rfl, ⟨_, _, rfl, q0⟩, ⟨rfl, rfl⟩⟩⟩, hrest⟩, by simpa using h4, fun b hb => h5 b (by simpa using hb)⟩
theorem st26_own {D : List Nat} {w0 w : World} {As : List Item} {v : Value} {a : ((List (Int × (List Int))) × Int)} (h : Ctx D w0 w (Item.own v a :: As)) : ∃ v0, v = .agg #[v0, .int .i64 a.2] ∧ Ctx D w0 w (Item.own v0 a.1 :: As) := by
  obtain ⟨k, _, ⟨F, Gs, rfl, ⟨cs, rfl, h⟩, hrest⟩, h4, h5⟩ := h
  obtain ⟨c1, c2, Gh_0, Hh_0, rfl, rfl, h_0, h_r0⟩ := h
  obtain ⟨p0, cap0, rfl, q0⟩ := h_0
  obtain ⟨rfl, rfl⟩ := h_r0
  exact ⟨_, rfl, k, _, ⟨_, _, rfl, ⟨[_], rfl, p0, cap0, rfl, q0⟩, hrest⟩, by simpa using h4, fun b hb => h5 b (by simpa using hb)⟩
theorem ro_st28 {D : List Nat} {w : World} {v : Value} {a : (Int × (List Int))} (h : RO D w v a) : ∃ v1, v = .agg #[.int .i64 a.1, v1] ∧ RO D w v1 a.2 := by
  obtain ⟨F, ⟨cs, rfl, h⟩, hD⟩ := h
  obtain ⟨c1, c2, F1, F2, rfl, rfl, h_0, h_r0⟩ := h
  obtain ⟨rfl, rfl⟩ := h_0
  obtain ⟨p1, cap1, rfl, q1⟩ := h_r0
  refine ⟨_, rfl, ?_⟩
  · exact ⟨_, ⟨[_], rfl, p1, cap1, rfl, q1⟩, fun b hb => hD b (by simp [hb])⟩
theorem own_st28 {D : List Nat} {w0 w : World} {As : List Item} (x0 : Int) (v1 : Value) (x1 : (List Int)) (h : Ctx D w0 w (Item.own v1 x1 :: As)) : Ctx D w0 w (Item.own (.agg #[.int .i64 x0, v1]) ((x0, x1) : (Int × (List Int))) :: As) := by
  obtain ⟨k, Gs, hrest, h4, h5⟩ := h
  obtain ⟨F1, Gs, rfl, ⟨c1, rfl, p1, cap1, rfl, q1⟩, hrest⟩ := hrest
  exact ⟨k, _ :: Gs, ⟨_, Gs, rfl, ⟨[_, _], rfl, ⟨_, _, _, _, rfl, rfl, ⟨rfl, rfl⟩, ⟨_, _, rfl, q1⟩⟩⟩, hrest⟩, by simpa using h4, fun b hb => h5 b (by simpa using hb)⟩
theorem st28_own {D : List Nat} {w0 w : World} {As : List Item} {v : Value} {a : (Int × (List Int))} (h : Ctx D w0 w (Item.own v a :: As)) : ∃ v1, v = .agg #[.int .i64 a.1, v1] ∧ Ctx D w0 w (Item.own v1 a.2 :: As) := by
  obtain ⟨k, _, ⟨F, Gs, rfl, ⟨cs, rfl, h⟩, hrest⟩, h4, h5⟩ := h
  obtain ⟨c1, c2, Gh_0, Hh_0, rfl, rfl, h_0, h_r0⟩ := h
  obtain ⟨rfl, rfl⟩ := h_0
  obtain ⟨p1, cap1, rfl, q1⟩ := h_r0
  exact ⟨_, rfl, k, _, ⟨_, _, rfl, ⟨[_], rfl, p1, cap1, rfl, q1⟩, hrest⟩, by simpa using h4, fun b hb => h5 b (by simpa using hb)⟩
theorem ro_st36 {D : List Nat} {w : World} {v : Value} {a : ((List (Int × (List Int))) × Int × Int × Int × Bool)} (h : RO D w v a) : ∃ v1, v = .agg #[v1, .int .i64 a.2.1, .int .i64 a.2.2.1, .int .i64 a.2.2.2.1, .bool a.2.2.2.2] ∧ RO D w v1 a.1 := by
  obtain ⟨F, ⟨cs, rfl, h⟩, hD⟩ := h
  obtain ⟨c1, c2, F1, F2, rfl, rfl, h_0, h_r0⟩ := h
  obtain ⟨p1, cap1, rfl, q1⟩ := h_0
  obtain ⟨c1, c2, F1, F2, rfl, rfl, h_1, h_r1⟩ := h_r0
  obtain ⟨rfl, rfl⟩ := h_1
  obtain ⟨c1, c2, F1, F2, rfl, rfl, h_2, h_r2⟩ := h_r1
  obtain ⟨rfl, rfl⟩ := h_2
  obtain ⟨c1, c2, F1, F2, rfl, rfl, h_3, h_r3⟩ := h_r2
  obtain ⟨rfl, rfl⟩ := h_3
  obtain ⟨rfl, rfl⟩ := h_r3
  refine ⟨_, rfl, ?_⟩
  · exact ⟨_, ⟨[_], rfl, p1, cap1, rfl, q1⟩, fun b hb => hD b (by simp [hb])⟩
theorem own_st36 {D : List Nat} {w0 w : World} {As : List Item} (v0 : Value) (x0 : (List (Int × (List Int)))) (x1 : Int) (x2 : Int) (x3 : Int) (x4 : Bool) (h : Ctx D w0 w (Item.own v0 x0 :: As)) : Ctx D w0 w (Item.own (.agg #[v0, .int .i64 x1, .int .i64 x2, .int .i64 x3, .bool x4]) ((x0, x1, x2, x3, x4) : ((List (Int × (List Int))) × Int × Int × Int × Bool)) :: As) := by
  obtain ⟨k, Gs, hrest, h4, h5⟩ := h
  obtain ⟨F0, Gs, rfl, ⟨c0, rfl, p0, cap0, rfl, q0⟩, hrest⟩ := hrest
  exact ⟨k, _ :: Gs, ⟨_, Gs, rfl, ⟨[_, _, _, _, _], rfl, ⟨_, _, _, _, rfl, rfl, ⟨_, _, rfl, q0⟩, ⟨_, _, _, _, rfl, rfl, ⟨rfl, rfl⟩, ⟨_, _, _, _, rfl, rfl, ⟨rfl, rfl⟩, ⟨_, _, _, _, rfl, rfl, ⟨rfl, rfl⟩, ⟨rfl, rfl⟩⟩⟩⟩⟩⟩, hrest⟩, by simpa using h4, fun b hb => h5 b (by simpa using hb)⟩
theorem st36_own {D : List Nat} {w0 w : World} {As : List Item} {v : Value} {a : ((List (Int × (List Int))) × Int × Int × Int × Bool)} (h : Ctx D w0 w (Item.own v a :: As)) : ∃ v0, v = .agg #[v0, .int .i64 a.2.1, .int .i64 a.2.2.1, .int .i64 a.2.2.2.1, .bool a.2.2.2.2] ∧ Ctx D w0 w (Item.own v0 a.1 :: As) := by
  obtain ⟨k, _, ⟨F, Gs, rfl, ⟨cs, rfl, h⟩, hrest⟩, h4, h5⟩ := h
  obtain ⟨c1, c2, Gh_0, Hh_0, rfl, rfl, h_0, h_r0⟩ := h
  obtain ⟨p0, cap0, rfl, q0⟩ := h_0
  obtain ⟨c1, c2, Gh_1, Hh_1, rfl, rfl, h_1, h_r1⟩ := h_r0
  obtain ⟨rfl, rfl⟩ := h_1
  obtain ⟨c1, c2, Gh_2, Hh_2, rfl, rfl, h_2, h_r2⟩ := h_r1
  obtain ⟨rfl, rfl⟩ := h_2
  obtain ⟨c1, c2, Gh_3, Hh_3, rfl, rfl, h_3, h_r3⟩ := h_r2
  obtain ⟨rfl, rfl⟩ := h_3
  obtain ⟨rfl, rfl⟩ := h_r3
  exact ⟨_, rfl, k, _, ⟨_, _, rfl, ⟨[_], rfl, p0, cap0, rfl, q0⟩, hrest⟩, by simpa using h4, fun b hb => h5 b (by simpa using hb)⟩
theorem ro_st38 {D : List Nat} {w : World} {v : Value} {a : ((List (Int × (List Int))) × Int)} (h : RO D w v a) : ∃ v1, v = .agg #[v1, .int .i64 a.2] ∧ RO D w v1 a.1 := by
  obtain ⟨F, ⟨cs, rfl, h⟩, hD⟩ := h
  obtain ⟨c1, c2, F1, F2, rfl, rfl, h_0, h_r0⟩ := h
  obtain ⟨p1, cap1, rfl, q1⟩ := h_0
  obtain ⟨rfl, rfl⟩ := h_r0
  refine ⟨_, rfl, ?_⟩
  · exact ⟨_, ⟨[_], rfl, p1, cap1, rfl, q1⟩, fun b hb => hD b (by simp [hb])⟩
theorem own_st38 {D : List Nat} {w0 w : World} {As : List Item} (v0 : Value) (x0 : (List (Int × (List Int)))) (x1 : Int) (h : Ctx D w0 w (Item.own v0 x0 :: As)) : Ctx D w0 w (Item.own (.agg #[v0, .int .i64 x1]) ((x0, x1) : ((List (Int × (List Int))) × Int)) :: As) := by
  obtain ⟨k, Gs, hrest, h4, h5⟩ := h
  obtain ⟨F0, Gs, rfl, ⟨c0, rfl, p0, cap0, rfl, q0⟩, hrest⟩ := hrest
  exact ⟨k, _ :: Gs, ⟨_, Gs, rfl, ⟨[_, _], rfl, ⟨_, _, _, _, rfl, rfl, ⟨_, _, rfl, q0⟩, ⟨rfl, rfl⟩⟩⟩, hrest⟩, by simpa using h4, fun b hb => h5 b (by simpa using hb)⟩
theorem st38_own {D : List Nat} {w0 w : World} {As : List Item} {v : Value} {a : ((List (Int × (List Int))) × Int)} (h : Ctx D w0 w (Item.own v a :: As)) : ∃ v0, v = .agg #[v0, .int .i64 a.2] ∧ Ctx D w0 w (Item.own v0 a.1 :: As) := by
  obtain ⟨k, _, ⟨F, Gs, rfl, ⟨cs, rfl, h⟩, hrest⟩, h4, h5⟩ := h
  obtain ⟨c1, c2, Gh_0, Hh_0, rfl, rfl, h_0, h_r0⟩ := h
  obtain ⟨p0, cap0, rfl, q0⟩ := h_0
  obtain ⟨rfl, rfl⟩ := h_r0
  exact ⟨_, rfl, k, _, ⟨_, _, rfl, ⟨[_], rfl, p0, cap0, rfl, q0⟩, hrest⟩, by simpa using h4, fun b hb => h5 b (by simpa using hb)⟩
theorem ro_st45 {D : List Nat} {w : World} {v : Value} {a : (Int × (List Int))} (h : RO D w v a) : ∃ v1, v = .agg #[.int .i64 a.1, v1] ∧ RO D w v1 a.2 := by
  obtain ⟨F, ⟨cs, rfl, h⟩, hD⟩ := h
  obtain ⟨c1, c2, F1, F2, rfl, rfl, h_0, h_r0⟩ := h
  obtain ⟨rfl, rfl⟩ := h_0
  obtain ⟨p1, cap1, rfl, q1⟩ := h_r0
  refine ⟨_, rfl, ?_⟩
  · exact ⟨_, ⟨[_], rfl, p1, cap1, rfl, q1⟩, fun b hb => hD b (by simp [hb])⟩
theorem own_st45 {D : List Nat} {w0 w : World} {As : List Item} (x0 : Int) (v1 : Value) (x1 : (List Int)) (h : Ctx D w0 w (Item.own v1 x1 :: As)) : Ctx D w0 w (Item.own (.agg #[.int .i64 x0, v1]) ((x0, x1) : (Int × (List Int))) :: As) := by
  obtain ⟨k, Gs, hrest, h4, h5⟩ := h
  obtain ⟨F1, Gs, rfl, ⟨c1, rfl, p1, cap1, rfl, q1⟩, hrest⟩ := hrest
  exact ⟨k, _ :: Gs, ⟨_, Gs, rfl, ⟨[_, _], rfl, ⟨_, _, _, _, rfl, rfl, ⟨rfl, rfl⟩, ⟨_, _, rfl, q1⟩⟩⟩, hrest⟩, by simpa using h4, fun b hb => h5 b (by simpa using hb)⟩
theorem st45_own {D : List Nat} {w0 w : World} {As : List Item} {v : Value} {a : (Int × (List Int))} (h : Ctx D w0 w (Item.own v a :: As)) : ∃ v1, v = .agg #[.int .i64 a.1, v1] ∧ Ctx D w0 w (Item.own v1 a.2 :: As) := by
  obtain ⟨k, _, ⟨F, Gs, rfl, ⟨cs, rfl, h⟩, hrest⟩, h4, h5⟩ := h
  obtain ⟨c1, c2, Gh_0, Hh_0, rfl, rfl, h_0, h_r0⟩ := h
  obtain ⟨rfl, rfl⟩ := h_0
  obtain ⟨p1, cap1, rfl, q1⟩ := h_r0
  exact ⟨_, rfl, k, _, ⟨_, _, rfl, ⟨[_], rfl, p1, cap1, rfl, q1⟩, hrest⟩, by simpa using h4, fun b hb => h5 b (by simpa using hb)⟩
theorem ro_st64 {D : List Nat} {w : World} {v : Value} {a : (Int × (List Int) × Int × Int × Int)} (h : RO D w v a) : ∃ v1, v = .agg #[.int .i64 a.1, v1, .int .i64 a.2.2.1, .int .i64 a.2.2.2.1, .int .i64 a.2.2.2.2] ∧ RO D w v1 a.2.1 := by
  obtain ⟨F, ⟨cs, rfl, h⟩, hD⟩ := h
  obtain ⟨c1, c2, F1, F2, rfl, rfl, h_0, h_r0⟩ := h
  obtain ⟨rfl, rfl⟩ := h_0
  obtain ⟨c1, c2, F1, F2, rfl, rfl, h_1, h_r1⟩ := h_r0
  obtain ⟨p1, cap1, rfl, q1⟩ := h_1
  obtain ⟨c1, c2, F1, F2, rfl, rfl, h_2, h_r2⟩ := h_r1
  obtain ⟨rfl, rfl⟩ := h_2
  obtain ⟨c1, c2, F1, F2, rfl, rfl, h_3, h_r3⟩ := h_r2
  obtain ⟨rfl, rfl⟩ := h_3
  obtain ⟨rfl, rfl⟩ := h_r3
  refine ⟨_, rfl, ?_⟩
  · exact ⟨_, ⟨[_], rfl, p1, cap1, rfl, q1⟩, fun b hb => hD b (by simp [hb])⟩
theorem own_st64 {D : List Nat} {w0 w : World} {As : List Item} (x0 : Int) (v1 : Value) (x1 : (List Int)) (x2 : Int) (x3 : Int) (x4 : Int) (h : Ctx D w0 w (Item.own v1 x1 :: As)) : Ctx D w0 w (Item.own (.agg #[.int .i64 x0, v1, .int .i64 x2, .int .i64 x3, .int .i64 x4]) ((x0, x1, x2, x3, x4) : (Int × (List Int) × Int × Int × Int)) :: As) := by
  obtain ⟨k, Gs, hrest, h4, h5⟩ := h
  obtain ⟨F1, Gs, rfl, ⟨c1, rfl, p1, cap1, rfl, q1⟩, hrest⟩ := hrest
  exact ⟨k, _ :: Gs, ⟨_, Gs, rfl, ⟨[_, _, _, _, _], rfl, ⟨_, _, _, _, rfl, rfl, ⟨rfl, rfl⟩, ⟨_, _, _, _, rfl, rfl, ⟨_, _, rfl, q1⟩, ⟨_, _, _, _, rfl, rfl, ⟨rfl, rfl⟩, ⟨_, _, _, _, rfl, rfl, ⟨rfl, rfl⟩, ⟨rfl, rfl⟩⟩⟩⟩⟩⟩, hrest⟩, by simpa using h4, fun b hb => h5 b (by simpa using hb)⟩
theorem st64_own {D : List Nat} {w0 w : World} {As : List Item} {v : Value} {a : (Int × (List Int) × Int × Int × Int)} (h : Ctx D w0 w (Item.own v a :: As)) : ∃ v1, v = .agg #[.int .i64 a.1, v1, .int .i64 a.2.2.1, .int .i64 a.2.2.2.1, .int .i64 a.2.2.2.2] ∧ Ctx D w0 w (Item.own v1 a.2.1 :: As) := by
  obtain ⟨k, _, ⟨F, Gs, rfl, ⟨cs, rfl, h⟩, hrest⟩, h4, h5⟩ := h
  obtain ⟨c1, c2, Gh_0, Hh_0, rfl, rfl, h_0, h_r0⟩ := h
  obtain ⟨rfl, rfl⟩ := h_0
  obtain ⟨c1, c2, Gh_1, Hh_1, rfl, rfl, h_1, h_r1⟩ := h_r0
  obtain ⟨p1, cap1, rfl, q1⟩ := h_1
  obtain ⟨c1, c2, Gh_2, Hh_2, rfl, rfl, h_2, h_r2⟩ := h_r1
  obtain ⟨rfl, rfl⟩ := h_2
  obtain ⟨c1, c2, Gh_3, Hh_3, rfl, rfl, h_3, h_r3⟩ := h_r2
  obtain ⟨rfl, rfl⟩ := h_3
  obtain ⟨rfl, rfl⟩ := h_r3
  exact ⟨_, rfl, k, _, ⟨_, _, rfl, ⟨[_], rfl, p1, cap1, rfl, q1⟩, hrest⟩, by simpa using h4, fun b hb => h5 b (by simpa using hb)⟩
theorem ro_st68 {D : List Nat} {w : World} {v : Value} {a : (Int × (List Int))} (h : RO D w v a) : ∃ v1, v = .agg #[.int .i64 a.1, v1] ∧ RO D w v1 a.2 := by
  obtain ⟨F, ⟨cs, rfl, h⟩, hD⟩ := h
  obtain ⟨c1, c2, F1, F2, rfl, rfl, h_0, h_r0⟩ := h
  obtain ⟨rfl, rfl⟩ := h_0
  obtain ⟨p1, cap1, rfl, q1⟩ := h_r0
  refine ⟨_, rfl, ?_⟩
  · exact ⟨_, ⟨[_], rfl, p1, cap1, rfl, q1⟩, fun b hb => hD b (by simp [hb])⟩
theorem own_st68 {D : List Nat} {w0 w : World} {As : List Item} (x0 : Int) (v1 : Value) (x1 : (List Int)) (h : Ctx D w0 w (Item.own v1 x1 :: As)) : Ctx D w0 w (Item.own (.agg #[.int .i64 x0, v1]) ((x0, x1) : (Int × (List Int))) :: As) := by
  obtain ⟨k, Gs, hrest, h4, h5⟩ := h
  obtain ⟨F1, Gs, rfl, ⟨c1, rfl, p1, cap1, rfl, q1⟩, hrest⟩ := hrest
  exact ⟨k, _ :: Gs, ⟨_, Gs, rfl, ⟨[_, _], rfl, ⟨_, _, _, _, rfl, rfl, ⟨rfl, rfl⟩, ⟨_, _, rfl, q1⟩⟩⟩, hrest⟩, by simpa using h4, fun b hb => h5 b (by simpa using hb)⟩
theorem st68_own {D : List Nat} {w0 w : World} {As : List Item} {v : Value} {a : (Int × (List Int))} (h : Ctx D w0 w (Item.own v a :: As)) : ∃ v1, v = .agg #[.int .i64 a.1, v1] ∧ Ctx D w0 w (Item.own v1 a.2 :: As) := by
  obtain ⟨k, _, ⟨F, Gs, rfl, ⟨cs, rfl, h⟩, hrest⟩, h4, h5⟩ := h
  obtain ⟨c1, c2, Gh_0, Hh_0, rfl, rfl, h_0, h_r0⟩ := h
  obtain ⟨rfl, rfl⟩ := h_0
  obtain ⟨p1, cap1, rfl, q1⟩ := h_r0
  exact ⟨_, rfl, k, _, ⟨_, _, rfl, ⟨[_], rfl, p1, cap1, rfl, q1⟩, hrest⟩, by simpa using h4, fun b hb => h5 b (by simpa using hb)⟩
theorem ro_st70 {D : List Nat} {w : World} {v : Value} {a : (Bool × (Int × (List Int)))} (h : RO D w v a) : ∃ v1, v = .agg #[.bool a.1, .int .i64 a.2.1, v1] ∧ RO D w v1 a.2.2 := by
  obtain ⟨F, ⟨cs, rfl, h⟩, hD⟩ := h
  obtain ⟨c1, c2, F1, F2, rfl, rfl, h_0, h_r0⟩ := h
  obtain ⟨rfl, rfl⟩ := h_0
  obtain ⟨c1, c2, F1, F2, rfl, rfl, h_r0_0, h_r0_r0⟩ := h_r0
  obtain ⟨rfl, rfl⟩ := h_r0_0
  obtain ⟨p1, cap1, rfl, q1⟩ := h_r0_r0
  refine ⟨_, rfl, ?_⟩
  · exact ⟨_, ⟨[_], rfl, p1, cap1, rfl, q1⟩, fun b hb => hD b (by simp [hb])⟩
theorem own_st70 {D : List Nat} {w0 w : World} {As : List Item} (x0 : Bool) (x1 : Int) (v2 : Value) (x2 : (List Int)) (h : Ctx D w0 w (Item.own v2 x2 :: As)) : Ctx D w0 w (Item.own (.agg #[.bool x0, .int .i64 x1, v2]) ((x0, (x1, x2)) : (Bool × (Int × (List Int)))) :: As) := by
  obtain ⟨k, Gs, hrest, h4, h5⟩ := h
  obtain ⟨F2, Gs, rfl, ⟨c2, rfl, p2, cap2, rfl, q2⟩, hrest⟩ := hrest
  exact ⟨k, _ :: Gs, ⟨_, Gs, rfl, ⟨[_, _, _], rfl, ⟨_, _, _, _, rfl, rfl, ⟨rfl, rfl⟩, ⟨_, _, _, _, rfl, rfl, ⟨rfl, rfl⟩, ⟨_, _, rfl, q2⟩⟩⟩⟩, hrest⟩, by simpa using h4, fun b hb => h5 b (by simpa using hb)⟩
theorem st70_own {D : List Nat} {w0 w : World} {As : List Item} {v : Value} {a : (Bool × (Int × (List Int)))} (h : Ctx D w0 w (Item.own v a :: As)) : ∃ v2, v = .agg #[.bool a.1, .int .i64 a.2.1, v2] ∧ Ctx D w0 w (Item.own v2 a.2.2 :: As) := by
  obtain ⟨k, _, ⟨F, Gs, rfl, ⟨cs, rfl, h⟩, hrest⟩, h4, h5⟩ := h
  obtain ⟨c1, c2, Gh_0, Hh_0, rfl, rfl, h_0, h_r0⟩ := h
  obtain ⟨rfl, rfl⟩ := h_0
  obtain ⟨c1, c2, Gh_r0_0, Hh_r0_0, rfl, rfl, h_r0_0, h_r0_r0⟩ := h_r0
  obtain ⟨rfl, rfl⟩ := h_r0_0
  obtain ⟨p2, cap2, rfl, q2⟩ := h_r0_r0
  exact ⟨_, rfl, k, _, ⟨_, _, rfl, ⟨[_], rfl, p2, cap2, rfl, q2⟩, hrest⟩, by simpa using h4, fun b hb => h5 b (by simpa using hb)⟩
theorem ro_st73 {D : List Nat} {w : World} {v : Value} {a : ((Int × (List Int)) × Int × Int)} (h : RO D w v a) : ∃ v1, v = .agg #[.int .i64 a.1.1, v1, .int .i64 a.2.1, .int .i64 a.2.2] ∧ RO D w v1 a.1.2 := by
  obtain ⟨F, ⟨cs, rfl, h⟩, hD⟩ := h
  obtain ⟨c1, c2, F1, F2, rfl, rfl, h_0, h_r0⟩ := h
  obtain ⟨c1, c2, F1, F2, rfl, rfl, h_0_0, h_0_r0⟩ := h_0
  obtain ⟨rfl, rfl⟩ := h_0_0
  obtain ⟨p1, cap1, rfl, q1⟩ := h_0_r0
  obtain ⟨c1, c2, F1, F2, rfl, rfl, h_1, h_r1⟩ := h_r0
  obtain ⟨rfl, rfl⟩ := h_1
  obtain ⟨rfl, rfl⟩ := h_r1
  refine ⟨_, rfl, ?_⟩
  · exact ⟨_, ⟨[_], rfl, p1, cap1, rfl, q1⟩, fun b hb => hD b (by simp [hb])⟩
theorem own_st73 {D : List Nat} {w0 w : World} {As : List Item} (x0 : Int) (v1 : Value) (x1 : (List Int)) (x2 : Int) (x3 : Int) (h : Ctx D w0 w (Item.own v1 x1 :: As)) : Ctx D w0 w (Item.own (.agg #[.int .i64 x0, v1, .int .i64 x2, .int .i64 x3]) (((x0, x1), x2, x3) : ((Int × (List Int)) × Int × Int)) :: As) := by
  obtain ⟨k, Gs, hrest, h4, h5⟩ := h
  obtain ⟨F1, Gs, rfl, ⟨c1, rfl, p1, cap1, rfl, q1⟩, hrest⟩ := hrest
  exact ⟨k, _ :: Gs, ⟨_, Gs, rfl, ⟨[_, _, _, _], rfl, ⟨_, _, _, _, rfl, rfl, ⟨_, _, _, _, rfl, rfl, ⟨rfl, rfl⟩, ⟨_, _, rfl, q1⟩⟩, ⟨_, _, _, _, rfl, rfl, ⟨rfl, rfl⟩, ⟨rfl, rfl⟩⟩⟩⟩, hrest⟩, by simpa using h4, fun b hb => h5 b (by simpa using hb)⟩
theorem st73_own {D : List Nat} {w0 w : World} {As : List Item} {v : Value} {a : ((Int × (List Int)) × Int × Int)} (h : Ctx D w0 w (Item.own v a :: As)) : ∃ v1, v = .agg #[.int .i64 a.1.1, v1, .int .i64 a.2.1, .int .i64 a.2.2] ∧ Ctx D w0 w (Item.own v1 a.1.2 :: As) := by
  obtain ⟨k, _, ⟨F, Gs, rfl, ⟨cs, rfl, h⟩, hrest⟩, h4, h5⟩ := h
  obtain ⟨c1, c2, Gh_0, Hh_0, rfl, rfl, h_0, h_r0⟩ := h
  obtain ⟨c1, c2, Gh_0_0, Hh_0_0, rfl, rfl, h_0_0, h_0_r0⟩ := h_0
  obtain ⟨rfl, rfl⟩ := h_0_0
  obtain ⟨p1, cap1, rfl, q1⟩ := h_0_r0
  obtain ⟨c1, c2, Gh_1, Hh_1, rfl, rfl, h_1, h_r1⟩ := h_r0
  obtain ⟨rfl, rfl⟩ := h_1
  obtain ⟨rfl, rfl⟩ := h_r1
  exact ⟨_, rfl, k, _, ⟨_, _, rfl, ⟨[_], rfl, p1, cap1, rfl, q1⟩, hrest⟩, by simpa using h4, fun b hb => h5 b (by simpa using hb)⟩
theorem ro_st81 {D : List Nat} {w : World} {v : Value} {a : (Int × (List Int))} (h : RO D w v a) : ∃ v1, v = .agg #[.int .i64 a.1, v1] ∧ RO D w v1 a.2 := by
  obtain ⟨F, ⟨cs, rfl, h⟩, hD⟩ := h
  obtain ⟨c1, c2, F1, F2, rfl, rfl, h_0, h_r0⟩ := h
  obtain ⟨rfl, rfl⟩ := h_0
  obtain ⟨p1, cap1, rfl, q1⟩ := h_r0
  refine ⟨_, rfl, ?_⟩
  · exact ⟨_, ⟨[_], rfl, p1, cap1, rfl, q1⟩, fun b hb => hD b (by simp [hb])⟩
theorem own_st81 {D : List Nat} {w0 w : World} {As : List Item} (x0 : Int) (v1 : Value) (x1 : (List Int)) (h : Ctx D w0 w (Item.own v1 x1 :: As)) : Ctx D w0 w (Item.own (.agg #[.int .i64 x0, v1]) ((x0, x1) : (Int × (List Int))) :: As) := by
  obtain ⟨k, Gs, hrest, h4, h5⟩ := h
  obtain ⟨F1, Gs, rfl, ⟨c1, rfl, p1, cap1, rfl, q1⟩, hrest⟩ := hrest
  exact ⟨k, _ :: Gs, ⟨_, Gs, rfl, ⟨[_, _], rfl, ⟨_, _, _, _, rfl, rfl, ⟨rfl, rfl⟩, ⟨_, _, rfl, q1⟩⟩⟩, hrest⟩, by simpa using h4, fun b hb => h5 b (by simpa using hb)⟩
theorem st81_own {D : List Nat} {w0 w : World} {As : List Item} {v : Value} {a : (Int × (List Int))} (h : Ctx D w0 w (Item.own v a :: As)) : ∃ v1, v = .agg #[.int .i64 a.1, v1] ∧ Ctx D w0 w (Item.own v1 a.2 :: As) := by
  obtain ⟨k, _, ⟨F, Gs, rfl, ⟨cs, rfl, h⟩, hrest⟩, h4, h5⟩ := h
  obtain ⟨c1, c2, Gh_0, Hh_0, rfl, rfl, h_0, h_r0⟩ := h
  obtain ⟨rfl, rfl⟩ := h_0
  obtain ⟨p1, cap1, rfl, q1⟩ := h_r0
  exact ⟨_, rfl, k, _, ⟨_, _, rfl, ⟨[_], rfl, p1, cap1, rfl, q1⟩, hrest⟩, by simpa using h4, fun b hb => h5 b (by simpa using hb)⟩
theorem ro_st83 {D : List Nat} {w : World} {v : Value} {a : (Bool × (Int × (List Int)))} (h : RO D w v a) : ∃ v1, v = .agg #[.bool a.1, .int .i64 a.2.1, v1] ∧ RO D w v1 a.2.2 := by
  obtain ⟨F, ⟨cs, rfl, h⟩, hD⟩ := h
  obtain ⟨c1, c2, F1, F2, rfl, rfl, h_0, h_r0⟩ := h
  obtain ⟨rfl, rfl⟩ := h_0
  obtain ⟨c1, c2, F1, F2, rfl, rfl, h_r0_0, h_r0_r0⟩ := h_r0
  obtain ⟨rfl, rfl⟩ := h_r0_0
  obtain ⟨p1, cap1, rfl, q1⟩ := h_r0_r0
  refine ⟨_, rfl, ?_⟩
  · exact ⟨_, ⟨[_], rfl, p1, cap1, rfl, q1⟩, fun b hb => hD b (by simp [hb])⟩
theorem own_st83 {D : List Nat} {w0 w : World} {As : List Item} (x0 : Bool) (x1 : Int) (v2 : Value) (x2 : (List Int)) (h : Ctx D w0 w (Item.own v2 x2 :: As)) : Ctx D w0 w (Item.own (.agg #[.bool x0, .int .i64 x1, v2]) ((x0, (x1, x2)) : (Bool × (Int × (List Int)))) :: As) := by
  obtain ⟨k, Gs, hrest, h4, h5⟩ := h
  obtain ⟨F2, Gs, rfl, ⟨c2, rfl, p2, cap2, rfl, q2⟩, hrest⟩ := hrest
  exact ⟨k, _ :: Gs, ⟨_, Gs, rfl, ⟨[_, _, _], rfl, ⟨_, _, _, _, rfl, rfl, ⟨rfl, rfl⟩, ⟨_, _, _, _, rfl, rfl, ⟨rfl, rfl⟩, ⟨_, _, rfl, q2⟩⟩⟩⟩, hrest⟩, by simpa using h4, fun b hb => h5 b (by simpa using hb)⟩
theorem st83_own {D : List Nat} {w0 w : World} {As : List Item} {v : Value} {a : (Bool × (Int × (List Int)))} (h : Ctx D w0 w (Item.own v a :: As)) : ∃ v2, v = .agg #[.bool a.1, .int .i64 a.2.1, v2] ∧ Ctx D w0 w (Item.own v2 a.2.2 :: As) := by
  obtain ⟨k, _, ⟨F, Gs, rfl, ⟨cs, rfl, h⟩, hrest⟩, h4, h5⟩ := h
  obtain ⟨c1, c2, Gh_0, Hh_0, rfl, rfl, h_0, h_r0⟩ := h
  obtain ⟨rfl, rfl⟩ := h_0
  obtain ⟨c1, c2, Gh_r0_0, Hh_r0_0, rfl, rfl, h_r0_0, h_r0_r0⟩ := h_r0
  obtain ⟨rfl, rfl⟩ := h_r0_0
  obtain ⟨p2, cap2, rfl, q2⟩ := h_r0_r0
  exact ⟨_, rfl, k, _, ⟨_, _, rfl, ⟨[_], rfl, p2, cap2, rfl, q2⟩, hrest⟩, by simpa using h4, fun b hb => h5 b (by simpa using hb)⟩
theorem ro_st84 {D : List Nat} {w : World} {v : Value} {a : (Int × (List Int) × Int × Int × Int)} (h : RO D w v a) : ∃ v1, v = .agg #[.int .i64 a.1, v1, .int .i64 a.2.2.1, .int .i64 a.2.2.2.1, .int .i64 a.2.2.2.2] ∧ RO D w v1 a.2.1 := by
  obtain ⟨F, ⟨cs, rfl, h⟩, hD⟩ := h
  obtain ⟨c1, c2, F1, F2, rfl, rfl, h_0, h_r0⟩ := h
  obtain ⟨rfl, rfl⟩ := h_0
  obtain ⟨c1, c2, F1, F2, rfl, rfl, h_1, h_r1⟩ := h_r0
  obtain ⟨p1, cap1, rfl, q1⟩ := h_1
  obtain ⟨c1, c2, F1, F2, rfl, rfl, h_2, h_r2⟩ := h_r1
  obtain ⟨rfl, rfl⟩ := h_2
  obtain ⟨c1, c2, F1, F2, rfl, rfl, h_3, h_r3⟩ := h_r2
  obtain ⟨rfl, rfl⟩ := h_3
  obtain ⟨rfl, rfl⟩ := h_r3
  refine ⟨_, rfl, ?_⟩
  · exact ⟨_, ⟨[_], rfl, p1, cap1, rfl, q1⟩, fun b hb => hD b (by simp [hb])⟩
theorem own_st84 {D : List Nat} {w0 w : World} {As : List Item} (x0 : Int) (v1 : Value) (x1 : (List Int)) (x2 : Int) (x3 : Int) (x4 : Int) (h : Ctx D w0 w (Item.own v1 x1 :: As)) : Ctx D w0 w (Item.own (.agg #[.int .i64 x0, v1, .int .i64 x2, .int .i64 x3, .int .i64 x4]) ((x0, x1, x2, x3, x4) : (Int × (List Int) × Int × Int × Int)) :: As) := by
  obtain ⟨k, Gs, hrest, h4, h5⟩ := h
  obtain ⟨F1, Gs, rfl, ⟨c1, rfl, p1, cap1, rfl, q1⟩, hrest⟩ := hrest
  exact ⟨k, _ :: Gs, ⟨_, Gs, rfl, ⟨[_, _, _, _, _], rfl, ⟨_, _, _, _, rfl, rfl, ⟨rfl, rfl⟩, ⟨_, _, _, _, rfl, rfl, ⟨_, _, rfl, q1⟩, ⟨_, _, _, _, rfl, rfl, ⟨rfl, rfl⟩, ⟨_, _, _, _, rfl, rfl, ⟨rfl, rfl⟩, ⟨rfl, rfl⟩⟩⟩⟩⟩⟩, hrest⟩, by simpa using h4, fun b hb => h5 b (by simpa using hb)⟩
theorem st84_own {D : List Nat} {w0 w : World} {As : List Item} {v : Value} {a : (Int × (List Int) × Int × Int × Int)} (h : Ctx D w0 w (Item.own v a :: As)) : ∃ v1, v = .agg #[.int .i64 a.1, v1, .int .i64 a.2.2.1, .int .i64 a.2.2.2.1, .int .i64 a.2.2.2.2] ∧ Ctx D w0 w (Item.own v1 a.2.1 :: As) := by
  obtain ⟨k, _, ⟨F, Gs, rfl, ⟨cs, rfl, h⟩, hrest⟩, h4, h5⟩ := h
  obtain ⟨c1, c2, Gh_0, Hh_0, rfl, rfl, h_0, h_r0⟩ := h
  obtain ⟨rfl, rfl⟩ := h_0
  obtain ⟨c1, c2, Gh_1, Hh_1, rfl, rfl, h_1, h_r1⟩ := h_r0
  obtain ⟨p1, cap1, rfl, q1⟩ := h_1
  obtain ⟨c1, c2, Gh_2, Hh_2, rfl, rfl, h_2, h_r2⟩ := h_r1
  obtain ⟨rfl, rfl⟩ := h_2
  obtain ⟨c1, c2, Gh_3, Hh_3, rfl, rfl, h_3, h_r3⟩ := h_r2
  obtain ⟨rfl, rfl⟩ := h_3
  obtain ⟨rfl, rfl⟩ := h_r3
  exact ⟨_, rfl, k, _, ⟨_, _, rfl, ⟨[_], rfl, p1, cap1, rfl, q1⟩, hrest⟩, by simpa using h4, fun b hb => h5 b (by simpa using hb)⟩
theorem zero3 : ∀ w, (zeroValue 3).run Tryz.prog w = .ok ((.int .i64 0)) w := zero_run (i := Tryz.t3) (by kernel_rfl) rfl
theorem zc3 : ∀ i z, Tryz.prog.info? 3 = some i → i.zero = some z → z.cells.toList = [(.int .i64 0)] := zc_of (i := Tryz.t3) (by kernel_rfl) rfl rfl
theorem zr3 : ∀ w, Rep.rep true w [(.int .i64 0)] ((0 : Int) : Int) [] := fun w => ⟨rfl, rfl⟩
theorem zero36 : ∀ w, (zeroValue 36).run Tryz.prog w = .ok (.agg #[(.slice none 0 0), (.int .i64 0), (.int .i64 0), (.int .i64 0), (.bool false)]) w := zero_run (i := Tryz.t36) (by kernel_rfl) rfl
theorem zc36 : ∀ i z, Tryz.prog.info? 36 = some i → i.zero = some z → z.cells.toList = [(.slice none 0 0), (.int .i64 0), (.int .i64 0), (.int .i64 0), (.bool false)] := zc_of (i := Tryz.t36) (by kernel_rfl) rfl rfl
theorem zr36 : ∀ w, Rep.rep true w [(.slice none 0 0), (.int .i64 0), (.int .i64 0), (.int .i64 0), (.bool false)] (([], 0, 0, 0, false) : ((List (Int × (List Int))) × Int × Int × Int × Bool)) [] := fun w => ⟨_, _, [], [], rfl, rfl, (by exact ⟨_, _, rfl, by simp, by simp [maxLen], .inl ⟨rfl, rfl, rfl, rfl⟩⟩), ⟨_, _, [], [], rfl, rfl, ⟨rfl, rfl⟩, ⟨_, _, [], [], rfl, rfl, ⟨rfl, rfl⟩, ⟨_, _, [], [], rfl, rfl, ⟨rfl, rfl⟩, ⟨rfl, rfl⟩⟩⟩⟩⟩
theorem zero38 : ∀ w, (zeroValue 38).run Tryz.prog w = .ok (.agg #[(.slice none 0 0), (.int .i64 0)]) w := zero_run (i := Tryz.t38) (by kernel_rfl) rfl
theorem zc38 : ∀ i z, Tryz.prog.info? 38 = some i → i.zero = some z → z.cells.toList = [(.slice none 0 0), (.int .i64 0)] := zc_of (i := Tryz.t38) (by kernel_rfl) rfl rfl
theorem zr38 : ∀ w, Rep.rep true w [(.slice none 0 0), (.int .i64 0)] (([], 0) : ((List (Int × (List Int))) × Int)) [] := fun w => ⟨_, _, [], [], rfl, rfl, (by exact ⟨_, _, rfl, by simp, by simp [maxLen], .inl ⟨rfl, rfl, rfl, rfl⟩⟩), ⟨rfl, rfl⟩⟩
theorem zero45 : ∀ w, (zeroValue 45).run Tryz.prog w = .ok (.agg #[(.int .i64 0), (.slice none 0 0)]) w := zero_run (i := Tryz.t45) (by kernel_rfl) rfl
theorem zc45 : ∀ i z, Tryz.prog.info? 45 = some i → i.zero = some z → z.cells.toList = [(.int .i64 0), (.slice none 0 0)] := zc_of (i := Tryz.t45) (by kernel_rfl) rfl rfl
theorem zr45 : ∀ w, Rep.rep true w [(.int .i64 0), (.slice none 0 0)] ((0, []) : (Int × (List Int))) [] := fun w => ⟨_, _, [], [], rfl, rfl, ⟨rfl, rfl⟩, (by exact ⟨_, _, rfl, by simp, by simp [maxLen], .inl ⟨rfl, rfl, rfl, rfl⟩⟩)⟩
theorem zero73 : ∀ w, (zeroValue 73).run Tryz.prog w = .ok (.agg #[(.int .i64 0), (.slice none 0 0), (.int .i64 0), (.int .i64 0)]) w := zero_run (i := Tryz.t73) (by kernel_rfl) rfl
theorem zc73 : ∀ i z, Tryz.prog.info? 73 = some i → i.zero = some z → z.cells.toList = [(.int .i64 0), (.slice none 0 0), (.int .i64 0), (.int .i64 0)] := zc_of (i := Tryz.t73) (by kernel_rfl) rfl rfl
theorem zr73 : ∀ w, Rep.rep true w [(.int .i64 0), (.slice none 0 0), (.int .i64 0), (.int .i64 0)] (((0, []), 0, 0) : ((Int × (List Int)) × Int × Int)) [] := fun w => ⟨_, _, [], [], rfl, rfl, ⟨_, _, [], [], rfl, rfl, ⟨rfl, rfl⟩, (by exact ⟨_, _, rfl, by simp, by simp [maxLen], .inl ⟨rfl, rfl, rfl, rfl⟩⟩)⟩, ⟨_, _, [], [], rfl, rfl, ⟨rfl, rfl⟩, ⟨rfl, rfl⟩⟩⟩
theorem zero81 : ∀ w, (zeroValue 81).run Tryz.prog w = .ok (.agg #[(.int .i64 0), (.slice none 0 0)]) w := zero_run (i := Tryz.t81) (by kernel_rfl) rfl
theorem zc81 : ∀ i z, Tryz.prog.info? 81 = some i → i.zero = some z → z.cells.toList = [(.int .i64 0), (.slice none 0 0)] := zc_of (i := Tryz.t81) (by kernel_rfl) rfl rfl
theorem zr81 : ∀ w, Rep.rep true w [(.int .i64 0), (.slice none 0 0)] ((0, []) : (Int × (List Int))) [] := fun w => ⟨_, _, [], [], rfl, rfl, ⟨rfl, rfl⟩, (by exact ⟨_, _, rfl, by simp, by simp [maxLen], .inl ⟨rfl, rfl, rfl, rfl⟩⟩)⟩
theorem zero83 : ∀ w, (zeroValue 83).run Tryz.prog w = .ok (.agg #[(.bool false), (.int .i64 0), (.slice none 0 0)]) w := zero_run (i := Tryz.t83) (by kernel_rfl) rfl
theorem zc83 : ∀ i z, Tryz.prog.info? 83 = some i → i.zero = some z → z.cells.toList = [(.bool false), (.int .i64 0), (.slice none 0 0)] := zc_of (i := Tryz.t83) (by kernel_rfl) rfl rfl
theorem zr83 : ∀ w, Rep.rep true w [(.bool false), (.int .i64 0), (.slice none 0 0)] ((false, (0, [])) : (Bool × (Int × (List Int)))) [] := fun w => ⟨_, _, [], [], rfl, rfl, ⟨rfl, rfl⟩, ⟨_, _, [], [], rfl, rfl, ⟨rfl, rfl⟩, (by exact ⟨_, _, rfl, by simp, by simp [maxLen], .inl ⟨rfl, rfl, rfl, rfl⟩⟩)⟩⟩
theorem zero84 : ∀ w, (zeroValue 84).run Tryz.prog w = .ok (.agg #[(.int .i64 0), (.slice none 0 0), (.int .i64 0), (.int .i64 0), (.int .i64 0)]) w := zero_run (i := Tryz.t84) (by kernel_rfl) rfl
theorem zc84 : ∀ i z, Tryz.prog.info? 84 = some i → i.zero = some z → z.cells.toList = [(.int .i64 0), (.slice none 0 0), (.int .i64 0), (.int .i64 0), (.int .i64 0)] := zc_of (i := Tryz.t84) (by kernel_rfl) rfl rfl
theorem zr84 : ∀ w, Rep.rep true w [(.int .i64 0), (.slice none 0 0), (.int .i64 0), (.int .i64 0), (.int .i64 0)] ((0, [], 0, 0, 0) : (Int × (List Int) × Int × Int × Int)) [] := fun w => ⟨_, _, [], [], rfl, rfl, ⟨rfl, rfl⟩, ⟨_, _, [], [], rfl, rfl, (by exact ⟨_, _, rfl, by simp, by simp [maxLen], .inl ⟨rfl, rfl, rfl, rfl⟩⟩), ⟨_, _, [], [], rfl, rfl, ⟨rfl, rfl⟩, ⟨_, _, [], [], rfl, rfl, ⟨rfl, rfl⟩, ⟨rfl, rfl⟩⟩⟩⟩⟩
theorem built36  : Tryz.prog.built 36 [] = some #[(.slice none 0 0), (.int .i64 0), (.int .i64 0), (.int .i64 0), (.bool false)] :=
  built_of (i := Tryz.t36) (z := [(.slice none 0 0), (.int .i64 0), (.int .i64 0), (.int .i64 0), (.bool false)]) (places := [(0, 1), (1, 1), (2, 1), (3, 1), (4, 1)]) (by kernel_rfl) Tryz.underlying36 rfl rfl (by kernel_rfl) fill_end
theorem built38_0_1 {u0 u1 : Value} {y0_0 y1_0 : Value} (h0 : u0.cells.toList = [y0_0]) (h1 : u1.cells.toList = [y1_0]) : Tryz.prog.built 38 [(0, u0), (1, u1)] = some #[y0_0, y1_0] :=
  built_of (i := Tryz.t38) (z := [(.slice none 0 0), (.int .i64 0)]) (places := [(0, 1), (1, 1)]) (by kernel_rfl) Tryz.underlying38 rfl rfl (by kernel_rfl) (fill_step (cells' := [y0_0, (.int .i64 0)]) (off := 0) rfl h0 rfl rfl (fill_step (cells' := [y0_0, y1_0]) (off := 1) rfl h1 rfl rfl fill_end))
theorem built45_0_1 {u0 u1 : Value} {y0_0 y1_0 : Value} (h0 : u0.cells.toList = [y0_0]) (h1 : u1.cells.toList = [y1_0]) : Tryz.prog.built 45 [(0, u0), (1, u1)] = some #[y0_0, y1_0] :=
  built_of (i := Tryz.t45) (z := [(.int .i64 0), (.slice none 0 0)]) (places := [(0, 1), (1, 1)]) (by kernel_rfl) Tryz.underlying45 rfl rfl (by kernel_rfl) (fill_step (cells' := [y0_0, (.slice none 0 0)]) (off := 0) rfl h0 rfl rfl (fill_step (cells' := [y0_0, y1_0]) (off := 1) rfl h1 rfl rfl fill_end))
theorem built73  : Tryz.prog.built 73 [] = some #[(.int .i64 0), (.slice none 0 0), (.int .i64 0), (.int .i64 0)] :=
  built_of (i := Tryz.t73) (z := [(.int .i64 0), (.slice none 0 0), (.int .i64 0), (.int .i64 0)]) (places := [(0, 2), (2, 1), (3, 1)]) (by kernel_rfl) Tryz.underlying73 rfl rfl (by kernel_rfl) fill_end
theorem built73_0_1_2 {u0 u1 u2 : Value} {y0_0 y0_1 y1_0 y2_0 : Value} (h0 : u0.cells.toList = [y0_0, y0_1]) (h1 : u1.cells.toList = [y1_0]) (h2 : u2.cells.toList = [y2_0]) : Tryz.prog.built 73 [(0, u0), (1, u1), (2, u2)] = some #[y0_0, y0_1, y1_0, y2_0] :=
  built_of (i := Tryz.t73) (z := [(.int .i64 0), (.slice none 0 0), (.int .i64 0), (.int .i64 0)]) (places := [(0, 2), (2, 1), (3, 1)]) (by kernel_rfl) Tryz.underlying73 rfl rfl (by kernel_rfl) (fill_step (cells' := [y0_0, y0_1, (.int .i64 0), (.int .i64 0)]) (off := 0) rfl h0 rfl rfl (fill_step (cells' := [y0_0, y0_1, y1_0, (.int .i64 0)]) (off := 2) rfl h1 rfl rfl (fill_step (cells' := [y0_0, y0_1, y1_0, y2_0]) (off := 3) rfl h2 rfl rfl fill_end)))
theorem built73_0_2 {u0 u2 : Value} {y0_0 y0_1 y2_0 : Value} (h0 : u0.cells.toList = [y0_0, y0_1]) (h2 : u2.cells.toList = [y2_0]) : Tryz.prog.built 73 [(0, u0), (2, u2)] = some #[y0_0, y0_1, (.int .i64 0), y2_0] :=
  built_of (i := Tryz.t73) (z := [(.int .i64 0), (.slice none 0 0), (.int .i64 0), (.int .i64 0)]) (places := [(0, 2), (2, 1), (3, 1)]) (by kernel_rfl) Tryz.underlying73 rfl rfl (by kernel_rfl) (fill_step (cells' := [y0_0, y0_1, (.int .i64 0), (.int .i64 0)]) (off := 0) rfl h0 rfl rfl (fill_step (cells' := [y0_0, y0_1, (.int .i64 0), y2_0]) (off := 3) rfl h2 rfl rfl fill_end))
theorem built81_0_1 {u0 u1 : Value} {y0_0 y1_0 : Value} (h0 : u0.cells.toList = [y0_0]) (h1 : u1.cells.toList = [y1_0]) : Tryz.prog.built 81 [(0, u0), (1, u1)] = some #[y0_0, y1_0] :=
  built_of (i := Tryz.t81) (z := [(.int .i64 0), (.slice none 0 0)]) (places := [(0, 1), (1, 1)]) (by kernel_rfl) Tryz.underlying81 rfl rfl (by kernel_rfl) (fill_step (cells' := [y0_0, (.slice none 0 0)]) (off := 0) rfl h0 rfl rfl (fill_step (cells' := [y0_0, y1_0]) (off := 1) rfl h1 rfl rfl fill_end))
end Go.Gx.Px
