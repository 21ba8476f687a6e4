/- The types of the seat, as the library wants them. Conditions: none. -/
import Derived.Test.YtdkfiadoiapnbaaGxHo
import Derived.Test.YtdkfiadoiapnbaaGxAp
import Derived.Test.YtdkfiadoiapnbaaGxSo
import Derived.Test.YtdkfiadoiapnbaaSh
import Derived.Test.YtdkfiadoiapnbaaProg
set_option linter.unusedVariables false
set_option linter.unusedSimpArgs false
namespace Go.Gx.Px
open Go.Proofs
theorem hmix : Try.prog.follows .mixedOrders = true := by kernel_rfl
theorem ty3 : Ty Try.prog 3 Int := ⟨Try.isAgg3, Try.sizeOf3, Try.t3, _, by kernel_rfl, rfl, by decide, rfl, rfl⟩
theorem ty51 : Ty Try.prog 51 (Int × (List Int) × Int × Int × Int) := ⟨Try.isAgg51, Try.sizeOf51, Try.t51, _, by kernel_rfl, rfl, by decide, rfl, rfl⟩
theorem ty55 : Ty Try.prog 55 (Int × Int) := ⟨Try.isAgg55, Try.sizeOf55, Try.t55, _, by kernel_rfl, rfl, by decide, rfl, rfl⟩
theorem ty57 : Ty Try.prog 57 (Int × (List Int) × Int × Int × Int) := ⟨Try.isAgg57, Try.sizeOf57, Try.t57, _, by kernel_rfl, rfl, by decide, rfl, rfl⟩
theorem ty59 : Ty Try.prog 59 (Int × (List Int)) := ⟨Try.isAgg59, Try.sizeOf59, Try.t59, _, by kernel_rfl, rfl, by decide, rfl, rfl⟩
theorem ty65 : Ty Try.prog 65 (Int × Int) := ⟨Try.isAgg65, Try.sizeOf65, Try.t65, _, by kernel_rfl, rfl, by decide, rfl, rfl⟩
theorem ty72 : Ty Try.prog 72 (Int × (List Int)) := ⟨Try.isAgg72, Try.sizeOf72, Try.t72, _, by kernel_rfl, rfl, by decide, rfl, rfl⟩
theorem b8_3 : ∀ i, Try.prog.info? 3 = some i → i.bytes ≤ 8 := fun i h => by
  obtain rfl := Option.some.inj ((show Try.prog.info? 3 = some Try.t3 by kernel_rfl).symm.trans h)
  decide
theorem ro_st26 {D : List Nat} {w : World} {v : Value} {a : ((List Int) × (List (Int × (List Int))))} (h : RO D w v a) : ∃ v1, ∃ v2, v = .agg #[v1, v2] ∧ RO D w v1 a.1 ∧ RO D w v2 a.2 := by
  obtain ⟨F, ⟨cs, rfl, h⟩, hD⟩ := h
  obtain ⟨c1, c2, F1, F2, rfl, rfl, h_0, h_r0⟩ := h
  obtain ⟨p1, cap1, rfl, q1⟩ := h_0
  obtain ⟨p2, cap2, rfl, q2⟩ := h_r0
  refine ⟨_, _, rfl, ?_, ?_⟩
  · exact ⟨_, ⟨[_], rfl, p1, cap1, rfl, q1⟩, fun b hb => hD b (by simp [hb])⟩
  · exact ⟨_, ⟨[_], rfl, p2, cap2, rfl, q2⟩, fun b hb => hD b (by simp [hb])⟩
theorem own_st26 {D : List Nat} {w0 w : World} {As : List Item} (v0 : Value) (x0 : (List Int)) (v1 : Value) (x1 : (List (Int × (List Int)))) (h : Ctx D w0 w (Item.own v0 x0 :: Item.own v1 x1 :: As)) : Ctx D w0 w (Item.own (.agg #[v0, v1]) ((x0, x1) : ((List Int) × (List (Int × (List Int))))) :: As) := by
  obtain ⟨k, Gs, hrest, h4, h5⟩ := h
  obtain ⟨F0, Gs, rfl, ⟨c0, rfl, p0, cap0, rfl, q0⟩, hrest⟩ := hrest
  obtain ⟨F1, Gs, rfl, ⟨c1, rfl, p1, cap1, rfl, q1⟩, hrest⟩ := hrest
  exact ⟨k, _ :: Gs, ⟨_, Gs, rfl, ⟨[_, _], rfl, ⟨_, _, _, _, rfl, rfl, ⟨_, _, rfl, q0⟩, ⟨_, _, rfl, q1⟩⟩⟩, hrest⟩, by simpa using h4, fun b hb => h5 b (by simpa using hb)⟩
theorem st26_own {D : List Nat} {w0 w : World} {As : List Item} {v : Value} {a : ((List Int) × (List (Int × (List Int))))} (h : Ctx D w0 w (Item.own v a :: As)) : ∃ v0, ∃ v1, v = .agg #[v0, v1] ∧ Ctx D w0 w (Item.own v0 a.1 :: Item.own v1 a.2 :: As) := by
  obtain ⟨k, _, ⟨F, Gs, rfl, ⟨cs, rfl, h⟩, hrest⟩, h4, h5⟩ := h
  obtain ⟨c1, c2, Gh_0, Hh_0, rfl, rfl, h_0, h_r0⟩ := h
  obtain ⟨p0, cap0, rfl, q0⟩ := h_0
  obtain ⟨p1, cap1, rfl, q1⟩ := h_r0
  exact ⟨_, _, rfl, k, _, ⟨_, _, rfl, ⟨[_], rfl, p0, cap0, rfl, q0⟩, ⟨_, _, rfl, ⟨[_], rfl, p1, cap1, rfl, q1⟩, hrest⟩⟩, by simpa using h4, fun b hb => h5 b (by simpa using hb)⟩
theorem ro_st36 {D : List Nat} {w : World} {v : Value} {a : ((List Int) × (List (Int × (List Int))))} (h : RO D w v a) : ∃ v1, ∃ v2, v = .agg #[v1, v2] ∧ RO D w v1 a.1 ∧ RO D w v2 a.2 := by
  obtain ⟨F, ⟨cs, rfl, h⟩, hD⟩ := h
  obtain ⟨c1, c2, F1, F2, rfl, rfl, h_0, h_r0⟩ := h
  obtain ⟨p1, cap1, rfl, q1⟩ := h_0
  obtain ⟨p2, cap2, rfl, q2⟩ := h_r0
  refine ⟨_, _, rfl, ?_, ?_⟩
  · exact ⟨_, ⟨[_], rfl, p1, cap1, rfl, q1⟩, fun b hb => hD b (by simp [hb])⟩
  · exact ⟨_, ⟨[_], rfl, p2, cap2, rfl, q2⟩, fun b hb => hD b (by simp [hb])⟩
theorem own_st36 {D : List Nat} {w0 w : World} {As : List Item} (v0 : Value) (x0 : (List Int)) (v1 : Value) (x1 : (List (Int × (List Int)))) (h : Ctx D w0 w (Item.own v0 x0 :: Item.own v1 x1 :: As)) : Ctx D w0 w (Item.own (.agg #[v0, v1]) ((x0, x1) : ((List Int) × (List (Int × (List Int))))) :: As) := by
  obtain ⟨k, Gs, hrest, h4, h5⟩ := h
  obtain ⟨F0, Gs, rfl, ⟨c0, rfl, p0, cap0, rfl, q0⟩, hrest⟩ := hrest
  obtain ⟨F1, Gs, rfl, ⟨c1, rfl, p1, cap1, rfl, q1⟩, hrest⟩ := hrest
  exact ⟨k, _ :: Gs, ⟨_, Gs, rfl, ⟨[_, _], rfl, ⟨_, _, _, _, rfl, rfl, ⟨_, _, rfl, q0⟩, ⟨_, _, rfl, q1⟩⟩⟩, hrest⟩, by simpa using h4, fun b hb => h5 b (by simpa using hb)⟩
theorem st36_own {D : List Nat} {w0 w : World} {As : List Item} {v : Value} {a : ((List Int) × (List (Int × (List Int))))} (h : Ctx D w0 w (Item.own v a :: As)) : ∃ v0, ∃ v1, v = .agg #[v0, v1] ∧ Ctx D w0 w (Item.own v0 a.1 :: Item.own v1 a.2 :: As) := by
  obtain ⟨k, _, ⟨F, Gs, rfl, ⟨cs, rfl, h⟩, hrest⟩, h4, h5⟩ := h
  obtain ⟨c1, c2, Gh_0, Hh_0, rfl, rfl, h_0, h_r0⟩ := h
  obtain ⟨p0, cap0, rfl, q0⟩ := h_0
  obtain ⟨p1, cap1, rfl, q1⟩ := h_r0
  exact ⟨_, _, rfl, k, _, ⟨_, _, rfl, ⟨[_], rfl, p0, cap0, rfl, q0⟩, ⟨_, _, rfl, ⟨[_], rfl, p1, cap1, rfl, q1⟩, hrest⟩⟩, by simpa using h4, fun b hb => h5 b (by simpa using hb)⟩
theorem ro_st51 {D : List Nat} {w : World} {v : Value} {a : (Int × (List Int) × Int × Int × Int)} (h : RO D w v a) : ∃ v1, v = .agg #[.int .i64 a.1, v1, .int .i64 a.2.2.1, .int .i64 a.2.2.2.1, .int .i64 a.2.2.2.2] ∧ RO D w v1 a.2.1 := by
  obtain ⟨F, ⟨cs, rfl, h⟩, hD⟩ := h
  obtain ⟨c1, c2, F1, F2, rfl, rfl, h_0, h_r0⟩ := h
  obtain ⟨rfl, rfl⟩ := h_0
  obtain ⟨c1, c2, F1, F2, rfl, rfl, h_1, h_r1⟩ := h_r0
  obtain ⟨p1, cap1, rfl, q1⟩ := h_1
  obtain ⟨c1, c2, F1, F2, rfl, rfl, h_2, h_r2⟩ := h_r1
  obtain ⟨rfl, rfl⟩ := h_2
  obtain ⟨c1, c2, F1, F2, rfl, rfl, h_3, h_r3⟩ := h_r2
  obtain ⟨rfl, rfl⟩ := h_3
  obtain ⟨rfl, rfl⟩ := h_r3
  refine ⟨_, rfl, ?_⟩
  · exact ⟨_, ⟨[_], rfl, p1, cap1, rfl, q1⟩, fun b hb => hD b (by simp [hb])⟩
theorem own_st51 {D : List Nat} {w0 w : World} {As : List Item} (x0 : Int) (v1 : Value) (x1 : (List Int)) (x2 : Int) (x3 : Int) (x4 : Int) (h : Ctx D w0 w (Item.own v1 x1 :: As)) : Ctx D w0 w (Item.own (.agg #[.int .i64 x0, v1, .int .i64 x2, .int .i64 x3, .int .i64 x4]) ((x0, x1, x2, x3, x4) : (Int × (List Int) × Int × Int × Int)) :: As) := by
  obtain ⟨k, Gs, hrest, h4, h5⟩ := h
  obtain ⟨F1, Gs, rfl, ⟨c1, rfl, p1, cap1, rfl, q1⟩, hrest⟩ := hrest
  exact ⟨k, _ :: Gs, ⟨_, Gs, rfl, ⟨[_, _, _, _, _], rfl, ⟨_, _, _, _, rfl, rfl, ⟨rfl, rfl⟩, ⟨_, _, _, _, rfl, rfl, ⟨_, _, rfl, q1⟩, ⟨_, _, _, _, rfl, rfl, ⟨rfl, rfl⟩, ⟨_, _, _, _, rfl, rfl, ⟨rfl, rfl⟩, ⟨rfl, rfl⟩⟩⟩⟩⟩⟩, hrest⟩, by simpa using h4, fun b hb => h5 b (by simpa using hb)⟩
theorem st51_own {D : List Nat} {w0 w : World} {As : List Item} {v : Value} {a : (Int × (List Int) × Int × Int × Int)} (h : Ctx D w0 w (Item.own v a :: As)) : ∃ v1, v = .agg #[.int .i64 a.1, v1, .int .i64 a.2.2.1, .int .i64 a.2.2.2.1, .int .i64 a.2.2.2.2] ∧ Ctx D w0 w (Item.own v1 a.2.1 :: As) := by
  obtain ⟨k, _, ⟨F, Gs, rfl, ⟨cs, rfl, h⟩, hrest⟩, h4, h5⟩ := h
  obtain ⟨c1, c2, Gh_0, Hh_0, rfl, rfl, h_0, h_r0⟩ := h
  obtain ⟨rfl, rfl⟩ := h_0
  obtain ⟨c1, c2, Gh_1, Hh_1, rfl, rfl, h_1, h_r1⟩ := h_r0
  obtain ⟨p1, cap1, rfl, q1⟩ := h_1
  obtain ⟨c1, c2, Gh_2, Hh_2, rfl, rfl, h_2, h_r2⟩ := h_r1
  obtain ⟨rfl, rfl⟩ := h_2
  obtain ⟨c1, c2, Gh_3, Hh_3, rfl, rfl, h_3, h_r3⟩ := h_r2
  obtain ⟨rfl, rfl⟩ := h_3
  obtain ⟨rfl, rfl⟩ := h_r3
  exact ⟨_, rfl, k, _, ⟨_, _, rfl, ⟨[_], rfl, p1, cap1, rfl, q1⟩, hrest⟩, by simpa using h4, fun b hb => h5 b (by simpa using hb)⟩
theorem ro_st55 {D : List Nat} {w : World} {v : Value} {a : (Int × Int)} (h : RO D w v a) :  v = .agg #[.int .i64 a.1, .int .i64 a.2] := by
  obtain ⟨F, ⟨cs, rfl, h⟩, hD⟩ := h
  obtain ⟨c1, c2, F1, F2, rfl, rfl, h_0, h_r0⟩ := h
  obtain ⟨rfl, rfl⟩ := h_0
  obtain ⟨rfl, rfl⟩ := h_r0
  rfl
theorem own_st55 {D : List Nat} {w0 w : World} {As : List Item} (x0 : Int) (x1 : Int) (h : Ctx D w0 w (As)) : Ctx D w0 w (Item.own (.agg #[.int .i64 x0, .int .i64 x1]) ((x0, x1) : (Int × Int)) :: As) := by
  obtain ⟨k, Gs, hrest, h4, h5⟩ := h
  exact ⟨k, _ :: Gs, ⟨_, Gs, rfl, ⟨[_, _], rfl, ⟨_, _, _, _, rfl, rfl, ⟨rfl, rfl⟩, ⟨rfl, rfl⟩⟩⟩, hrest⟩, by simpa using h4, fun b hb => h5 b (by simpa using hb)⟩
theorem st55_own {D : List Nat} {w0 w : World} {As : List Item} {v : Value} {a : (Int × Int)} (h : Ctx D w0 w (Item.own v a :: As)) : v = .agg #[.int .i64 a.1, .int .i64 a.2] ∧ Ctx D w0 w (As) := by
  obtain ⟨k, _, ⟨F, Gs, rfl, ⟨cs, rfl, h⟩, hrest⟩, h4, h5⟩ := h
  obtain ⟨c1, c2, Gh_0, Hh_0, rfl, rfl, h_0, h_r0⟩ := h
  obtain ⟨rfl, rfl⟩ := h_0
  obtain ⟨rfl, rfl⟩ := h_r0
  exact ⟨rfl, k, _, hrest, by simpa using h4, fun b hb => h5 b (by simpa using hb)⟩
theorem ro_st57 {D : List Nat} {w : World} {v : Value} {a : (Int × (List Int) × Int × Int × Int)} (h : RO D w v a) : ∃ v1, v = .agg #[.int .i64 a.1, v1, .int .i64 a.2.2.1, .int .i64 a.2.2.2.1, .int .i64 a.2.2.2.2] ∧ RO D w v1 a.2.1 := by
  obtain ⟨F, ⟨cs, rfl, h⟩, hD⟩ := h
  obtain ⟨c1, c2, F1, F2, rfl, rfl, h_0, h_r0⟩ := h
  obtain ⟨rfl, rfl⟩ := h_0
  obtain ⟨c1, c2, F1, F2, rfl, rfl, h_1, h_r1⟩ := h_r0
  obtain ⟨p1, cap1, rfl, q1⟩ := h_1
  obtain ⟨c1, c2, F1, F2, rfl, rfl, h_2, h_r2⟩ := h_r1
  obtain ⟨rfl, rfl⟩ := h_2
  obtain ⟨c1, c2, F1, F2, rfl, rfl, h_3, h_r3⟩ := h_r2
  obtain ⟨rfl, rfl⟩ := h_3
  obtain ⟨rfl, rfl⟩ := h_r3
  refine ⟨_, rfl, ?_⟩
  · exact ⟨_, ⟨[_], rfl, p1, cap1, rfl, q1⟩, fun b hb => hD b (by simp [hb])⟩
theorem own_st57 {D : List Nat} {w0 w : World} {As : List Item} (x0 : Int) (v1 : Value) (x1 : (List Int)) (x2 : Int) (x3 : Int) (x4 : Int) (h : Ctx D w0 w (Item.own v1 x1 :: As)) : Ctx D w0 w (Item.own (.agg #[.int .i64 x0, v1, .int .i64 x2, .int .i64 x3, .int .i64 x4]) ((x0, x1, x2, x3, x4) : (Int × (List Int) × Int × Int × Int)) :: As) := by
  obtain ⟨k, Gs, hrest, h4, h5⟩ := h
  obtain ⟨F1, Gs, rfl, ⟨c1, rfl, p1, cap1, rfl, q1⟩, hrest⟩ := hrest
  exact ⟨k, _ :: Gs, ⟨_, Gs, rfl, ⟨[_, _, _, _, _], rfl, ⟨_, _, _, _, rfl, rfl, ⟨rfl, rfl⟩, ⟨_, _, _, _, rfl, rfl, ⟨_, _, rfl, q1⟩, ⟨_, _, _, _, rfl, rfl, ⟨rfl, rfl⟩, ⟨_, _, _, _, rfl, rfl, ⟨rfl, rfl⟩, ⟨rfl, rfl⟩⟩⟩⟩⟩⟩, hrest⟩, by simpa using h4, fun b hb => h5 b (by simpa using hb)⟩
theorem st57_own {D : List Nat} {w0 w : World} {As : List Item} {v : Value} {a : (Int × (List Int) × Int × Int × Int)} (h : Ctx D w0 w (Item.own v a :: As)) : ∃ v1, v = .agg #[.int .i64 a.1, v1, .int .i64 a.2.2.1, .int .i64 a.2.2.2.1, .int .i64 a.2.2.2.2] ∧ Ctx D w0 w (Item.own v1 a.2.1 :: As) := by
  obtain ⟨k, _, ⟨F, Gs, rfl, ⟨cs, rfl, h⟩, hrest⟩, h4, h5⟩ := h
  obtain ⟨c1, c2, Gh_0, Hh_0, rfl, rfl, h_0, h_r0⟩ := h
  obtain ⟨rfl, rfl⟩ := h_0
  obtain ⟨c1, c2, Gh_1, Hh_1, rfl, rfl, h_1, h_r1⟩ := h_r0
  obtain ⟨p1, cap1, rfl, q1⟩ := h_1
  obtain ⟨c1, c2, Gh_2, Hh_2, rfl, rfl, h_2, h_r2⟩ := h_r1
  obtain ⟨rfl, rfl⟩ := h_2
  obtain ⟨c1, c2, Gh_3, Hh_3, rfl, rfl, h_3, h_r3⟩ := h_r2
  obtain ⟨rfl, rfl⟩ := h_3
  obtain ⟨rfl, rfl⟩ := h_r3
  exact ⟨_, rfl, k, _, ⟨_, _, rfl, ⟨[_], rfl, p1, cap1, rfl, q1⟩, hrest⟩, by simpa using h4, fun b hb => h5 b (by simpa using hb)⟩
theorem ro_st59 {D : List Nat} {w : World} {v : Value} {a : (Int × (List Int))} (h : RO D w v a) : ∃ v1, v = .agg #[.int .i64 a.1, v1] ∧ RO D w v1 a.2 := by
  obtain ⟨F, ⟨cs, rfl, h⟩, hD⟩ := h
  obtain ⟨c1, c2, F1, F2, rfl, rfl, h_0, h_r0⟩ := h
  obtain ⟨rfl, rfl⟩ := h_0
  obtain ⟨p1, cap1, rfl, q1⟩ := h_r0
  refine ⟨_, rfl, ?_⟩
  · exact ⟨_, ⟨[_], rfl, p1, cap1, rfl, q1⟩, fun b hb => hD b (by simp [hb])⟩
theorem own_st59 {D : List Nat} {w0 w : World} {As : List Item} (x0 : Int) (v1 : Value) (x1 : (List Int)) (h : Ctx D w0 w (Item.own v1 x1 :: As)) : Ctx D w0 w (Item.own (.agg #[.int .i64 x0, v1]) ((x0, x1) : (Int × (List Int))) :: As) := by
  obtain ⟨k, Gs, hrest, h4, h5⟩ := h
  obtain ⟨F1, Gs, rfl, ⟨c1, rfl, p1, cap1, rfl, q1⟩, hrest⟩ := hrest
  exact ⟨k, _ :: Gs, ⟨_, Gs, rfl, ⟨[_, _], rfl, ⟨_, _, _, _, rfl, rfl, ⟨rfl, rfl⟩, ⟨_, _, rfl, q1⟩⟩⟩, hrest⟩, by simpa using h4, fun b hb => h5 b (by simpa using hb)⟩
theorem st59_own {D : List Nat} {w0 w : World} {As : List Item} {v : Value} {a : (Int × (List Int))} (h : Ctx D w0 w (Item.own v a :: As)) : ∃ v1, v = .agg #[.int .i64 a.1, v1] ∧ Ctx D w0 w (Item.own v1 a.2 :: As) := by
  obtain ⟨k, _, ⟨F, Gs, rfl, ⟨cs, rfl, h⟩, hrest⟩, h4, h5⟩ := h
  obtain ⟨c1, c2, Gh_0, Hh_0, rfl, rfl, h_0, h_r0⟩ := h
  obtain ⟨rfl, rfl⟩ := h_0
  obtain ⟨p1, cap1, rfl, q1⟩ := h_r0
  exact ⟨_, rfl, k, _, ⟨_, _, rfl, ⟨[_], rfl, p1, cap1, rfl, q1⟩, hrest⟩, by simpa using h4, fun b hb => h5 b (by simpa using hb)⟩
theorem ro_st65 {D : List Nat} {w : World} {v : Value} {a : (Int × Int)} (h : RO D w v a) :  v = .agg #[.int .i64 a.1, .int .i64 a.2] := by
  obtain ⟨F, ⟨cs, rfl, h⟩, hD⟩ := h
  obtain ⟨c1, c2, F1, F2, rfl, rfl, h_0, h_r0⟩ := h
  obtain ⟨rfl, rfl⟩ := h_0
  obtain ⟨rfl, rfl⟩ := h_r0
  rfl
theorem own_st65 {D : List Nat} {w0 w : World} {As : List Item} (x0 : Int) (x1 : Int) (h : Ctx D w0 w (As)) : Ctx D w0 w (Item.own (.agg #[.int .i64 x0, .int .i64 x1]) ((x0, x1) : (Int × Int)) :: As) := by
  obtain ⟨k, Gs, hrest, h4, h5⟩ := h
  exact ⟨k, _ :: Gs, ⟨_, Gs, rfl, ⟨[_, _], rfl, ⟨_, _, _, _, rfl, rfl, ⟨rfl, rfl⟩, ⟨rfl, rfl⟩⟩⟩, hrest⟩, by simpa using h4, fun b hb => h5 b (by simpa using hb)⟩
theorem st65_own {D : List Nat} {w0 w : World} {As : List Item} {v : Value} {a : (Int × Int)} (h : Ctx D w0 w (Item.own v a :: As)) : v = .agg #[.int .i64 a.1, .int .i64 a.2] ∧ Ctx D w0 w (As) := by
  obtain ⟨k, _, ⟨F, Gs, rfl, ⟨cs, rfl, h⟩, hrest⟩, h4, h5⟩ := h
  obtain ⟨c1, c2, Gh_0, Hh_0, rfl, rfl, h_0, h_r0⟩ := h
  obtain ⟨rfl, rfl⟩ := h_0
  obtain ⟨rfl, rfl⟩ := h_r0
  exact ⟨rfl, k, _, hrest, by simpa using h4, fun b hb => h5 b (by simpa using hb)⟩
theorem ro_st72 {D : List Nat} {w : World} {v : Value} {a : (Int × (List Int))} (h : RO D w v a) : ∃ v1, v = .agg #[.int .i64 a.1, v1] ∧ RO D w v1 a.2 := by
  obtain ⟨F, ⟨cs, rfl, h⟩, hD⟩ := h
  obtain ⟨c1, c2, F1, F2, rfl, rfl, h_0, h_r0⟩ := h
  obtain ⟨rfl, rfl⟩ := h_0
  obtain ⟨p1, cap1, rfl, q1⟩ := h_r0
  refine ⟨_, rfl, ?_⟩
  · exact ⟨_, ⟨[_], rfl, p1, cap1, rfl, q1⟩, fun b hb => hD b (by simp [hb])⟩
theorem own_st72 {D : List Nat} {w0 w : World} {As : List Item} (x0 : Int) (v1 : Value) (x1 : (List Int)) (h : Ctx D w0 w (Item.own v1 x1 :: As)) : Ctx D w0 w (Item.own (.agg #[.int .i64 x0, v1]) ((x0, x1) : (Int × (List Int))) :: As) := by
  obtain ⟨k, Gs, hrest, h4, h5⟩ := h
  obtain ⟨F1, Gs, rfl, ⟨c1, rfl, p1, cap1, rfl, q1⟩, hrest⟩ := hrest
  exact ⟨k, _ :: Gs, ⟨_, Gs, rfl, ⟨[_, _], rfl, ⟨_, _, _, _, rfl, rfl, ⟨rfl, rfl⟩, ⟨_, _, rfl, q1⟩⟩⟩, hrest⟩, by simpa using h4, fun b hb => h5 b (by simpa using hb)⟩
theorem st72_own {D : List Nat} {w0 w : World} {As : List Item} {v : Value} {a : (Int × (List Int))} (h : Ctx D w0 w (Item.own v a :: As)) : ∃ v1, v = .agg #[.int .i64 a.1, v1] ∧ Ctx D w0 w (Item.own v1 a.2 :: As) := by
  obtain ⟨k, _, ⟨F, Gs, rfl, ⟨cs, rfl, h⟩, hrest⟩, h4, h5⟩ := h
  obtain ⟨c1, c2, Gh_0, Hh_0, rfl, rfl, h_0, h_r0⟩ := h
  obtain ⟨rfl, rfl⟩ := h_0
  obtain ⟨p1, cap1, rfl, q1⟩ := h_r0
  exact ⟨_, rfl, k, _, ⟨_, _, rfl, ⟨[_], rfl, p1, cap1, rfl, q1⟩, hrest⟩, by simpa using h4, fun b hb => h5 b (by simpa using hb)⟩
theorem zero3 : ∀ w, (zeroValue 3).run Try.prog w = .ok ((.int .i64 0)) w := zero_run (i := Try.t3) (by kernel_rfl) rfl
theorem zc3 : ∀ i z, Try.prog.info? 3 = some i → i.zero = some z → z.cells.toList = [(.int .i64 0)] := zc_of (i := Try.t3) (by kernel_rfl) rfl rfl
theorem zr3 : ∀ w, Rep.rep true w [(.int .i64 0)] ((0 : Int) : Int) [] := fun w => ⟨rfl, rfl⟩
theorem zero36 : ∀ w, (zeroValue 36).run Try.prog w = .ok (.agg #[(.slice none 0 0), (.slice none 0 0)]) w := zero_run (i := Try.t36) (by kernel_rfl) rfl
theorem zc36 : ∀ i z, Try.prog.info? 36 = some i → i.zero = some z → z.cells.toList = [(.slice none 0 0), (.slice none 0 0)] := zc_of (i := Try.t36) (by kernel_rfl) rfl rfl
theorem zr36 : ∀ w, Rep.rep true w [(.slice none 0 0), (.slice none 0 0)] (([], []) : ((List Int) × (List (Int × (List Int))))) [] := fun w => ⟨_, _, [], [], rfl, rfl, (by exact ⟨_, _, rfl, by simp, by simp [maxLen], .inl ⟨rfl, rfl, rfl, rfl⟩⟩), (by exact ⟨_, _, rfl, by simp, by simp [maxLen], .inl ⟨rfl, rfl, rfl, rfl⟩⟩)⟩
theorem zero55 : ∀ w, (zeroValue 55).run Try.prog w = .ok (.agg #[(.int .i64 0), (.int .i64 0)]) w := zero_run (i := Try.t55) (by kernel_rfl) rfl
theorem zc55 : ∀ i z, Try.prog.info? 55 = some i → i.zero = some z → z.cells.toList = [(.int .i64 0), (.int .i64 0)] := zc_of (i := Try.t55) (by kernel_rfl) rfl rfl
theorem zr55 : ∀ w, Rep.rep true w [(.int .i64 0), (.int .i64 0)] ((0, 0) : (Int × Int)) [] := fun w => ⟨_, _, [], [], rfl, rfl, ⟨rfl, rfl⟩, ⟨rfl, rfl⟩⟩
theorem zero57 : ∀ w, (zeroValue 57).run Try.prog w = .ok (.agg #[(.int .i64 0), (.slice none 0 0), (.int .i64 0), (.int .i64 0), (.int .i64 0)]) w := zero_run (i := Try.t57) (by kernel_rfl) rfl
theorem zc57 : ∀ i z, Try.prog.info? 57 = some i → i.zero = some z → z.cells.toList = [(.int .i64 0), (.slice none 0 0), (.int .i64 0), (.int .i64 0), (.int .i64 0)] := zc_of (i := Try.t57) (by kernel_rfl) rfl rfl
theorem zr57 : ∀ w, Rep.rep true w [(.int .i64 0), (.slice none 0 0), (.int .i64 0), (.int .i64 0), (.int .i64 0)] ((0, [], 0, 0, 0) : (Int × (List Int) × Int × Int × Int)) [] := fun w => ⟨_, _, [], [], rfl, rfl, ⟨rfl, rfl⟩, ⟨_, _, [], [], rfl, rfl, (by exact ⟨_, _, rfl, by simp, by simp [maxLen], .inl ⟨rfl, rfl, rfl, rfl⟩⟩), ⟨_, _, [], [], rfl, rfl, ⟨rfl, rfl⟩, ⟨_, _, [], [], rfl, rfl, ⟨rfl, rfl⟩, ⟨rfl, rfl⟩⟩⟩⟩⟩
theorem zero59 : ∀ w, (zeroValue 59).run Try.prog w = .ok (.agg #[(.int .i64 0), (.slice none 0 0)]) w := zero_run (i := Try.t59) (by kernel_rfl) rfl
theorem zc59 : ∀ i z, Try.prog.info? 59 = some i → i.zero = some z → z.cells.toList = [(.int .i64 0), (.slice none 0 0)] := zc_of (i := Try.t59) (by kernel_rfl) rfl rfl
theorem zr59 : ∀ w, Rep.rep true w [(.int .i64 0), (.slice none 0 0)] ((0, []) : (Int × (List Int))) [] := fun w => ⟨_, _, [], [], rfl, rfl, ⟨rfl, rfl⟩, (by exact ⟨_, _, rfl, by simp, by simp [maxLen], .inl ⟨rfl, rfl, rfl, rfl⟩⟩)⟩
end Go.Gx.Px
