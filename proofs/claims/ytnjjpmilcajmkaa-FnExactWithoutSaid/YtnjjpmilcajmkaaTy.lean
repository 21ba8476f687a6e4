/- The types of the seat, as the library wants them. Conditions: none. -/
import Derived.Test.YtnjjpmilcajmkaaGxW
import Derived.Test.YtnjjpmilcajmkaaProg
set_option linter.unusedVariables false
set_option linter.unusedSimpArgs false
namespace Go.Gx.Px
open Go.Proofs
theorem hmix : Try.prog.follows .mixedOrders = true := by kernel_rfl
theorem ty3 : Ty Try.prog 3 Int := ⟨Try.isAgg3, Try.sizeOf3, Try.t3, _, by kernel_rfl, rfl, by decide, rfl, rfl⟩
theorem ty22 : Ty Try.prog 22 (List Int) := ⟨Try.isAgg22, Try.sizeOf22, Try.t22, _, by kernel_rfl, rfl, by decide, rfl, rfl⟩
theorem ty100 : Ty Try.prog 100 (List (Int × (List Int))) := ⟨Try.isAgg100, Try.sizeOf100, Try.t100, _, by kernel_rfl, rfl, by decide, rfl, rfl⟩
theorem ty108 : Ty Try.prog 108 ((Int × (List Int)) × (List (Int × (List Int)))) := ⟨Try.isAgg108, Try.sizeOf108, Try.t108, _, by kernel_rfl, rfl, by decide, rfl, rfl⟩
theorem ty112 : Ty Try.prog 112 ((Int × (List Int)) × (List (Int × (List Int)))) := ⟨Try.isAgg112, Try.sizeOf112, Try.t112, _, by kernel_rfl, rfl, by decide, rfl, rfl⟩
theorem ty164 : Ty Try.prog 164 (Int × (List Int)) := ⟨Try.isAgg164, Try.sizeOf164, Try.t164, _, by kernel_rfl, rfl, by decide, rfl, rfl⟩
theorem ty165 : Ty Try.prog 165 (Int × (List Int)) := ⟨Try.isAgg165, Try.sizeOf165, Try.t165, _, by kernel_rfl, rfl, by decide, rfl, rfl⟩
theorem ro_st89 {D : List Nat} {w : World} {v : Value} {a : (Int × (List Int))} (h : RO D w v a) : ∃ v1, v = .agg #[.int .i64 a.1, v1] ∧ RO D w v1 a.2 := by
  obtain ⟨F, ⟨cs, rfl, h⟩, hD⟩ := h
  obtain ⟨c1, c2, F1, F2, rfl, rfl, h_0, h_r0⟩ := h
  obtain ⟨rfl, rfl⟩ := h_0
  obtain ⟨p1, cap1, rfl, q1⟩ := h_r0
  refine ⟨_, rfl, ?_⟩
  · exact ⟨_, ⟨[_], rfl, p1, cap1, rfl, q1⟩, fun b hb => hD b (by simp [hb])⟩
theorem own_st89 {D : List Nat} {w0 w : World} {As : List Item} (x0 : Int) (v1 : Value) (x1 : (List Int)) (h : Ctx D w0 w (Item.own v1 x1 :: As)) : Ctx D w0 w (Item.own (.agg #[.int .i64 x0, v1]) ((x0, x1) : (Int × (List Int))) :: As) := by
  obtain ⟨k, Gs, hrest, h4, h5⟩ := h
  obtain ⟨F1, Gs, rfl, ⟨c1, rfl, p1, cap1, rfl, q1⟩, hrest⟩ := hrest
  exact ⟨k, _ :: Gs, ⟨_, Gs, rfl, ⟨[_, _], rfl, ⟨_, _, _, _, rfl, rfl, ⟨rfl, rfl⟩, ⟨_, _, rfl, q1⟩⟩⟩, hrest⟩, by simpa using h4, fun b hb => h5 b (by simpa using hb)⟩
theorem st89_own {D : List Nat} {w0 w : World} {As : List Item} {v : Value} {a : (Int × (List Int))} (h : Ctx D w0 w (Item.own v a :: As)) : ∃ v1, v = .agg #[.int .i64 a.1, v1] ∧ Ctx D w0 w (Item.own v1 a.2 :: As) := by
  obtain ⟨k, _, ⟨F, Gs, rfl, ⟨cs, rfl, h⟩, hrest⟩, h4, h5⟩ := h
  obtain ⟨c1, c2, Gh_0, Hh_0, rfl, rfl, h_0, h_r0⟩ := h
  obtain ⟨rfl, rfl⟩ := h_0
  obtain ⟨p1, cap1, rfl, q1⟩ := h_r0
  exact ⟨_, rfl, k, _, ⟨_, _, rfl, ⟨[_], rfl, p1, cap1, rfl, q1⟩, hrest⟩, by simpa using h4, fun b hb => h5 b (by simpa using hb)⟩
theorem ro_st102 {D : List Nat} {w : World} {v : Value} {a : ((List (Int × (List Int))) × Int)} (h : RO D w v a) : ∃ v1, v = .agg #[v1, .int .i64 a.2] ∧ RO D w v1 a.1 := by
  obtain ⟨F, ⟨cs, rfl, h⟩, hD⟩ := h
  obtain ⟨c1, c2, F1, F2, rfl, rfl, h_0, h_r0⟩ := h
  obtain ⟨p1, cap1, rfl, q1⟩ := h_0
  obtain ⟨rfl, rfl⟩ := h_r0
  refine ⟨_, rfl, ?_⟩
  · exact ⟨_, ⟨[_], rfl, p1, cap1, rfl, q1⟩, fun b hb => hD b (by simp [hb])⟩
theorem own_st102 {D : List Nat} {w0 w : World} {As : List Item} (v0 : Value) (x0 : (List (Int × (List Int)))) (x1 : Int) (h : Ctx D w0 w (Item.own v0 x0 :: As)) : Ctx D w0 w (Item.own (.agg #[v0, .int .i64 x1]) ((x0, x1) : ((List (Int × (List Int))) × Int)) :: As) := by
  obtain ⟨k, Gs, hrest, h4, h5⟩ := h
  obtain ⟨F0, Gs, rfl, ⟨c0, rfl, p0, cap0, rfl, q0⟩, hrest⟩ := hrest
  exact ⟨k, _ :: Gs, ⟨_, Gs, rfl, ⟨[_, _], rfl, ⟨_, _, _, _, rfl, rfl, ⟨_, _, rfl, q0⟩, ⟨rfl, rfl⟩⟩⟩, hrest⟩, by simpa using h4, fun b hb => h5 b (by simpa using hb)⟩
theorem st102_own {D : List Nat} {w0 w : World} {As : List Item} {v : Value} {a : ((List (Int × (List Int))) × Int)} (h : Ctx D w0 w (Item.own v a :: As)) : ∃ v0, v = .agg #[v0, .int .i64 a.2] ∧ Ctx D w0 w (Item.own v0 a.1 :: As) := by
  obtain ⟨k, _, ⟨F, Gs, rfl, ⟨cs, rfl, h⟩, hrest⟩, h4, h5⟩ := h
  obtain ⟨c1, c2, Gh_0, Hh_0, rfl, rfl, h_0, h_r0⟩ := h
  obtain ⟨p0, cap0, rfl, q0⟩ := h_0
  obtain ⟨rfl, rfl⟩ := h_r0
  exact ⟨_, rfl, k, _, ⟨_, _, rfl, ⟨[_], rfl, p0, cap0, rfl, q0⟩, hrest⟩, by simpa using h4, fun b hb => h5 b (by simpa using hb)⟩
theorem ro_st108 {D : List Nat} {w : World} {v : Value} {a : ((Int × (List Int)) × (List (Int × (List Int))))} (h : RO D w v a) : ∃ v1, ∃ v2, v = .agg #[.int .i64 a.1.1, v1, v2] ∧ RO D w v1 a.1.2 ∧ RO D w v2 a.2 := by
  obtain ⟨F, ⟨cs, rfl, h⟩, hD⟩ := h
  obtain ⟨c1, c2, F1, F2, rfl, rfl, h_0, h_r0⟩ := h
  obtain ⟨c1, c2, F1, F2, rfl, rfl, h_0_0, h_0_r0⟩ := h_0
  obtain ⟨rfl, rfl⟩ := h_0_0
  obtain ⟨p1, cap1, rfl, q1⟩ := h_0_r0
  obtain ⟨p2, cap2, rfl, q2⟩ := h_r0
  refine ⟨_, _, rfl, ?_, ?_⟩
  · exact ⟨_, ⟨[_], rfl, p1, cap1, rfl, q1⟩, fun b hb => hD b (by simp [hb])⟩
  · exact ⟨_, ⟨[_], rfl, p2, cap2, rfl, q2⟩, fun b hb => hD b (by simp [hb])⟩
theorem own_st108 {D : List Nat} {w0 w : World} {As : List Item} (x0 : Int) (v1 : Value) (x1 : (List Int)) (v2 : Value) (x2 : (List (Int × (List Int)))) (h : Ctx D w0 w (Item.own v1 x1 :: Item.own v2 x2 :: As)) : Ctx D w0 w (Item.own (.agg #[.int .i64 x0, v1, v2]) (((x0, x1), x2) : ((Int × (List Int)) × (List (Int × (List Int))))) :: As) := by
  obtain ⟨k, Gs, hrest, h4, h5⟩ := h
  obtain ⟨F1, Gs, rfl, ⟨c1, rfl, p1, cap1, rfl, q1⟩, hrest⟩ := hrest
  obtain ⟨F2, Gs, rfl, ⟨c2, rfl, p2, cap2, rfl, q2⟩, hrest⟩ := hrest
  exact ⟨k, _ :: Gs, ⟨_, Gs, rfl, ⟨[_, _, _], rfl, ⟨_, _, _, _, rfl, rfl, ⟨_, _, _, _, rfl, rfl, ⟨rfl, rfl⟩, ⟨_, _, rfl, q1⟩⟩, ⟨_, _, rfl, q2⟩⟩⟩, hrest⟩, by simpa using h4, fun b hb => h5 b (by simpa using hb)⟩
theorem st108_own {D : List Nat} {w0 w : World} {As : List Item} {v : Value} {a : ((Int × (List Int)) × (List (Int × (List Int))))} (h : Ctx D w0 w (Item.own v a :: As)) : ∃ v1, ∃ v2, v = .agg #[.int .i64 a.1.1, v1, v2] ∧ Ctx D w0 w (Item.own v1 a.1.2 :: Item.own v2 a.2 :: As) := by
  obtain ⟨k, _, ⟨F, Gs, rfl, ⟨cs, rfl, h⟩, hrest⟩, h4, h5⟩ := h
  obtain ⟨c1, c2, Gh_0, Hh_0, rfl, rfl, h_0, h_r0⟩ := h
  obtain ⟨c1, c2, Gh_0_0, Hh_0_0, rfl, rfl, h_0_0, h_0_r0⟩ := h_0
  obtain ⟨rfl, rfl⟩ := h_0_0
  obtain ⟨p1, cap1, rfl, q1⟩ := h_0_r0
  obtain ⟨p2, cap2, rfl, q2⟩ := h_r0
  exact ⟨_, _, rfl, k, _, ⟨_, _, rfl, ⟨[_], rfl, p1, cap1, rfl, q1⟩, ⟨_, _, rfl, ⟨[_], rfl, p2, cap2, rfl, q2⟩, hrest⟩⟩, by simpa using h4, fun b hb => h5 b (by simpa using hb)⟩
theorem ro_st112 {D : List Nat} {w : World} {v : Value} {a : ((Int × (List Int)) × (List (Int × (List Int))))} (h : RO D w v a) : ∃ v1, ∃ v2, v = .agg #[.int .i64 a.1.1, v1, v2] ∧ RO D w v1 a.1.2 ∧ RO D w v2 a.2 := by
  obtain ⟨F, ⟨cs, rfl, h⟩, hD⟩ := h
  obtain ⟨c1, c2, F1, F2, rfl, rfl, h_0, h_r0⟩ := h
  obtain ⟨c1, c2, F1, F2, rfl, rfl, h_0_0, h_0_r0⟩ := h_0
  obtain ⟨rfl, rfl⟩ := h_0_0
  obtain ⟨p1, cap1, rfl, q1⟩ := h_0_r0
  obtain ⟨p2, cap2, rfl, q2⟩ := h_r0
  refine ⟨_, _, rfl, ?_, ?_⟩
  · exact ⟨_, ⟨[_], rfl, p1, cap1, rfl, q1⟩, fun b hb => hD b (by simp [hb])⟩
  · exact ⟨_, ⟨[_], rfl, p2, cap2, rfl, q2⟩, fun b hb => hD b (by simp [hb])⟩
theorem own_st112 {D : List Nat} {w0 w : World} {As : List Item} (x0 : Int) (v1 : Value) (x1 : (List Int)) (v2 : Value) (x2 : (List (Int × (List Int)))) (h : Ctx D w0 w (Item.own v1 x1 :: Item.own v2 x2 :: As)) : Ctx D w0 w (Item.own (.agg #[.int .i64 x0, v1, v2]) (((x0, x1), x2) : ((Int × (List Int)) × (List (Int × (List Int))))) :: As) := by
  obtain ⟨k, Gs, hrest, h4, h5⟩ := h
  obtain ⟨F1, Gs, rfl, ⟨c1, rfl, p1, cap1, rfl, q1⟩, hrest⟩ := hrest
  obtain ⟨F2, Gs, rfl, ⟨c2, rfl, p2, cap2, rfl, q2⟩, hrest⟩ := hrest
  exact ⟨k, _ :: Gs, ⟨_, Gs, rfl, ⟨[_, _, _], rfl, ⟨_, _, _, _, rfl, rfl, ⟨_, _, _, _, rfl, rfl, ⟨rfl, rfl⟩, ⟨_, _, rfl, q1⟩⟩, ⟨_, _, rfl, q2⟩⟩⟩, hrest⟩, by simpa using h4, fun b hb => h5 b (by simpa using hb)⟩
theorem st112_own {D : List Nat} {w0 w : World} {As : List Item} {v : Value} {a : ((Int × (List Int)) × (List (Int × (List Int))))} (h : Ctx D w0 w (Item.own v a :: As)) : ∃ v1, ∃ v2, v = .agg #[.int .i64 a.1.1, v1, v2] ∧ Ctx D w0 w (Item.own v1 a.1.2 :: Item.own v2 a.2 :: As) := by
  obtain ⟨k, _, ⟨F, Gs, rfl, ⟨cs, rfl, h⟩, hrest⟩, h4, h5⟩ := h
  obtain ⟨c1, c2, Gh_0, Hh_0, rfl, rfl, h_0, h_r0⟩ := h
  obtain ⟨c1, c2, Gh_0_0, Hh_0_0, rfl, rfl, h_0_0, h_0_r0⟩ := h_0
  obtain ⟨rfl, rfl⟩ := h_0_0
  obtain ⟨p1, cap1, rfl, q1⟩ := h_0_r0
  obtain ⟨p2, cap2, rfl, q2⟩ := h_r0
  exact ⟨_, _, rfl, k, _, ⟨_, _, rfl, ⟨[_], rfl, p1, cap1, rfl, q1⟩, ⟨_, _, rfl, ⟨[_], rfl, p2, cap2, rfl, q2⟩, hrest⟩⟩, by simpa using h4, fun b hb => h5 b (by simpa using hb)⟩
theorem ro_st164 {D : List Nat} {w : World} {v : Value} {a : (Int × (List Int))} (h : RO D w v a) : ∃ v1, v = .agg #[.int .i64 a.1, v1] ∧ RO D w v1 a.2 := by
  obtain ⟨F, ⟨cs, rfl, h⟩, hD⟩ := h
  obtain ⟨c1, c2, F1, F2, rfl, rfl, h_0, h_r0⟩ := h
  obtain ⟨rfl, rfl⟩ := h_0
  obtain ⟨p1, cap1, rfl, q1⟩ := h_r0
  refine ⟨_, rfl, ?_⟩
  · exact ⟨_, ⟨[_], rfl, p1, cap1, rfl, q1⟩, fun b hb => hD b (by simp [hb])⟩
theorem own_st164 {D : List Nat} {w0 w : World} {As : List Item} (x0 : Int) (v1 : Value) (x1 : (List Int)) (h : Ctx D w0 w (Item.own v1 x1 :: As)) : Ctx D w0 w (Item.own (.agg #[.int .i64 x0, v1]) ((x0, x1) : (Int × (List Int))) :: As) := by
  obtain ⟨k, Gs, hrest, h4, h5⟩ := h
  obtain ⟨F1, Gs, rfl, ⟨c1, rfl, p1, cap1, rfl, q1⟩, hrest⟩ := hrest
  exact ⟨k, _ :: Gs, ⟨_, Gs, rfl, ⟨[_, _], rfl, ⟨_, _, _, _, rfl, rfl, ⟨rfl, rfl⟩, ⟨_, _, rfl, q1⟩⟩⟩, hrest⟩, by simpa using h4, fun b hb => h5 b (by simpa using hb)⟩
theorem st164_own {D : List Nat} {w0 w : World} {As : List Item} {v : Value} {a : (Int × (List Int))} (h : Ctx D w0 w (Item.own v a :: As)) : ∃ v1, v = .agg #[.int .i64 a.1, v1] ∧ Ctx D w0 w (Item.own v1 a.2 :: As) := by
  obtain ⟨k, _, ⟨F, Gs, rfl, ⟨cs, rfl, h⟩, hrest⟩, h4, h5⟩ := h
  obtain ⟨c1, c2, Gh_0, Hh_0, rfl, rfl, h_0, h_r0⟩ := h
  obtain ⟨rfl, rfl⟩ := h_0
  obtain ⟨p1, cap1, rfl, q1⟩ := h_r0
  exact ⟨_, rfl, k, _, ⟨_, _, rfl, ⟨[_], rfl, p1, cap1, rfl, q1⟩, hrest⟩, by simpa using h4, fun b hb => h5 b (by simpa using hb)⟩
theorem ro_st165 {D : List Nat} {w : World} {v : Value} {a : (Int × (List Int))} (h : RO D w v a) : ∃ v1, v = .agg #[.int .i64 a.1, v1] ∧ RO D w v1 a.2 := by
  obtain ⟨F, ⟨cs, rfl, h⟩, hD⟩ := h
  obtain ⟨c1, c2, F1, F2, rfl, rfl, h_0, h_r0⟩ := h
  obtain ⟨rfl, rfl⟩ := h_0
  obtain ⟨p1, cap1, rfl, q1⟩ := h_r0
  refine ⟨_, rfl, ?_⟩
  · exact ⟨_, ⟨[_], rfl, p1, cap1, rfl, q1⟩, fun b hb => hD b (by simp [hb])⟩
theorem own_st165 {D : List Nat} {w0 w : World} {As : List Item} (x0 : Int) (v1 : Value) (x1 : (List Int)) (h : Ctx D w0 w (Item.own v1 x1 :: As)) : Ctx D w0 w (Item.own (.agg #[.int .i64 x0, v1]) ((x0, x1) : (Int × (List Int))) :: As) := by
  obtain ⟨k, Gs, hrest, h4, h5⟩ := h
  obtain ⟨F1, Gs, rfl, ⟨c1, rfl, p1, cap1, rfl, q1⟩, hrest⟩ := hrest
  exact ⟨k, _ :: Gs, ⟨_, Gs, rfl, ⟨[_, _], rfl, ⟨_, _, _, _, rfl, rfl, ⟨rfl, rfl⟩, ⟨_, _, rfl, q1⟩⟩⟩, hrest⟩, by simpa using h4, fun b hb => h5 b (by simpa using hb)⟩
theorem st165_own {D : List Nat} {w0 w : World} {As : List Item} {v : Value} {a : (Int × (List Int))} (h : Ctx D w0 w (Item.own v a :: As)) : ∃ v1, v = .agg #[.int .i64 a.1, v1] ∧ Ctx D w0 w (Item.own v1 a.2 :: As) := by
  obtain ⟨k, _, ⟨F, Gs, rfl, ⟨cs, rfl, h⟩, hrest⟩, h4, h5⟩ := h
  obtain ⟨c1, c2, Gh_0, Hh_0, rfl, rfl, h_0, h_r0⟩ := h
  obtain ⟨rfl, rfl⟩ := h_0
  obtain ⟨p1, cap1, rfl, q1⟩ := h_r0
  exact ⟨_, rfl, k, _, ⟨_, _, rfl, ⟨[_], rfl, p1, cap1, rfl, q1⟩, hrest⟩, by simpa using h4, fun b hb => h5 b (by simpa using hb)⟩
theorem zero3 : ∀ w, (zeroValue 3).run Try.prog w = .ok ((.int .i64 0)) w := zero_run (i := Try.t3) (by kernel_rfl) rfl
theorem zc3 : ∀ i z, Try.prog.info? 3 = some i → i.zero = some z → z.cells.toList = [(.int .i64 0)] := zc_of (i := Try.t3) (by kernel_rfl) rfl rfl
theorem zr3 : ∀ w, Rep.rep true w [(.int .i64 0)] ((0 : Int) : Int) [] := fun w => ⟨rfl, rfl⟩
theorem zero89 : ∀ w, (zeroValue 89).run Try.prog w = .ok (.agg #[(.int .i64 0), (.slice none 0 0)]) w := zero_run (i := Try.t89) (by kernel_rfl) rfl
theorem zc89 : ∀ i z, Try.prog.info? 89 = some i → i.zero = some z → z.cells.toList = [(.int .i64 0), (.slice none 0 0)] := zc_of (i := Try.t89) (by kernel_rfl) rfl rfl
theorem zr89 : ∀ w, Rep.rep true w [(.int .i64 0), (.slice none 0 0)] ((0, []) : (Int × (List Int))) [] := fun w => ⟨_, _, [], [], rfl, rfl, ⟨rfl, rfl⟩, (by exact ⟨_, _, rfl, by simp, by simp [maxLen], .inl ⟨rfl, rfl, rfl, rfl⟩⟩)⟩
theorem zero102 : ∀ w, (zeroValue 102).run Try.prog w = .ok (.agg #[(.slice none 0 0), (.int .i64 0)]) w := zero_run (i := Try.t102) (by kernel_rfl) rfl
theorem zc102 : ∀ i z, Try.prog.info? 102 = some i → i.zero = some z → z.cells.toList = [(.slice none 0 0), (.int .i64 0)] := zc_of (i := Try.t102) (by kernel_rfl) rfl rfl
theorem zr102 : ∀ w, Rep.rep true w [(.slice none 0 0), (.int .i64 0)] (([], 0) : ((List (Int × (List Int))) × Int)) [] := fun w => ⟨_, _, [], [], rfl, rfl, (by exact ⟨_, _, rfl, by simp, by simp [maxLen], .inl ⟨rfl, rfl, rfl, rfl⟩⟩), ⟨rfl, rfl⟩⟩
theorem zero112 : ∀ w, (zeroValue 112).run Try.prog w = .ok (.agg #[(.int .i64 0), (.slice none 0 0), (.slice none 0 0)]) w := zero_run (i := Try.t112) (by kernel_rfl) rfl
theorem zc112 : ∀ i z, Try.prog.info? 112 = some i → i.zero = some z → z.cells.toList = [(.int .i64 0), (.slice none 0 0), (.slice none 0 0)] := zc_of (i := Try.t112) (by kernel_rfl) rfl rfl
theorem zr112 : ∀ w, Rep.rep true w [(.int .i64 0), (.slice none 0 0), (.slice none 0 0)] (((0, []), []) : ((Int × (List Int)) × (List (Int × (List Int))))) [] := fun w => ⟨_, _, [], [], rfl, rfl, ⟨_, _, [], [], rfl, rfl, ⟨rfl, rfl⟩, (by exact ⟨_, _, rfl, by simp, by simp [maxLen], .inl ⟨rfl, rfl, rfl, rfl⟩⟩)⟩, (by exact ⟨_, _, rfl, by simp, by simp [maxLen], .inl ⟨rfl, rfl, rfl, rfl⟩⟩)⟩
theorem zero165 : ∀ w, (zeroValue 165).run Try.prog w = .ok (.agg #[(.int .i64 0), (.slice none 0 0)]) w := zero_run (i := Try.t165) (by kernel_rfl) rfl
theorem zc165 : ∀ i z, Try.prog.info? 165 = some i → i.zero = some z → z.cells.toList = [(.int .i64 0), (.slice none 0 0)] := zc_of (i := Try.t165) (by kernel_rfl) rfl rfl
theorem zr165 : ∀ w, Rep.rep true w [(.int .i64 0), (.slice none 0 0)] ((0, []) : (Int × (List Int))) [] := fun w => ⟨_, _, [], [], rfl, rfl, ⟨rfl, rfl⟩, (by exact ⟨_, _, rfl, by simp, by simp [maxLen], .inl ⟨rfl, rfl, rfl, rfl⟩⟩)⟩
theorem built89_0_1 {u0 u1 : Value} {y0_0 y1_0 : Value} (h0 : u0.cells.toList = [y0_0]) (h1 : u1.cells.toList = [y1_0]) : Try.prog.built 89 [(0, u0), (1, u1)] = some #[y0_0, y1_0] :=
  built_of (i := Try.t89) (z := [(.int .i64 0), (.slice none 0 0)]) (places := [(0, 1), (1, 1)]) (by kernel_rfl) Try.underlying89 rfl rfl (by kernel_rfl) (fill_step (cells' := [y0_0, (.slice none 0 0)]) (off := 0) rfl h0 rfl rfl (fill_step (cells' := [y0_0, y1_0]) (off := 1) rfl h1 rfl rfl fill_end))
theorem built112_0_1 {u0 u1 : Value} {y0_0 y0_1 y1_0 : Value} (h0 : u0.cells.toList = [y0_0, y0_1]) (h1 : u1.cells.toList = [y1_0]) : Try.prog.built 112 [(0, u0), (1, u1)] = some #[y0_0, y0_1, y1_0] :=
  built_of (i := Try.t112) (z := [(.int .i64 0), (.slice none 0 0), (.slice none 0 0)]) (places := [(0, 2), (2, 1)]) (by kernel_rfl) Try.underlying112 rfl rfl (by kernel_rfl) (fill_step (cells' := [y0_0, y0_1, (.slice none 0 0)]) (off := 0) rfl h0 rfl rfl (fill_step (cells' := [y0_0, y0_1, y1_0]) (off := 2) rfl h1 rfl rfl fill_end))
theorem built165_0_1 {u0 u1 : Value} {y0_0 y1_0 : Value} (h0 : u0.cells.toList = [y0_0]) (h1 : u1.cells.toList = [y1_0]) : Try.prog.built 165 [(0, u0), (1, u1)] = some #[y0_0, y1_0] :=
  built_of (i := Try.t165) (z := [(.int .i64 0), (.slice none 0 0)]) (places := [(0, 1), (1, 1)]) (by kernel_rfl) Try.underlying165 rfl rfl (by kernel_rfl) (fill_step (cells' := [y0_0, (.slice none 0 0)]) (off := 0) rfl h0 rfl rfl (fill_step (cells' := [y0_0, y1_0]) (off := 1) rfl h1 rfl rfl fill_end))
end Go.Gx.Px
