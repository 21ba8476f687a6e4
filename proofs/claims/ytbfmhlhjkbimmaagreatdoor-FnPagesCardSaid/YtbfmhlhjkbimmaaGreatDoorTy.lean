/- The types of the seat, as the library wants them. Conditions: none. -/
import Derived.Test.YtbfmhlhjkbimmaaGreatDoorGxHo
import Derived.Test.YtbfmhlhjkbimmaaGreatDoorGxSh
import Derived.Test.YtbfmhlhjkbimmaaGreatDoorSh
import Derived.Test.YtbfmhlhjkbimmaaGreatDoorProg
set_option linter.unusedVariables false
set_option linter.unusedSimpArgs false
namespace Go.Gx.Px
open Go.Proofs
theorem hmix : Tryz.prog.follows .mixedOrders = true := by kernel_rfl
theorem ty3 : Ty Tryz.prog 3 Int := ⟨Tryz.isAgg3, Tryz.sizeOf3, Tryz.t3, _, by kernel_rfl, rfl, by decide, rfl, rfl⟩
theorem ty5 : Ty Tryz.prog 5 UInt8 := ⟨Tryz.isAgg5, Tryz.sizeOf5, Tryz.t5, _, by kernel_rfl, rfl, by decide, rfl, rfl⟩
theorem ty9 : Ty Tryz.prog 9 Str := ⟨Tryz.isAgg9, Tryz.sizeOf9, Tryz.t9, _, by kernel_rfl, rfl, by decide, rfl, rfl⟩
theorem ty22 : Ty Tryz.prog 22 (List Int) := ⟨Tryz.isAgg22, Tryz.sizeOf22, Tryz.t22, _, by kernel_rfl, rfl, by decide, rfl, rfl⟩
theorem ty34 : Ty Tryz.prog 34 (List (Int × (List Int))) := ⟨Tryz.isAgg34, Tryz.sizeOf34, Tryz.t34, _, by kernel_rfl, rfl, by decide, rfl, rfl⟩
theorem ty70 : Ty Tryz.prog 70 (Int × (List Int)) := ⟨Tryz.isAgg70, Tryz.sizeOf70, Tryz.t70, _, by kernel_rfl, rfl, by decide, rfl, rfl⟩
theorem ty116 : Ty Tryz.prog 116 (Int × (List Int) × Int × Int × Int) := ⟨Tryz.isAgg116, Tryz.sizeOf116, Tryz.t116, _, by kernel_rfl, rfl, by decide, rfl, rfl⟩
theorem ro_st24 {D : List Nat} {w : World} {v : Value} {a : (Int × (List Int))} (h : RO D w v a) : ∃ v1, v = .agg #[.int .i64 a.1, v1] ∧ RO D w v1 a.2 := by
  obtain ⟨F, ⟨cs, rfl, h⟩, hD⟩ := h
  obtain ⟨c1, c2, F1, F2, rfl, rfl, h_0, h_r0⟩ := h
  obtain ⟨rfl, rfl⟩ := h_0
  obtain ⟨p1, cap1, rfl, q1⟩ := h_r0
  refine ⟨_, rfl, ?_⟩
  · exact ⟨_, ⟨[_], rfl, p1, cap1, rfl, q1⟩, fun b hb => hD b (by simp [hb])⟩
theorem own_st24 {D : List Nat} {w0 w : World} {As : List Item} (x0 : Int) (v1 : Value) (x1 : (List Int)) (h : Ctx D w0 w (Item.own v1 x1 :: As)) : Ctx D w0 w (Item.own (.agg #[.int .i64 x0, v1]) ((x0, x1) : (Int × (List Int))) :: As) := by
  obtain ⟨k, Gs, hrest, h4, h5⟩ := h
  obtain ⟨F1, Gs, rfl, ⟨c1, rfl, p1, cap1, rfl, q1⟩, hrest⟩ := hrest
  exact ⟨k, _ :: Gs, ⟨_, Gs, rfl, ⟨[_, _], rfl, ⟨_, _, _, _, rfl, rfl, ⟨rfl, rfl⟩, ⟨_, _, rfl, q1⟩⟩⟩, hrest⟩, by simpa using h4, fun b hb => h5 b (by simpa using hb)⟩
theorem st24_own {D : List Nat} {w0 w : World} {As : List Item} {v : Value} {a : (Int × (List Int))} (h : Ctx D w0 w (Item.own v a :: As)) : ∃ v1, v = .agg #[.int .i64 a.1, v1] ∧ Ctx D w0 w (Item.own v1 a.2 :: As) := by
  obtain ⟨k, _, ⟨F, Gs, rfl, ⟨cs, rfl, h⟩, hrest⟩, h4, h5⟩ := h
  obtain ⟨c1, c2, Gh_0, Hh_0, rfl, rfl, h_0, h_r0⟩ := h
  obtain ⟨rfl, rfl⟩ := h_0
  obtain ⟨p1, cap1, rfl, q1⟩ := h_r0
  exact ⟨_, rfl, k, _, ⟨_, _, rfl, ⟨[_], rfl, p1, cap1, rfl, q1⟩, hrest⟩, by simpa using h4, fun b hb => h5 b (by simpa using hb)⟩
theorem ro_st26 {D : List Nat} {w : World} {v : Value} {a : ((Int × (List Int)) × Int × Int)} (h : RO D w v a) : ∃ v1, v = .agg #[.int .i64 a.1.1, v1, .int .i64 a.2.1, .int .i64 a.2.2] ∧ RO D w v1 a.1.2 := by
  obtain ⟨F, ⟨cs, rfl, h⟩, hD⟩ := h
  obtain ⟨c1, c2, F1, F2, rfl, rfl, h_0, h_r0⟩ := h
  obtain ⟨c1, c2, F1, F2, rfl, rfl, h_0_0, h_0_r0⟩ := h_0
  obtain ⟨rfl, rfl⟩ := h_0_0
  obtain ⟨p1, cap1, rfl, q1⟩ := h_0_r0
  obtain ⟨c1, c2, F1, F2, rfl, rfl, h_1, h_r1⟩ := h_r0
  obtain ⟨rfl, rfl⟩ := h_1
  obtain ⟨rfl, rfl⟩ := h_r1
  refine ⟨_, rfl, ?_⟩
  · exact ⟨_, ⟨[_], rfl, p1, cap1, rfl, q1⟩, fun b hb => hD b (by simp [hb])⟩
theorem own_st26 {D : List Nat} {w0 w : World} {As : List Item} (x0 : Int) (v1 : Value) (x1 : (List Int)) (x2 : Int) (x3 : Int) (h : Ctx D w0 w (Item.own v1 x1 :: As)) : Ctx D w0 w (Item.own (.agg #[.int .i64 x0, v1, .int .i64 x2, .int .i64 x3]) (((x0, x1), x2, x3) : ((Int × (List Int)) × Int × Int)) :: As) := by
  obtain ⟨k, Gs, hrest, h4, h5⟩ := h
  obtain ⟨F1, Gs, rfl, ⟨c1, rfl, p1, cap1, rfl, q1⟩, hrest⟩ := hrest
  exact ⟨k, _ :: Gs, ⟨_, Gs, rfl, ⟨[_, _, _, _], rfl, ⟨_, _, _, _, rfl, rfl, ⟨_, _, _, _, rfl, rfl, ⟨rfl, rfl⟩, ⟨_, _, rfl, q1⟩⟩, ⟨_, _, _, _, rfl, rfl, ⟨rfl, rfl⟩, ⟨rfl, rfl⟩⟩⟩⟩, hrest⟩, by simpa using h4, fun b hb => h5 b (by simpa using hb)⟩
theorem st26_own {D : List Nat} {w0 w : World} {As : List Item} {v : Value} {a : ((Int × (List Int)) × Int × Int)} (h : Ctx D w0 w (Item.own v a :: As)) : ∃ v1, v = .agg #[.int .i64 a.1.1, v1, .int .i64 a.2.1, .int .i64 a.2.2] ∧ Ctx D w0 w (Item.own v1 a.1.2 :: As) := by
  obtain ⟨k, _, ⟨F, Gs, rfl, ⟨cs, rfl, h⟩, hrest⟩, h4, h5⟩ := h
  obtain ⟨c1, c2, Gh_0, Hh_0, rfl, rfl, h_0, h_r0⟩ := h
  obtain ⟨c1, c2, Gh_0_0, Hh_0_0, rfl, rfl, h_0_0, h_0_r0⟩ := h_0
  obtain ⟨rfl, rfl⟩ := h_0_0
  obtain ⟨p1, cap1, rfl, q1⟩ := h_0_r0
  obtain ⟨c1, c2, Gh_1, Hh_1, rfl, rfl, h_1, h_r1⟩ := h_r0
  obtain ⟨rfl, rfl⟩ := h_1
  obtain ⟨rfl, rfl⟩ := h_r1
  exact ⟨_, rfl, k, _, ⟨_, _, rfl, ⟨[_], rfl, p1, cap1, rfl, q1⟩, hrest⟩, by simpa using h4, fun b hb => h5 b (by simpa using hb)⟩
theorem ro_st70 {D : List Nat} {w : World} {v : Value} {a : (Int × (List Int))} (h : RO D w v a) : ∃ v1, v = .agg #[.int .i64 a.1, v1] ∧ RO D w v1 a.2 := by
  obtain ⟨F, ⟨cs, rfl, h⟩, hD⟩ := h
  obtain ⟨c1, c2, F1, F2, rfl, rfl, h_0, h_r0⟩ := h
  obtain ⟨rfl, rfl⟩ := h_0
  obtain ⟨p1, cap1, rfl, q1⟩ := h_r0
  refine ⟨_, rfl, ?_⟩
  · exact ⟨_, ⟨[_], rfl, p1, cap1, rfl, q1⟩, fun b hb => hD b (by simp [hb])⟩
theorem own_st70 {D : List Nat} {w0 w : World} {As : List Item} (x0 : Int) (v1 : Value) (x1 : (List Int)) (h : Ctx D w0 w (Item.own v1 x1 :: As)) : Ctx D w0 w (Item.own (.agg #[.int .i64 x0, v1]) ((x0, x1) : (Int × (List Int))) :: As) := by
  obtain ⟨k, Gs, hrest, h4, h5⟩ := h
  obtain ⟨F1, Gs, rfl, ⟨c1, rfl, p1, cap1, rfl, q1⟩, hrest⟩ := hrest
  exact ⟨k, _ :: Gs, ⟨_, Gs, rfl, ⟨[_, _], rfl, ⟨_, _, _, _, rfl, rfl, ⟨rfl, rfl⟩, ⟨_, _, rfl, q1⟩⟩⟩, hrest⟩, by simpa using h4, fun b hb => h5 b (by simpa using hb)⟩
theorem st70_own {D : List Nat} {w0 w : World} {As : List Item} {v : Value} {a : (Int × (List Int))} (h : Ctx D w0 w (Item.own v a :: As)) : ∃ v1, v = .agg #[.int .i64 a.1, v1] ∧ Ctx D w0 w (Item.own v1 a.2 :: As) := by
  obtain ⟨k, _, ⟨F, Gs, rfl, ⟨cs, rfl, h⟩, hrest⟩, h4, h5⟩ := h
  obtain ⟨c1, c2, Gh_0, Hh_0, rfl, rfl, h_0, h_r0⟩ := h
  obtain ⟨rfl, rfl⟩ := h_0
  obtain ⟨p1, cap1, rfl, q1⟩ := h_r0
  exact ⟨_, rfl, k, _, ⟨_, _, rfl, ⟨[_], rfl, p1, cap1, rfl, q1⟩, hrest⟩, by simpa using h4, fun b hb => h5 b (by simpa using hb)⟩
theorem ro_st116 {D : List Nat} {w : World} {v : Value} {a : (Int × (List Int) × Int × Int × Int)} (h : RO D w v a) : ∃ v1, v = .agg #[.int .i64 a.1, v1, .int .i64 a.2.2.1, .int .i64 a.2.2.2.1, .int .i64 a.2.2.2.2] ∧ RO D w v1 a.2.1 := by
  obtain ⟨F, ⟨cs, rfl, h⟩, hD⟩ := h
  obtain ⟨c1, c2, F1, F2, rfl, rfl, h_0, h_r0⟩ := h
  obtain ⟨rfl, rfl⟩ := h_0
  obtain ⟨c1, c2, F1, F2, rfl, rfl, h_1, h_r1⟩ := h_r0
  obtain ⟨p1, cap1, rfl, q1⟩ := h_1
  obtain ⟨c1, c2, F1, F2, rfl, rfl, h_2, h_r2⟩ := h_r1
  obtain ⟨rfl, rfl⟩ := h_2
  obtain ⟨c1, c2, F1, F2, rfl, rfl, h_3, h_r3⟩ := h_r2
  obtain ⟨rfl, rfl⟩ := h_3
  obtain ⟨rfl, rfl⟩ := h_r3
  refine ⟨_, rfl, ?_⟩
  · exact ⟨_, ⟨[_], rfl, p1, cap1, rfl, q1⟩, fun b hb => hD b (by simp [hb])⟩
theorem own_st116 {D : List Nat} {w0 w : World} {As : List Item} (x0 : Int) (v1 : Value) (x1 : (List Int)) (x2 : Int) (x3 : Int) (x4 : Int) (h : Ctx D w0 w (Item.own v1 x1 :: As)) : Ctx D w0 w (Item.own (.agg #[.int .i64 x0, v1, .int .i64 x2, .int .i64 x3, .int .i64 x4]) ((x0, x1, x2, x3, x4) : (Int × (List Int) × Int × Int × Int)) :: As) := by
  obtain ⟨k, Gs, hrest, h4, h5⟩ := h
  obtain ⟨F1, Gs, rfl, ⟨c1, rfl, p1, cap1, rfl, q1⟩, hrest⟩ := hrest
  exact ⟨k, _ :: Gs, ⟨_, Gs, rfl, ⟨[_, _, _, _, _], rfl, ⟨_, _, _, _, rfl, rfl, ⟨rfl, rfl⟩, ⟨_, _, _, _, rfl, rfl, ⟨_, _, rfl, q1⟩, ⟨_, _, _, _, rfl, rfl, ⟨rfl, rfl⟩, ⟨_, _, _, _, rfl, rfl, ⟨rfl, rfl⟩, ⟨rfl, rfl⟩⟩⟩⟩⟩⟩, hrest⟩, by simpa using h4, fun b hb => h5 b (by simpa using hb)⟩
theorem st116_own {D : List Nat} {w0 w : World} {As : List Item} {v : Value} {a : (Int × (List Int) × Int × Int × Int)} (h : Ctx D w0 w (Item.own v a :: As)) : ∃ v1, v = .agg #[.int .i64 a.1, v1, .int .i64 a.2.2.1, .int .i64 a.2.2.2.1, .int .i64 a.2.2.2.2] ∧ Ctx D w0 w (Item.own v1 a.2.1 :: As) := by
  obtain ⟨k, _, ⟨F, Gs, rfl, ⟨cs, rfl, h⟩, hrest⟩, h4, h5⟩ := h
  obtain ⟨c1, c2, Gh_0, Hh_0, rfl, rfl, h_0, h_r0⟩ := h
  obtain ⟨rfl, rfl⟩ := h_0
  obtain ⟨c1, c2, Gh_1, Hh_1, rfl, rfl, h_1, h_r1⟩ := h_r0
  obtain ⟨p1, cap1, rfl, q1⟩ := h_1
  obtain ⟨c1, c2, Gh_2, Hh_2, rfl, rfl, h_2, h_r2⟩ := h_r1
  obtain ⟨rfl, rfl⟩ := h_2
  obtain ⟨c1, c2, Gh_3, Hh_3, rfl, rfl, h_3, h_r3⟩ := h_r2
  obtain ⟨rfl, rfl⟩ := h_3
  obtain ⟨rfl, rfl⟩ := h_r3
  exact ⟨_, rfl, k, _, ⟨_, _, rfl, ⟨[_], rfl, p1, cap1, rfl, q1⟩, hrest⟩, by simpa using h4, fun b hb => h5 b (by simpa using hb)⟩
theorem zero24 : ∀ w, (zeroValue 24).run Tryz.prog w = .ok (.agg #[(.int .i64 0), (.slice none 0 0)]) w := zero_run (i := Tryz.t24) (by kernel_rfl) rfl
theorem zc24 : ∀ i z, Tryz.prog.info? 24 = some i → i.zero = some z → z.cells.toList = [(.int .i64 0), (.slice none 0 0)] := zc_of (i := Tryz.t24) (by kernel_rfl) rfl rfl
theorem zr24 : ∀ w, Rep.rep true w [(.int .i64 0), (.slice none 0 0)] ((0, []) : (Int × (List Int))) [] := fun w => ⟨_, _, [], [], rfl, rfl, ⟨rfl, rfl⟩, (by exact ⟨_, _, rfl, by simp, by simp [maxLen], .inl ⟨rfl, rfl, rfl, rfl⟩⟩)⟩
theorem zero26 : ∀ w, (zeroValue 26).run Tryz.prog w = .ok (.agg #[(.int .i64 0), (.slice none 0 0), (.int .i64 0), (.int .i64 0)]) w := zero_run (i := Tryz.t26) (by kernel_rfl) rfl
theorem zc26 : ∀ i z, Tryz.prog.info? 26 = some i → i.zero = some z → z.cells.toList = [(.int .i64 0), (.slice none 0 0), (.int .i64 0), (.int .i64 0)] := zc_of (i := Tryz.t26) (by kernel_rfl) rfl rfl
theorem zr26 : ∀ w, Rep.rep true w [(.int .i64 0), (.slice none 0 0), (.int .i64 0), (.int .i64 0)] (((0, []), 0, 0) : ((Int × (List Int)) × Int × Int)) [] := fun w => ⟨_, _, [], [], rfl, rfl, ⟨_, _, [], [], rfl, rfl, ⟨rfl, rfl⟩, (by exact ⟨_, _, rfl, by simp, by simp [maxLen], .inl ⟨rfl, rfl, rfl, rfl⟩⟩)⟩, ⟨_, _, [], [], rfl, rfl, ⟨rfl, rfl⟩, ⟨rfl, rfl⟩⟩⟩
theorem zero70 : ∀ w, (zeroValue 70).run Tryz.prog w = .ok (.agg #[(.int .i64 0), (.slice none 0 0)]) w := zero_run (i := Tryz.t70) (by kernel_rfl) rfl
theorem zc70 : ∀ i z, Tryz.prog.info? 70 = some i → i.zero = some z → z.cells.toList = [(.int .i64 0), (.slice none 0 0)] := zc_of (i := Tryz.t70) (by kernel_rfl) rfl rfl
theorem zr70 : ∀ w, Rep.rep true w [(.int .i64 0), (.slice none 0 0)] ((0, []) : (Int × (List Int))) [] := fun w => ⟨_, _, [], [], rfl, rfl, ⟨rfl, rfl⟩, (by exact ⟨_, _, rfl, by simp, by simp [maxLen], .inl ⟨rfl, rfl, rfl, rfl⟩⟩)⟩
theorem zero116 : ∀ w, (zeroValue 116).run Tryz.prog w = .ok (.agg #[(.int .i64 0), (.slice none 0 0), (.int .i64 0), (.int .i64 0), (.int .i64 0)]) w := zero_run (i := Tryz.t116) (by kernel_rfl) rfl
theorem zc116 : ∀ i z, Tryz.prog.info? 116 = some i → i.zero = some z → z.cells.toList = [(.int .i64 0), (.slice none 0 0), (.int .i64 0), (.int .i64 0), (.int .i64 0)] := zc_of (i := Tryz.t116) (by kernel_rfl) rfl rfl
theorem zr116 : ∀ w, Rep.rep true w [(.int .i64 0), (.slice none 0 0), (.int .i64 0), (.int .i64 0), (.int .i64 0)] ((0, [], 0, 0, 0) : (Int × (List Int) × Int × Int × Int)) [] := fun w => ⟨_, _, [], [], rfl, rfl, ⟨rfl, rfl⟩, ⟨_, _, [], [], rfl, rfl, (by exact ⟨_, _, rfl, by simp, by simp [maxLen], .inl ⟨rfl, rfl, rfl, rfl⟩⟩), ⟨_, _, [], [], rfl, rfl, ⟨rfl, rfl⟩, ⟨_, _, [], [], rfl, rfl, ⟨rfl, rfl⟩, ⟨rfl, rfl⟩⟩⟩⟩⟩
theorem built24  : Tryz.prog.built 24 [] = some #[(.int .i64 0), (.slice none 0 0)] :=
  built_of (i := Tryz.t24) (z := [(.int .i64 0), (.slice none 0 0)]) (places := [(0, 1), (1, 1)]) (by kernel_rfl) Tryz.underlying24 rfl rfl (by kernel_rfl) fill_end
theorem built24_0 {u0 : Value} {y0_0 : Value} (h0 : u0.cells.toList = [y0_0]) : Tryz.prog.built 24 [(0, u0)] = some #[y0_0, (.slice none 0 0)] :=
  built_of (i := Tryz.t24) (z := [(.int .i64 0), (.slice none 0 0)]) (places := [(0, 1), (1, 1)]) (by kernel_rfl) Tryz.underlying24 rfl rfl (by kernel_rfl) (fill_step (cells' := [y0_0, (.slice none 0 0)]) (off := 0) rfl h0 rfl rfl fill_end)
theorem built24_0_1 {u0 u1 : Value} {y0_0 y1_0 : Value} (h0 : u0.cells.toList = [y0_0]) (h1 : u1.cells.toList = [y1_0]) : Tryz.prog.built 24 [(0, u0), (1, u1)] = some #[y0_0, y1_0] :=
  built_of (i := Tryz.t24) (z := [(.int .i64 0), (.slice none 0 0)]) (places := [(0, 1), (1, 1)]) (by kernel_rfl) Tryz.underlying24 rfl rfl (by kernel_rfl) (fill_step (cells' := [y0_0, (.slice none 0 0)]) (off := 0) rfl h0 rfl rfl (fill_step (cells' := [y0_0, y1_0]) (off := 1) rfl h1 rfl rfl fill_end))
theorem built26  : Tryz.prog.built 26 [] = some #[(.int .i64 0), (.slice none 0 0), (.int .i64 0), (.int .i64 0)] :=
  built_of (i := Tryz.t26) (z := [(.int .i64 0), (.slice none 0 0), (.int .i64 0), (.int .i64 0)]) (places := [(0, 2), (2, 1), (3, 1)]) (by kernel_rfl) Tryz.underlying26 rfl rfl (by kernel_rfl) fill_end
theorem built26_0_1 {u0 u1 : Value} {y0_0 y0_1 y1_0 : Value} (h0 : u0.cells.toList = [y0_0, y0_1]) (h1 : u1.cells.toList = [y1_0]) : Tryz.prog.built 26 [(0, u0), (1, u1)] = some #[y0_0, y0_1, y1_0, (.int .i64 0)] :=
  built_of (i := Tryz.t26) (z := [(.int .i64 0), (.slice none 0 0), (.int .i64 0), (.int .i64 0)]) (places := [(0, 2), (2, 1), (3, 1)]) (by kernel_rfl) Tryz.underlying26 rfl rfl (by kernel_rfl) (fill_step (cells' := [y0_0, y0_1, (.int .i64 0), (.int .i64 0)]) (off := 0) rfl h0 rfl rfl (fill_step (cells' := [y0_0, y0_1, y1_0, (.int .i64 0)]) (off := 2) rfl h1 rfl rfl fill_end))
theorem built26_0_1_2 {u0 u1 u2 : Value} {y0_0 y0_1 y1_0 y2_0 : Value} (h0 : u0.cells.toList = [y0_0, y0_1]) (h1 : u1.cells.toList = [y1_0]) (h2 : u2.cells.toList = [y2_0]) : Tryz.prog.built 26 [(0, u0), (1, u1), (2, u2)] = some #[y0_0, y0_1, y1_0, y2_0] :=
  built_of (i := Tryz.t26) (z := [(.int .i64 0), (.slice none 0 0), (.int .i64 0), (.int .i64 0)]) (places := [(0, 2), (2, 1), (3, 1)]) (by kernel_rfl) Tryz.underlying26 rfl rfl (by kernel_rfl) (fill_step (cells' := [y0_0, y0_1, (.int .i64 0), (.int .i64 0)]) (off := 0) rfl h0 rfl rfl (fill_step (cells' := [y0_0, y0_1, y1_0, (.int .i64 0)]) (off := 2) rfl h1 rfl rfl (fill_step (cells' := [y0_0, y0_1, y1_0, y2_0]) (off := 3) rfl h2 rfl rfl fill_end)))
theorem built70_0 {u0 : Value} {y0_0 : Value} (h0 : u0.cells.toList = [y0_0]) : Tryz.prog.built 70 [(0, u0)] = some #[y0_0, (.slice none 0 0)] :=
  built_of (i := Tryz.t70) (z := [(.int .i64 0), (.slice none 0 0)]) (places := [(0, 1), (1, 1)]) (by kernel_rfl) Tryz.underlying70 rfl rfl (by kernel_rfl) (fill_step (cells' := [y0_0, (.slice none 0 0)]) (off := 0) rfl h0 rfl rfl fill_end)
theorem built70_0_1 {u0 u1 : Value} {y0_0 y1_0 : Value} (h0 : u0.cells.toList = [y0_0]) (h1 : u1.cells.toList = [y1_0]) : Tryz.prog.built 70 [(0, u0), (1, u1)] = some #[y0_0, y1_0] :=
  built_of (i := Tryz.t70) (z := [(.int .i64 0), (.slice none 0 0)]) (places := [(0, 1), (1, 1)]) (by kernel_rfl) Tryz.underlying70 rfl rfl (by kernel_rfl) (fill_step (cells' := [y0_0, (.slice none 0 0)]) (off := 0) rfl h0 rfl rfl (fill_step (cells' := [y0_0, y1_0]) (off := 1) rfl h1 rfl rfl fill_end))
theorem built70_1 {u1 : Value} {y1_0 : Value} (h1 : u1.cells.toList = [y1_0]) : Tryz.prog.built 70 [(1, u1)] = some #[(.int .i64 0), y1_0] :=
  built_of (i := Tryz.t70) (z := [(.int .i64 0), (.slice none 0 0)]) (places := [(0, 1), (1, 1)]) (by kernel_rfl) Tryz.underlying70 rfl rfl (by kernel_rfl) (fill_step (cells' := [(.int .i64 0), y1_0]) (off := 1) rfl h1 rfl rfl fill_end)
theorem built89_0_2 {u0 u2 : Value} {y0_0 y2_0 : Value} (h0 : u0.cells.toList = [y0_0]) (h2 : u2.cells.toList = [y2_0]) : Tryz.prog.built 89 [(0, u0), (2, u2)] = some #[y0_0, (.int .i64 0), y2_0] :=
  built_of (i := Tryz.t89) (z := [(.slice none 0 0), (.int .i64 0), (.int .i64 0)]) (places := [(0, 1), (1, 1), (2, 1)]) (by kernel_rfl) Tryz.underlying89 rfl rfl (by kernel_rfl) (fill_step (cells' := [y0_0, (.int .i64 0), (.int .i64 0)]) (off := 0) rfl h0 rfl rfl (fill_step (cells' := [y0_0, (.int .i64 0), y2_0]) (off := 2) rfl h2 rfl rfl fill_end))
theorem built116_0_2_3_4 {u0 u2 u3 u4 : Value} {y0_0 y2_0 y3_0 y4_0 : Value} (h0 : u0.cells.toList = [y0_0]) (h2 : u2.cells.toList = [y2_0]) (h3 : u3.cells.toList = [y3_0]) (h4 : u4.cells.toList = [y4_0]) : Tryz.prog.built 116 [(0, u0), (2, u2), (3, u3), (4, u4)] = some #[y0_0, (.slice none 0 0), y2_0, y3_0, y4_0] :=
  built_of (i := Tryz.t116) (z := [(.int .i64 0), (.slice none 0 0), (.int .i64 0), (.int .i64 0), (.int .i64 0)]) (places := [(0, 1), (1, 1), (2, 1), (3, 1), (4, 1)]) (by kernel_rfl) Tryz.underlying116 rfl rfl (by kernel_rfl) (fill_step (cells' := [y0_0, (.slice none 0 0), (.int .i64 0), (.int .i64 0), (.int .i64 0)]) (off := 0) rfl h0 rfl rfl (fill_step (cells' := [y0_0, (.slice none 0 0), y2_0, (.int .i64 0), (.int .i64 0)]) (off := 2) rfl h2 rfl rfl (fill_step (cells' := [y0_0, (.slice none 0 0), y2_0, y3_0, (.int .i64 0)]) (off := 3) rfl h3 rfl rfl (fill_step (cells' := [y0_0, (.slice none 0 0), y2_0, y3_0, y4_0]) (off := 4) rfl h4 rfl rfl fill_end))))
theorem built116_4 {u4 : Value} {y4_0 : Value} (h4 : u4.cells.toList = [y4_0]) : Tryz.prog.built 116 [(4, u4)] = some #[(.int .i64 0), (.slice none 0 0), (.int .i64 0), (.int .i64 0), y4_0] :=
  built_of (i := Tryz.t116) (z := [(.int .i64 0), (.slice none 0 0), (.int .i64 0), (.int .i64 0), (.int .i64 0)]) (places := [(0, 1), (1, 1), (2, 1), (3, 1), (4, 1)]) (by kernel_rfl) Tryz.underlying116 rfl rfl (by kernel_rfl) (fill_step (cells' := [(.int .i64 0), (.slice none 0 0), (.int .i64 0), (.int .i64 0), y4_0]) (off := 4) rfl h4 rfl rfl fill_end)
end Go.Gx.Px
