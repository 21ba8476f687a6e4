/- The types of the seat, as the library wants them. Conditions: none. -/
import Derived.Test.YtbgcgjhbnclpdaaDoorGxHo
import Derived.Test.YtbgcgjhbnclpdaaDoorGxSh
import Derived.Test.YtbgcgjhbnclpdaaDoorSh
import Derived.Test.YtbgcgjhbnclpdaaDoorProg
set_option linter.unusedVariables false
set_option linter.unusedSimpArgs false
namespace Go.Gx.Px
open Go.Proofs
theorem hmix : Tryd.prog.follows .mixedOrders = true := by kernel_rfl
theorem ty3 : Ty Tryd.prog 3 Int := ⟨Tryd.isAgg3, Tryd.sizeOf3, Tryd.t3, _, by kernel_rfl, rfl, by decide, rfl, rfl⟩
theorem ty5 : Ty Tryd.prog 5 UInt8 := ⟨Tryd.isAgg5, Tryd.sizeOf5, Tryd.t5, _, by kernel_rfl, rfl, by decide, rfl, rfl⟩
theorem ty9 : Ty Tryd.prog 9 Str := ⟨Tryd.isAgg9, Tryd.sizeOf9, Tryd.t9, _, by kernel_rfl, rfl, by decide, rfl, rfl⟩
theorem ty22 : Ty Tryd.prog 22 (List Int) := ⟨Tryd.isAgg22, Tryd.sizeOf22, Tryd.t22, _, by kernel_rfl, rfl, by decide, rfl, rfl⟩
theorem ty72 : Ty Tryd.prog 72 (Int × (List Int)) := ⟨Tryd.isAgg72, Tryd.sizeOf72, Tryd.t72, _, by kernel_rfl, rfl, by decide, rfl, rfl⟩
theorem ty123 : Ty Tryd.prog 123 (Int × (List Int) × Int × Int × Int) := ⟨Tryd.isAgg123, Tryd.sizeOf123, Tryd.t123, _, by kernel_rfl, rfl, by decide, rfl, rfl⟩
theorem ro_st29 {D : List Nat} {w : World} {v : Value} {a : (Int × (List Int))} (h : RO D w v a) : ∃ v1, v = .agg #[.int .i64 a.1, v1] ∧ RO D w v1 a.2 := by
  obtain ⟨F, ⟨cs, rfl, h⟩, hD⟩ := h
  obtain ⟨c1, c2, F1, F2, rfl, rfl, h_0, h_r0⟩ := h
  obtain ⟨rfl, rfl⟩ := h_0
  obtain ⟨p1, cap1, rfl, q1⟩ := h_r0
  refine ⟨_, rfl, ?_⟩
  · exact ⟨_, ⟨[_], rfl, p1, cap1, rfl, q1⟩, fun b hb => hD b (by simp [hb])⟩
theorem own_st29 {D : List Nat} {w0 w : World} {As : List Item} (x0 : Int) (v1 : Value) (x1 : (List Int)) (h : Ctx D w0 w (Item.own v1 x1 :: As)) : Ctx D w0 w (Item.own (.agg #[.int .i64 x0, v1]) ((x0, x1) : (Int × (List Int))) :: As) := by
  obtain ⟨k, Gs, hrest, h4, h5⟩ := h
  obtain ⟨F1, Gs, rfl, ⟨c1, rfl, p1, cap1, rfl, q1⟩, hrest⟩ := hrest
  exact ⟨k, _ :: Gs, ⟨_, Gs, rfl, ⟨[_, _], rfl, ⟨_, _, _, _, rfl, rfl, ⟨rfl, rfl⟩, ⟨_, _, rfl, q1⟩⟩⟩, hrest⟩, by simpa using h4, fun b hb => h5 b (by simpa using hb)⟩
theorem st29_own {D : List Nat} {w0 w : World} {As : List Item} {v : Value} {a : (Int × (List Int))} (h : Ctx D w0 w (Item.own v a :: As)) : ∃ v1, v = .agg #[.int .i64 a.1, v1] ∧ Ctx D w0 w (Item.own v1 a.2 :: As) := by
  obtain ⟨k, _, ⟨F, Gs, rfl, ⟨cs, rfl, h⟩, hrest⟩, h4, h5⟩ := h
  obtain ⟨c1, c2, Gh_0, Hh_0, rfl, rfl, h_0, h_r0⟩ := h
  obtain ⟨rfl, rfl⟩ := h_0
  obtain ⟨p1, cap1, rfl, q1⟩ := h_r0
  exact ⟨_, rfl, k, _, ⟨_, _, rfl, ⟨[_], rfl, p1, cap1, rfl, q1⟩, hrest⟩, by simpa using h4, fun b hb => h5 b (by simpa using hb)⟩
theorem ro_st72 {D : List Nat} {w : World} {v : Value} {a : (Int × (List Int))} (h : RO D w v a) : ∃ v1, v = .agg #[.int .i64 a.1, v1] ∧ RO D w v1 a.2 := by
  obtain ⟨F, ⟨cs, rfl, h⟩, hD⟩ := h
  obtain ⟨c1, c2, F1, F2, rfl, rfl, h_0, h_r0⟩ := h
  obtain ⟨rfl, rfl⟩ := h_0
  obtain ⟨p1, cap1, rfl, q1⟩ := h_r0
  refine ⟨_, rfl, ?_⟩
  · exact ⟨_, ⟨[_], rfl, p1, cap1, rfl, q1⟩, fun b hb => hD b (by simp [hb])⟩
theorem own_st72 {D : List Nat} {w0 w : World} {As : List Item} (x0 : Int) (v1 : Value) (x1 : (List Int)) (h : Ctx D w0 w (Item.own v1 x1 :: As)) : Ctx D w0 w (Item.own (.agg #[.int .i64 x0, v1]) ((x0, x1) : (Int × (List Int))) :: As) := by
  obtain ⟨k, Gs, hrest, h4, h5⟩ := h
  obtain ⟨F1, Gs, rfl, ⟨c1, rfl, p1, cap1, rfl, q1⟩, hrest⟩ := hrest
  exact ⟨k, _ :: Gs, ⟨_, Gs, rfl, ⟨[_, _], rfl, ⟨_, _, _, _, rfl, rfl, ⟨rfl, rfl⟩, ⟨_, _, rfl, q1⟩⟩⟩, hrest⟩, by simpa using h4, fun b hb => h5 b (by simpa using hb)⟩
theorem st72_own {D : List Nat} {w0 w : World} {As : List Item} {v : Value} {a : (Int × (List Int))} (h : Ctx D w0 w (Item.own v a :: As)) : ∃ v1, v = .agg #[.int .i64 a.1, v1] ∧ Ctx D w0 w (Item.own v1 a.2 :: As) := by
  obtain ⟨k, _, ⟨F, Gs, rfl, ⟨cs, rfl, h⟩, hrest⟩, h4, h5⟩ := h
  obtain ⟨c1, c2, Gh_0, Hh_0, rfl, rfl, h_0, h_r0⟩ := h
  obtain ⟨rfl, rfl⟩ := h_0
  obtain ⟨p1, cap1, rfl, q1⟩ := h_r0
  exact ⟨_, rfl, k, _, ⟨_, _, rfl, ⟨[_], rfl, p1, cap1, rfl, q1⟩, hrest⟩, by simpa using h4, fun b hb => h5 b (by simpa using hb)⟩
theorem ro_st123 {D : List Nat} {w : World} {v : Value} {a : (Int × (List Int) × Int × Int × Int)} (h : RO D w v a) : ∃ v1, v = .agg #[.int .i64 a.1, v1, .int .i64 a.2.2.1, .int .i64 a.2.2.2.1, .int .i64 a.2.2.2.2] ∧ RO D w v1 a.2.1 := by
  obtain ⟨F, ⟨cs, rfl, h⟩, hD⟩ := h
  obtain ⟨c1, c2, F1, F2, rfl, rfl, h_0, h_r0⟩ := h
  obtain ⟨rfl, rfl⟩ := h_0
  obtain ⟨c1, c2, F1, F2, rfl, rfl, h_1, h_r1⟩ := h_r0
  obtain ⟨p1, cap1, rfl, q1⟩ := h_1
  obtain ⟨c1, c2, F1, F2, rfl, rfl, h_2, h_r2⟩ := h_r1
  obtain ⟨rfl, rfl⟩ := h_2
  obtain ⟨c1, c2, F1, F2, rfl, rfl, h_3, h_r3⟩ := h_r2
  obtain ⟨rfl, rfl⟩ := h_3
  obtain ⟨rfl, rfl⟩ := h_r3
  refine ⟨_, rfl, ?_⟩
  · exact ⟨_, ⟨[_], rfl, p1, cap1, rfl, q1⟩, fun b hb => hD b (by simp [hb])⟩
theorem own_st123 {D : List Nat} {w0 w : World} {As : List Item} (x0 : Int) (v1 : Value) (x1 : (List Int)) (x2 : Int) (x3 : Int) (x4 : Int) (h : Ctx D w0 w (Item.own v1 x1 :: As)) : Ctx D w0 w (Item.own (.agg #[.int .i64 x0, v1, .int .i64 x2, .int .i64 x3, .int .i64 x4]) ((x0, x1, x2, x3, x4) : (Int × (List Int) × Int × Int × Int)) :: As) := by
  obtain ⟨k, Gs, hrest, h4, h5⟩ := h
  obtain ⟨F1, Gs, rfl, ⟨c1, rfl, p1, cap1, rfl, q1⟩, hrest⟩ := hrest
  exact ⟨k, _ :: Gs, ⟨_, Gs, rfl, ⟨[_, _, _, _, _], rfl, ⟨_, _, _, _, rfl, rfl, ⟨rfl, rfl⟩, ⟨_, _, _, _, rfl, rfl, ⟨_, _, rfl, q1⟩, ⟨_, _, _, _, rfl, rfl, ⟨rfl, rfl⟩, ⟨_, _, _, _, rfl, rfl, ⟨rfl, rfl⟩, ⟨rfl, rfl⟩⟩⟩⟩⟩⟩, hrest⟩, by simpa using h4, fun b hb => h5 b (by simpa using hb)⟩
theorem st123_own {D : List Nat} {w0 w : World} {As : List Item} {v : Value} {a : (Int × (List Int) × Int × Int × Int)} (h : Ctx D w0 w (Item.own v a :: As)) : ∃ v1, v = .agg #[.int .i64 a.1, v1, .int .i64 a.2.2.1, .int .i64 a.2.2.2.1, .int .i64 a.2.2.2.2] ∧ Ctx D w0 w (Item.own v1 a.2.1 :: As) := by
  obtain ⟨k, _, ⟨F, Gs, rfl, ⟨cs, rfl, h⟩, hrest⟩, h4, h5⟩ := h
  obtain ⟨c1, c2, Gh_0, Hh_0, rfl, rfl, h_0, h_r0⟩ := h
  obtain ⟨rfl, rfl⟩ := h_0
  obtain ⟨c1, c2, Gh_1, Hh_1, rfl, rfl, h_1, h_r1⟩ := h_r0
  obtain ⟨p1, cap1, rfl, q1⟩ := h_1
  obtain ⟨c1, c2, Gh_2, Hh_2, rfl, rfl, h_2, h_r2⟩ := h_r1
  obtain ⟨rfl, rfl⟩ := h_2
  obtain ⟨c1, c2, Gh_3, Hh_3, rfl, rfl, h_3, h_r3⟩ := h_r2
  obtain ⟨rfl, rfl⟩ := h_3
  obtain ⟨rfl, rfl⟩ := h_r3
  exact ⟨_, rfl, k, _, ⟨_, _, rfl, ⟨[_], rfl, p1, cap1, rfl, q1⟩, hrest⟩, by simpa using h4, fun b hb => h5 b (by simpa using hb)⟩
theorem zero29 : ∀ w, (zeroValue 29).run Tryd.prog w = .ok (.agg #[(.int .i64 0), (.slice none 0 0)]) w := zero_run (i := Tryd.t29) (by kernel_rfl) rfl
theorem zc29 : ∀ i z, Tryd.prog.info? 29 = some i → i.zero = some z → z.cells.toList = [(.int .i64 0), (.slice none 0 0)] := zc_of (i := Tryd.t29) (by kernel_rfl) rfl rfl
theorem zr29 : ∀ w, Rep.rep true w [(.int .i64 0), (.slice none 0 0)] ((0, []) : (Int × (List Int))) [] := fun w => ⟨_, _, [], [], rfl, rfl, ⟨rfl, rfl⟩, (by exact ⟨_, _, rfl, by simp, by simp [maxLen], .inl ⟨rfl, rfl, rfl, rfl⟩⟩)⟩
theorem zero72 : ∀ w, (zeroValue 72).run Tryd.prog w = .ok (.agg #[(.int .i64 0), (.slice none 0 0)]) w := zero_run (i := Tryd.t72) (by kernel_rfl) rfl
theorem zc72 : ∀ i z, Tryd.prog.info? 72 = some i → i.zero = some z → z.cells.toList = [(.int .i64 0), (.slice none 0 0)] := zc_of (i := Tryd.t72) (by kernel_rfl) rfl rfl
theorem zr72 : ∀ w, Rep.rep true w [(.int .i64 0), (.slice none 0 0)] ((0, []) : (Int × (List Int))) [] := fun w => ⟨_, _, [], [], rfl, rfl, ⟨rfl, rfl⟩, (by exact ⟨_, _, rfl, by simp, by simp [maxLen], .inl ⟨rfl, rfl, rfl, rfl⟩⟩)⟩
theorem zero123 : ∀ w, (zeroValue 123).run Tryd.prog w = .ok (.agg #[(.int .i64 0), (.slice none 0 0), (.int .i64 0), (.int .i64 0), (.int .i64 0)]) w := zero_run (i := Tryd.t123) (by kernel_rfl) rfl
theorem zc123 : ∀ i z, Tryd.prog.info? 123 = some i → i.zero = some z → z.cells.toList = [(.int .i64 0), (.slice none 0 0), (.int .i64 0), (.int .i64 0), (.int .i64 0)] := zc_of (i := Tryd.t123) (by kernel_rfl) rfl rfl
theorem zr123 : ∀ w, Rep.rep true w [(.int .i64 0), (.slice none 0 0), (.int .i64 0), (.int .i64 0), (.int .i64 0)] ((0, [], 0, 0, 0) : (Int × (List Int) × Int × Int × Int)) [] := fun w => ⟨_, _, [], [], rfl, rfl, ⟨rfl, rfl⟩, ⟨_, _, [], [], rfl, rfl, (by exact ⟨_, _, rfl, by simp, by simp [maxLen], .inl ⟨rfl, rfl, rfl, rfl⟩⟩), ⟨_, _, [], [], rfl, rfl, ⟨rfl, rfl⟩, ⟨_, _, [], [], rfl, rfl, ⟨rfl, rfl⟩, ⟨rfl, rfl⟩⟩⟩⟩⟩
theorem built29  : Tryd.prog.built 29 [] = some #[(.int .i64 0), (.slice none 0 0)] :=
  built_of (i := Tryd.t29) (z := [(.int .i64 0), (.slice none 0 0)]) (places := [(0, 1), (1, 1)]) (by kernel_rfl) Tryd.underlying29 rfl rfl (by kernel_rfl) fill_end
theorem built29_0 {u0 : Value} {y0_0 : Value} (h0 : u0.cells.toList = [y0_0]) : Tryd.prog.built 29 [(0, u0)] = some #[y0_0, (.slice none 0 0)] :=
  built_of (i := Tryd.t29) (z := [(.int .i64 0), (.slice none 0 0)]) (places := [(0, 1), (1, 1)]) (by kernel_rfl) Tryd.underlying29 rfl rfl (by kernel_rfl) (fill_step (cells' := [y0_0, (.slice none 0 0)]) (off := 0) rfl h0 rfl rfl fill_end)
theorem built29_0_1 {u0 u1 : Value} {y0_0 y1_0 : Value} (h0 : u0.cells.toList = [y0_0]) (h1 : u1.cells.toList = [y1_0]) : Tryd.prog.built 29 [(0, u0), (1, u1)] = some #[y0_0, y1_0] :=
  built_of (i := Tryd.t29) (z := [(.int .i64 0), (.slice none 0 0)]) (places := [(0, 1), (1, 1)]) (by kernel_rfl) Tryd.underlying29 rfl rfl (by kernel_rfl) (fill_step (cells' := [y0_0, (.slice none 0 0)]) (off := 0) rfl h0 rfl rfl (fill_step (cells' := [y0_0, y1_0]) (off := 1) rfl h1 rfl rfl fill_end))
theorem built72_0 {u0 : Value} {y0_0 : Value} (h0 : u0.cells.toList = [y0_0]) : Tryd.prog.built 72 [(0, u0)] = some #[y0_0, (.slice none 0 0)] :=
  built_of (i := Tryd.t72) (z := [(.int .i64 0), (.slice none 0 0)]) (places := [(0, 1), (1, 1)]) (by kernel_rfl) Tryd.underlying72 rfl rfl (by kernel_rfl) (fill_step (cells' := [y0_0, (.slice none 0 0)]) (off := 0) rfl h0 rfl rfl fill_end)
theorem built72_0_1 {u0 u1 : Value} {y0_0 y1_0 : Value} (h0 : u0.cells.toList = [y0_0]) (h1 : u1.cells.toList = [y1_0]) : Tryd.prog.built 72 [(0, u0), (1, u1)] = some #[y0_0, y1_0] :=
  built_of (i := Tryd.t72) (z := [(.int .i64 0), (.slice none 0 0)]) (places := [(0, 1), (1, 1)]) (by kernel_rfl) Tryd.underlying72 rfl rfl (by kernel_rfl) (fill_step (cells' := [y0_0, (.slice none 0 0)]) (off := 0) rfl h0 rfl rfl (fill_step (cells' := [y0_0, y1_0]) (off := 1) rfl h1 rfl rfl fill_end))
theorem built72_1 {u1 : Value} {y1_0 : Value} (h1 : u1.cells.toList = [y1_0]) : Tryd.prog.built 72 [(1, u1)] = some #[(.int .i64 0), y1_0] :=
  built_of (i := Tryd.t72) (z := [(.int .i64 0), (.slice none 0 0)]) (places := [(0, 1), (1, 1)]) (by kernel_rfl) Tryd.underlying72 rfl rfl (by kernel_rfl) (fill_step (cells' := [(.int .i64 0), y1_0]) (off := 1) rfl h1 rfl rfl fill_end)
theorem built79_0 {u0 : Value} {y0_0 : Value} (h0 : u0.cells.toList = [y0_0]) : Tryd.prog.built 79 [(0, u0)] = some #[y0_0, (.bool false)] :=
  built_of (i := Tryd.t79) (z := [(sv (str [])), (.bool false)]) (places := [(0, 1), (1, 1)]) (by kernel_rfl) Tryd.underlying79 rfl rfl (by kernel_rfl) (fill_step (cells' := [y0_0, (.bool false)]) (off := 0) rfl h0 rfl rfl fill_end)
theorem built108_0_2 {u0 u2 : Value} {y0_0 y2_0 : Value} (h0 : u0.cells.toList = [y0_0]) (h2 : u2.cells.toList = [y2_0]) : Tryd.prog.built 108 [(0, u0), (2, u2)] = some #[y0_0, (.int .i64 0), y2_0] :=
  built_of (i := Tryd.t108) (z := [(.slice none 0 0), (.int .i64 0), (.int .i64 0)]) (places := [(0, 1), (1, 1), (2, 1)]) (by kernel_rfl) Tryd.underlying108 rfl rfl (by kernel_rfl) (fill_step (cells' := [y0_0, (.int .i64 0), (.int .i64 0)]) (off := 0) rfl h0 rfl rfl (fill_step (cells' := [y0_0, (.int .i64 0), y2_0]) (off := 2) rfl h2 rfl rfl fill_end))
theorem built123_0_2_3_4 {u0 u2 u3 u4 : Value} {y0_0 y2_0 y3_0 y4_0 : Value} (h0 : u0.cells.toList = [y0_0]) (h2 : u2.cells.toList = [y2_0]) (h3 : u3.cells.toList = [y3_0]) (h4 : u4.cells.toList = [y4_0]) : Tryd.prog.built 123 [(0, u0), (2, u2), (3, u3), (4, u4)] = some #[y0_0, (.slice none 0 0), y2_0, y3_0, y4_0] :=
  built_of (i := Tryd.t123) (z := [(.int .i64 0), (.slice none 0 0), (.int .i64 0), (.int .i64 0), (.int .i64 0)]) (places := [(0, 1), (1, 1), (2, 1), (3, 1), (4, 1)]) (by kernel_rfl) Tryd.underlying123 rfl rfl (by kernel_rfl) (fill_step (cells' := [y0_0, (.slice none 0 0), (.int .i64 0), (.int .i64 0), (.int .i64 0)]) (off := 0) rfl h0 rfl rfl (fill_step (cells' := [y0_0, (.slice none 0 0), y2_0, (.int .i64 0), (.int .i64 0)]) (off := 2) rfl h2 rfl rfl (fill_step (cells' := [y0_0, (.slice none 0 0), y2_0, y3_0, (.int .i64 0)]) (off := 3) rfl h3 rfl rfl (fill_step (cells' := [y0_0, (.slice none 0 0), y2_0, y3_0, y4_0]) (off := 4) rfl h4 rfl rfl fill_end))))
theorem built123_4 {u4 : Value} {y4_0 : Value} (h4 : u4.cells.toList = [y4_0]) : Tryd.prog.built 123 [(4, u4)] = some #[(.int .i64 0), (.slice none 0 0), (.int .i64 0), (.int .i64 0), y4_0] :=
  built_of (i := Tryd.t123) (z := [(.int .i64 0), (.slice none 0 0), (.int .i64 0), (.int .i64 0), (.int .i64 0)]) (places := [(0, 1), (1, 1), (2, 1), (3, 1), (4, 1)]) (by kernel_rfl) Tryd.underlying123 rfl rfl (by kernel_rfl) (fill_step (cells' := [(.int .i64 0), (.slice none 0 0), (.int .i64 0), (.int .i64 0), y4_0]) (off := 4) rfl h4 rfl rfl fill_end)
end Go.Gx.Px
