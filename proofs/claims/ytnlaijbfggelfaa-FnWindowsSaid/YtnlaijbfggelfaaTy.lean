/- The types of the seat, as the library wants them. Conditions: none. -/
import Derived.Test.YtnlaijbfggelfaaGxHo
import Derived.Test.YtnlaijbfggelfaaProg
set_option linter.unusedVariables false
set_option linter.unusedSimpArgs false
namespace Go.Gx.Px
open Go.Proofs
theorem hmix : Try.prog.follows .mixedOrders = true := by kernel_rfl
theorem ty3 : Ty Try.prog 3 Int := ⟨Try.isAgg3, Try.sizeOf3, Try.t3, _, by kernel_rfl, rfl, by decide, rfl, rfl⟩
theorem ty5 : Ty Try.prog 5 UInt8 := ⟨Try.isAgg5, Try.sizeOf5, Try.t5, _, by kernel_rfl, rfl, by decide, rfl, rfl⟩
theorem ty28 : Ty Try.prog 28 (List Int) := ⟨Try.isAgg28, Try.sizeOf28, Try.t28, _, by kernel_rfl, rfl, by decide, rfl, rfl⟩
theorem ty70 : Ty Try.prog 70 (Int × (List Int)) := ⟨Try.isAgg70, Try.sizeOf70, Try.t70, _, by kernel_rfl, rfl, by decide, rfl, rfl⟩
theorem ty82 : Ty Try.prog 82 (Int × (List Int)) := ⟨Try.isAgg82, Try.sizeOf82, Try.t82, _, by kernel_rfl, rfl, by decide, rfl, rfl⟩
theorem ro_st25 {D : List Nat} {w : World} {v : Value} {a : (Int × Int)} (h : RO D w v a) :  v = .agg #[.int .i64 a.1, .int .i64 a.2] := by
  obtain ⟨F, ⟨cs, rfl, h⟩, hD⟩ := h
  obtain ⟨c1, c2, F1, F2, rfl, rfl, h_0, h_r0⟩ := h
  obtain ⟨rfl, rfl⟩ := h_0
  obtain ⟨rfl, rfl⟩ := h_r0
  rfl
theorem own_st25 {D : List Nat} {w0 w : World} {As : List Item} (x0 : Int) (x1 : Int) (h : Ctx D w0 w (As)) : Ctx D w0 w (Item.own (.agg #[.int .i64 x0, .int .i64 x1]) ((x0, x1) : (Int × Int)) :: As) := by
  obtain ⟨k, Gs, hrest, h4, h5⟩ := h
  exact ⟨k, _ :: Gs, ⟨_, Gs, rfl, ⟨[_, _], rfl, ⟨_, _, _, _, rfl, rfl, ⟨rfl, rfl⟩, ⟨rfl, rfl⟩⟩⟩, hrest⟩, by simpa using h4, fun b hb => h5 b (by simpa using hb)⟩
theorem st25_own {D : List Nat} {w0 w : World} {As : List Item} {v : Value} {a : (Int × Int)} (h : Ctx D w0 w (Item.own v a :: As)) : v = .agg #[.int .i64 a.1, .int .i64 a.2] ∧ Ctx D w0 w (As) := by
  obtain ⟨k, _, ⟨F, Gs, rfl, ⟨cs, rfl, h⟩, hrest⟩, h4, h5⟩ := h
  obtain ⟨c1, c2, Gh_0, Hh_0, rfl, rfl, h_0, h_r0⟩ := h
  obtain ⟨rfl, rfl⟩ := h_0
  obtain ⟨rfl, rfl⟩ := h_r0
  exact ⟨rfl, k, _, hrest, by simpa using h4, fun b hb => h5 b (by simpa using hb)⟩
theorem ro_st49 {D : List Nat} {w : World} {v : Value} {a : ((List Int) × (List (Int × (List Int))))} (h : RO D w v a) : ∃ v1, ∃ v2, v = .agg #[v1, v2] ∧ RO D w v1 a.1 ∧ RO D w v2 a.2 := by
  obtain ⟨F, ⟨cs, rfl, h⟩, hD⟩ := h
  obtain ⟨c1, c2, F1, F2, rfl, rfl, h_0, h_r0⟩ := h
  obtain ⟨p1, cap1, rfl, q1⟩ := h_0
  obtain ⟨p2, cap2, rfl, q2⟩ := h_r0
  refine ⟨_, _, rfl, ?_, ?_⟩
  · exact ⟨_, ⟨[_], rfl, p1, cap1, rfl, q1⟩, fun b hb => hD b (by simp [hb])⟩
  · exact ⟨_, ⟨[_], rfl, p2, cap2, rfl, q2⟩, fun b hb => hD b (by simp [hb])⟩
theorem own_st49 {D : List Nat} {w0 w : World} {As : List Item} (v0 : Value) (x0 : (List Int)) (v1 : Value) (x1 : (List (Int × (List Int)))) (h : Ctx D w0 w (Item.own v0 x0 :: Item.own v1 x1 :: As)) : Ctx D w0 w (Item.own (.agg #[v0, v1]) ((x0, x1) : ((List Int) × (List (Int × (List Int))))) :: As) := by
  obtain ⟨k, Gs, hrest, h4, h5⟩ := h
  obtain ⟨F0, Gs, rfl, ⟨c0, rfl, p0, cap0, rfl, q0⟩, hrest⟩ := hrest
  obtain ⟨F1, Gs, rfl, ⟨c1, rfl, p1, cap1, rfl, q1⟩, hrest⟩ := hrest
  exact ⟨k, _ :: Gs, ⟨_, Gs, rfl, ⟨[_, _], rfl, ⟨_, _, _, _, rfl, rfl, ⟨_, _, rfl, q0⟩, ⟨_, _, rfl, q1⟩⟩⟩, hrest⟩, by simpa using h4, fun b hb => h5 b (by simpa using hb)⟩
theorem st49_own {D : List Nat} {w0 w : World} {As : List Item} {v : Value} {a : ((List Int) × (List (Int × (List Int))))} (h : Ctx D w0 w (Item.own v a :: As)) : ∃ v0, ∃ v1, v = .agg #[v0, v1] ∧ Ctx D w0 w (Item.own v0 a.1 :: Item.own v1 a.2 :: As) := by
  obtain ⟨k, _, ⟨F, Gs, rfl, ⟨cs, rfl, h⟩, hrest⟩, h4, h5⟩ := h
  obtain ⟨c1, c2, Gh_0, Hh_0, rfl, rfl, h_0, h_r0⟩ := h
  obtain ⟨p0, cap0, rfl, q0⟩ := h_0
  obtain ⟨p1, cap1, rfl, q1⟩ := h_r0
  exact ⟨_, _, rfl, k, _, ⟨_, _, rfl, ⟨[_], rfl, p0, cap0, rfl, q0⟩, ⟨_, _, rfl, ⟨[_], rfl, p1, cap1, rfl, q1⟩, hrest⟩⟩, by simpa using h4, fun b hb => h5 b (by simpa using hb)⟩
theorem ro_st70 {D : List Nat} {w : World} {v : Value} {a : (Int × (List Int))} (h : RO D w v a) : ∃ v1, v = .agg #[.int .i64 a.1, v1] ∧ RO D w v1 a.2 := by
  obtain ⟨F, ⟨cs, rfl, h⟩, hD⟩ := h
  obtain ⟨c1, c2, F1, F2, rfl, rfl, h_0, h_r0⟩ := h
  obtain ⟨rfl, rfl⟩ := h_0
  obtain ⟨p1, cap1, rfl, q1⟩ := h_r0
  refine ⟨_, rfl, ?_⟩
  · exact ⟨_, ⟨[_], rfl, p1, cap1, rfl, q1⟩, fun b hb => hD b (by simp [hb])⟩
theorem own_st70 {D : List Nat} {w0 w : World} {As : List Item} (x0 : Int) (v1 : Value) (x1 : (List Int)) (h : Ctx D w0 w (Item.own v1 x1 :: As)) : Ctx D w0 w (Item.own (.agg #[.int .i64 x0, v1]) ((x0, x1) : (Int × (List Int))) :: As) := by
  obtain ⟨k, Gs, hrest, h4, h5⟩ := h
  obtain ⟨F1, Gs, rfl, ⟨c1, rfl, p1, cap1, rfl, q1⟩, hrest⟩ := hrest
  exact ⟨k, _ :: Gs, ⟨_, Gs, rfl, ⟨[_, _], rfl, ⟨_, _, _, _, rfl, rfl, ⟨rfl, rfl⟩, ⟨_, _, rfl, q1⟩⟩⟩, hrest⟩, by simpa using h4, fun b hb => h5 b (by simpa using hb)⟩
theorem st70_own {D : List Nat} {w0 w : World} {As : List Item} {v : Value} {a : (Int × (List Int))} (h : Ctx D w0 w (Item.own v a :: As)) : ∃ v1, v = .agg #[.int .i64 a.1, v1] ∧ Ctx D w0 w (Item.own v1 a.2 :: As) := by
  obtain ⟨k, _, ⟨F, Gs, rfl, ⟨cs, rfl, h⟩, hrest⟩, h4, h5⟩ := h
  obtain ⟨c1, c2, Gh_0, Hh_0, rfl, rfl, h_0, h_r0⟩ := h
  obtain ⟨rfl, rfl⟩ := h_0
  obtain ⟨p1, cap1, rfl, q1⟩ := h_r0
  exact ⟨_, rfl, k, _, ⟨_, _, rfl, ⟨[_], rfl, p1, cap1, rfl, q1⟩, hrest⟩, by simpa using h4, fun b hb => h5 b (by simpa using hb)⟩
theorem ro_st82 {D : List Nat} {w : World} {v : Value} {a : (Int × (List Int))} (h : RO D w v a) : ∃ v1, v = .agg #[.int .i64 a.1, v1] ∧ RO D w v1 a.2 := by
  obtain ⟨F, ⟨cs, rfl, h⟩, hD⟩ := h
  obtain ⟨c1, c2, F1, F2, rfl, rfl, h_0, h_r0⟩ := h
  obtain ⟨rfl, rfl⟩ := h_0
  obtain ⟨p1, cap1, rfl, q1⟩ := h_r0
  refine ⟨_, rfl, ?_⟩
  · exact ⟨_, ⟨[_], rfl, p1, cap1, rfl, q1⟩, fun b hb => hD b (by simp [hb])⟩
theorem own_st82 {D : List Nat} {w0 w : World} {As : List Item} (x0 : Int) (v1 : Value) (x1 : (List Int)) (h : Ctx D w0 w (Item.own v1 x1 :: As)) : Ctx D w0 w (Item.own (.agg #[.int .i64 x0, v1]) ((x0, x1) : (Int × (List Int))) :: As) := by
  obtain ⟨k, Gs, hrest, h4, h5⟩ := h
  obtain ⟨F1, Gs, rfl, ⟨c1, rfl, p1, cap1, rfl, q1⟩, hrest⟩ := hrest
  exact ⟨k, _ :: Gs, ⟨_, Gs, rfl, ⟨[_, _], rfl, ⟨_, _, _, _, rfl, rfl, ⟨rfl, rfl⟩, ⟨_, _, rfl, q1⟩⟩⟩, hrest⟩, by simpa using h4, fun b hb => h5 b (by simpa using hb)⟩
theorem st82_own {D : List Nat} {w0 w : World} {As : List Item} {v : Value} {a : (Int × (List Int))} (h : Ctx D w0 w (Item.own v a :: As)) : ∃ v1, v = .agg #[.int .i64 a.1, v1] ∧ Ctx D w0 w (Item.own v1 a.2 :: As) := by
  obtain ⟨k, _, ⟨F, Gs, rfl, ⟨cs, rfl, h⟩, hrest⟩, h4, h5⟩ := h
  obtain ⟨c1, c2, Gh_0, Hh_0, rfl, rfl, h_0, h_r0⟩ := h
  obtain ⟨rfl, rfl⟩ := h_0
  obtain ⟨p1, cap1, rfl, q1⟩ := h_r0
  exact ⟨_, rfl, k, _, ⟨_, _, rfl, ⟨[_], rfl, p1, cap1, rfl, q1⟩, hrest⟩, by simpa using h4, fun b hb => h5 b (by simpa using hb)⟩
theorem zero3 : ∀ w, (zeroValue 3).run Try.prog w = .ok ((.int .i64 0)) w := zero_run (i := Try.t3) (by kernel_rfl) rfl
theorem zc3 : ∀ i z, Try.prog.info? 3 = some i → i.zero = some z → z.cells.toList = [(.int .i64 0)] := zc_of (i := Try.t3) (by kernel_rfl) rfl rfl
theorem zr3 : ∀ w, Rep.rep true w [(.int .i64 0)] ((0 : Int) : Int) [] := fun w => ⟨rfl, rfl⟩
theorem zero25 : ∀ w, (zeroValue 25).run Try.prog w = .ok (.agg #[(.int .i64 0), (.int .i64 0)]) w := zero_run (i := Try.t25) (by kernel_rfl) rfl
theorem zc25 : ∀ i z, Try.prog.info? 25 = some i → i.zero = some z → z.cells.toList = [(.int .i64 0), (.int .i64 0)] := zc_of (i := Try.t25) (by kernel_rfl) rfl rfl
theorem zr25 : ∀ w, Rep.rep true w [(.int .i64 0), (.int .i64 0)] ((0, 0) : (Int × Int)) [] := fun w => ⟨_, _, [], [], rfl, rfl, ⟨rfl, rfl⟩, ⟨rfl, rfl⟩⟩
theorem zero49 : ∀ w, (zeroValue 49).run Try.prog w = .ok (.agg #[(.slice none 0 0), (.slice none 0 0)]) w := zero_run (i := Try.t49) (by kernel_rfl) rfl
theorem zc49 : ∀ i z, Try.prog.info? 49 = some i → i.zero = some z → z.cells.toList = [(.slice none 0 0), (.slice none 0 0)] := zc_of (i := Try.t49) (by kernel_rfl) rfl rfl
theorem zr49 : ∀ w, Rep.rep true w [(.slice none 0 0), (.slice none 0 0)] (([], []) : ((List Int) × (List (Int × (List Int))))) [] := fun w => ⟨_, _, [], [], rfl, rfl, (by exact ⟨_, _, rfl, by simp, by simp [maxLen], .inl ⟨rfl, rfl, rfl, rfl⟩⟩), (by exact ⟨_, _, rfl, by simp, by simp [maxLen], .inl ⟨rfl, rfl, rfl, rfl⟩⟩)⟩
theorem zero70 : ∀ w, (zeroValue 70).run Try.prog w = .ok (.agg #[(.int .i64 0), (.slice none 0 0)]) w := zero_run (i := Try.t70) (by kernel_rfl) rfl
theorem zc70 : ∀ i z, Try.prog.info? 70 = some i → i.zero = some z → z.cells.toList = [(.int .i64 0), (.slice none 0 0)] := zc_of (i := Try.t70) (by kernel_rfl) rfl rfl
theorem zr70 : ∀ w, Rep.rep true w [(.int .i64 0), (.slice none 0 0)] ((0, []) : (Int × (List Int))) [] := fun w => ⟨_, _, [], [], rfl, rfl, ⟨rfl, rfl⟩, (by exact ⟨_, _, rfl, by simp, by simp [maxLen], .inl ⟨rfl, rfl, rfl, rfl⟩⟩)⟩
theorem built25_0_1 {u0 u1 : Value} {y0_0 y1_0 : Value} (h0 : u0.cells.toList = [y0_0]) (h1 : u1.cells.toList = [y1_0]) : Try.prog.built 25 [(0, u0), (1, u1)] = some #[y0_0, y1_0] :=
  built_of (i := Try.t25) (z := [(.int .i64 0), (.int .i64 0)]) (places := [(0, 1), (1, 1)]) (by kernel_rfl) Try.underlying25 rfl rfl (by kernel_rfl) (fill_step (cells' := [y0_0, (.int .i64 0)]) (off := 0) rfl h0 rfl rfl (fill_step (cells' := [y0_0, y1_0]) (off := 1) rfl h1 rfl rfl fill_end))
theorem built49_0 {u0 : Value} {y0_0 : Value} (h0 : u0.cells.toList = [y0_0]) : Try.prog.built 49 [(0, u0)] = some #[y0_0, (.slice none 0 0)] :=
  built_of (i := Try.t49) (z := [(.slice none 0 0), (.slice none 0 0)]) (places := [(0, 1), (1, 1)]) (by kernel_rfl) Try.underlying49 rfl rfl (by kernel_rfl) (fill_step (cells' := [y0_0, (.slice none 0 0)]) (off := 0) rfl h0 rfl rfl fill_end)
theorem built49_0_1 {u0 u1 : Value} {y0_0 y1_0 : Value} (h0 : u0.cells.toList = [y0_0]) (h1 : u1.cells.toList = [y1_0]) : Try.prog.built 49 [(0, u0), (1, u1)] = some #[y0_0, y1_0] :=
  built_of (i := Try.t49) (z := [(.slice none 0 0), (.slice none 0 0)]) (places := [(0, 1), (1, 1)]) (by kernel_rfl) Try.underlying49 rfl rfl (by kernel_rfl) (fill_step (cells' := [y0_0, (.slice none 0 0)]) (off := 0) rfl h0 rfl rfl (fill_step (cells' := [y0_0, y1_0]) (off := 1) rfl h1 rfl rfl fill_end))
theorem built70_0_1 {u0 u1 : Value} {y0_0 y1_0 : Value} (h0 : u0.cells.toList = [y0_0]) (h1 : u1.cells.toList = [y1_0]) : Try.prog.built 70 [(0, u0), (1, u1)] = some #[y0_0, y1_0] :=
  built_of (i := Try.t70) (z := [(.int .i64 0), (.slice none 0 0)]) (places := [(0, 1), (1, 1)]) (by kernel_rfl) Try.underlying70 rfl rfl (by kernel_rfl) (fill_step (cells' := [y0_0, (.slice none 0 0)]) (off := 0) rfl h0 rfl rfl (fill_step (cells' := [y0_0, y1_0]) (off := 1) rfl h1 rfl rfl fill_end))
theorem built78_0_2 {u0 u2 : Value} {y0_0 y2_0 : Value} (h0 : u0.cells.toList = [y0_0]) (h2 : u2.cells.toList = [y2_0]) : Try.prog.built 78 [(0, u0), (2, u2)] = some #[y0_0, (.int .i64 0), y2_0] :=
  built_of (i := Try.t78) (z := [(.slice none 0 0), (.int .i64 0), (.int .i64 0)]) (places := [(0, 1), (1, 1), (2, 1)]) (by kernel_rfl) Try.underlying78 rfl rfl (by kernel_rfl) (fill_step (cells' := [y0_0, (.int .i64 0), (.int .i64 0)]) (off := 0) rfl h0 rfl rfl (fill_step (cells' := [y0_0, (.int .i64 0), y2_0]) (off := 2) rfl h2 rfl rfl fill_end))
end Go.Gx.Px
