/- The types of the seat, as the library wants them. Conditions: none. -/
import Derived.Test.YtkcdlbgpodogcaaGxX
import Derived.Test.YtkcdlbgpodogcaaProg
set_option linter.unusedVariables false
set_option linter.unusedSimpArgs false
namespace Go.Gx.Px
open Go.Proofs
theorem hmix : Try.prog.follows .mixedOrders = true := by kernel_rfl
theorem ty3 : Ty Try.prog 3 Int := ⟨Try.isAgg3, Try.sizeOf3, Try.t3, _, by kernel_rfl, rfl, by decide, rfl, rfl⟩
theorem ty22 : Ty Try.prog 22 (List Int) := ⟨Try.isAgg22, Try.sizeOf22, Try.t22, _, by kernel_rfl, rfl, by decide, rfl, rfl⟩
theorem ty67 : Ty Try.prog 67 (Int × (List Int)) := ⟨Try.isAgg67, Try.sizeOf67, Try.t67, _, by kernel_rfl, rfl, by decide, rfl, rfl⟩
theorem ty69 : Ty Try.prog 69 (Bool × (Int × (List Int))) := ⟨Try.isAgg69, Try.sizeOf69, Try.t69, _, by kernel_rfl, rfl, by decide, rfl, rfl⟩
theorem ty77 : Ty Try.prog 77 (Int × (List Int)) := ⟨Try.isAgg77, Try.sizeOf77, Try.t77, _, by kernel_rfl, rfl, by decide, rfl, rfl⟩
theorem ty79 : Ty Try.prog 79 (Bool × (Int × (List Int))) := ⟨Try.isAgg79, Try.sizeOf79, Try.t79, _, by kernel_rfl, rfl, by decide, rfl, rfl⟩
theorem ro_st65 {D : List Nat} {w : World} {v : Value} {a : ((List (Int × (List Int))) × Int)} (h : RO D w v a) : ∃ v1, v = .agg #[v1, .int .i64 a.2] ∧ RO D w v1 a.1 := by
  obtain ⟨F, ⟨cs, rfl, h⟩, hD⟩ := h
  obtain ⟨c1, c2, F1, F2, rfl, rfl, h_0, h_r0⟩ := h
  obtain ⟨p1, cap1, rfl, q1⟩ := h_0
  obtain ⟨rfl, rfl⟩ := h_r0
  refine ⟨_, rfl, ?_⟩
  · exact ⟨_, ⟨[_], rfl, p1, cap1, rfl, q1⟩, fun b hb => hD b (by simp [hb])⟩
theorem own_st65 {D : List Nat} {w0 w : World} {As : List Item} (v0 : Value) (x0 : (List (Int × (List Int)))) (x1 : Int) (h : Ctx D w0 w (Item.own v0 x0 :: As)) : Ctx D w0 w (Item.own (.agg #[v0, .int .i64 x1]) ((x0, x1) : ((List (Int × (List Int))) × Int)) :: As) := by
  obtain ⟨k, Gs, hrest, h4, h5⟩ := h
  obtain ⟨F0, Gs, rfl, ⟨c0, rfl, p0, cap0, rfl, q0⟩, hrest⟩ := hrest
  exact ⟨k, _ :: Gs, ⟨_, Gs, rfl, ⟨[_, _], rfl, ⟨_, _, _, _, rfl, rfl, ⟨_, _, rfl, q0⟩, ⟨rfl, rfl⟩⟩⟩, hrest⟩, by simpa using h4, fun b hb => h5 b (by simpa using hb)⟩
theorem st65_own {D : List Nat} {w0 w : World} {As : List Item} {v : Value} {a : ((List (Int × (List Int))) × Int)} (h : Ctx D w0 w (Item.own v a :: As)) : ∃ v0, v = .agg #[v0, .int .i64 a.2] ∧ Ctx D w0 w (Item.own v0 a.1 :: As) := by
  obtain ⟨k, _, ⟨F, Gs, rfl, ⟨cs, rfl, h⟩, hrest⟩, h4, h5⟩ := h
  obtain ⟨c1, c2, Gh_0, Hh_0, rfl, rfl, h_0, h_r0⟩ := h
  obtain ⟨p0, cap0, rfl, q0⟩ := h_0
  obtain ⟨rfl, rfl⟩ := h_r0
  exact ⟨_, rfl, k, _, ⟨_, _, rfl, ⟨[_], rfl, p0, cap0, rfl, q0⟩, hrest⟩, by simpa using h4, fun b hb => h5 b (by simpa using hb)⟩
theorem ro_st67 {D : List Nat} {w : World} {v : Value} {a : (Int × (List Int))} (h : RO D w v a) : ∃ v1, v = .agg #[.int .i64 a.1, v1] ∧ RO D w v1 a.2 := by
  obtain ⟨F, ⟨cs, rfl, h⟩, hD⟩ := h
  obtain ⟨c1, c2, F1, F2, rfl, rfl, h_0, h_r0⟩ := h
  obtain ⟨rfl, rfl⟩ := h_0
  obtain ⟨p1, cap1, rfl, q1⟩ := h_r0
  refine ⟨_, rfl, ?_⟩
  · exact ⟨_, ⟨[_], rfl, p1, cap1, rfl, q1⟩, fun b hb => hD b (by simp [hb])⟩
theorem own_st67 {D : List Nat} {w0 w : World} {As : List Item} (x0 : Int) (v1 : Value) (x1 : (List Int)) (h : Ctx D w0 w (Item.own v1 x1 :: As)) : Ctx D w0 w (Item.own (.agg #[.int .i64 x0, v1]) ((x0, x1) : (Int × (List Int))) :: As) := by
  obtain ⟨k, Gs, hrest, h4, h5⟩ := h
  obtain ⟨F1, Gs, rfl, ⟨c1, rfl, p1, cap1, rfl, q1⟩, hrest⟩ := hrest
  exact ⟨k, _ :: Gs, ⟨_, Gs, rfl, ⟨[_, _], rfl, ⟨_, _, _, _, rfl, rfl, ⟨rfl, rfl⟩, ⟨_, _, rfl, q1⟩⟩⟩, hrest⟩, by simpa using h4, fun b hb => h5 b (by simpa using hb)⟩
theorem st67_own {D : List Nat} {w0 w : World} {As : List Item} {v : Value} {a : (Int × (List Int))} (h : Ctx D w0 w (Item.own v a :: As)) : ∃ v1, v = .agg #[.int .i64 a.1, v1] ∧ Ctx D w0 w (Item.own v1 a.2 :: As) := by
  obtain ⟨k, _, ⟨F, Gs, rfl, ⟨cs, rfl, h⟩, hrest⟩, h4, h5⟩ := h
  obtain ⟨c1, c2, Gh_0, Hh_0, rfl, rfl, h_0, h_r0⟩ := h
  obtain ⟨rfl, rfl⟩ := h_0
  obtain ⟨p1, cap1, rfl, q1⟩ := h_r0
  exact ⟨_, rfl, k, _, ⟨_, _, rfl, ⟨[_], rfl, p1, cap1, rfl, q1⟩, hrest⟩, by simpa using h4, fun b hb => h5 b (by simpa using hb)⟩
theorem ro_st69 {D : List Nat} {w : World} {v : Value} {a : (Bool × (Int × (List Int)))} (h : RO D w v a) : ∃ v1, v = .agg #[.bool a.1, .int .i64 a.2.1, v1] ∧ RO D w v1 a.2.2 := by
  obtain ⟨F, ⟨cs, rfl, h⟩, hD⟩ := h
  obtain ⟨c1, c2, F1, F2, rfl, rfl, h_0, h_r0⟩ := h
  obtain ⟨rfl, rfl⟩ := h_0
  obtain ⟨c1, c2, F1, F2, rfl, rfl, h_r0_0, h_r0_r0⟩ := h_r0
  obtain ⟨rfl, rfl⟩ := h_r0_0
  obtain ⟨p1, cap1, rfl, q1⟩ := h_r0_r0
  refine ⟨_, rfl, ?_⟩
  · exact ⟨_, ⟨[_], rfl, p1, cap1, rfl, q1⟩, fun b hb => hD b (by simp [hb])⟩
theorem own_st69 {D : List Nat} {w0 w : World} {As : List Item} (x0 : Bool) (x1 : Int) (v2 : Value) (x2 : (List Int)) (h : Ctx D w0 w (Item.own v2 x2 :: As)) : Ctx D w0 w (Item.own (.agg #[.bool x0, .int .i64 x1, v2]) ((x0, (x1, x2)) : (Bool × (Int × (List Int)))) :: As) := by
  obtain ⟨k, Gs, hrest, h4, h5⟩ := h
  obtain ⟨F2, Gs, rfl, ⟨c2, rfl, p2, cap2, rfl, q2⟩, hrest⟩ := hrest
  exact ⟨k, _ :: Gs, ⟨_, Gs, rfl, ⟨[_, _, _], rfl, ⟨_, _, _, _, rfl, rfl, ⟨rfl, rfl⟩, ⟨_, _, _, _, rfl, rfl, ⟨rfl, rfl⟩, ⟨_, _, rfl, q2⟩⟩⟩⟩, hrest⟩, by simpa using h4, fun b hb => h5 b (by simpa using hb)⟩
theorem st69_own {D : List Nat} {w0 w : World} {As : List Item} {v : Value} {a : (Bool × (Int × (List Int)))} (h : Ctx D w0 w (Item.own v a :: As)) : ∃ v2, v = .agg #[.bool a.1, .int .i64 a.2.1, v2] ∧ Ctx D w0 w (Item.own v2 a.2.2 :: As) := by
  obtain ⟨k, _, ⟨F, Gs, rfl, ⟨cs, rfl, h⟩, hrest⟩, h4, h5⟩ := h
  obtain ⟨c1, c2, Gh_0, Hh_0, rfl, rfl, h_0, h_r0⟩ := h
  obtain ⟨rfl, rfl⟩ := h_0
  obtain ⟨c1, c2, Gh_r0_0, Hh_r0_0, rfl, rfl, h_r0_0, h_r0_r0⟩ := h_r0
  obtain ⟨rfl, rfl⟩ := h_r0_0
  obtain ⟨p2, cap2, rfl, q2⟩ := h_r0_r0
  exact ⟨_, rfl, k, _, ⟨_, _, rfl, ⟨[_], rfl, p2, cap2, rfl, q2⟩, hrest⟩, by simpa using h4, fun b hb => h5 b (by simpa using hb)⟩
theorem ro_st73 {D : List Nat} {w : World} {v : Value} {a : ((List (Int × (List Int))) × Int)} (h : RO D w v a) : ∃ v1, v = .agg #[v1, .int .i64 a.2] ∧ RO D w v1 a.1 := by
  obtain ⟨F, ⟨cs, rfl, h⟩, hD⟩ := h
  obtain ⟨c1, c2, F1, F2, rfl, rfl, h_0, h_r0⟩ := h
  obtain ⟨p1, cap1, rfl, q1⟩ := h_0
  obtain ⟨rfl, rfl⟩ := h_r0
  refine ⟨_, rfl, ?_⟩
  · exact ⟨_, ⟨[_], rfl, p1, cap1, rfl, q1⟩, fun b hb => hD b (by simp [hb])⟩
theorem own_st73 {D : List Nat} {w0 w : World} {As : List Item} (v0 : Value) (x0 : (List (Int × (List Int)))) (x1 : Int) (h : Ctx D w0 w (Item.own v0 x0 :: As)) : Ctx D w0 w (Item.own (.agg #[v0, .int .i64 x1]) ((x0, x1) : ((List (Int × (List Int))) × Int)) :: As) := by
  obtain ⟨k, Gs, hrest, h4, h5⟩ := h
  obtain ⟨F0, Gs, rfl, ⟨c0, rfl, p0, cap0, rfl, q0⟩, hrest⟩ := hrest
  exact ⟨k, _ :: Gs, ⟨_, Gs, rfl, ⟨[_, _], rfl, ⟨_, _, _, _, rfl, rfl, ⟨_, _, rfl, q0⟩, ⟨rfl, rfl⟩⟩⟩, hrest⟩, by simpa using h4, fun b hb => h5 b (by simpa using hb)⟩
theorem st73_own {D : List Nat} {w0 w : World} {As : List Item} {v : Value} {a : ((List (Int × (List Int))) × Int)} (h : Ctx D w0 w (Item.own v a :: As)) : ∃ v0, v = .agg #[v0, .int .i64 a.2] ∧ Ctx D w0 w (Item.own v0 a.1 :: As) := by
  obtain ⟨k, _, ⟨F, Gs, rfl, ⟨cs, rfl, h⟩, hrest⟩, h4, h5⟩ := h
  obtain ⟨c1, c2, Gh_0, Hh_0, rfl, rfl, h_0, h_r0⟩ := h
  obtain ⟨p0, cap0, rfl, q0⟩ := h_0
  obtain ⟨rfl, rfl⟩ := h_r0
  exact ⟨_, rfl, k, _, ⟨_, _, rfl, ⟨[_], rfl, p0, cap0, rfl, q0⟩, hrest⟩, by simpa using h4, fun b hb => h5 b (by simpa using hb)⟩
theorem ro_st77 {D : List Nat} {w : World} {v : Value} {a : (Int × (List Int))} (h : RO D w v a) : ∃ v1, v = .agg #[.int .i64 a.1, v1] ∧ RO D w v1 a.2 := by
  obtain ⟨F, ⟨cs, rfl, h⟩, hD⟩ := h
  obtain ⟨c1, c2, F1, F2, rfl, rfl, h_0, h_r0⟩ := h
  obtain ⟨rfl, rfl⟩ := h_0
  obtain ⟨p1, cap1, rfl, q1⟩ := h_r0
  refine ⟨_, rfl, ?_⟩
  · exact ⟨_, ⟨[_], rfl, p1, cap1, rfl, q1⟩, fun b hb => hD b (by simp [hb])⟩
theorem own_st77 {D : List Nat} {w0 w : World} {As : List Item} (x0 : Int) (v1 : Value) (x1 : (List Int)) (h : Ctx D w0 w (Item.own v1 x1 :: As)) : Ctx D w0 w (Item.own (.agg #[.int .i64 x0, v1]) ((x0, x1) : (Int × (List Int))) :: As) := by
  obtain ⟨k, Gs, hrest, h4, h5⟩ := h
  obtain ⟨F1, Gs, rfl, ⟨c1, rfl, p1, cap1, rfl, q1⟩, hrest⟩ := hrest
  exact ⟨k, _ :: Gs, ⟨_, Gs, rfl, ⟨[_, _], rfl, ⟨_, _, _, _, rfl, rfl, ⟨rfl, rfl⟩, ⟨_, _, rfl, q1⟩⟩⟩, hrest⟩, by simpa using h4, fun b hb => h5 b (by simpa using hb)⟩
theorem st77_own {D : List Nat} {w0 w : World} {As : List Item} {v : Value} {a : (Int × (List Int))} (h : Ctx D w0 w (Item.own v a :: As)) : ∃ v1, v = .agg #[.int .i64 a.1, v1] ∧ Ctx D w0 w (Item.own v1 a.2 :: As) := by
  obtain ⟨k, _, ⟨F, Gs, rfl, ⟨cs, rfl, h⟩, hrest⟩, h4, h5⟩ := h
  obtain ⟨c1, c2, Gh_0, Hh_0, rfl, rfl, h_0, h_r0⟩ := h
  obtain ⟨rfl, rfl⟩ := h_0
  obtain ⟨p1, cap1, rfl, q1⟩ := h_r0
  exact ⟨_, rfl, k, _, ⟨_, _, rfl, ⟨[_], rfl, p1, cap1, rfl, q1⟩, hrest⟩, by simpa using h4, fun b hb => h5 b (by simpa using hb)⟩
theorem ro_st79 {D : List Nat} {w : World} {v : Value} {a : (Bool × (Int × (List Int)))} (h : RO D w v a) : ∃ v1, v = .agg #[.bool a.1, .int .i64 a.2.1, v1] ∧ RO D w v1 a.2.2 := by
  obtain ⟨F, ⟨cs, rfl, h⟩, hD⟩ := h
  obtain ⟨c1, c2, F1, F2, rfl, rfl, h_0, h_r0⟩ := h
  obtain ⟨rfl, rfl⟩ := h_0
  obtain ⟨c1, c2, F1, F2, rfl, rfl, h_r0_0, h_r0_r0⟩ := h_r0
  obtain ⟨rfl, rfl⟩ := h_r0_0
  obtain ⟨p1, cap1, rfl, q1⟩ := h_r0_r0
  refine ⟨_, rfl, ?_⟩
  · exact ⟨_, ⟨[_], rfl, p1, cap1, rfl, q1⟩, fun b hb => hD b (by simp [hb])⟩
theorem own_st79 {D : List Nat} {w0 w : World} {As : List Item} (x0 : Bool) (x1 : Int) (v2 : Value) (x2 : (List Int)) (h : Ctx D w0 w (Item.own v2 x2 :: As)) : Ctx D w0 w (Item.own (.agg #[.bool x0, .int .i64 x1, v2]) ((x0, (x1, x2)) : (Bool × (Int × (List Int)))) :: As) := by
  obtain ⟨k, Gs, hrest, h4, h5⟩ := h
  obtain ⟨F2, Gs, rfl, ⟨c2, rfl, p2, cap2, rfl, q2⟩, hrest⟩ := hrest
  exact ⟨k, _ :: Gs, ⟨_, Gs, rfl, ⟨[_, _, _], rfl, ⟨_, _, _, _, rfl, rfl, ⟨rfl, rfl⟩, ⟨_, _, _, _, rfl, rfl, ⟨rfl, rfl⟩, ⟨_, _, rfl, q2⟩⟩⟩⟩, hrest⟩, by simpa using h4, fun b hb => h5 b (by simpa using hb)⟩
theorem st79_own {D : List Nat} {w0 w : World} {As : List Item} {v : Value} {a : (Bool × (Int × (List Int)))} (h : Ctx D w0 w (Item.own v a :: As)) : ∃ v2, v = .agg #[.bool a.1, .int .i64 a.2.1, v2] ∧ Ctx D w0 w (Item.own v2 a.2.2 :: As) := by
  obtain ⟨k, _, ⟨F, Gs, rfl, ⟨cs, rfl, h⟩, hrest⟩, h4, h5⟩ := h
  obtain ⟨c1, c2, Gh_0, Hh_0, rfl, rfl, h_0, h_r0⟩ := h
  obtain ⟨rfl, rfl⟩ := h_0
  obtain ⟨c1, c2, Gh_r0_0, Hh_r0_0, rfl, rfl, h_r0_0, h_r0_r0⟩ := h_r0
  obtain ⟨rfl, rfl⟩ := h_r0_0
  obtain ⟨p2, cap2, rfl, q2⟩ := h_r0_r0
  exact ⟨_, rfl, k, _, ⟨_, _, rfl, ⟨[_], rfl, p2, cap2, rfl, q2⟩, hrest⟩, by simpa using h4, fun b hb => h5 b (by simpa using hb)⟩
theorem zero3 : ∀ w, (zeroValue 3).run Try.prog w = .ok ((.int .i64 0)) w := zero_run (i := Try.t3) (by kernel_rfl) rfl
theorem zc3 : ∀ i z, Try.prog.info? 3 = some i → i.zero = some z → z.cells.toList = [(.int .i64 0)] := zc_of (i := Try.t3) (by kernel_rfl) rfl rfl
theorem zr3 : ∀ w, Rep.rep true w [(.int .i64 0)] ((0 : Int) : Int) [] := fun w => ⟨rfl, rfl⟩
theorem zero73 : ∀ w, (zeroValue 73).run Try.prog w = .ok (.agg #[(.slice none 0 0), (.int .i64 0)]) w := zero_run (i := Try.t73) (by kernel_rfl) rfl
theorem zc73 : ∀ i z, Try.prog.info? 73 = some i → i.zero = some z → z.cells.toList = [(.slice none 0 0), (.int .i64 0)] := zc_of (i := Try.t73) (by kernel_rfl) rfl rfl
theorem zr73 : ∀ w, Rep.rep true w [(.slice none 0 0), (.int .i64 0)] (([], 0) : ((List (Int × (List Int))) × Int)) [] := fun w => ⟨_, _, [], [], rfl, rfl, (by exact ⟨_, _, rfl, by simp, by simp [maxLen], .inl ⟨rfl, rfl, rfl, rfl⟩⟩), ⟨rfl, rfl⟩⟩
theorem zero77 : ∀ w, (zeroValue 77).run Try.prog w = .ok (.agg #[(.int .i64 0), (.slice none 0 0)]) w := zero_run (i := Try.t77) (by kernel_rfl) rfl
theorem zc77 : ∀ i z, Try.prog.info? 77 = some i → i.zero = some z → z.cells.toList = [(.int .i64 0), (.slice none 0 0)] := zc_of (i := Try.t77) (by kernel_rfl) rfl rfl
theorem zr77 : ∀ w, Rep.rep true w [(.int .i64 0), (.slice none 0 0)] ((0, []) : (Int × (List Int))) [] := fun w => ⟨_, _, [], [], rfl, rfl, ⟨rfl, rfl⟩, (by exact ⟨_, _, rfl, by simp, by simp [maxLen], .inl ⟨rfl, rfl, rfl, rfl⟩⟩)⟩
theorem zero79 : ∀ w, (zeroValue 79).run Try.prog w = .ok (.agg #[(.bool false), (.int .i64 0), (.slice none 0 0)]) w := zero_run (i := Try.t79) (by kernel_rfl) rfl
theorem zc79 : ∀ i z, Try.prog.info? 79 = some i → i.zero = some z → z.cells.toList = [(.bool false), (.int .i64 0), (.slice none 0 0)] := zc_of (i := Try.t79) (by kernel_rfl) rfl rfl
theorem zr79 : ∀ w, Rep.rep true w [(.bool false), (.int .i64 0), (.slice none 0 0)] ((false, (0, [])) : (Bool × (Int × (List Int)))) [] := fun w => ⟨_, _, [], [], rfl, rfl, ⟨rfl, rfl⟩, ⟨_, _, [], [], rfl, rfl, ⟨rfl, rfl⟩, (by exact ⟨_, _, rfl, by simp, by simp [maxLen], .inl ⟨rfl, rfl, rfl, rfl⟩⟩)⟩⟩
theorem built73_0_1 {u0 u1 : Value} {y0_0 y1_0 : Value} (h0 : u0.cells.toList = [y0_0]) (h1 : u1.cells.toList = [y1_0]) : Try.prog.built 73 [(0, u0), (1, u1)] = some #[y0_0, y1_0] :=
  built_of (i := Try.t73) (z := [(.slice none 0 0), (.int .i64 0)]) (places := [(0, 1), (1, 1)]) (by kernel_rfl) Try.underlying73 rfl rfl (by kernel_rfl) (fill_step (cells' := [y0_0, (.int .i64 0)]) (off := 0) rfl h0 rfl rfl (fill_step (cells' := [y0_0, y1_0]) (off := 1) rfl h1 rfl rfl fill_end))
theorem built77_0_1 {u0 u1 : Value} {y0_0 y1_0 : Value} (h0 : u0.cells.toList = [y0_0]) (h1 : u1.cells.toList = [y1_0]) : Try.prog.built 77 [(0, u0), (1, u1)] = some #[y0_0, y1_0] :=
  built_of (i := Try.t77) (z := [(.int .i64 0), (.slice none 0 0)]) (places := [(0, 1), (1, 1)]) (by kernel_rfl) Try.underlying77 rfl rfl (by kernel_rfl) (fill_step (cells' := [y0_0, (.slice none 0 0)]) (off := 0) rfl h0 rfl rfl (fill_step (cells' := [y0_0, y1_0]) (off := 1) rfl h1 rfl rfl fill_end))
end Go.Gx.Px
