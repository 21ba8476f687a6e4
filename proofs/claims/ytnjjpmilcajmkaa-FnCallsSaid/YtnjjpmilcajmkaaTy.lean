/- The types of the seat, as the library wants them. Conditions: none. -/
import Derived.Test.YtnjjpmilcajmkaaGxEq
import Derived.Test.YtnjjpmilcajmkaaProg
set_option linter.unusedVariables false
set_option linter.unusedSimpArgs false
namespace Go.Gx.Px
open Go.Proofs
theorem hmix : Try.prog.follows .mixedOrders = true := by kernel_rfl
theorem ty3 : Ty Try.prog 3 Int := ⟨Try.isAgg3, Try.sizeOf3, Try.t3, _, by kernel_rfl, rfl, by decide, rfl, rfl⟩
theorem ty5 : Ty Try.prog 5 UInt8 := ⟨Try.isAgg5, Try.sizeOf5, Try.t5, _, by kernel_rfl, rfl, by decide, rfl, rfl⟩
theorem ty22 : Ty Try.prog 22 (List Int) := ⟨Try.isAgg22, Try.sizeOf22, Try.t22, _, by kernel_rfl, rfl, by decide, rfl, rfl⟩
theorem ty35 : Ty Try.prog 35 (Int × Int × Int × Bool) := ⟨Try.isAgg35, Try.sizeOf35, Try.t35, _, by kernel_rfl, rfl, by decide, rfl, rfl⟩
theorem ro_st26 {D : List Nat} {w : World} {v : Value} {a : ((List Int) × Int × Int)} (h : RO D w v a) : ∃ v1, v = .agg #[v1, .int .i64 a.2.1, .int .i64 a.2.2] ∧ RO D w v1 a.1 := by
  obtain ⟨F, ⟨cs, rfl, h⟩, hD⟩ := h
  obtain ⟨c1, c2, F1, F2, rfl, rfl, h_0, h_r0⟩ := h
  obtain ⟨p1, cap1, rfl, q1⟩ := h_0
  obtain ⟨c1, c2, F1, F2, rfl, rfl, h_1, h_r1⟩ := h_r0
  obtain ⟨rfl, rfl⟩ := h_1
  obtain ⟨rfl, rfl⟩ := h_r1
  refine ⟨_, rfl, ?_⟩
  · exact ⟨_, ⟨[_], rfl, p1, cap1, rfl, q1⟩, fun b hb => hD b (by simp [hb])⟩
theorem own_st26 {D : List Nat} {w0 w : World} {As : List Item} (v0 : Value) (x0 : (List Int)) (x1 : Int) (x2 : Int) (h : Ctx D w0 w (Item.own v0 x0 :: As)) : Ctx D w0 w (Item.own (.agg #[v0, .int .i64 x1, .int .i64 x2]) ((x0, x1, x2) : ((List Int) × Int × Int)) :: As) := by
  obtain ⟨k, Gs, hrest, h4, h5⟩ := h
  obtain ⟨F0, Gs, rfl, ⟨c0, rfl, p0, cap0, rfl, q0⟩, hrest⟩ := hrest
  exact ⟨k, _ :: Gs, ⟨_, Gs, rfl, ⟨[_, _, _], rfl, ⟨_, _, _, _, rfl, rfl, ⟨_, _, rfl, q0⟩, ⟨_, _, _, _, rfl, rfl, ⟨rfl, rfl⟩, ⟨rfl, rfl⟩⟩⟩⟩, hrest⟩, by simpa using h4, fun b hb => h5 b (by simpa using hb)⟩
theorem st26_own {D : List Nat} {w0 w : World} {As : List Item} {v : Value} {a : ((List Int) × Int × Int)} (h : Ctx D w0 w (Item.own v a :: As)) : ∃ v0, v = .agg #[v0, .int .i64 a.2.1, .int .i64 a.2.2] ∧ Ctx D w0 w (Item.own v0 a.1 :: As) := by
  obtain ⟨k, _, ⟨F, Gs, rfl, ⟨cs, rfl, h⟩, hrest⟩, h4, h5⟩ := h
  obtain ⟨c1, c2, Gh_0, Hh_0, rfl, rfl, h_0, h_r0⟩ := h
  obtain ⟨p0, cap0, rfl, q0⟩ := h_0
  obtain ⟨c1, c2, Gh_1, Hh_1, rfl, rfl, h_1, h_r1⟩ := h_r0
  obtain ⟨rfl, rfl⟩ := h_1
  obtain ⟨rfl, rfl⟩ := h_r1
  exact ⟨_, rfl, k, _, ⟨_, _, rfl, ⟨[_], rfl, p0, cap0, rfl, q0⟩, hrest⟩, by simpa using h4, fun b hb => h5 b (by simpa using hb)⟩
theorem ro_st35 {D : List Nat} {w : World} {v : Value} {a : (Int × Int × Int × Bool)} (h : RO D w v a) :  v = .agg #[.int .i64 a.1, .int .i64 a.2.1, .int .i64 a.2.2.1, .bool a.2.2.2] := by
  obtain ⟨F, ⟨cs, rfl, h⟩, hD⟩ := h
  obtain ⟨c1, c2, F1, F2, rfl, rfl, h_0, h_r0⟩ := h
  obtain ⟨rfl, rfl⟩ := h_0
  obtain ⟨c1, c2, F1, F2, rfl, rfl, h_1, h_r1⟩ := h_r0
  obtain ⟨rfl, rfl⟩ := h_1
  obtain ⟨c1, c2, F1, F2, rfl, rfl, h_2, h_r2⟩ := h_r1
  obtain ⟨rfl, rfl⟩ := h_2
  obtain ⟨rfl, rfl⟩ := h_r2
  rfl
theorem own_st35 {D : List Nat} {w0 w : World} {As : List Item} (x0 : Int) (x1 : Int) (x2 : Int) (x3 : Bool) (h : Ctx D w0 w (As)) : Ctx D w0 w (Item.own (.agg #[.int .i64 x0, .int .i64 x1, .int .i64 x2, .bool x3]) ((x0, x1, x2, x3) : (Int × Int × Int × Bool)) :: As) := by
  obtain ⟨k, Gs, hrest, h4, h5⟩ := h
  exact ⟨k, _ :: Gs, ⟨_, Gs, rfl, ⟨[_, _, _, _], rfl, ⟨_, _, _, _, rfl, rfl, ⟨rfl, rfl⟩, ⟨_, _, _, _, rfl, rfl, ⟨rfl, rfl⟩, ⟨_, _, _, _, rfl, rfl, ⟨rfl, rfl⟩, ⟨rfl, rfl⟩⟩⟩⟩⟩, hrest⟩, by simpa using h4, fun b hb => h5 b (by simpa using hb)⟩
theorem st35_own {D : List Nat} {w0 w : World} {As : List Item} {v : Value} {a : (Int × Int × Int × Bool)} (h : Ctx D w0 w (Item.own v a :: As)) : v = .agg #[.int .i64 a.1, .int .i64 a.2.1, .int .i64 a.2.2.1, .bool a.2.2.2] ∧ Ctx D w0 w (As) := by
  obtain ⟨k, _, ⟨F, Gs, rfl, ⟨cs, rfl, h⟩, hrest⟩, h4, h5⟩ := h
  obtain ⟨c1, c2, Gh_0, Hh_0, rfl, rfl, h_0, h_r0⟩ := h
  obtain ⟨rfl, rfl⟩ := h_0
  obtain ⟨c1, c2, Gh_1, Hh_1, rfl, rfl, h_1, h_r1⟩ := h_r0
  obtain ⟨rfl, rfl⟩ := h_1
  obtain ⟨c1, c2, Gh_2, Hh_2, rfl, rfl, h_2, h_r2⟩ := h_r1
  obtain ⟨rfl, rfl⟩ := h_2
  obtain ⟨rfl, rfl⟩ := h_r2
  exact ⟨rfl, k, _, hrest, by simpa using h4, fun b hb => h5 b (by simpa using hb)⟩
theorem zero3 : ∀ w, (zeroValue 3).run Try.prog w = .ok ((.int .i64 0)) w := zero_run (i := Try.t3) (by kernel_rfl) rfl
theorem zc3 : ∀ i z, Try.prog.info? 3 = some i → i.zero = some z → z.cells.toList = [(.int .i64 0)] := zc_of (i := Try.t3) (by kernel_rfl) rfl rfl
theorem zr3 : ∀ w, Rep.rep true w [(.int .i64 0)] ((0 : Int) : Int) [] := fun w => ⟨rfl, rfl⟩
theorem zero26 : ∀ w, (zeroValue 26).run Try.prog w = .ok (.agg #[(.slice none 0 0), (.int .i64 0), (.int .i64 0)]) w := zero_run (i := Try.t26) (by kernel_rfl) rfl
theorem zc26 : ∀ i z, Try.prog.info? 26 = some i → i.zero = some z → z.cells.toList = [(.slice none 0 0), (.int .i64 0), (.int .i64 0)] := zc_of (i := Try.t26) (by kernel_rfl) rfl rfl
theorem zr26 : ∀ w, Rep.rep true w [(.slice none 0 0), (.int .i64 0), (.int .i64 0)] (([], 0, 0) : ((List Int) × Int × Int)) [] := fun w => ⟨_, _, [], [], rfl, rfl, (by exact ⟨_, _, rfl, by simp, by simp [maxLen], .inl ⟨rfl, rfl, rfl, rfl⟩⟩), ⟨_, _, [], [], rfl, rfl, ⟨rfl, rfl⟩, ⟨rfl, rfl⟩⟩⟩
theorem zero35 : ∀ w, (zeroValue 35).run Try.prog w = .ok (.agg #[(.int .i64 0), (.int .i64 0), (.int .i64 0), (.bool false)]) w := zero_run (i := Try.t35) (by kernel_rfl) rfl
theorem zc35 : ∀ i z, Try.prog.info? 35 = some i → i.zero = some z → z.cells.toList = [(.int .i64 0), (.int .i64 0), (.int .i64 0), (.bool false)] := zc_of (i := Try.t35) (by kernel_rfl) rfl rfl
theorem zr35 : ∀ w, Rep.rep true w [(.int .i64 0), (.int .i64 0), (.int .i64 0), (.bool false)] ((0, 0, 0, false) : (Int × Int × Int × Bool)) [] := fun w => ⟨_, _, [], [], rfl, rfl, ⟨rfl, rfl⟩, ⟨_, _, [], [], rfl, rfl, ⟨rfl, rfl⟩, ⟨_, _, [], [], rfl, rfl, ⟨rfl, rfl⟩, ⟨rfl, rfl⟩⟩⟩⟩
theorem built26  : Try.prog.built 26 [] = some #[(.slice none 0 0), (.int .i64 0), (.int .i64 0)] :=
  built_of (i := Try.t26) (z := [(.slice none 0 0), (.int .i64 0), (.int .i64 0)]) (places := [(0, 1), (1, 1), (2, 1)]) (by kernel_rfl) Try.underlying26 rfl rfl (by kernel_rfl) fill_end
theorem built26_0_1_2 {u0 u1 u2 : Value} {y0_0 y1_0 y2_0 : Value} (h0 : u0.cells.toList = [y0_0]) (h1 : u1.cells.toList = [y1_0]) (h2 : u2.cells.toList = [y2_0]) : Try.prog.built 26 [(0, u0), (1, u1), (2, u2)] = some #[y0_0, y1_0, y2_0] :=
  built_of (i := Try.t26) (z := [(.slice none 0 0), (.int .i64 0), (.int .i64 0)]) (places := [(0, 1), (1, 1), (2, 1)]) (by kernel_rfl) Try.underlying26 rfl rfl (by kernel_rfl) (fill_step (cells' := [y0_0, (.int .i64 0), (.int .i64 0)]) (off := 0) rfl h0 rfl rfl (fill_step (cells' := [y0_0, y1_0, (.int .i64 0)]) (off := 1) rfl h1 rfl rfl (fill_step (cells' := [y0_0, y1_0, y2_0]) (off := 2) rfl h2 rfl rfl fill_end)))
theorem built35_0_1 {u0 u1 : Value} {y0_0 y1_0 : Value} (h0 : u0.cells.toList = [y0_0]) (h1 : u1.cells.toList = [y1_0]) : Try.prog.built 35 [(0, u0), (1, u1)] = some #[y0_0, y1_0, (.int .i64 0), (.bool false)] :=
  built_of (i := Try.t35) (z := [(.int .i64 0), (.int .i64 0), (.int .i64 0), (.bool false)]) (places := [(0, 1), (1, 1), (2, 1), (3, 1)]) (by kernel_rfl) Try.underlying35 rfl rfl (by kernel_rfl) (fill_step (cells' := [y0_0, (.int .i64 0), (.int .i64 0), (.bool false)]) (off := 0) rfl h0 rfl rfl (fill_step (cells' := [y0_0, y1_0, (.int .i64 0), (.bool false)]) (off := 1) rfl h1 rfl rfl fill_end))
theorem built174_0_2 {u0 u2 : Value} {y0_0 y2_0 : Value} (h0 : u0.cells.toList = [y0_0]) (h2 : u2.cells.toList = [y2_0]) : Try.prog.built 174 [(0, u0), (2, u2)] = some #[y0_0, (.int .i64 0), y2_0] :=
  built_of (i := Try.t174) (z := [(.slice none 0 0), (.int .i64 0), (.int .i64 0)]) (places := [(0, 1), (1, 1), (2, 1)]) (by kernel_rfl) Try.underlying174 rfl rfl (by kernel_rfl) (fill_step (cells' := [y0_0, (.int .i64 0), (.int .i64 0)]) (off := 0) rfl h0 rfl rfl (fill_step (cells' := [y0_0, (.int .i64 0), y2_0]) (off := 2) rfl h2 rfl rfl fill_end))
end Go.Gx.Px
