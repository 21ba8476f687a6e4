/- The types of the seat, as the library wants them. Conditions: none. -/
import Derived.Test.YtpkooeejhbjajaaGxMp
import Derived.Test.YtpkooeejhbjajaaProg
set_option linter.unusedVariables false
set_option linter.unusedSimpArgs false
namespace Go.Gx.Px
open Go.Proofs
theorem hmix : Try.prog.follows .mixedOrders = true := by kernel_rfl
theorem ty3 : Ty Try.prog 3 Int := ⟨Try.isAgg3, Try.sizeOf3, Try.t3, _, by kernel_rfl, rfl, by decide, rfl, rfl⟩
theorem ty5 : Ty Try.prog 5 UInt8 := ⟨Try.isAgg5, Try.sizeOf5, Try.t5, _, by kernel_rfl, rfl, by decide, rfl, rfl⟩
theorem ty26 : Ty Try.prog 26 (List Int) := ⟨Try.isAgg26, Try.sizeOf26, Try.t26, _, by kernel_rfl, rfl, by decide, rfl, rfl⟩
theorem ty45 : Ty Try.prog 45 (Int × (List Int)) := ⟨Try.isAgg45, Try.sizeOf45, Try.t45, _, by kernel_rfl, rfl, by decide, rfl, rfl⟩
theorem ty47 : Ty Try.prog 47 (Int × (List Int) × Int × Int × Int) := ⟨Try.isAgg47, Try.sizeOf47, Try.t47, _, by kernel_rfl, rfl, by decide, rfl, rfl⟩
theorem ty91 : Ty Try.prog 91 (Int × (List Int)) := ⟨Try.isAgg91, Try.sizeOf91, Try.t91, _, by kernel_rfl, rfl, by decide, rfl, rfl⟩
theorem ro_st45 {D : List Nat} {w : World} {v : Value} {a : (Int × (List Int))} (h : RO D w v a) : ∃ v1, v = .agg #[.int .i64 a.1, v1] ∧ RO D w v1 a.2 := by
  obtain ⟨F, ⟨cs, rfl, h⟩, hD⟩ := h
  obtain ⟨c1, c2, F1, F2, rfl, rfl, h_0, h_r0⟩ := h
  obtain ⟨rfl, rfl⟩ := h_0
  obtain ⟨p1, cap1, rfl, q1⟩ := h_r0
  refine ⟨_, rfl, ?_⟩
  · exact ⟨_, ⟨[_], rfl, p1, cap1, rfl, q1⟩, fun b hb => hD b (by simp [hb])⟩
theorem own_st45 {D : List Nat} {w0 w : World} {As : List Item} (x0 : Int) (v1 : Value) (x1 : (List Int)) (h : Ctx D w0 w (Item.own v1 x1 :: As)) : Ctx D w0 w (Item.own (.agg #[.int .i64 x0, v1]) ((x0, x1) : (Int × (List Int))) :: As) := by
  obtain ⟨k, Gs, hrest, h4, h5⟩ := h
  obtain ⟨F1, Gs, rfl, ⟨c1, rfl, p1, cap1, rfl, q1⟩, hrest⟩ := hrest
  exact ⟨k, _ :: Gs, ⟨_, Gs, rfl, ⟨[_, _], rfl, ⟨_, _, _, _, rfl, rfl, ⟨rfl, rfl⟩, ⟨_, _, rfl, q1⟩⟩⟩, hrest⟩, by simpa using h4, fun b hb => h5 b (by simpa using hb)⟩
theorem st45_own {D : List Nat} {w0 w : World} {As : List Item} {v : Value} {a : (Int × (List Int))} (h : Ctx D w0 w (Item.own v a :: As)) : ∃ v1, v = .agg #[.int .i64 a.1, v1] ∧ Ctx D w0 w (Item.own v1 a.2 :: As) := by
  obtain ⟨k, _, ⟨F, Gs, rfl, ⟨cs, rfl, h⟩, hrest⟩, h4, h5⟩ := h
  obtain ⟨c1, c2, Gh_0, Hh_0, rfl, rfl, h_0, h_r0⟩ := h
  obtain ⟨rfl, rfl⟩ := h_0
  obtain ⟨p1, cap1, rfl, q1⟩ := h_r0
  exact ⟨_, rfl, k, _, ⟨_, _, rfl, ⟨[_], rfl, p1, cap1, rfl, q1⟩, hrest⟩, by simpa using h4, fun b hb => h5 b (by simpa using hb)⟩
theorem ro_st47 {D : List Nat} {w : World} {v : Value} {a : (Int × (List Int) × Int × Int × Int)} (h : RO D w v a) : ∃ v1, v = .agg #[.int .i64 a.1, v1, .int .i64 a.2.2.1, .int .i64 a.2.2.2.1, .int .i64 a.2.2.2.2] ∧ RO D w v1 a.2.1 := by
  obtain ⟨F, ⟨cs, rfl, h⟩, hD⟩ := h
  obtain ⟨c1, c2, F1, F2, rfl, rfl, h_0, h_r0⟩ := h
  obtain ⟨rfl, rfl⟩ := h_0
  obtain ⟨c1, c2, F1, F2, rfl, rfl, h_1, h_r1⟩ := h_r0
  obtain ⟨p1, cap1, rfl, q1⟩ := h_1
  obtain ⟨c1, c2, F1, F2, rfl, rfl, h_2, h_r2⟩ := h_r1
  obtain ⟨rfl, rfl⟩ := h_2
  obtain ⟨c1, c2, F1, F2, rfl, rfl, h_3, h_r3⟩ := h_r2
  obtain ⟨rfl, rfl⟩ := h_3
  obtain ⟨rfl, rfl⟩ := h_r3
  refine ⟨_, rfl, ?_⟩
  · exact ⟨_, ⟨[_], rfl, p1, cap1, rfl, q1⟩, fun b hb => hD b (by simp [hb])⟩
theorem own_st47 {D : List Nat} {w0 w : World} {As : List Item} (x0 : Int) (v1 : Value) (x1 : (List Int)) (x2 : Int) (x3 : Int) (x4 : Int) (h : Ctx D w0 w (Item.own v1 x1 :: As)) : Ctx D w0 w (Item.own (.agg #[.int .i64 x0, v1, .int .i64 x2, .int .i64 x3, .int .i64 x4]) ((x0, x1, x2, x3, x4) : (Int × (List Int) × Int × Int × Int)) :: As) := by
  obtain ⟨k, Gs, hrest, h4, h5⟩ := h
  obtain ⟨F1, Gs, rfl, ⟨c1, rfl, p1, cap1, rfl, q1⟩, hrest⟩ := hrest
  exact ⟨k, _ :: Gs, ⟨_, Gs, rfl, ⟨[_, _, _, _, _], rfl, ⟨_, _, _, _, rfl, rfl, ⟨rfl, rfl⟩, ⟨_, _, _, _, rfl, rfl, ⟨_, _, rfl, q1⟩, ⟨_, _, _, _, rfl, rfl, ⟨rfl, rfl⟩, ⟨_, _, _, _, rfl, rfl, ⟨rfl, rfl⟩, ⟨rfl, rfl⟩⟩⟩⟩⟩⟩, hrest⟩, by simpa using h4, fun b hb => h5 b (by simpa using hb)⟩
theorem st47_own {D : List Nat} {w0 w : World} {As : List Item} {v : Value} {a : (Int × (List Int) × Int × Int × Int)} (h : Ctx D w0 w (Item.own v a :: As)) : ∃ v1, v = .agg #[.int .i64 a.1, v1, .int .i64 a.2.2.1, .int .i64 a.2.2.2.1, .int .i64 a.2.2.2.2] ∧ Ctx D w0 w (Item.own v1 a.2.1 :: As) := by
  obtain ⟨k, _, ⟨F, Gs, rfl, ⟨cs, rfl, h⟩, hrest⟩, h4, h5⟩ := h
  obtain ⟨c1, c2, Gh_0, Hh_0, rfl, rfl, h_0, h_r0⟩ := h
  obtain ⟨rfl, rfl⟩ := h_0
  obtain ⟨c1, c2, Gh_1, Hh_1, rfl, rfl, h_1, h_r1⟩ := h_r0
  obtain ⟨p1, cap1, rfl, q1⟩ := h_1
  obtain ⟨c1, c2, Gh_2, Hh_2, rfl, rfl, h_2, h_r2⟩ := h_r1
  obtain ⟨rfl, rfl⟩ := h_2
  obtain ⟨c1, c2, Gh_3, Hh_3, rfl, rfl, h_3, h_r3⟩ := h_r2
  obtain ⟨rfl, rfl⟩ := h_3
  obtain ⟨rfl, rfl⟩ := h_r3
  exact ⟨_, rfl, k, _, ⟨_, _, rfl, ⟨[_], rfl, p1, cap1, rfl, q1⟩, hrest⟩, by simpa using h4, fun b hb => h5 b (by simpa using hb)⟩
theorem ro_st91 {D : List Nat} {w : World} {v : Value} {a : (Int × (List Int))} (h : RO D w v a) : ∃ v1, v = .agg #[.int .i64 a.1, v1] ∧ RO D w v1 a.2 := by
  obtain ⟨F, ⟨cs, rfl, h⟩, hD⟩ := h
  obtain ⟨c1, c2, F1, F2, rfl, rfl, h_0, h_r0⟩ := h
  obtain ⟨rfl, rfl⟩ := h_0
  obtain ⟨p1, cap1, rfl, q1⟩ := h_r0
  refine ⟨_, rfl, ?_⟩
  · exact ⟨_, ⟨[_], rfl, p1, cap1, rfl, q1⟩, fun b hb => hD b (by simp [hb])⟩
theorem own_st91 {D : List Nat} {w0 w : World} {As : List Item} (x0 : Int) (v1 : Value) (x1 : (List Int)) (h : Ctx D w0 w (Item.own v1 x1 :: As)) : Ctx D w0 w (Item.own (.agg #[.int .i64 x0, v1]) ((x0, x1) : (Int × (List Int))) :: As) := by
  obtain ⟨k, Gs, hrest, h4, h5⟩ := h
  obtain ⟨F1, Gs, rfl, ⟨c1, rfl, p1, cap1, rfl, q1⟩, hrest⟩ := hrest
  exact ⟨k, _ :: Gs, ⟨_, Gs, rfl, ⟨[_, _], rfl, ⟨_, _, _, _, rfl, rfl, ⟨rfl, rfl⟩, ⟨_, _, rfl, q1⟩⟩⟩, hrest⟩, by simpa using h4, fun b hb => h5 b (by simpa using hb)⟩
theorem st91_own {D : List Nat} {w0 w : World} {As : List Item} {v : Value} {a : (Int × (List Int))} (h : Ctx D w0 w (Item.own v a :: As)) : ∃ v1, v = .agg #[.int .i64 a.1, v1] ∧ Ctx D w0 w (Item.own v1 a.2 :: As) := by
  obtain ⟨k, _, ⟨F, Gs, rfl, ⟨cs, rfl, h⟩, hrest⟩, h4, h5⟩ := h
  obtain ⟨c1, c2, Gh_0, Hh_0, rfl, rfl, h_0, h_r0⟩ := h
  obtain ⟨rfl, rfl⟩ := h_0
  obtain ⟨p1, cap1, rfl, q1⟩ := h_r0
  exact ⟨_, rfl, k, _, ⟨_, _, rfl, ⟨[_], rfl, p1, cap1, rfl, q1⟩, hrest⟩, by simpa using h4, fun b hb => h5 b (by simpa using hb)⟩
theorem zero26 : ∀ w, (zeroValue 26).run Try.prog w = .ok ((.slice none 0 0)) w := zero_run (i := Try.t26) (by kernel_rfl) rfl
theorem zc26 : ∀ i z, Try.prog.info? 26 = some i → i.zero = some z → z.cells.toList = [(.slice none 0 0)] := zc_of (i := Try.t26) (by kernel_rfl) rfl rfl
theorem zr26 : ∀ w, Rep.rep true w [(.slice none 0 0)] (([] : (List Int)) : (List Int)) [] := fun w => (by exact ⟨_, _, rfl, by simp, by simp [maxLen], .inl ⟨rfl, rfl, rfl, rfl⟩⟩)
theorem zero45 : ∀ w, (zeroValue 45).run Try.prog w = .ok (.agg #[(.int .i64 0), (.slice none 0 0)]) w := zero_run (i := Try.t45) (by kernel_rfl) rfl
theorem zc45 : ∀ i z, Try.prog.info? 45 = some i → i.zero = some z → z.cells.toList = [(.int .i64 0), (.slice none 0 0)] := zc_of (i := Try.t45) (by kernel_rfl) rfl rfl
theorem zr45 : ∀ w, Rep.rep true w [(.int .i64 0), (.slice none 0 0)] ((0, []) : (Int × (List Int))) [] := fun w => ⟨_, _, [], [], rfl, rfl, ⟨rfl, rfl⟩, (by exact ⟨_, _, rfl, by simp, by simp [maxLen], .inl ⟨rfl, rfl, rfl, rfl⟩⟩)⟩
theorem zero47 : ∀ w, (zeroValue 47).run Try.prog w = .ok (.agg #[(.int .i64 0), (.slice none 0 0), (.int .i64 0), (.int .i64 0), (.int .i64 0)]) w := zero_run (i := Try.t47) (by kernel_rfl) rfl
theorem zc47 : ∀ i z, Try.prog.info? 47 = some i → i.zero = some z → z.cells.toList = [(.int .i64 0), (.slice none 0 0), (.int .i64 0), (.int .i64 0), (.int .i64 0)] := zc_of (i := Try.t47) (by kernel_rfl) rfl rfl
theorem zr47 : ∀ w, Rep.rep true w [(.int .i64 0), (.slice none 0 0), (.int .i64 0), (.int .i64 0), (.int .i64 0)] ((0, [], 0, 0, 0) : (Int × (List Int) × Int × Int × Int)) [] := fun w => ⟨_, _, [], [], rfl, rfl, ⟨rfl, rfl⟩, ⟨_, _, [], [], rfl, rfl, (by exact ⟨_, _, rfl, by simp, by simp [maxLen], .inl ⟨rfl, rfl, rfl, rfl⟩⟩), ⟨_, _, [], [], rfl, rfl, ⟨rfl, rfl⟩, ⟨_, _, [], [], rfl, rfl, ⟨rfl, rfl⟩, ⟨rfl, rfl⟩⟩⟩⟩⟩
theorem zero49 : ∀ w, (zeroValue 49).run Try.prog w = .ok (.agg #[(.int .i64 0), (.int .i64 0)]) w := zero_run (i := Try.t49) (by kernel_rfl) rfl
theorem zc49 : ∀ i z, Try.prog.info? 49 = some i → i.zero = some z → z.cells.toList = [(.int .i64 0), (.int .i64 0)] := zc_of (i := Try.t49) (by kernel_rfl) rfl rfl
theorem zr49 : ∀ w, Rep.rep true w [(.int .i64 0), (.int .i64 0)] ((0, 0) : (Int × Int)) [] := fun w => ⟨_, _, [], [], rfl, rfl, ⟨rfl, rfl⟩, ⟨rfl, rfl⟩⟩
theorem zero91 : ∀ w, (zeroValue 91).run Try.prog w = .ok (.agg #[(.int .i64 0), (.slice none 0 0)]) w := zero_run (i := Try.t91) (by kernel_rfl) rfl
theorem zc91 : ∀ i z, Try.prog.info? 91 = some i → i.zero = some z → z.cells.toList = [(.int .i64 0), (.slice none 0 0)] := zc_of (i := Try.t91) (by kernel_rfl) rfl rfl
theorem zr91 : ∀ w, Rep.rep true w [(.int .i64 0), (.slice none 0 0)] ((0, []) : (Int × (List Int))) [] := fun w => ⟨_, _, [], [], rfl, rfl, ⟨rfl, rfl⟩, (by exact ⟨_, _, rfl, by simp, by simp [maxLen], .inl ⟨rfl, rfl, rfl, rfl⟩⟩)⟩
theorem built45  : Try.prog.built 45 [] = some #[(.int .i64 0), (.slice none 0 0)] :=
  built_of (i := Try.t45) (z := [(.int .i64 0), (.slice none 0 0)]) (places := [(0, 1), (1, 1)]) (by kernel_rfl) Try.underlying45 rfl rfl (by kernel_rfl) fill_end
theorem built45_0 {u0 : Value} {y0_0 : Value} (h0 : u0.cells.toList = [y0_0]) : Try.prog.built 45 [(0, u0)] = some #[y0_0, (.slice none 0 0)] :=
  built_of (i := Try.t45) (z := [(.int .i64 0), (.slice none 0 0)]) (places := [(0, 1), (1, 1)]) (by kernel_rfl) Try.underlying45 rfl rfl (by kernel_rfl) (fill_step (cells' := [y0_0, (.slice none 0 0)]) (off := 0) rfl h0 rfl rfl fill_end)
theorem built47_0_2_3_4 {u0 u2 u3 u4 : Value} {y0_0 y2_0 y3_0 y4_0 : Value} (h0 : u0.cells.toList = [y0_0]) (h2 : u2.cells.toList = [y2_0]) (h3 : u3.cells.toList = [y3_0]) (h4 : u4.cells.toList = [y4_0]) : Try.prog.built 47 [(0, u0), (2, u2), (3, u3), (4, u4)] = some #[y0_0, (.slice none 0 0), y2_0, y3_0, y4_0] :=
  built_of (i := Try.t47) (z := [(.int .i64 0), (.slice none 0 0), (.int .i64 0), (.int .i64 0), (.int .i64 0)]) (places := [(0, 1), (1, 1), (2, 1), (3, 1), (4, 1)]) (by kernel_rfl) Try.underlying47 rfl rfl (by kernel_rfl) (fill_step (cells' := [y0_0, (.slice none 0 0), (.int .i64 0), (.int .i64 0), (.int .i64 0)]) (off := 0) rfl h0 rfl rfl (fill_step (cells' := [y0_0, (.slice none 0 0), y2_0, (.int .i64 0), (.int .i64 0)]) (off := 2) rfl h2 rfl rfl (fill_step (cells' := [y0_0, (.slice none 0 0), y2_0, y3_0, (.int .i64 0)]) (off := 3) rfl h3 rfl rfl (fill_step (cells' := [y0_0, (.slice none 0 0), y2_0, y3_0, y4_0]) (off := 4) rfl h4 rfl rfl fill_end))))
theorem built47_4 {u4 : Value} {y4_0 : Value} (h4 : u4.cells.toList = [y4_0]) : Try.prog.built 47 [(4, u4)] = some #[(.int .i64 0), (.slice none 0 0), (.int .i64 0), (.int .i64 0), y4_0] :=
  built_of (i := Try.t47) (z := [(.int .i64 0), (.slice none 0 0), (.int .i64 0), (.int .i64 0), (.int .i64 0)]) (places := [(0, 1), (1, 1), (2, 1), (3, 1), (4, 1)]) (by kernel_rfl) Try.underlying47 rfl rfl (by kernel_rfl) (fill_step (cells' := [(.int .i64 0), (.slice none 0 0), (.int .i64 0), (.int .i64 0), y4_0]) (off := 4) rfl h4 rfl rfl fill_end)
theorem built49_0_1 {u0 u1 : Value} {y0_0 y1_0 : Value} (h0 : u0.cells.toList = [y0_0]) (h1 : u1.cells.toList = [y1_0]) : Try.prog.built 49 [(0, u0), (1, u1)] = some #[y0_0, y1_0] :=
  built_of (i := Try.t49) (z := [(.int .i64 0), (.int .i64 0)]) (places := [(0, 1), (1, 1)]) (by kernel_rfl) Try.underlying49 rfl rfl (by kernel_rfl) (fill_step (cells' := [y0_0, (.int .i64 0)]) (off := 0) rfl h0 rfl rfl (fill_step (cells' := [y0_0, y1_0]) (off := 1) rfl h1 rfl rfl fill_end))
theorem built80_0_2 {u0 u2 : Value} {y0_0 y2_0 : Value} (h0 : u0.cells.toList = [y0_0]) (h2 : u2.cells.toList = [y2_0]) : Try.prog.built 80 [(0, u0), (2, u2)] = some #[y0_0, (.int .i64 0), y2_0] :=
  built_of (i := Try.t80) (z := [(.slice none 0 0), (.int .i64 0), (.int .i64 0)]) (places := [(0, 1), (1, 1), (2, 1)]) (by kernel_rfl) Try.underlying80 rfl rfl (by kernel_rfl) (fill_step (cells' := [y0_0, (.int .i64 0), (.int .i64 0)]) (off := 0) rfl h0 rfl rfl (fill_step (cells' := [y0_0, (.int .i64 0), y2_0]) (off := 2) rfl h2 rfl rfl fill_end))
theorem built91_0 {u0 : Value} {y0_0 : Value} (h0 : u0.cells.toList = [y0_0]) : Try.prog.built 91 [(0, u0)] = some #[y0_0, (.slice none 0 0)] :=
  built_of (i := Try.t91) (z := [(.int .i64 0), (.slice none 0 0)]) (places := [(0, 1), (1, 1)]) (by kernel_rfl) Try.underlying91 rfl rfl (by kernel_rfl) (fill_step (cells' := [y0_0, (.slice none 0 0)]) (off := 0) rfl h0 rfl rfl fill_end)
theorem built91_0_1 {u0 u1 : Value} {y0_0 y1_0 : Value} (h0 : u0.cells.toList = [y0_0]) (h1 : u1.cells.toList = [y1_0]) : Try.prog.built 91 [(0, u0), (1, u1)] = some #[y0_0, y1_0] :=
  built_of (i := Try.t91) (z := [(.int .i64 0), (.slice none 0 0)]) (places := [(0, 1), (1, 1)]) (by kernel_rfl) Try.underlying91 rfl rfl (by kernel_rfl) (fill_step (cells' := [y0_0, (.slice none 0 0)]) (off := 0) rfl h0 rfl rfl (fill_step (cells' := [y0_0, y1_0]) (off := 1) rfl h1 rfl rfl fill_end))
theorem built91_1 {u1 : Value} {y1_0 : Value} (h1 : u1.cells.toList = [y1_0]) : Try.prog.built 91 [(1, u1)] = some #[(.int .i64 0), y1_0] :=
  built_of (i := Try.t91) (z := [(.int .i64 0), (.slice none 0 0)]) (places := [(0, 1), (1, 1)]) (by kernel_rfl) Try.underlying91 rfl rfl (by kernel_rfl) (fill_step (cells' := [(.int .i64 0), y1_0]) (off := 1) rfl h1 rfl rfl fill_end)
end Go.Gx.Px
