/- The types of the seat, as the library wants them. Conditions: none. -/
import Derived.Test.YtbgcgjhbnclpdaaDoorGxHo
import Derived.Test.YtbgcgjhbnclpdaaDoorGxSh
import Derived.Test.YtbgcgjhbnclpdaaDoorSh
import Derived.Test.YtbgcgjhbnclpdaaDoorProg
set_option linter.unusedVariables false
set_option linter.unusedSimpArgs false
namespace Go.Gx.Px
open Go.Proofs
theorem hmix : Tryd.prog.follows .mixedOrders = true := by kernel_rfl
theorem ty3 : Ty Tryd.prog 3 Int := ⟨Tryd.isAgg3, Tryd.sizeOf3, Tryd.t3, _, by kernel_rfl, rfl, by decide, rfl, rfl⟩
theorem ty5 : Ty Tryd.prog 5 UInt8 := ⟨Tryd.isAgg5, Tryd.sizeOf5, Tryd.t5, _, by kernel_rfl, rfl, by decide, rfl, rfl⟩
theorem ty9 : Ty Tryd.prog 9 Str := ⟨Tryd.isAgg9, Tryd.sizeOf9, Tryd.t9, _, by kernel_rfl, rfl, by decide, rfl, rfl⟩
theorem ty22 : Ty Tryd.prog 22 (List Int) := ⟨Tryd.isAgg22, Tryd.sizeOf22, Tryd.t22, _, by kernel_rfl, rfl, by decide, rfl, rfl⟩
theorem ty72 : Ty Tryd.prog 72 (Int × (List Int)) := ⟨Tryd.isAgg72, Tryd.sizeOf72, Tryd.t72, _, by kernel_rfl, rfl, by decide, rfl, rfl⟩
theorem ro_st72 {D : List Nat} {w : World} {v : Value} {a : (Int × (List Int))} (h : RO D w v a) : ∃ v1, v = .agg #[.int .i64 a.1, v1] ∧ RO D w v1 a.2 := by
  obtain ⟨F, ⟨cs, rfl, h⟩, hD⟩ := h
  obtain ⟨c1, c2, F1, F2, rfl, rfl, h_0, h_r0⟩ := h
  obtain ⟨rfl, rfl⟩ := h_0
  obtain ⟨p1, cap1, rfl, q1⟩ := h_r0
  refine ⟨_, rfl, ?_⟩
  · exact ⟨_, ⟨[_], rfl, p1, cap1, rfl, q1⟩, fun b hb => hD b (by simp [hb])⟩
theorem own_st72 {D : List Nat} {w0 w : World} {As : List Item} (x0 : Int) (v1 : Value) (x1 : (List Int)) (h : Ctx D w0 w (Item.own v1 x1 :: As)) : Ctx D w0 w (Item.own (.agg #[.int .i64 x0, v1]) ((x0, x1) : (Int × (List Int))) :: As) := by
  obtain ⟨k, Gs, hrest, h4, h5⟩ := h
  obtain ⟨F1, Gs, rfl, ⟨c1, rfl, p1, cap1, rfl, q1⟩, hrest⟩ := hrest
  exact ⟨k, _ :: Gs, ⟨_, Gs, rfl, ⟨[_, _], rfl, ⟨_, _, _, _, rfl, rfl, ⟨rfl, rfl⟩, ⟨_, _, rfl, q1⟩⟩⟩, hrest⟩, by simpa using h4, fun b hb => h5 b (by simpa using hb)⟩
theorem st72_own {D : List Nat} {w0 w : World} {As : List Item} {v : Value} {a : (Int × (List Int))} (h : Ctx D w0 w (Item.own v a :: As)) : ∃ v1, v = .agg #[.int .i64 a.1, v1] ∧ Ctx D w0 w (Item.own v1 a.2 :: As) := by
  obtain ⟨k, _, ⟨F, Gs, rfl, ⟨cs, rfl, h⟩, hrest⟩, h4, h5⟩ := h
  obtain ⟨c1, c2, Gh_0, Hh_0, rfl, rfl, h_0, h_r0⟩ := h
  obtain ⟨rfl, rfl⟩ := h_0
  obtain ⟨p1, cap1, rfl, q1⟩ := h_r0
  exact ⟨_, rfl, k, _, ⟨_, _, rfl, ⟨[_], rfl, p1, cap1, rfl, q1⟩, hrest⟩, by simpa using h4, fun b hb => h5 b (by simpa using hb)⟩
theorem zero72 : ∀ w, (zeroValue 72).run Tryd.prog w = .ok (.agg #[(.int .i64 0), (.slice none 0 0)]) w := zero_run (i := Tryd.t72) (by kernel_rfl) rfl
theorem zc72 : ∀ i z, Tryd.prog.info? 72 = some i → i.zero = some z → z.cells.toList = [(.int .i64 0), (.slice none 0 0)] := zc_of (i := Tryd.t72) (by kernel_rfl) rfl rfl
theorem zr72 : ∀ w, Rep.rep true w [(.int .i64 0), (.slice none 0 0)] ((0, []) : (Int × (List Int))) [] := fun w => ⟨_, _, [], [], rfl, rfl, ⟨rfl, rfl⟩, (by exact ⟨_, _, rfl, by simp, by simp [maxLen], .inl ⟨rfl, rfl, rfl, rfl⟩⟩)⟩
theorem built72_0_1 {u0 u1 : Value} {y0_0 y1_0 : Value} (h0 : u0.cells.toList = [y0_0]) (h1 : u1.cells.toList = [y1_0]) : Tryd.prog.built 72 [(0, u0), (1, u1)] = some #[y0_0, y1_0] :=
  built_of (i := Tryd.t72) (z := [(.int .i64 0), (.slice none 0 0)]) (places := [(0, 1), (1, 1)]) (by kernel_rfl) Tryd.underlying72 rfl rfl (by kernel_rfl) (fill_step (cells' := [y0_0, (.slice none 0 0)]) (off := 0) rfl h0 rfl rfl (fill_step (cells' := [y0_0, y1_0]) (off := 1) rfl h1 rfl rfl fill_end))
theorem built79_0 {u0 : Value} {y0_0 : Value} (h0 : u0.cells.toList = [y0_0]) : Tryd.prog.built 79 [(0, u0)] = some #[y0_0, (.bool false)] :=
  built_of (i := Tryd.t79) (z := [(sv (str [])), (.bool false)]) (places := [(0, 1), (1, 1)]) (by kernel_rfl) Tryd.underlying79 rfl rfl (by kernel_rfl) (fill_step (cells' := [y0_0, (.bool false)]) (off := 0) rfl h0 rfl rfl fill_end)
end Go.Gx.Px
