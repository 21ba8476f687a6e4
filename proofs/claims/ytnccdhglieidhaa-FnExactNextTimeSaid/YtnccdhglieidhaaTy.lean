/- The types of the seat, as the library wants them. Conditions: none. -/
import Derived.Test.YtnccdhglieidhaaGxK
import Derived.Test.YtnccdhglieidhaaProg
set_option linter.unusedVariables false
set_option linter.unusedSimpArgs false
namespace Go.Gx.Px
open Go.Proofs
theorem hmix : Try.prog.follows .mixedOrders = true := by kernel_rfl
theorem ty3 : Ty Try.prog 3 Int := ⟨Try.isAgg3, Try.sizeOf3, Try.t3, _, by kernel_rfl, rfl, by decide, rfl, rfl⟩
theorem ro_st37 {D : List Nat} {w : World} {v : Value} {a : (Int × Int)} (h : RO D w v a) :  v = .agg #[.int .i64 a.1, .int .i64 a.2] := by
  obtain ⟨F, ⟨cs, rfl, h⟩, hD⟩ := h
  obtain ⟨c1, c2, F1, F2, rfl, rfl, h_0, h_r0⟩ := h
  obtain ⟨rfl, rfl⟩ := h_0
  obtain ⟨rfl, rfl⟩ := h_r0
  rfl
theorem own_st37 {D : List Nat} {w0 w : World} {As : List Item} (x0 : Int) (x1 : Int) (h : Ctx D w0 w (As)) : Ctx D w0 w (Item.own (.agg #[.int .i64 x0, .int .i64 x1]) ((x0, x1) : (Int × Int)) :: As) := by
  obtain ⟨k, Gs, hrest, h4, h5⟩ := h
  exact ⟨k, _ :: Gs, ⟨_, Gs, rfl, ⟨[_, _], rfl, ⟨_, _, _, _, rfl, rfl, ⟨rfl, rfl⟩, ⟨rfl, rfl⟩⟩⟩, hrest⟩, by simpa using h4, fun b hb => h5 b (by simpa using hb)⟩
theorem st37_own {D : List Nat} {w0 w : World} {As : List Item} {v : Value} {a : (Int × Int)} (h : Ctx D w0 w (Item.own v a :: As)) : v = .agg #[.int .i64 a.1, .int .i64 a.2] ∧ Ctx D w0 w (As) := by
  obtain ⟨k, _, ⟨F, Gs, rfl, ⟨cs, rfl, h⟩, hrest⟩, h4, h5⟩ := h
  obtain ⟨c1, c2, Gh_0, Hh_0, rfl, rfl, h_0, h_r0⟩ := h
  obtain ⟨rfl, rfl⟩ := h_0
  obtain ⟨rfl, rfl⟩ := h_r0
  exact ⟨rfl, k, _, hrest, by simpa using h4, fun b hb => h5 b (by simpa using hb)⟩
theorem ro_st41 {D : List Nat} {w : World} {v : Value} {a : (Int × Int)} (h : RO D w v a) :  v = .agg #[.int .i64 a.1, .int .i64 a.2] := by
  obtain ⟨F, ⟨cs, rfl, h⟩, hD⟩ := h
  obtain ⟨c1, c2, F1, F2, rfl, rfl, h_0, h_r0⟩ := h
  obtain ⟨rfl, rfl⟩ := h_0
  obtain ⟨rfl, rfl⟩ := h_r0
  rfl
theorem own_st41 {D : List Nat} {w0 w : World} {As : List Item} (x0 : Int) (x1 : Int) (h : Ctx D w0 w (As)) : Ctx D w0 w (Item.own (.agg #[.int .i64 x0, .int .i64 x1]) ((x0, x1) : (Int × Int)) :: As) := by
  obtain ⟨k, Gs, hrest, h4, h5⟩ := h
  exact ⟨k, _ :: Gs, ⟨_, Gs, rfl, ⟨[_, _], rfl, ⟨_, _, _, _, rfl, rfl, ⟨rfl, rfl⟩, ⟨rfl, rfl⟩⟩⟩, hrest⟩, by simpa using h4, fun b hb => h5 b (by simpa using hb)⟩
theorem st41_own {D : List Nat} {w0 w : World} {As : List Item} {v : Value} {a : (Int × Int)} (h : Ctx D w0 w (Item.own v a :: As)) : v = .agg #[.int .i64 a.1, .int .i64 a.2] ∧ Ctx D w0 w (As) := by
  obtain ⟨k, _, ⟨F, Gs, rfl, ⟨cs, rfl, h⟩, hrest⟩, h4, h5⟩ := h
  obtain ⟨c1, c2, Gh_0, Hh_0, rfl, rfl, h_0, h_r0⟩ := h
  obtain ⟨rfl, rfl⟩ := h_0
  obtain ⟨rfl, rfl⟩ := h_r0
  exact ⟨rfl, k, _, hrest, by simpa using h4, fun b hb => h5 b (by simpa using hb)⟩
theorem zero3 : ∀ w, (zeroValue 3).run Try.prog w = .ok ((.int .i64 0)) w := zero_run (i := Try.t3) (by kernel_rfl) rfl
theorem zc3 : ∀ i z, Try.prog.info? 3 = some i → i.zero = some z → z.cells.toList = [(.int .i64 0)] := zc_of (i := Try.t3) (by kernel_rfl) rfl rfl
theorem zr3 : ∀ w, Rep.rep true w [(.int .i64 0)] ((0 : Int) : Int) [] := fun w => ⟨rfl, rfl⟩
theorem zero41 : ∀ w, (zeroValue 41).run Try.prog w = .ok (.agg #[(.int .i64 0), (.int .i64 0)]) w := zero_run (i := Try.t41) (by kernel_rfl) rfl
theorem zc41 : ∀ i z, Try.prog.info? 41 = some i → i.zero = some z → z.cells.toList = [(.int .i64 0), (.int .i64 0)] := zc_of (i := Try.t41) (by kernel_rfl) rfl rfl
theorem zr41 : ∀ w, Rep.rep true w [(.int .i64 0), (.int .i64 0)] ((0, 0) : (Int × Int)) [] := fun w => ⟨_, _, [], [], rfl, rfl, ⟨rfl, rfl⟩, ⟨rfl, rfl⟩⟩
end Go.Gx.Px
