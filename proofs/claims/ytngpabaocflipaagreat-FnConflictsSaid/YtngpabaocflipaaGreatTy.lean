/- The types of the seat, as the library wants them. Conditions: none. -/
import Derived.Test.YtngpabaocflipaaGreatGxPr
import Derived.Test.YtngpabaocflipaaGreatProg
set_option linter.unusedVariables false
set_option linter.unusedSimpArgs false
namespace Go.Gx.Px
open Go.Proofs
theorem hmix : Tryz.prog.follows .mixedOrders = true := by kernel_rfl
theorem ty3 : Ty Tryz.prog 3 Int := ⟨Tryz.isAgg3, Tryz.sizeOf3, Tryz.t3, _, by kernel_rfl, rfl, by decide, rfl, rfl⟩
theorem ty5 : Ty Tryz.prog 5 UInt8 := ⟨Tryz.isAgg5, Tryz.sizeOf5, Tryz.t5, _, by kernel_rfl, rfl, by decide, rfl, rfl⟩
theorem ty24 : Ty Tryz.prog 24 (List Int) := ⟨Tryz.isAgg24, Tryz.sizeOf24, Tryz.t24, _, by kernel_rfl, rfl, by decide, rfl, rfl⟩
theorem ty25 : Ty Tryz.prog 25 (List (Int × (List Int) × Int × Int × Int)) := ⟨Tryz.isAgg25, Tryz.sizeOf25, Tryz.t25, _, by kernel_rfl, rfl, by decide, rfl, rfl⟩
theorem ty26 : Ty Tryz.prog 26 (List ((Int × (List Int)) × (List (Int × (List Int))))) := ⟨Tryz.isAgg26, Tryz.sizeOf26, Tryz.t26, _, by kernel_rfl, rfl, by decide, rfl, rfl⟩
theorem ty31 : Ty Tryz.prog 31 (List (Int × (List Int))) := ⟨Tryz.isAgg31, Tryz.sizeOf31, Tryz.t31, _, by kernel_rfl, rfl, by decide, rfl, rfl⟩
theorem ty46 : Ty Tryz.prog 46 ((Int × (List Int)) × (List (Int × (List Int)))) := ⟨Tryz.isAgg46, Tryz.sizeOf46, Tryz.t46, _, by kernel_rfl, rfl, by decide, rfl, rfl⟩
theorem ty88 : Ty Tryz.prog 88 (Int × (List Int)) := ⟨Tryz.isAgg88, Tryz.sizeOf88, Tryz.t88, _, by kernel_rfl, rfl, by decide, rfl, rfl⟩
theorem ty93 : Ty Tryz.prog 93 (Int × (List Int) × Int × Int × Int) := ⟨Tryz.isAgg93, Tryz.sizeOf93, Tryz.t93, _, by kernel_rfl, rfl, by decide, rfl, rfl⟩
theorem ty131 : Ty Tryz.prog 131 (Int × Int × (List Int)) := ⟨Tryz.isAgg131, Tryz.sizeOf131, Tryz.t131, _, by kernel_rfl, rfl, by decide, rfl, rfl⟩
theorem ro_st44 {D : List Nat} {w : World} {v : Value} {a : (Int × (List Int))} (h : RO D w v a) : ∃ v1, v = .agg #[.int .i64 a.1, v1] ∧ RO D w v1 a.2 := by
  obtain ⟨F, ⟨cs, rfl, h⟩, hD⟩ := h
  obtain ⟨c1, c2, F1, F2, rfl, rfl, h_0, h_r0⟩ := h
  obtain ⟨rfl, rfl⟩ := h_0
  obtain ⟨p1, cap1, rfl, q1⟩ := h_r0
  refine ⟨_, rfl, ?_⟩
  · exact ⟨_, ⟨[_], rfl, p1, cap1, rfl, q1⟩, fun b hb => hD b (by simp [hb])⟩
theorem own_st44 {D : List Nat} {w0 w : World} {As : List Item} (x0 : Int) (v1 : Value) (x1 : (List Int)) (h : Ctx D w0 w (Item.own v1 x1 :: As)) : Ctx D w0 w (Item.own (.agg #[.int .i64 x0, v1]) ((x0, x1) : (Int × (List Int))) :: As) := by
  obtain ⟨k, Gs, hrest, h4, h5⟩ := h
  obtain ⟨F1, Gs, rfl, ⟨c1, rfl, p1, cap1, rfl, q1⟩, hrest⟩ := hrest
  exact ⟨k, _ :: Gs, ⟨_, Gs, rfl, ⟨[_, _], rfl, ⟨_, _, _, _, rfl, rfl, ⟨rfl, rfl⟩, ⟨_, _, rfl, q1⟩⟩⟩, hrest⟩, by simpa using h4, fun b hb => h5 b (by simpa using hb)⟩
theorem st44_own {D : List Nat} {w0 w : World} {As : List Item} {v : Value} {a : (Int × (List Int))} (h : Ctx D w0 w (Item.own v a :: As)) : ∃ v1, v = .agg #[.int .i64 a.1, v1] ∧ Ctx D w0 w (Item.own v1 a.2 :: As) := by
  obtain ⟨k, _, ⟨F, Gs, rfl, ⟨cs, rfl, h⟩, hrest⟩, h4, h5⟩ := h
  obtain ⟨c1, c2, Gh_0, Hh_0, rfl, rfl, h_0, h_r0⟩ := h
  obtain ⟨rfl, rfl⟩ := h_0
  obtain ⟨p1, cap1, rfl, q1⟩ := h_r0
  exact ⟨_, rfl, k, _, ⟨_, _, rfl, ⟨[_], rfl, p1, cap1, rfl, q1⟩, hrest⟩, by simpa using h4, fun b hb => h5 b (by simpa using hb)⟩
theorem ro_st46 {D : List Nat} {w : World} {v : Value} {a : ((Int × (List Int)) × (List (Int × (List Int))))} (h : RO D w v a) : ∃ v1, ∃ v2, v = .agg #[.int .i64 a.1.1, v1, v2] ∧ RO D w v1 a.1.2 ∧ RO D w v2 a.2 := by
  obtain ⟨F, ⟨cs, rfl, h⟩, hD⟩ := h
  obtain ⟨c1, c2, F1, F2, rfl, rfl, h_0, h_r0⟩ := h
  obtain ⟨c1, c2, F1, F2, rfl, rfl, h_0_0, h_0_r0⟩ := h_0
  obtain ⟨rfl, rfl⟩ := h_0_0
  obtain ⟨p1, cap1, rfl, q1⟩ := h_0_r0
  obtain ⟨p2, cap2, rfl, q2⟩ := h_r0
  refine ⟨_, _, rfl, ?_, ?_⟩
  · exact ⟨_, ⟨[_], rfl, p1, cap1, rfl, q1⟩, fun b hb => hD b (by simp [hb])⟩
  · exact ⟨_, ⟨[_], rfl, p2, cap2, rfl, q2⟩, fun b hb => hD b (by simp [hb])⟩
theorem own_st46 {D : List Nat} {w0 w : World} {As : List Item} (x0 : Int) (v1 : Value) (x1 : (List Int)) (v2 : Value) (x2 : (List (Int × (List Int)))) (h : Ctx D w0 w (Item.own v1 x1 :: Item.own v2 x2 :: As)) : Ctx D w0 w (Item.own (.agg #[.int .i64 x0, v1, v2]) (((x0, x1), x2) : ((Int × (List Int)) × (List (Int × (List Int))))) :: As) := by
  obtain ⟨k, Gs, hrest, h4, h5⟩ := h
  obtain ⟨F1, Gs, rfl, ⟨c1, rfl, p1, cap1, rfl, q1⟩, hrest⟩ := hrest
  obtain ⟨F2, Gs, rfl, ⟨c2, rfl, p2, cap2, rfl, q2⟩, hrest⟩ := hrest
  exact ⟨k, _ :: Gs, ⟨_, Gs, rfl, ⟨[_, _, _], rfl, ⟨_, _, _, _, rfl, rfl, ⟨_, _, _, _, rfl, rfl, ⟨rfl, rfl⟩, ⟨_, _, rfl, q1⟩⟩, ⟨_, _, rfl, q2⟩⟩⟩, hrest⟩, by simpa using h4, fun b hb => h5 b (by simpa using hb)⟩
theorem st46_own {D : List Nat} {w0 w : World} {As : List Item} {v : Value} {a : ((Int × (List Int)) × (List (Int × (List Int))))} (h : Ctx D w0 w (Item.own v a :: As)) : ∃ v1, ∃ v2, v = .agg #[.int .i64 a.1.1, v1, v2] ∧ Ctx D w0 w (Item.own v1 a.1.2 :: Item.own v2 a.2 :: As) := by
  obtain ⟨k, _, ⟨F, Gs, rfl, ⟨cs, rfl, h⟩, hrest⟩, h4, h5⟩ := h
  obtain ⟨c1, c2, Gh_0, Hh_0, rfl, rfl, h_0, h_r0⟩ := h
  obtain ⟨c1, c2, Gh_0_0, Hh_0_0, rfl, rfl, h_0_0, h_0_r0⟩ := h_0
  obtain ⟨rfl, rfl⟩ := h_0_0
  obtain ⟨p1, cap1, rfl, q1⟩ := h_0_r0
  obtain ⟨p2, cap2, rfl, q2⟩ := h_r0
  exact ⟨_, _, rfl, k, _, ⟨_, _, rfl, ⟨[_], rfl, p1, cap1, rfl, q1⟩, ⟨_, _, rfl, ⟨[_], rfl, p2, cap2, rfl, q2⟩, hrest⟩⟩, by simpa using h4, fun b hb => h5 b (by simpa using hb)⟩
theorem ro_st88 {D : List Nat} {w : World} {v : Value} {a : (Int × (List Int))} (h : RO D w v a) : ∃ v1, v = .agg #[.int .i64 a.1, v1] ∧ RO D w v1 a.2 := by
  obtain ⟨F, ⟨cs, rfl, h⟩, hD⟩ := h
  obtain ⟨c1, c2, F1, F2, rfl, rfl, h_0, h_r0⟩ := h
  obtain ⟨rfl, rfl⟩ := h_0
  obtain ⟨p1, cap1, rfl, q1⟩ := h_r0
  refine ⟨_, rfl, ?_⟩
  · exact ⟨_, ⟨[_], rfl, p1, cap1, rfl, q1⟩, fun b hb => hD b (by simp [hb])⟩
theorem own_st88 {D : List Nat} {w0 w : World} {As : List Item} (x0 : Int) (v1 : Value) (x1 : (List Int)) (h : Ctx D w0 w (Item.own v1 x1 :: As)) : Ctx D w0 w (Item.own (.agg #[.int .i64 x0, v1]) ((x0, x1) : (Int × (List Int))) :: As) := by
  obtain ⟨k, Gs, hrest, h4, h5⟩ := h
  obtain ⟨F1, Gs, rfl, ⟨c1, rfl, p1, cap1, rfl, q1⟩, hrest⟩ := hrest
  exact ⟨k, _ :: Gs, ⟨_, Gs, rfl, ⟨[_, _], rfl, ⟨_, _, _, _, rfl, rfl, ⟨rfl, rfl⟩, ⟨_, _, rfl, q1⟩⟩⟩, hrest⟩, by simpa using h4, fun b hb => h5 b (by simpa using hb)⟩
theorem st88_own {D : List Nat} {w0 w : World} {As : List Item} {v : Value} {a : (Int × (List Int))} (h : Ctx D w0 w (Item.own v a :: As)) : ∃ v1, v = .agg #[.int .i64 a.1, v1] ∧ Ctx D w0 w (Item.own v1 a.2 :: As) := by
  obtain ⟨k, _, ⟨F, Gs, rfl, ⟨cs, rfl, h⟩, hrest⟩, h4, h5⟩ := h
  obtain ⟨c1, c2, Gh_0, Hh_0, rfl, rfl, h_0, h_r0⟩ := h
  obtain ⟨rfl, rfl⟩ := h_0
  obtain ⟨p1, cap1, rfl, q1⟩ := h_r0
  exact ⟨_, rfl, k, _, ⟨_, _, rfl, ⟨[_], rfl, p1, cap1, rfl, q1⟩, hrest⟩, by simpa using h4, fun b hb => h5 b (by simpa using hb)⟩
theorem ro_st93 {D : List Nat} {w : World} {v : Value} {a : (Int × (List Int) × Int × Int × Int)} (h : RO D w v a) : ∃ v1, v = .agg #[.int .i64 a.1, v1, .int .i64 a.2.2.1, .int .i64 a.2.2.2.1, .int .i64 a.2.2.2.2] ∧ RO D w v1 a.2.1 := by
  obtain ⟨F, ⟨cs, rfl, h⟩, hD⟩ := h
  obtain ⟨c1, c2, F1, F2, rfl, rfl, h_0, h_r0⟩ := h
  obtain ⟨rfl, rfl⟩ := h_0
  obtain ⟨c1, c2, F1, F2, rfl, rfl, h_1, h_r1⟩ := h_r0
  obtain ⟨p1, cap1, rfl, q1⟩ := h_1
  obtain ⟨c1, c2, F1, F2, rfl, rfl, h_2, h_r2⟩ := h_r1
  obtain ⟨rfl, rfl⟩ := h_2
  obtain ⟨c1, c2, F1, F2, rfl, rfl, h_3, h_r3⟩ := h_r2
  obtain ⟨rfl, rfl⟩ := h_3
  obtain ⟨rfl, rfl⟩ := h_r3
  refine ⟨_, rfl, ?_⟩
  · exact ⟨_, ⟨[_], rfl, p1, cap1, rfl, q1⟩, fun b hb => hD b (by simp [hb])⟩
theorem own_st93 {D : List Nat} {w0 w : World} {As : List Item} (x0 : Int) (v1 : Value) (x1 : (List Int)) (x2 : Int) (x3 : Int) (x4 : Int) (h : Ctx D w0 w (Item.own v1 x1 :: As)) : Ctx D w0 w (Item.own (.agg #[.int .i64 x0, v1, .int .i64 x2, .int .i64 x3, .int .i64 x4]) ((x0, x1, x2, x3, x4) : (Int × (List Int) × Int × Int × Int)) :: As) := by
  obtain ⟨k, Gs, hrest, h4, h5⟩ := h
  obtain ⟨F1, Gs, rfl, ⟨c1, rfl, p1, cap1, rfl, q1⟩, hrest⟩ := hrest
  exact ⟨k, _ :: Gs, ⟨_, Gs, rfl, ⟨[_, _, _, _, _], rfl, ⟨_, _, _, _, rfl, rfl, ⟨rfl, rfl⟩, ⟨_, _, _, _, rfl, rfl, ⟨_, _, rfl, q1⟩, ⟨_, _, _, _, rfl, rfl, ⟨rfl, rfl⟩, ⟨_, _, _, _, rfl, rfl, ⟨rfl, rfl⟩, ⟨rfl, rfl⟩⟩⟩⟩⟩⟩, hrest⟩, by simpa using h4, fun b hb => h5 b (by simpa using hb)⟩
theorem st93_own {D : List Nat} {w0 w : World} {As : List Item} {v : Value} {a : (Int × (List Int) × Int × Int × Int)} (h : Ctx D w0 w (Item.own v a :: As)) : ∃ v1, v = .agg #[.int .i64 a.1, v1, .int .i64 a.2.2.1, .int .i64 a.2.2.2.1, .int .i64 a.2.2.2.2] ∧ Ctx D w0 w (Item.own v1 a.2.1 :: As) := by
  obtain ⟨k, _, ⟨F, Gs, rfl, ⟨cs, rfl, h⟩, hrest⟩, h4, h5⟩ := h
  obtain ⟨c1, c2, Gh_0, Hh_0, rfl, rfl, h_0, h_r0⟩ := h
  obtain ⟨rfl, rfl⟩ := h_0
  obtain ⟨c1, c2, Gh_1, Hh_1, rfl, rfl, h_1, h_r1⟩ := h_r0
  obtain ⟨p1, cap1, rfl, q1⟩ := h_1
  obtain ⟨c1, c2, Gh_2, Hh_2, rfl, rfl, h_2, h_r2⟩ := h_r1
  obtain ⟨rfl, rfl⟩ := h_2
  obtain ⟨c1, c2, Gh_3, Hh_3, rfl, rfl, h_3, h_r3⟩ := h_r2
  obtain ⟨rfl, rfl⟩ := h_3
  obtain ⟨rfl, rfl⟩ := h_r3
  exact ⟨_, rfl, k, _, ⟨_, _, rfl, ⟨[_], rfl, p1, cap1, rfl, q1⟩, hrest⟩, by simpa using h4, fun b hb => h5 b (by simpa using hb)⟩
theorem ro_st131 {D : List Nat} {w : World} {v : Value} {a : (Int × Int × (List Int))} (h : RO D w v a) : ∃ v1, v = .agg #[.int .i64 a.1, .int .i64 a.2.1, v1] ∧ RO D w v1 a.2.2 := by
  obtain ⟨F, ⟨cs, rfl, h⟩, hD⟩ := h
  obtain ⟨c1, c2, F1, F2, rfl, rfl, h_0, h_r0⟩ := h
  obtain ⟨rfl, rfl⟩ := h_0
  obtain ⟨c1, c2, F1, F2, rfl, rfl, h_1, h_r1⟩ := h_r0
  obtain ⟨rfl, rfl⟩ := h_1
  obtain ⟨p1, cap1, rfl, q1⟩ := h_r1
  refine ⟨_, rfl, ?_⟩
  · exact ⟨_, ⟨[_], rfl, p1, cap1, rfl, q1⟩, fun b hb => hD b (by simp [hb])⟩
theorem own_st131 {D : List Nat} {w0 w : World} {As : List Item} (x0 : Int) (x1 : Int) (v2 : Value) (x2 : (List Int)) (h : Ctx D w0 w (Item.own v2 x2 :: As)) : Ctx D w0 w (Item.own (.agg #[.int .i64 x0, .int .i64 x1, v2]) ((x0, x1, x2) : (Int × Int × (List Int))) :: As) := by
  obtain ⟨k, Gs, hrest, h4, h5⟩ := h
  obtain ⟨F2, Gs, rfl, ⟨c2, rfl, p2, cap2, rfl, q2⟩, hrest⟩ := hrest
  exact ⟨k, _ :: Gs, ⟨_, Gs, rfl, ⟨[_, _, _], rfl, ⟨_, _, _, _, rfl, rfl, ⟨rfl, rfl⟩, ⟨_, _, _, _, rfl, rfl, ⟨rfl, rfl⟩, ⟨_, _, rfl, q2⟩⟩⟩⟩, hrest⟩, by simpa using h4, fun b hb => h5 b (by simpa using hb)⟩
theorem st131_own {D : List Nat} {w0 w : World} {As : List Item} {v : Value} {a : (Int × Int × (List Int))} (h : Ctx D w0 w (Item.own v a :: As)) : ∃ v2, v = .agg #[.int .i64 a.1, .int .i64 a.2.1, v2] ∧ Ctx D w0 w (Item.own v2 a.2.2 :: As) := by
  obtain ⟨k, _, ⟨F, Gs, rfl, ⟨cs, rfl, h⟩, hrest⟩, h4, h5⟩ := h
  obtain ⟨c1, c2, Gh_0, Hh_0, rfl, rfl, h_0, h_r0⟩ := h
  obtain ⟨rfl, rfl⟩ := h_0
  obtain ⟨c1, c2, Gh_1, Hh_1, rfl, rfl, h_1, h_r1⟩ := h_r0
  obtain ⟨rfl, rfl⟩ := h_1
  obtain ⟨p2, cap2, rfl, q2⟩ := h_r1
  exact ⟨_, rfl, k, _, ⟨_, _, rfl, ⟨[_], rfl, p2, cap2, rfl, q2⟩, hrest⟩, by simpa using h4, fun b hb => h5 b (by simpa using hb)⟩
theorem zero31 : ∀ w, (zeroValue 31).run Tryz.prog w = .ok ((.slice none 0 0)) w := zero_run (i := Tryz.t31) (by kernel_rfl) rfl
theorem zc31 : ∀ i z, Tryz.prog.info? 31 = some i → i.zero = some z → z.cells.toList = [(.slice none 0 0)] := zc_of (i := Tryz.t31) (by kernel_rfl) rfl rfl
theorem zr31 : ∀ w, Rep.rep true w [(.slice none 0 0)] (([] : (List (Int × (List Int)))) : (List (Int × (List Int)))) [] := fun w => (by exact ⟨_, _, rfl, by simp, by simp [maxLen], .inl ⟨rfl, rfl, rfl, rfl⟩⟩)
theorem zero44 : ∀ w, (zeroValue 44).run Tryz.prog w = .ok (.agg #[(.int .i64 0), (.slice none 0 0)]) w := zero_run (i := Tryz.t44) (by kernel_rfl) rfl
theorem zc44 : ∀ i z, Tryz.prog.info? 44 = some i → i.zero = some z → z.cells.toList = [(.int .i64 0), (.slice none 0 0)] := zc_of (i := Tryz.t44) (by kernel_rfl) rfl rfl
theorem zr44 : ∀ w, Rep.rep true w [(.int .i64 0), (.slice none 0 0)] ((0, []) : (Int × (List Int))) [] := fun w => ⟨_, _, [], [], rfl, rfl, ⟨rfl, rfl⟩, (by exact ⟨_, _, rfl, by simp, by simp [maxLen], .inl ⟨rfl, rfl, rfl, rfl⟩⟩)⟩
theorem zero46 : ∀ w, (zeroValue 46).run Tryz.prog w = .ok (.agg #[(.int .i64 0), (.slice none 0 0), (.slice none 0 0)]) w := zero_run (i := Tryz.t46) (by kernel_rfl) rfl
theorem zc46 : ∀ i z, Tryz.prog.info? 46 = some i → i.zero = some z → z.cells.toList = [(.int .i64 0), (.slice none 0 0), (.slice none 0 0)] := zc_of (i := Tryz.t46) (by kernel_rfl) rfl rfl
theorem zr46 : ∀ w, Rep.rep true w [(.int .i64 0), (.slice none 0 0), (.slice none 0 0)] (((0, []), []) : ((Int × (List Int)) × (List (Int × (List Int))))) [] := fun w => ⟨_, _, [], [], rfl, rfl, ⟨_, _, [], [], rfl, rfl, ⟨rfl, rfl⟩, (by exact ⟨_, _, rfl, by simp, by simp [maxLen], .inl ⟨rfl, rfl, rfl, rfl⟩⟩)⟩, (by exact ⟨_, _, rfl, by simp, by simp [maxLen], .inl ⟨rfl, rfl, rfl, rfl⟩⟩)⟩
theorem zero88 : ∀ w, (zeroValue 88).run Tryz.prog w = .ok (.agg #[(.int .i64 0), (.slice none 0 0)]) w := zero_run (i := Tryz.t88) (by kernel_rfl) rfl
theorem zc88 : ∀ i z, Tryz.prog.info? 88 = some i → i.zero = some z → z.cells.toList = [(.int .i64 0), (.slice none 0 0)] := zc_of (i := Tryz.t88) (by kernel_rfl) rfl rfl
theorem zr88 : ∀ w, Rep.rep true w [(.int .i64 0), (.slice none 0 0)] ((0, []) : (Int × (List Int))) [] := fun w => ⟨_, _, [], [], rfl, rfl, ⟨rfl, rfl⟩, (by exact ⟨_, _, rfl, by simp, by simp [maxLen], .inl ⟨rfl, rfl, rfl, rfl⟩⟩)⟩
theorem zero93 : ∀ w, (zeroValue 93).run Tryz.prog w = .ok (.agg #[(.int .i64 0), (.slice none 0 0), (.int .i64 0), (.int .i64 0), (.int .i64 0)]) w := zero_run (i := Tryz.t93) (by kernel_rfl) rfl
theorem zc93 : ∀ i z, Tryz.prog.info? 93 = some i → i.zero = some z → z.cells.toList = [(.int .i64 0), (.slice none 0 0), (.int .i64 0), (.int .i64 0), (.int .i64 0)] := zc_of (i := Tryz.t93) (by kernel_rfl) rfl rfl
theorem zr93 : ∀ w, Rep.rep true w [(.int .i64 0), (.slice none 0 0), (.int .i64 0), (.int .i64 0), (.int .i64 0)] ((0, [], 0, 0, 0) : (Int × (List Int) × Int × Int × Int)) [] := fun w => ⟨_, _, [], [], rfl, rfl, ⟨rfl, rfl⟩, ⟨_, _, [], [], rfl, rfl, (by exact ⟨_, _, rfl, by simp, by simp [maxLen], .inl ⟨rfl, rfl, rfl, rfl⟩⟩), ⟨_, _, [], [], rfl, rfl, ⟨rfl, rfl⟩, ⟨_, _, [], [], rfl, rfl, ⟨rfl, rfl⟩, ⟨rfl, rfl⟩⟩⟩⟩⟩
theorem zero131 : ∀ w, (zeroValue 131).run Tryz.prog w = .ok (.agg #[(.int .i64 0), (.int .i64 0), (.slice none 0 0)]) w := zero_run (i := Tryz.t131) (by kernel_rfl) rfl
theorem zc131 : ∀ i z, Tryz.prog.info? 131 = some i → i.zero = some z → z.cells.toList = [(.int .i64 0), (.int .i64 0), (.slice none 0 0)] := zc_of (i := Tryz.t131) (by kernel_rfl) rfl rfl
theorem zr131 : ∀ w, Rep.rep true w [(.int .i64 0), (.int .i64 0), (.slice none 0 0)] ((0, 0, []) : (Int × Int × (List Int))) [] := fun w => ⟨_, _, [], [], rfl, rfl, ⟨rfl, rfl⟩, ⟨_, _, [], [], rfl, rfl, ⟨rfl, rfl⟩, (by exact ⟨_, _, rfl, by simp, by simp [maxLen], .inl ⟨rfl, rfl, rfl, rfl⟩⟩)⟩⟩
theorem built44  : Tryz.prog.built 44 [] = some #[(.int .i64 0), (.slice none 0 0)] :=
  built_of (i := Tryz.t44) (z := [(.int .i64 0), (.slice none 0 0)]) (places := [(0, 1), (1, 1)]) (by kernel_rfl) Tryz.underlying44 rfl rfl (by kernel_rfl) fill_end
theorem built44_0 {u0 : Value} {y0_0 : Value} (h0 : u0.cells.toList = [y0_0]) : Tryz.prog.built 44 [(0, u0)] = some #[y0_0, (.slice none 0 0)] :=
  built_of (i := Tryz.t44) (z := [(.int .i64 0), (.slice none 0 0)]) (places := [(0, 1), (1, 1)]) (by kernel_rfl) Tryz.underlying44 rfl rfl (by kernel_rfl) (fill_step (cells' := [y0_0, (.slice none 0 0)]) (off := 0) rfl h0 rfl rfl fill_end)
theorem built46  : Tryz.prog.built 46 [] = some #[(.int .i64 0), (.slice none 0 0), (.slice none 0 0)] :=
  built_of (i := Tryz.t46) (z := [(.int .i64 0), (.slice none 0 0), (.slice none 0 0)]) (places := [(0, 2), (2, 1)]) (by kernel_rfl) Tryz.underlying46 rfl rfl (by kernel_rfl) fill_end
theorem built46_0_1 {u0 u1 : Value} {y0_0 y0_1 y1_0 : Value} (h0 : u0.cells.toList = [y0_0, y0_1]) (h1 : u1.cells.toList = [y1_0]) : Tryz.prog.built 46 [(0, u0), (1, u1)] = some #[y0_0, y0_1, y1_0] :=
  built_of (i := Tryz.t46) (z := [(.int .i64 0), (.slice none 0 0), (.slice none 0 0)]) (places := [(0, 2), (2, 1)]) (by kernel_rfl) Tryz.underlying46 rfl rfl (by kernel_rfl) (fill_step (cells' := [y0_0, y0_1, (.slice none 0 0)]) (off := 0) rfl h0 rfl rfl (fill_step (cells' := [y0_0, y0_1, y1_0]) (off := 2) rfl h1 rfl rfl fill_end))
theorem built88  : Tryz.prog.built 88 [] = some #[(.int .i64 0), (.slice none 0 0)] :=
  built_of (i := Tryz.t88) (z := [(.int .i64 0), (.slice none 0 0)]) (places := [(0, 1), (1, 1)]) (by kernel_rfl) Tryz.underlying88 rfl rfl (by kernel_rfl) fill_end
theorem built88_0 {u0 : Value} {y0_0 : Value} (h0 : u0.cells.toList = [y0_0]) : Tryz.prog.built 88 [(0, u0)] = some #[y0_0, (.slice none 0 0)] :=
  built_of (i := Tryz.t88) (z := [(.int .i64 0), (.slice none 0 0)]) (places := [(0, 1), (1, 1)]) (by kernel_rfl) Tryz.underlying88 rfl rfl (by kernel_rfl) (fill_step (cells' := [y0_0, (.slice none 0 0)]) (off := 0) rfl h0 rfl rfl fill_end)
theorem built88_0_1 {u0 u1 : Value} {y0_0 y1_0 : Value} (h0 : u0.cells.toList = [y0_0]) (h1 : u1.cells.toList = [y1_0]) : Tryz.prog.built 88 [(0, u0), (1, u1)] = some #[y0_0, y1_0] :=
  built_of (i := Tryz.t88) (z := [(.int .i64 0), (.slice none 0 0)]) (places := [(0, 1), (1, 1)]) (by kernel_rfl) Tryz.underlying88 rfl rfl (by kernel_rfl) (fill_step (cells' := [y0_0, (.slice none 0 0)]) (off := 0) rfl h0 rfl rfl (fill_step (cells' := [y0_0, y1_0]) (off := 1) rfl h1 rfl rfl fill_end))
theorem built88_1 {u1 : Value} {y1_0 : Value} (h1 : u1.cells.toList = [y1_0]) : Tryz.prog.built 88 [(1, u1)] = some #[(.int .i64 0), y1_0] :=
  built_of (i := Tryz.t88) (z := [(.int .i64 0), (.slice none 0 0)]) (places := [(0, 1), (1, 1)]) (by kernel_rfl) Tryz.underlying88 rfl rfl (by kernel_rfl) (fill_step (cells' := [(.int .i64 0), y1_0]) (off := 1) rfl h1 rfl rfl fill_end)
theorem built93_0_2_3_4 {u0 u2 u3 u4 : Value} {y0_0 y2_0 y3_0 y4_0 : Value} (h0 : u0.cells.toList = [y0_0]) (h2 : u2.cells.toList = [y2_0]) (h3 : u3.cells.toList = [y3_0]) (h4 : u4.cells.toList = [y4_0]) : Tryz.prog.built 93 [(0, u0), (2, u2), (3, u3), (4, u4)] = some #[y0_0, (.slice none 0 0), y2_0, y3_0, y4_0] :=
  built_of (i := Tryz.t93) (z := [(.int .i64 0), (.slice none 0 0), (.int .i64 0), (.int .i64 0), (.int .i64 0)]) (places := [(0, 1), (1, 1), (2, 1), (3, 1), (4, 1)]) (by kernel_rfl) Tryz.underlying93 rfl rfl (by kernel_rfl) (fill_step (cells' := [y0_0, (.slice none 0 0), (.int .i64 0), (.int .i64 0), (.int .i64 0)]) (off := 0) rfl h0 rfl rfl (fill_step (cells' := [y0_0, (.slice none 0 0), y2_0, (.int .i64 0), (.int .i64 0)]) (off := 2) rfl h2 rfl rfl (fill_step (cells' := [y0_0, (.slice none 0 0), y2_0, y3_0, (.int .i64 0)]) (off := 3) rfl h3 rfl rfl (fill_step (cells' := [y0_0, (.slice none 0 0), y2_0, y3_0, y4_0]) (off := 4) rfl h4 rfl rfl fill_end))))
theorem built93_4 {u4 : Value} {y4_0 : Value} (h4 : u4.cells.toList = [y4_0]) : Tryz.prog.built 93 [(4, u4)] = some #[(.int .i64 0), (.slice none 0 0), (.int .i64 0), (.int .i64 0), y4_0] :=
  built_of (i := Tryz.t93) (z := [(.int .i64 0), (.slice none 0 0), (.int .i64 0), (.int .i64 0), (.int .i64 0)]) (places := [(0, 1), (1, 1), (2, 1), (3, 1), (4, 1)]) (by kernel_rfl) Tryz.underlying93 rfl rfl (by kernel_rfl) (fill_step (cells' := [(.int .i64 0), (.slice none 0 0), (.int .i64 0), (.int .i64 0), y4_0]) (off := 4) rfl h4 rfl rfl fill_end)
theorem built131_0_1 {u0 u1 : Value} {y0_0 y1_0 : Value} (h0 : u0.cells.toList = [y0_0]) (h1 : u1.cells.toList = [y1_0]) : Tryz.prog.built 131 [(0, u0), (1, u1)] = some #[y0_0, y1_0, (.slice none 0 0)] :=
  built_of (i := Tryz.t131) (z := [(.int .i64 0), (.int .i64 0), (.slice none 0 0)]) (places := [(0, 1), (1, 1), (2, 1)]) (by kernel_rfl) Tryz.underlying131 rfl rfl (by kernel_rfl) (fill_step (cells' := [y0_0, (.int .i64 0), (.slice none 0 0)]) (off := 0) rfl h0 rfl rfl (fill_step (cells' := [y0_0, y1_0, (.slice none 0 0)]) (off := 1) rfl h1 rfl rfl fill_end))
theorem built145_0_2 {u0 u2 : Value} {y0_0 y2_0 : Value} (h0 : u0.cells.toList = [y0_0]) (h2 : u2.cells.toList = [y2_0]) : Tryz.prog.built 145 [(0, u0), (2, u2)] = some #[y0_0, (.int .i64 0), y2_0] :=
  built_of (i := Tryz.t145) (z := [(.slice none 0 0), (.int .i64 0), (.int .i64 0)]) (places := [(0, 1), (1, 1), (2, 1)]) (by kernel_rfl) Tryz.underlying145 rfl rfl (by kernel_rfl) (fill_step (cells' := [y0_0, (.int .i64 0), (.int .i64 0)]) (off := 0) rfl h0 rfl rfl (fill_step (cells' := [y0_0, (.int .i64 0), y2_0]) (off := 2) rfl h2 rfl rfl fill_end))
end Go.Gx.Px
