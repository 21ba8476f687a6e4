/- The types of the seat, as the library wants them. Conditions: none. -/
import Derived.Test.YtdkfiadoiapnbaaGreatGxHo
import Derived.Test.YtdkfiadoiapnbaaGreatGxAp
import Derived.Test.YtdkfiadoiapnbaaGreatGxFv
import Derived.Test.YtdkfiadoiapnbaaGreatGxSo
import Derived.Test.YtdkfiadoiapnbaaGreatSh
import Derived.Test.YtdkfiadoiapnbaaGreatProg
set_option linter.unusedVariables false
set_option linter.unusedSimpArgs false
namespace Go.Gx.Px
open Go.Proofs
theorem hmix : Tryz.prog.follows .mixedOrders = true := by kernel_rfl
theorem ty3 : Ty Tryz.prog 3 Int := ⟨Tryz.isAgg3, Tryz.sizeOf3, Tryz.t3, _, by kernel_rfl, rfl, by decide, rfl, rfl⟩
theorem ty4 : Ty Tryz.prog 4 Bool := ⟨Tryz.isAgg4, Tryz.sizeOf4, Tryz.t4, _, by kernel_rfl, rfl, by decide, rfl, rfl⟩
theorem ty5 : Ty Tryz.prog 5 UInt8 := ⟨Tryz.isAgg5, Tryz.sizeOf5, Tryz.t5, _, by kernel_rfl, rfl, by decide, rfl, rfl⟩
theorem ty22 : Ty Tryz.prog 22 (List Int) := ⟨Tryz.isAgg22, Tryz.sizeOf22, Tryz.t22, _, by kernel_rfl, rfl, by decide, rfl, rfl⟩
theorem ty33 : Ty Tryz.prog 33 (List (Int × (List Int) × Int × Int × Int)) := ⟨Tryz.isAgg33, Tryz.sizeOf33, Tryz.t33, _, by kernel_rfl, rfl, by decide, rfl, rfl⟩
theorem ty35 : Ty Tryz.prog 35 (List (Int × (List Int))) := ⟨Tryz.isAgg35, Tryz.sizeOf35, Tryz.t35, _, by kernel_rfl, rfl, by decide, rfl, rfl⟩
theorem ty37 : Ty Tryz.prog 37 ((List Int) × (List (Int × (List Int)))) := ⟨Tryz.isAgg37, Tryz.sizeOf37, Tryz.t37, _, by kernel_rfl, rfl, by decide, rfl, rfl⟩
theorem ty71 : Ty Tryz.prog 71 (Int × (List Int) × Int × Int × Int) := ⟨Tryz.isAgg71, Tryz.sizeOf71, Tryz.t71, _, by kernel_rfl, rfl, by decide, rfl, rfl⟩
theorem ty75 : Ty Tryz.prog 75 (Int × Int) := ⟨Tryz.isAgg75, Tryz.sizeOf75, Tryz.t75, _, by kernel_rfl, rfl, by decide, rfl, rfl⟩
theorem ty84 : Ty Tryz.prog 84 (Int × (List Int)) := ⟨Tryz.isAgg84, Tryz.sizeOf84, Tryz.t84, _, by kernel_rfl, rfl, by decide, rfl, rfl⟩
theorem ty107 : Ty Tryz.prog 107 (List Bool) := ⟨Tryz.isAgg107, Tryz.sizeOf107, Tryz.t107, _, by kernel_rfl, rfl, by decide, rfl, rfl⟩
theorem tyr113 (f : Nat) (cs : List Value) : Ty Tryz.prog 113 (RawF f cs) := ⟨Tryz.isAgg113, Tryz.sizeOf113, Tryz.t113, _, by kernel_rfl, rfl, by decide, rfl, rfl⟩
theorem b8_3 : ∀ i, Tryz.prog.info? 3 = some i → i.bytes ≤ 8 := fun i h => by
  obtain rfl := Option.some.inj ((show Tryz.prog.info? 3 = some Tryz.t3 by kernel_rfl).symm.trans h)
  decide
theorem ro_st37 {D : List Nat} {w : World} {v : Value} {a : ((List Int) × (List (Int × (List Int))))} (h : RO D w v a) : ∃ v1, ∃ v2, v = .agg #[v1, v2] ∧ RO D w v1 a.1 ∧ RO D w v2 a.2 := by
  obtain ⟨F, ⟨cs, rfl, h⟩, hD⟩ := h
  obtain ⟨c1, c2, F1, F2, rfl, rfl, h_0, h_r0⟩ := h
  obtain ⟨p1, cap1, rfl, q1⟩ := h_0
  obtain ⟨p2, cap2, rfl, q2⟩ := h_r0
  refine ⟨_, _, rfl, ?_, ?_⟩
  · exact ⟨_, ⟨[_], rfl, p1, cap1, rfl, q1⟩, fun b hb => hD b (by simp [hb])⟩
  · exact ⟨_, ⟨[_], rfl, p2, cap2, rfl, q2⟩, fun b hb => hD b (by simp [hb])⟩
theorem own_st37 {D : List Nat} {w0 w : World} {As : List Item} (v0 : Value) (x0 : (List Int)) (v1 : Value) (x1 : (List (Int × (List Int)))) (h : Ctx D w0 w (Item.own v0 x0 :: Item.own v1 x1 :: As)) : Ctx D w0 w (Item.own (.agg #[v0, v1]) ((x0, x1) : ((List Int) × (List (Int × (List Int))))) :: As) := by
  obtain ⟨k, Gs, hrest, h4, h5⟩ := h
  obtain ⟨F0, Gs, rfl, ⟨c0, rfl, p0, cap0, rfl, q0⟩, hrest⟩ := hrest
  obtain ⟨F1, Gs, rfl, ⟨c1, rfl, p1, cap1, rfl, q1⟩, hrest⟩ := hrest
  exact ⟨k, _ :: Gs, ⟨_, Gs, rfl, ⟨[_, _], rfl, ⟨_, _, _, _, rfl, rfl, ⟨_, _, rfl, q0⟩, ⟨_, _, rfl, q1⟩⟩⟩, hrest⟩, by simpa using h4, fun b hb => h5 b (by simpa using hb)⟩
theorem st37_own {D : List Nat} {w0 w : World} {As : List Item} {v : Value} {a : ((List Int) × (List (Int × (List Int))))} (h : Ctx D w0 w (Item.own v a :: As)) : ∃ v0, ∃ v1, v = .agg #[v0, v1] ∧ Ctx D w0 w (Item.own v0 a.1 :: Item.own v1 a.2 :: As) := by
  obtain ⟨k, _, ⟨F, Gs, rfl, ⟨cs, rfl, h⟩, hrest⟩, h4, h5⟩ := h
  obtain ⟨c1, c2, Gh_0, Hh_0, rfl, rfl, h_0, h_r0⟩ := h
  obtain ⟨p0, cap0, rfl, q0⟩ := h_0
  obtain ⟨p1, cap1, rfl, q1⟩ := h_r0
  exact ⟨_, _, rfl, k, _, ⟨_, _, rfl, ⟨[_], rfl, p0, cap0, rfl, q0⟩, ⟨_, _, rfl, ⟨[_], rfl, p1, cap1, rfl, q1⟩, hrest⟩⟩, by simpa using h4, fun b hb => h5 b (by simpa using hb)⟩
theorem ro_st71 {D : List Nat} {w : World} {v : Value} {a : (Int × (List Int) × Int × Int × Int)} (h : RO D w v a) : ∃ v1, v = .agg #[.int .i64 a.1, v1, .int .i64 a.2.2.1, .int .i64 a.2.2.2.1, .int .i64 a.2.2.2.2] ∧ RO D w v1 a.2.1 := by
  obtain ⟨F, ⟨cs, rfl, h⟩, hD⟩ := h
  obtain ⟨c1, c2, F1, F2, rfl, rfl, h_0, h_r0⟩ := h
  obtain ⟨rfl, rfl⟩ := h_0
  obtain ⟨c1, c2, F1, F2, rfl, rfl, h_1, h_r1⟩ := h_r0
  obtain ⟨p1, cap1, rfl, q1⟩ := h_1
  obtain ⟨c1, c2, F1, F2, rfl, rfl, h_2, h_r2⟩ := h_r1
  obtain ⟨rfl, rfl⟩ := h_2
  obtain ⟨c1, c2, F1, F2, rfl, rfl, h_3, h_r3⟩ := h_r2
  obtain ⟨rfl, rfl⟩ := h_3
  obtain ⟨rfl, rfl⟩ := h_r3
  refine ⟨_, rfl, ?_⟩
  · exact ⟨_, ⟨[_], rfl, p1, cap1, rfl, q1⟩, fun b hb => hD b (by simp [hb])⟩
theorem own_st71 {D : List Nat} {w0 w : World} {As : List Item} (x0 : Int) (v1 : Value) (x1 : (List Int)) (x2 : Int) (x3 : Int) (x4 : Int) (h : Ctx D w0 w (Item.own v1 x1 :: As)) : Ctx D w0 w (Item.own (.agg #[.int .i64 x0, v1, .int .i64 x2, .int .i64 x3, .int .i64 x4]) ((x0, x1, x2, x3, x4) : (Int × (List Int) × Int × Int × Int)) :: As) := by
  obtain ⟨k, Gs, hrest, h4, h5⟩ := h
  obtain ⟨F1, Gs, rfl, ⟨c1, rfl, p1, cap1, rfl, q1⟩, hrest⟩ := hrest
  exact ⟨k, _ :: Gs, ⟨_, Gs, rfl, ⟨[_, _, _, _, _], rfl, ⟨_, _, _, _, rfl, rfl, ⟨rfl, rfl⟩, ⟨_, _, _, _, rfl, rfl, ⟨_, _, rfl, q1⟩, ⟨_, _, _, _, rfl, rfl, ⟨rfl, rfl⟩, ⟨_, _, _, _, rfl, rfl, ⟨rfl, rfl⟩, ⟨rfl, rfl⟩⟩⟩⟩⟩⟩, hrest⟩, by simpa using h4, fun b hb => h5 b (by simpa using hb)⟩
theorem st71_own {D : List Nat} {w0 w : World} {As : List Item} {v : Value} {a : (Int × (List Int) × Int × Int × Int)} (h : Ctx D w0 w (Item.own v a :: As)) : ∃ v1, v = .agg #[.int .i64 a.1, v1, .int .i64 a.2.2.1, .int .i64 a.2.2.2.1, .int .i64 a.2.2.2.2] ∧ Ctx D w0 w (Item.own v1 a.2.1 :: As) := by
  obtain ⟨k, _, ⟨F, Gs, rfl, ⟨cs, rfl, h⟩, hrest⟩, h4, h5⟩ := h
  obtain ⟨c1, c2, Gh_0, Hh_0, rfl, rfl, h_0, h_r0⟩ := h
  obtain ⟨rfl, rfl⟩ := h_0
  obtain ⟨c1, c2, Gh_1, Hh_1, rfl, rfl, h_1, h_r1⟩ := h_r0
  obtain ⟨p1, cap1, rfl, q1⟩ := h_1
  obtain ⟨c1, c2, Gh_2, Hh_2, rfl, rfl, h_2, h_r2⟩ := h_r1
  obtain ⟨rfl, rfl⟩ := h_2
  obtain ⟨c1, c2, Gh_3, Hh_3, rfl, rfl, h_3, h_r3⟩ := h_r2
  obtain ⟨rfl, rfl⟩ := h_3
  obtain ⟨rfl, rfl⟩ := h_r3
  exact ⟨_, rfl, k, _, ⟨_, _, rfl, ⟨[_], rfl, p1, cap1, rfl, q1⟩, hrest⟩, by simpa using h4, fun b hb => h5 b (by simpa using hb)⟩
theorem ro_st75 {D : List Nat} {w : World} {v : Value} {a : (Int × Int)} (h : RO D w v a) :  v = .agg #[.int .i64 a.1, .int .i64 a.2] := by
  obtain ⟨F, ⟨cs, rfl, h⟩, hD⟩ := h
  obtain ⟨c1, c2, F1, F2, rfl, rfl, h_0, h_r0⟩ := h
  obtain ⟨rfl, rfl⟩ := h_0
  obtain ⟨rfl, rfl⟩ := h_r0
  rfl
theorem own_st75 {D : List Nat} {w0 w : World} {As : List Item} (x0 : Int) (x1 : Int) (h : Ctx D w0 w (As)) : Ctx D w0 w (Item.own (.agg #[.int .i64 x0, .int .i64 x1]) ((x0, x1) : (Int × Int)) :: As) := by
  obtain ⟨k, Gs, hrest, h4, h5⟩ := h
  exact ⟨k, _ :: Gs, ⟨_, Gs, rfl, ⟨[_, _], rfl, ⟨_, _, _, _, rfl, rfl, ⟨rfl, rfl⟩, ⟨rfl, rfl⟩⟩⟩, hrest⟩, by simpa using h4, fun b hb => h5 b (by simpa using hb)⟩
theorem st75_own {D : List Nat} {w0 w : World} {As : List Item} {v : Value} {a : (Int × Int)} (h : Ctx D w0 w (Item.own v a :: As)) : v = .agg #[.int .i64 a.1, .int .i64 a.2] ∧ Ctx D w0 w (As) := by
  obtain ⟨k, _, ⟨F, Gs, rfl, ⟨cs, rfl, h⟩, hrest⟩, h4, h5⟩ := h
  obtain ⟨c1, c2, Gh_0, Hh_0, rfl, rfl, h_0, h_r0⟩ := h
  obtain ⟨rfl, rfl⟩ := h_0
  obtain ⟨rfl, rfl⟩ := h_r0
  exact ⟨rfl, k, _, hrest, by simpa using h4, fun b hb => h5 b (by simpa using hb)⟩
theorem ro_st84 {D : List Nat} {w : World} {v : Value} {a : (Int × (List Int))} (h : RO D w v a) : ∃ v1, v = .agg #[.int .i64 a.1, v1] ∧ RO D w v1 a.2 := by
  obtain ⟨F, ⟨cs, rfl, h⟩, hD⟩ := h
  obtain ⟨c1, c2, F1, F2, rfl, rfl, h_0, h_r0⟩ := h
  obtain ⟨rfl, rfl⟩ := h_0
  obtain ⟨p1, cap1, rfl, q1⟩ := h_r0
  refine ⟨_, rfl, ?_⟩
  · exact ⟨_, ⟨[_], rfl, p1, cap1, rfl, q1⟩, fun b hb => hD b (by simp [hb])⟩
theorem own_st84 {D : List Nat} {w0 w : World} {As : List Item} (x0 : Int) (v1 : Value) (x1 : (List Int)) (h : Ctx D w0 w (Item.own v1 x1 :: As)) : Ctx D w0 w (Item.own (.agg #[.int .i64 x0, v1]) ((x0, x1) : (Int × (List Int))) :: As) := by
  obtain ⟨k, Gs, hrest, h4, h5⟩ := h
  obtain ⟨F1, Gs, rfl, ⟨c1, rfl, p1, cap1, rfl, q1⟩, hrest⟩ := hrest
  exact ⟨k, _ :: Gs, ⟨_, Gs, rfl, ⟨[_, _], rfl, ⟨_, _, _, _, rfl, rfl, ⟨rfl, rfl⟩, ⟨_, _, rfl, q1⟩⟩⟩, hrest⟩, by simpa using h4, fun b hb => h5 b (by simpa using hb)⟩
theorem st84_own {D : List Nat} {w0 w : World} {As : List Item} {v : Value} {a : (Int × (List Int))} (h : Ctx D w0 w (Item.own v a :: As)) : ∃ v1, v = .agg #[.int .i64 a.1, v1] ∧ Ctx D w0 w (Item.own v1 a.2 :: As) := by
  obtain ⟨k, _, ⟨F, Gs, rfl, ⟨cs, rfl, h⟩, hrest⟩, h4, h5⟩ := h
  obtain ⟨c1, c2, Gh_0, Hh_0, rfl, rfl, h_0, h_r0⟩ := h
  obtain ⟨rfl, rfl⟩ := h_0
  obtain ⟨p1, cap1, rfl, q1⟩ := h_r0
  exact ⟨_, rfl, k, _, ⟨_, _, rfl, ⟨[_], rfl, p1, cap1, rfl, q1⟩, hrest⟩, by simpa using h4, fun b hb => h5 b (by simpa using hb)⟩
theorem zero3 : ∀ w, (zeroValue 3).run Tryz.prog w = .ok ((.int .i64 0)) w := zero_run (i := Tryz.t3) (by kernel_rfl) rfl
theorem zc3 : ∀ i z, Tryz.prog.info? 3 = some i → i.zero = some z → z.cells.toList = [(.int .i64 0)] := zc_of (i := Tryz.t3) (by kernel_rfl) rfl rfl
theorem zr3 : ∀ w, Rep.rep true w [(.int .i64 0)] ((0 : Int) : Int) [] := fun w => ⟨rfl, rfl⟩
theorem zero4 : ∀ w, (zeroValue 4).run Tryz.prog w = .ok ((.bool false)) w := zero_run (i := Tryz.t4) (by kernel_rfl) rfl
theorem zc4 : ∀ i z, Tryz.prog.info? 4 = some i → i.zero = some z → z.cells.toList = [(.bool false)] := zc_of (i := Tryz.t4) (by kernel_rfl) rfl rfl
theorem zr4 : ∀ w, Rep.rep true w [(.bool false)] ((false : Bool) : Bool) [] := fun w => ⟨rfl, rfl⟩
theorem zero22 : ∀ w, (zeroValue 22).run Tryz.prog w = .ok ((.slice none 0 0)) w := zero_run (i := Tryz.t22) (by kernel_rfl) rfl
theorem zc22 : ∀ i z, Tryz.prog.info? 22 = some i → i.zero = some z → z.cells.toList = [(.slice none 0 0)] := zc_of (i := Tryz.t22) (by kernel_rfl) rfl rfl
theorem zr22 : ∀ w, Rep.rep true w [(.slice none 0 0)] (([] : (List Int)) : (List Int)) [] := fun w => (by exact ⟨_, _, rfl, by simp, by simp [maxLen], .inl ⟨rfl, rfl, rfl, rfl⟩⟩)
theorem zero37 : ∀ w, (zeroValue 37).run Tryz.prog w = .ok (.agg #[(.slice none 0 0), (.slice none 0 0)]) w := zero_run (i := Tryz.t37) (by kernel_rfl) rfl
theorem zc37 : ∀ i z, Tryz.prog.info? 37 = some i → i.zero = some z → z.cells.toList = [(.slice none 0 0), (.slice none 0 0)] := zc_of (i := Tryz.t37) (by kernel_rfl) rfl rfl
theorem zr37 : ∀ w, Rep.rep true w [(.slice none 0 0), (.slice none 0 0)] (([], []) : ((List Int) × (List (Int × (List Int))))) [] := fun w => ⟨_, _, [], [], rfl, rfl, (by exact ⟨_, _, rfl, by simp, by simp [maxLen], .inl ⟨rfl, rfl, rfl, rfl⟩⟩), (by exact ⟨_, _, rfl, by simp, by simp [maxLen], .inl ⟨rfl, rfl, rfl, rfl⟩⟩)⟩
theorem zero71 : ∀ w, (zeroValue 71).run Tryz.prog w = .ok (.agg #[(.int .i64 0), (.slice none 0 0), (.int .i64 0), (.int .i64 0), (.int .i64 0)]) w := zero_run (i := Tryz.t71) (by kernel_rfl) rfl
theorem zc71 : ∀ i z, Tryz.prog.info? 71 = some i → i.zero = some z → z.cells.toList = [(.int .i64 0), (.slice none 0 0), (.int .i64 0), (.int .i64 0), (.int .i64 0)] := zc_of (i := Tryz.t71) (by kernel_rfl) rfl rfl
theorem zr71 : ∀ w, Rep.rep true w [(.int .i64 0), (.slice none 0 0), (.int .i64 0), (.int .i64 0), (.int .i64 0)] ((0, [], 0, 0, 0) : (Int × (List Int) × Int × Int × Int)) [] := fun w => ⟨_, _, [], [], rfl, rfl, ⟨rfl, rfl⟩, ⟨_, _, [], [], rfl, rfl, (by exact ⟨_, _, rfl, by simp, by simp [maxLen], .inl ⟨rfl, rfl, rfl, rfl⟩⟩), ⟨_, _, [], [], rfl, rfl, ⟨rfl, rfl⟩, ⟨_, _, [], [], rfl, rfl, ⟨rfl, rfl⟩, ⟨rfl, rfl⟩⟩⟩⟩⟩
theorem zero75 : ∀ w, (zeroValue 75).run Tryz.prog w = .ok (.agg #[(.int .i64 0), (.int .i64 0)]) w := zero_run (i := Tryz.t75) (by kernel_rfl) rfl
theorem zc75 : ∀ i z, Tryz.prog.info? 75 = some i → i.zero = some z → z.cells.toList = [(.int .i64 0), (.int .i64 0)] := zc_of (i := Tryz.t75) (by kernel_rfl) rfl rfl
theorem zr75 : ∀ w, Rep.rep true w [(.int .i64 0), (.int .i64 0)] ((0, 0) : (Int × Int)) [] := fun w => ⟨_, _, [], [], rfl, rfl, ⟨rfl, rfl⟩, ⟨rfl, rfl⟩⟩
theorem zero84 : ∀ w, (zeroValue 84).run Tryz.prog w = .ok (.agg #[(.int .i64 0), (.slice none 0 0)]) w := zero_run (i := Tryz.t84) (by kernel_rfl) rfl
theorem zc84 : ∀ i z, Tryz.prog.info? 84 = some i → i.zero = some z → z.cells.toList = [(.int .i64 0), (.slice none 0 0)] := zc_of (i := Tryz.t84) (by kernel_rfl) rfl rfl
theorem zr84 : ∀ w, Rep.rep true w [(.int .i64 0), (.slice none 0 0)] ((0, []) : (Int × (List Int))) [] := fun w => ⟨_, _, [], [], rfl, rfl, ⟨rfl, rfl⟩, (by exact ⟨_, _, rfl, by simp, by simp [maxLen], .inl ⟨rfl, rfl, rfl, rfl⟩⟩)⟩
theorem zero107 : ∀ w, (zeroValue 107).run Tryz.prog w = .ok ((.slice none 0 0)) w := zero_run (i := Tryz.t107) (by kernel_rfl) rfl
theorem zc107 : ∀ i z, Tryz.prog.info? 107 = some i → i.zero = some z → z.cells.toList = [(.slice none 0 0)] := zc_of (i := Tryz.t107) (by kernel_rfl) rfl rfl
theorem zr107 : ∀ w, Rep.rep true w [(.slice none 0 0)] (([] : (List Bool)) : (List Bool)) [] := fun w => (by exact ⟨_, _, rfl, by simp, by simp [maxLen], .inl ⟨rfl, rfl, rfl, rfl⟩⟩)
theorem built37  : Tryz.prog.built 37 [] = some #[(.slice none 0 0), (.slice none 0 0)] :=
  built_of (i := Tryz.t37) (z := [(.slice none 0 0), (.slice none 0 0)]) (places := [(0, 1), (1, 1)]) (by kernel_rfl) Tryz.underlying37 rfl rfl (by kernel_rfl) fill_end
theorem built37_1 {u1 : Value} {y1_0 : Value} (h1 : u1.cells.toList = [y1_0]) : Tryz.prog.built 37 [(1, u1)] = some #[(.slice none 0 0), y1_0] :=
  built_of (i := Tryz.t37) (z := [(.slice none 0 0), (.slice none 0 0)]) (places := [(0, 1), (1, 1)]) (by kernel_rfl) Tryz.underlying37 rfl rfl (by kernel_rfl) (fill_step (cells' := [(.slice none 0 0), y1_0]) (off := 1) rfl h1 rfl rfl fill_end)
theorem built71_0_2_3_4 {u0 u2 u3 u4 : Value} {y0_0 y2_0 y3_0 y4_0 : Value} (h0 : u0.cells.toList = [y0_0]) (h2 : u2.cells.toList = [y2_0]) (h3 : u3.cells.toList = [y3_0]) (h4 : u4.cells.toList = [y4_0]) : Tryz.prog.built 71 [(0, u0), (2, u2), (3, u3), (4, u4)] = some #[y0_0, (.slice none 0 0), y2_0, y3_0, y4_0] :=
  built_of (i := Tryz.t71) (z := [(.int .i64 0), (.slice none 0 0), (.int .i64 0), (.int .i64 0), (.int .i64 0)]) (places := [(0, 1), (1, 1), (2, 1), (3, 1), (4, 1)]) (by kernel_rfl) Tryz.underlying71 rfl rfl (by kernel_rfl) (fill_step (cells' := [y0_0, (.slice none 0 0), (.int .i64 0), (.int .i64 0), (.int .i64 0)]) (off := 0) rfl h0 rfl rfl (fill_step (cells' := [y0_0, (.slice none 0 0), y2_0, (.int .i64 0), (.int .i64 0)]) (off := 2) rfl h2 rfl rfl (fill_step (cells' := [y0_0, (.slice none 0 0), y2_0, y3_0, (.int .i64 0)]) (off := 3) rfl h3 rfl rfl (fill_step (cells' := [y0_0, (.slice none 0 0), y2_0, y3_0, y4_0]) (off := 4) rfl h4 rfl rfl fill_end))))
theorem built71_4 {u4 : Value} {y4_0 : Value} (h4 : u4.cells.toList = [y4_0]) : Tryz.prog.built 71 [(4, u4)] = some #[(.int .i64 0), (.slice none 0 0), (.int .i64 0), (.int .i64 0), y4_0] :=
  built_of (i := Tryz.t71) (z := [(.int .i64 0), (.slice none 0 0), (.int .i64 0), (.int .i64 0), (.int .i64 0)]) (places := [(0, 1), (1, 1), (2, 1), (3, 1), (4, 1)]) (by kernel_rfl) Tryz.underlying71 rfl rfl (by kernel_rfl) (fill_step (cells' := [(.int .i64 0), (.slice none 0 0), (.int .i64 0), (.int .i64 0), y4_0]) (off := 4) rfl h4 rfl rfl fill_end)
theorem built75  : Tryz.prog.built 75 [] = some #[(.int .i64 0), (.int .i64 0)] :=
  built_of (i := Tryz.t75) (z := [(.int .i64 0), (.int .i64 0)]) (places := [(0, 1), (1, 1)]) (by kernel_rfl) Tryz.underlying75 rfl rfl (by kernel_rfl) fill_end
theorem built75_0_1 {u0 u1 : Value} {y0_0 y1_0 : Value} (h0 : u0.cells.toList = [y0_0]) (h1 : u1.cells.toList = [y1_0]) : Tryz.prog.built 75 [(0, u0), (1, u1)] = some #[y0_0, y1_0] :=
  built_of (i := Tryz.t75) (z := [(.int .i64 0), (.int .i64 0)]) (places := [(0, 1), (1, 1)]) (by kernel_rfl) Tryz.underlying75 rfl rfl (by kernel_rfl) (fill_step (cells' := [y0_0, (.int .i64 0)]) (off := 0) rfl h0 rfl rfl (fill_step (cells' := [y0_0, y1_0]) (off := 1) rfl h1 rfl rfl fill_end))
theorem built84_0 {u0 : Value} {y0_0 : Value} (h0 : u0.cells.toList = [y0_0]) : Tryz.prog.built 84 [(0, u0)] = some #[y0_0, (.slice none 0 0)] :=
  built_of (i := Tryz.t84) (z := [(.int .i64 0), (.slice none 0 0)]) (places := [(0, 1), (1, 1)]) (by kernel_rfl) Tryz.underlying84 rfl rfl (by kernel_rfl) (fill_step (cells' := [y0_0, (.slice none 0 0)]) (off := 0) rfl h0 rfl rfl fill_end)
theorem built84_1 {u1 : Value} {y1_0 : Value} (h1 : u1.cells.toList = [y1_0]) : Tryz.prog.built 84 [(1, u1)] = some #[(.int .i64 0), y1_0] :=
  built_of (i := Tryz.t84) (z := [(.int .i64 0), (.slice none 0 0)]) (places := [(0, 1), (1, 1)]) (by kernel_rfl) Tryz.underlying84 rfl rfl (by kernel_rfl) (fill_step (cells' := [(.int .i64 0), y1_0]) (off := 1) rfl h1 rfl rfl fill_end)
theorem built121_0_2 {u0 u2 : Value} {y0_0 y2_0 : Value} (h0 : u0.cells.toList = [y0_0]) (h2 : u2.cells.toList = [y2_0]) : Tryz.prog.built 121 [(0, u0), (2, u2)] = some #[y0_0, (.int .i64 0), y2_0] :=
  built_of (i := Tryz.t121) (z := [(.slice none 0 0), (.int .i64 0), (.int .i64 0)]) (places := [(0, 1), (1, 1), (2, 1)]) (by kernel_rfl) Tryz.underlying121 rfl rfl (by kernel_rfl) (fill_step (cells' := [y0_0, (.int .i64 0), (.int .i64 0)]) (off := 0) rfl h0 rfl rfl (fill_step (cells' := [y0_0, (.int .i64 0), y2_0]) (off := 2) rfl h2 rfl rfl fill_end))
end Go.Gx.Px
