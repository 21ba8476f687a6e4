/- Library functions by the kit's contracts: numbers in decimal, joined texts, a builder of texts. Conditions: each says them. -/
import Derived.Test.YtbfmhlhjkbimmaaGreatDoorGxSd
import Derived.Shelf.Strconv.Itoa3
import Derived.Shelf.Strings.OnBuilder
set_option linter.unusedVariables false
set_option linter.unusedSimpArgs false
namespace Go.Gx
open Go.RowKit Go.Proofs Go.Shelf
theorem str_done {w w' : World} (h : Below w.heap.size w w') (a : Str) : Res w a (sv a) w' := ⟨h, [], str_val a, by simp, by simp⟩
section
variable {P : Program} {ρ : Shelf.Ren}
theorem tab_keep {P : Program} {n : String} {k : IntKind} {zs : List Int} {w w' : World} (h : Lib.TabIs P w n k zs) (K : Keep [] w w') : Lib.TabIs P w' n k zs := by
 unfold Lib.TabIs World.var? at *
 cases hg : P.globalNamed n with
 | none => simp [hg] at h
 | some g =>
  simp only [hg, Option.bind_some] at h ⊢
  have hlt : g < w.heap.size := by
   rcases Nat.lt_or_ge g w.heap.size with h' | h'
   ·exact h'
   ·rw [Array.getElem?_eq_none h'] at h; simp at h
  rw [K.block g hlt (by simp)]
  exact h
theorem below_grow (w : World) (q : Nat) (os : Array Obj) : Below w.heap.size w (Sort.grow (w.drewN q) os) :=
 ⟨rfl, rfl, rfl, by first | (simp [Sort.grow]; done) | (simp [Sort.grow]; omega), fun i hi => by
  show ((w.drewN q).heap ++ os)[i]? = _
  rw [Array.getElem?_append_left (by show i < w.heap.size; omega)]
  rfl⟩
theorem itoa_full {f : FuncId} {w0 : World} (a1 : Int) (rr : Str) (hF : itoaF a1 = some rr)
  (h : ∀ n : Int, -9223372036854775808 ≤ n → n ≤ 9223372036854775807 → Calls P f #[.int .i64 n] w0 fun e w' => e = .returned (.string ⟨(Lib.itoa n).toArray⟩) ∧ ∃ k os, w' = Sort.grow (w0.drewN k) os) :
  Calls P f [(.int .i64 a1)].toArray w0 fun e w' => ∃ v, e = .returned v ∧ Res w0 rr v w' := by
 unfold itoaF at hF
 split at hF
 ·rename_i hr
  obtain rfl := Option.some.inj hF
  refine (h a1 hr.1 hr.2).mono ?_
  rintro e w' ⟨rfl, k, os, rfl⟩
  exact ⟨_, rfl, str_done (below_grow _ _ _) _⟩
 ·cases hF
theorem elems_str {m : Bool} {w : World} : ∀ {l : List Str} {cs : List Value} {F : List Nat}, elems m w cs l F → cs = l.map sv
 | [], _, _, ⟨h, _⟩ => h
 | a :: l, _, _, ⟨c, cs', F1, F2, rfl, rfl, ⟨h1, _⟩, h2⟩ => by rw [h1, elems_str h2]; rfl
def bytesOf (s : Str) : ByteArray := ⟨List.toArray s⟩
theorem join_calls (L : Lays.n156 P ρ) (X : Builder.Extra P ρ) {w0 : World} (a1 : List Str) (u1 : Value) (g1 : RO [] w0 u1 a1) (a2 : Str) (rr : Str) (hF : joinS a1 a2 = some rr) :
  Calls P (ρ.f 156) [u1, sv a2].toArray w0 fun e w' => ∃ v, e = .returned v ∧ Res w0 rr v w' := by
 unfold joinS at hF
 split at hF
 ·rename_i h
  obtain rfl := Option.some.inj hF
  obtain ⟨p, cap, rfl, hc1, hc2, h3⟩ := ro_slice g1
  have none (e : a1 = []) : Calls P (ρ.f 156) [.slice p a1.length cap, sv a2].toArray w0 fun e w' => ∃ v, e = .returned v ∧ Res (α := Str) w0 (Lib.join a1 a2) v w' := by
   subst e
   refine (Any.strings_Join_none L X p cap (bytesOf a2) w0).mono ?_
   rintro e w' ⟨rfl, rfl⟩
   exact ⟨_, rfl, str_done (Below.refl _ _) _⟩
  rcases h3 with h3 | h3 | ⟨b, off, row, T, fz, cells, Fe, rfl, h4, -, h5, h6, -⟩
  ·exact none h3.2.2
  ·exact none h3.1
  have hcs := elems_str h5
  subst hcs
  have hmap : (a1.map bytesOf).map (·.data.toList) = a1 := by
   rw [List.map_map]
   conv => rhs; rw [← List.map_id a1]
   rfl
  have hJ := Any.strings_Join L X b off cap (a1.map bytesOf) (bytesOf a2) w0 (fun j x hx => by
   rw [List.getElem?_map] at hx
   cases hj : a1[j]? with
   | none => rw [hj] at hx; cases hx
   | some s =>
    rw [hj] at hx
    obtain rfl := Option.some.inj hx
    refine cell_row (k := a1.length * Rep.sz Str) h4 ?_
    rw [h6, List.getElem?_map, hj]; rfl) (Array.getElem?_eq_some_iff.1 h4).1 (by rw [List.length_map]; omega) (by rw [List.length_map]; exact hc1) (by rw [hmap]; exact Nat.le_trans h.2 (by decide))
  rw [hmap, List.length_map] at hJ
  refine hJ.mono ?_
  rintro e w' ⟨rfl, hB⟩
  exact ⟨_, rfl, str_done hB _⟩
 ·cases hF
end
section
variable {P : Program} {n : Nat} {l : Env} {w : World} {ops : Array Oper} {K : Env → World → Prop} {os : List Oper} {d : Nat} {T U : TypeId} {pos : String} {aft : Array Edge} {x y : Operand}
end
end Go.Gx
