/- Library functions by the kit's contracts: numbers in decimal, joined texts, a builder of texts. Conditions: each says them. -/
import Derived.Test.YtbfmhlhjkbimmaaGreatDoorGxSd
import Derived.Shelf.Strconv.Itoa3
import Derived.Shelf.Strings.OnBuilder
set_option linter.unusedVariables false
set_option linter.unusedSimpArgs false
namespace Go.Gx
open Go.RowKit Go.Proofs Go.Shelf
theorem str_done {w w' : World} (h : Below w.heap.size w w') (a : Str) : Res w a (sv a) w' := ⟨h, [], str_val a, by simp, by simp⟩
section
variable {P : Program} {ρ : Shelf.Ren}
theorem itoa_calls (L : Lays.n171 P ρ) {w0 : World} (a1 : Int) (rr : Str) (hF : itoaS a1 = some rr) :
    Calls P (ρ.f 171) [(.int .i64 a1)].toArray w0 fun e w' => ∃ v, e = .returned v ∧ Res w0 rr v w' := by
  unfold itoaS at hF
  split at hF
  · rename_i h
    obtain rfl := Option.some.inj hF
    obtain ⟨n, rfl⟩ : ∃ n : Nat, a1 = n := ⟨a1.toNat, by omega⟩
    refine (Any.strconv_Itoa_small L n (by omega) w0).mono ?_
    rintro e w' ⟨rfl, rfl⟩
    exact ⟨_, rfl, str_done (Below.refl _ _) _⟩
  · cases hF
/-- a table of the library's outlives what is made new -/
theorem tab_keep {P : Program} {n : String} {k : IntKind} {zs : List Int} {w w' : World} (h : Lib.TabIs P w n k zs) (K : Keep [] w w') : Lib.TabIs P w' n k zs := by
  unfold Lib.TabIs World.var? at *
  cases hg : P.globalNamed n with
  | none => simp [hg] at h
  | some g =>
    simp only [hg, Option.bind_some] at h ⊢
    have hlt : g < w.heap.size := by
      rcases Nat.lt_or_ge g w.heap.size with h' | h'
      · exact h'
      · rw [Array.getElem?_eq_none h'] at h; simp at h
    rw [K.block g hlt (by simp)]
    exact h
theorem below_grow (w : World) (q : Nat) (os : Array Obj) : Below w.heap.size w (Sort.grow (w.drewN q) os) :=
  ⟨rfl, rfl, rfl, by first | (simp [Sort.grow]; done) | (simp [Sort.grow]; omega), fun i hi => by
    show ((w.drewN q).heap ++ os)[i]? = _
    rw [Array.getElem?_append_left (by show i < w.heap.size; omega)]
    rfl⟩
theorem itoa_full {f : FuncId} {w0 : World} (a1 : Int) (rr : Str) (hF : itoaF a1 = some rr)
    (h : ∀ n : Int, -9223372036854775808 ≤ n → n ≤ 9223372036854775807 → Calls P f #[.int .i64 n] w0 fun e w' => e = .returned (.string ⟨(Lib.itoa n).toArray⟩) ∧ ∃ k os, w' = Sort.grow (w0.drewN k) os) :
    Calls P f [(.int .i64 a1)].toArray w0 fun e w' => ∃ v, e = .returned v ∧ Res w0 rr v w' := by
  unfold itoaF at hF
  split at hF
  · rename_i hr
    obtain rfl := Option.some.inj hF
    refine (h a1 hr.1 hr.2).mono ?_
    rintro e w' ⟨rfl, k, os, rfl⟩
    exact ⟨_, rfl, str_done (below_grow _ _ _) _⟩
  · cases hF
theorem elems_str {m : Bool} {w : World} : ∀ {l : List Str} {cs : List Value} {F : List Nat}, elems m w cs l F → cs = l.map sv
  | [], _, _, ⟨h, _⟩ => h
  | a :: l, _, _, ⟨c, cs', F1, F2, rfl, rfl, ⟨h1, _⟩, h2⟩ => by rw [h1, elems_str h2]; rfl
def bytesOf (s : Str) : ByteArray := ⟨List.toArray s⟩
theorem join_calls (L : Lays.n156 P ρ) (X : Builder.Extra P ρ) {w0 : World} (a1 : List Str) (u1 : Value) (g1 : RO [] w0 u1 a1) (a2 : Str) (rr : Str) (hF : joinS a1 a2 = some rr) :
    Calls P (ρ.f 156) [u1, sv a2].toArray w0 fun e w' => ∃ v, e = .returned v ∧ Res w0 rr v w' := by
  unfold joinS at hF
  split at hF
  · rename_i h
    obtain rfl := Option.some.inj hF
    obtain ⟨p, cap, rfl, hc1, hc2, h3⟩ := ro_slice g1
    have none (e : a1 = []) : Calls P (ρ.f 156) [.slice p a1.length cap, sv a2].toArray w0 fun e w' => ∃ v, e = .returned v ∧ Res (α := Str) w0 (Lib.join a1 a2) v w' := by
      subst e
      refine (Any.strings_Join_none L X p cap (bytesOf a2) w0).mono ?_
      rintro e w' ⟨rfl, rfl⟩
      exact ⟨_, rfl, str_done (Below.refl _ _) _⟩
    rcases h3 with h3 | h3 | ⟨b, off, row, T, fz, cells, Fe, rfl, h4, -, h5, h6, -⟩
    · exact none h3.2.2
    · exact none h3.1
    have hcs := elems_str h5
    subst hcs
    have hmap : (a1.map bytesOf).map (·.data.toList) = a1 := by
      rw [List.map_map]
      conv => rhs; rw [← List.map_id a1]
      rfl
    have hJ := Any.strings_Join L X b off cap (a1.map bytesOf) (bytesOf a2) w0 (fun j x hx => by
      rw [List.getElem?_map] at hx
      cases hj : a1[j]? with
      | none => rw [hj] at hx; cases hx
      | some s =>
        rw [hj] at hx
        obtain rfl := Option.some.inj hx
        refine cell_row (k := a1.length * Rep.sz Str) h4 ?_
        rw [h6, List.getElem?_map, hj]; rfl) (Array.getElem?_eq_some_iff.1 h4).1 (by rw [List.length_map]; omega) (by rw [List.length_map]; exact hc1) (by rw [hmap]; exact Nat.le_trans h.2 (by decide))
    rw [hmap, List.length_map] at hJ
    refine hJ.mono ?_
    rintro e w' ⟨rfl, hB⟩
    exact ⟨_, rfl, str_done hB _⟩
  · cases hF
/-! a builder -/
theorem bldAt_below {T e : TypeId} {B b : Nat} {p : Value} {bs : List Value} {w w' : World} (h : Lib.BuilderAt T e B b p bs w) (hB : Below w.heap.size w w') : Lib.BuilderAt T e B b p bs w' := by
  obtain ⟨h1, v, h2, h3, h4⟩ := h
  exact ⟨h1, v, by rw [hB.block b (Array.getElem?_eq_some_iff.1 h2).1]; exact h2, h3.kept (row := none) ⟨hB.os, hB.tape, hB.output, hB.size, fun k hk _ => hB.block k hk⟩ (by cases v.ownBlock <;> simp), h4⟩
theorem bld_below {T e : TypeId} {B b : Nat} {bs : List Value} {w w' : World} (h : Lib.IsBuilder T e B b bs w) (hB : Below w.heap.size w w') : Lib.IsBuilder T e B b bs w' :=
  h.elim (fun h => .inl (bldAt_below h hB)) (fun h => .inr (bldAt_below h hB))
theorem bld_write (L : Lays.n166 P ρ) (X : Builder.Extra P ρ) {B b : Nat} {o s : Str} {w : World} (h : Lib.IsBuilder (ρ.t 72) (ρ.t 5) B b (Lib.byteCells o) w) (hl : List.length o + List.length s ≤ 140737488355328) (hB : B ≤ w.heap.size) :
    Calls P (ρ.f 166) [ptr b 0, sv s].toArray w fun e w' => ∃ v, e = .returned v ∧ (Lib.IsBuilder (ρ.t 72) (ρ.t 5) B b (Lib.byteCells (List.append o s)) w' ∧ Below B w w') := by
  refine (Any.Builder_WriteString L X B b _ (bytesOf s) w h ?_ hB).mono ?_
  · have e : (Lib.byteCells o).length = List.length o := by exact List.length_map _
    rw [e]; exact hl
  · rintro e w' ⟨rfl, h1, h2⟩
    refine ⟨_, rfl, .inr ?_, h2⟩
    have e1 : Lib.byteCells o ++ Lib.strCells (bytesOf s) = Lib.byteCells (List.append o s) := (List.map_append (l₁ := o) (l₂ := s)).symm
    rw [← e1]; exact h1
theorem bld_text (L : Lays.n169 P ρ) (X : Builder.Extra P ρ) {B b : Nat} {o : Str} {w : World} (h : Lib.IsBuilder (ρ.t 72) (ρ.t 5) B b (Lib.byteCells o) w) (hB : B ≤ w.heap.size) :
    Calls P (ρ.f 169) [ptr b 0].toArray w fun e w' => ∃ v, e = .returned v ∧ (v = sv o ∧ Below B w w') := by
  refine (Any.Builder_String_any L X B b o w h hB).mono ?_
  rintro e w' ⟨rfl, h1⟩
  exact ⟨_, rfl, rfl, h1⟩
end
section
variable {P : Program} {n : Nat} {l : Env} {w : World} {ops : Array Oper} {K : Env → World → Prop} {os : List Oper} {d : Nat} {T U : TypeId} {pos : String} {aft : Array Edge} {x y : Operand}
theorem WL_alloc_raw {z : Value} {cs : Array Value} (hz : ∀ w, (zeroValue U).run P w = .ok z w) (hcs : z.cells = cs) (hd : Nat.blt d n = true)
    (k : WL P n ops K os ((d, ptr w.heap.size 0) :: l) (w.alloc (.cells cs U))) : WL P n ops K (⟨some d, .alloc U, T, pos, aft, none⟩ :: os) l w := by
  refine WL_run (w' := w.alloc (.cells cs U)) rfl rfl hd (fun ρ hρ => ?_) k
  simp [execOp, Instr.alloc, newVar, newRow, ← hcs, hz]
theorem WL_store_all {t T' : TypeId} {row : Array Value} {new : List Value} {b : Nat} (hb : w.heap[b]? = some (.cells row T' (0, 0))) (hk : row.size = new.length) (h1 : ∀ v ∈ new, v.oneCell' = true)
    (hS : ∀ w, (sizeOf t).run P w = .ok new.length w) (hx : ev l x = some (ptr b 0)) (hy : ev l y = some (.agg new.toArray))
    (h : ∀ w', w'.heap[b]? = some (.cells new.toArray T' (0, 0)) → Keep [b] w w' → WL P n ops K os l w') : WL P n ops K (⟨none, .store t x y, T, pos, aft, none⟩ :: os) l w := by
  have hst := run_storeCells_at P b 0 T' new 0 row w hb (by omega) h1
  have e1 : (row.toList.take 0 ++ new ++ row.toList.drop (0 + new.length)).toArray = new.toArray := by
    rw [List.take_zero, List.nil_append, List.drop_of_length_le (by rw [Array.length_toList]; omega), List.append_nil]
  have hkp : Keep [b] w (w.setRow b new.toArray) := ⟨rfl, rfl, rfl, by simp, fun j hj hjb => setRow_other w b j _ (by simpa using hjb)⟩
  refine WL_run0 (w' := w.setRow b new.toArray) rfl rfl (fun ρ hρ => ?_) (h _ (setRow_heap _ _ _ _ _ _ hb) hkp)
  have e2 : (storeCells ⟨b, 0, none⟩ new).run P w = .ok () (w.setRow b new.toArray) := by rw [e1] at hst; simpa using hst
  simp [execOp, hρ x _ hx, hρ y _ hy, Instr.storeAt, Instr.sureAddr, storeVar, hS, Value.cells, e2]
end
end Go.Gx
