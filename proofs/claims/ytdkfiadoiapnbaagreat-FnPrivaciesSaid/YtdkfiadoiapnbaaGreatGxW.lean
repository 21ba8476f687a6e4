/- slices.Insert at owned slices: its steps on raw slices, and what comes out. Conditions: none. -/
import Derived.Test.YtdkfiadoiapnbaaGreatGxV
import Derived.Lib.AppendZerosOnto
import Derived.Lib.Overlaps
set_option linter.unusedVariables false
set_option linter.unusedSimpArgs false
namespace Go.Gx
open Go.RowKit

section
variable {α : Type} [Rep α] {P : Program} {w w0 w' : World} {t e : TypeId}
theorem elems_split {m : Bool} {w : World} : ∀ {l : List α} {cs : List Value} {F : List Nat}, elems m w cs l F → ∀ k, k ≤ l.length → ∃ F1 F2, F = F1 ++ F2 ∧ elems m w (cs.take (k * Rep.sz α)) (l.take k) F1 ∧ elems m w (cs.drop (k * Rep.sz α)) (l.drop k) F2
 | l, cs, F, h, 0, _ => ⟨[], F, rfl, by simp [elems], by simpa using h⟩
 | a :: l, _, _, ⟨c, cs', F1, F2, rfl, rfl, h1, h2⟩, k + 1, hk => by
  obtain ⟨G1, G2, rfl, h3, h4⟩ := elems_split h2 k (by simpa using hk)
  have hl := Rep.len h1
  have e1 : (c ++ cs').take ((k + 1) * Rep.sz α) = c ++ cs'.take (k * Rep.sz α) := by
   rw [Nat.add_mul, Nat.one_mul, Nat.add_comm, ← hl, List.take_append, List.take_of_length_le (by omega)]
   congr 2; omega
  have e2 : (c ++ cs').drop ((k + 1) * Rep.sz α) = cs'.drop (k * Rep.sz α) := by
   rw [Nat.add_mul, Nat.one_mul, Nat.add_comm, ← hl, List.drop_append, List.drop_of_length_le (by omega), List.nil_append]
   congr 1; omega
  refine ⟨F1 ++ G1, G2, by simp, ?_, ?_⟩
  ·rw [e1]; exact ⟨c, _, F1, G1, rfl, rfl, h1, h3⟩
  ·rw [e2]; exact h4
 | [], _, _, _, k + 1, hk => by simp at hk

variable {n : Nat} {l : Env} {ops : Array Oper} {K : Env → World → Prop} {os : List Oper} {d : Nat} {T U : TypeId} {pos : String} {aft : Array Edge} {x y z : Operand} {v u c xv : Value} {D : List Nat} {As : List Item} {g : Option (Nat × Bool)}

theorem run_sl_l {b off m cp lo : Nat} {k1 : IntKind} {ds : Option Nat} (hu : P.underlying U = some (.slice e)) (hE : Ty P e α) (h1 : lo < cp) (h2 : lo ≤ m) (h3 : m ≤ cp) (ρ : Operand → Value) (hx : ρ x = .slice (some ⟨b, off, none⟩) m cp) (hy : ρ y = .int k1 (lo : Int)) :
  (execOp ρ ⟨ds, .slice U x (some y) none none, T, pos, aft, g⟩).run P w = .ok (.value (.slice (some ⟨b, off + lo * Rep.sz α, none⟩) (m - lo) (cp - lo))) w := by
 have h4 : ¬ (cp = lo) := by omega
 simp [execOp, hx, hy, Instr.sliceAt, Instr.slice, run_underlying hu, Instr.sliceBounds, Instr.sliceBound, asIntOf, hE.size, h2, h3, h4, ptr_add]
theorem WL_sl_l {b off m cp lo : Nat} {k1 : IntKind} (hu : P.underlying U = some (.slice e)) (hE : Ty P e α) (h1 : lo < cp) (h2 : lo ≤ m) (h3 : m ≤ cp) (hd : Nat.blt d n = true) (hx : ev l x = some (.slice (some ⟨b, off, none⟩) m cp)) (hy : ev l y = some (.int k1 (lo : Int)))
  (k : WL P n ops K os ((d, .slice (some ⟨b, off + lo * Rep.sz α, none⟩) (m - lo) (cp - lo)) :: l) w) : WL P n ops K (⟨some d, .slice U x (some y) none none, T, pos, aft, none⟩ :: os) l w :=
 WL_val rfl rfl hd (fun ρ hρ => run_sl_l hu hE h1 h2 h3 ρ (hρ x _ hx) (hρ y _ hy)) k
theorem WL_sl_h {b off m cp hi : Nat} {k1 : IntKind} (hu : P.underlying U = some (.slice e)) (hE : Ty P e α) (h1 : hi ≤ cp) (h0 : 0 < cp) (hd : Nat.blt d n = true) (hx : ev l x = some (.slice (some ⟨b, off, none⟩) m cp)) (hy : ev l y = some (.int k1 (hi : Int)))
  (k : WL P n ops K os ((d, .slice (some ⟨b, off, none⟩) hi cp) :: l) w) : WL P n ops K (⟨some d, .slice U x none (some y) none, T, pos, aft, none⟩ :: os) l w :=
 WL_val rfl rfl hd (fun ρ hρ => by
  have h4 : ¬ (cp = 0) := by omega
  simp [execOp, hρ x _ hx, hρ y _ hy, Instr.sliceAt, Instr.slice, run_underlying hu, Instr.sliceBounds, Instr.sliceBound, asIntOf, hE.size, h1, h4, ptr_add]) k
theorem Keep.row {b : Nat} {cs : Array Value} {wa wb : World} (h : Keep [b] wa wb) : Keep [b] wa (wb.setRow b cs) :=
 ⟨h.os, h.tape, h.output, by rw [setRow_size]; exact h.size, fun k hk hkb => by rw [setRow_other _ _ _ _ (by simpa using hkb)]; exact h.block k hk hkb⟩
end
end Go.Gx
