/- slices.Insert at owned slices: its steps on raw slices, and what comes out. Conditions: none. -/
import Derived.Test.YtbfmhlhjkbimmaaGreatDoorGxV
import Derived.Lib.AppendZerosOnto
import Derived.Lib.Overlaps
set_option linter.unusedVariables false
set_option linter.unusedSimpArgs false
namespace Go.Gx
open Go.RowKit

section
variable {α : Type} [Rep α] {P : Program} {w w0 w' : World} {t e : TypeId}
variable {n : Nat} {l : Env} {ops : Array Oper} {K : Env → World → Prop} {os : List Oper} {d : Nat} {T U : TypeId} {pos : String} {aft : Array Edge} {x y z : Operand} {v u c xv : Value} {D : List Nat} {As : List Item} {g : Option (Nat × Bool)}

theorem Keep.row {b : Nat} {cs : Array Value} {wa wb : World} (h : Keep [b] wa wb) : Keep [b] wa (wb.setRow b cs) :=
 ⟨h.os, h.tape, h.output, by rw [setRow_size]; exact h.size, fun k hk hkb => by rw [setRow_other _ _ _ _ (by simpa using hkb)]; exact h.block k hk hkb⟩
end
end Go.Gx
