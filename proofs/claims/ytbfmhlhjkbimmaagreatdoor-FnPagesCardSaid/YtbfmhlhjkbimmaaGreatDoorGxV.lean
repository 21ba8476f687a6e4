/- Function values that catch variables, pointers to variables, unsigned numbers. Conditions: none. -/
import Derived.Test.YtbfmhlhjkbimmaaGreatDoorGxU
set_option linter.unusedVariables false
set_option linter.unusedSimpArgs false
namespace Go.Gx
open Go.RowKit
section
variable {α β : Type} [Rep α] [Rep β] {P : Program} {w w0 w' wa : World} {t e : TypeId}
variable {n : Nat} {l : Env} {ops : Array Oper} {K : Env → World → Prop} {os : List Oper} {d : Nat} {T U V : TypeId} {pos : String} {aft : Array Edge} {x y z : Operand} {v u c xv : Value} {D : List Nat} {As Bs : List Item} {g : Option (Nat × Bool)}

theorem Ctx.push2 (h : Ctx D w0 w As) (h' : Ctx [] w w' Bs) : Ctx D w0 w' (Bs ++ As) := by
 obtain ⟨k', Fs, g1, g2, g3⟩ := h'
 exact h.pushL k'.below g1 g2 fun b hb => (g3 b hb).resolve_right (by simp)

variable {a b : Int}
theorem WL_nilCheck {b off : Nat} (hd : Nat.blt d n = true) (hx : ev l x = some (ptr b off)) (k : WL P n ops K os ((d, ptr b off) :: l) w) : WL P n ops K (⟨some d, .nilCheck x, T, pos, aft, none⟩ :: os) l w :=
 WL_val rfl rfl hd (fun ρ hρ => by simp [execOp, hρ x _ hx]) k
theorem fl_nilCheck {b off : Nat} (hx : ev l x = some (ptr b off)) : Fl P l (⟨some d, .nilCheck x, T, pos, aft, g⟩) :=
 ⟨ptr b off, fun w ρ hρ => by simp [execOp, hρ x _ hx]⟩
end
end Go.Gx
