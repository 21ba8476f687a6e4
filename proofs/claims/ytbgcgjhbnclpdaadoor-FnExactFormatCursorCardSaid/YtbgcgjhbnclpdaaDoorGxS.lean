/- Owned data lent to a call that may store into them; ends of functions without a result. Conditions: none. -/
import Derived.Test.YtbgcgjhbnclpdaaDoorGxQ
set_option linter.unusedVariables false
set_option linter.unusedSimpArgs false
namespace Go.Gx
open Go.RowKit
section
variable {α β : Type} [Rep α] [Rep β] {P : Program} {w w0 w' : World} {t e : TypeId}
variable {n : Nat} {l : Env} {ops : Array Oper} {K : Env → World → Prop} {os : List Oper} {d : Nat} {T U : TypeId} {pos : String} {aft : Array Edge} {x y z : Operand} {v u c xv : Value} {D : List Nat} {As Bs : List Item}

theorem RO.lent {a : α} {Fs : List (List Nat)} (h : RO D w0 v a) (k : Keep D w0 w) (hF : ∀ b ∈ Fs.flatten, w0.heap.size ≤ b ∨ b ∈ D) : RO Fs.flatten w v a := by
 have hi : ∃ F, Val false w0 v a F ∧ ∀ b ∈ F, b ∉ D := h
 obtain ⟨F, h1, h2⟩ := hi
 refine ⟨F, h1.frame fun b hb => k.block b (h1.inh b hb) (h2 b hb), fun b hb hb' => ?_⟩
 rcases hF b hb' with h3 | h3
 ·have := h1.inh b hb; omega
 ·exact h2 b hb h3
end
end Go.Gx
