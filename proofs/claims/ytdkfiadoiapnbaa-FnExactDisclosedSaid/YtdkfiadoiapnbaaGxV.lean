/- Function values that catch variables, pointers to variables, unsigned numbers. Conditions: none. -/
import Derived.Test.YtdkfiadoiapnbaaGxU
set_option linter.unusedVariables false
set_option linter.unusedSimpArgs false
namespace Go.Gx
open Go.RowKit
section
variable {α β : Type} [Rep α] [Rep β] {P : Program} {w w0 w' wa : World} {t e : TypeId}
variable {n : Nat} {l : Env} {ops : Array Oper} {K : Env → World → Prop} {os : List Oper} {d : Nat} {T U V : TypeId} {pos : String} {aft : Array Edge} {x y z : Operand} {v u c xv : Value} {D : List Nat} {As Bs : List Item} {g : Option (Nat × Bool)}

variable {a b : Int}
end
end Go.Gx
