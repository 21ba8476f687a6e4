/- Elements of owned slices: cells as data, stores into an opened element. Conditions: none. -/
import Derived.Test.YtpjmmbipjddilaaGreatGxM
set_option linter.unusedVariables false
set_option linter.unusedSimpArgs false
namespace Go.Gx
open Go.RowKit
section
variable {α β : Type} [Rep α] [Rep β] {P : Program} {w w0 w' : World} {t e : TypeId}
variable {n : Nat} {l : Env} {ops : Array Oper} {K : Env → World → Prop} {os : List Oper} {d : Nat} {T U : TypeId} {pos : String} {aft : Array Edge} {x y z : Operand} {v u c xv : Value} {D : List Nat} {As Bs : List Item}

end
end Go.Gx
