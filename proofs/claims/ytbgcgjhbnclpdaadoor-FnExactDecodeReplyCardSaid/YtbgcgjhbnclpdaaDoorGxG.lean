/- The arguments of a law: what a reading gives, as read-only facts. Conditions: none. -/
import Derived.Test.YtbgcgjhbnclpdaaDoorGxF
import Derived.ProofKit
import Derived.OpenShut
import Derived.Carry
set_option linter.unusedVariables false
set_option linter.unusedSimpArgs false
namespace Go.Gx
open Go.RowKit Go.ChangeShapes Go.WideShapes

class Rng (α : Type) where
 r : α → Prop
instance : Rng Int := ⟨fun n => -9223372036854775808 ≤ n ∧ n ≤ 9223372036854775807⟩
instance : Rng Bool := ⟨fun _ => True⟩
instance : Rng UInt8 := ⟨fun _ => True⟩
instance : Rng Str := ⟨fun s => List.length s ≤ maxLen⟩
instance {α : Type} [Rng α] : Rng (List α) := ⟨fun l => l.length ≤ maxLen ∧ ∀ a ∈ l, Rng.r a⟩
instance {α β : Type} [Rng α] [Rng β] : Rng (α × β) := ⟨fun a => Rng.r a.1 ∧ Rng.r a.2⟩

section
variable {P : Program} {α β : Type} [Rep α] [Rng α] [Rep β] [Rng β] {t e : TypeId}

end
end Go.Gx
