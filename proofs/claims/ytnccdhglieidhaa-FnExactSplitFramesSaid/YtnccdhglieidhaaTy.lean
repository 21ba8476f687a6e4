/- The types of the seat, as the library wants them. Conditions: none. -/
import Derived.Test.YtnccdhglieidhaaGxX
import Derived.Test.YtnccdhglieidhaaProg
set_option linter.unusedVariables false
set_option linter.unusedSimpArgs false
namespace Go.Gx.Px
open Go.Proofs
theorem hmix : Try.prog.follows .mixedOrders = true := by kernel_rfl
theorem ty5 : Ty Try.prog 5 UInt8 := ⟨Try.isAgg5, Try.sizeOf5, Try.t5, _, by kernel_rfl, rfl, by decide, rfl, rfl⟩
theorem ty9 : Ty Try.prog 9 Str := ⟨Try.isAgg9, Try.sizeOf9, Try.t9, _, by kernel_rfl, rfl, by decide, rfl, rfl⟩
end Go.Gx.Px
