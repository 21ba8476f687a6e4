/- Library functions on texts as plain Lean: cut, split, trimmed, numbers read. Conditions: none. -/
import Derived.Test.YtbfmhlhjkbimmaaGreatDoorGxSd
import Derived.Lib.IndexMore
import Derived.Lib.SplitLaws
import Derived.Lib.Strings
import Derived.Lib.AtoiAll
set_option linter.unusedVariables false
namespace Go.Gx
def cutS (s t : Str) : Option (Str × Str × Bool) := if List.length s < 4294967281 then some (Lib.cut s t) else none
def hasSuffixS (s t : Str) : Option Bool := if List.length s < 4294967281 then some (Lib.hasSuffix s t) else none
def trimPrefixS (s t : Str) : Option Str := some (Lib.trimPrefix s t)
def trimSuffixS (s t : Str) : Option Str := if List.length s < 4294967281 then some (Lib.trimSuffix s t) else none
def splitS (s t : Str) : Option (List Str) := if List.length s < 4294967281 ∧ 1 ≤ List.length t then some (Lib.splitK t 0 (Lib.count s t) s) else none
def atoiP (s : Str) : Option (Int × Bool) := if List.length s < 4294967281 then some (match Lib.atoiAll s with | .ok v => (v, false) | .range => (Lib.atoiSat s, true) | _ => (0, true)) else none
end Go.Gx
