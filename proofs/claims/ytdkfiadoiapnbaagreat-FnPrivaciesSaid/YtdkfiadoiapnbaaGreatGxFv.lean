/- Function values that lie in variables: what such a variable holds. Conditions: each says them. -/
import Derived.Test.YtdkfiadoiapnbaaGreatGxHo
set_option linter.unusedVariables false
set_option linter.unusedSimpArgs false
namespace Go.Gx
open Go.RowKit
structure RawF (f : Nat) (cs : List Value) where
 mk ::
instance (f : Nat) (caps : List Value) : Rep (RawF f caps) where
 sz := 1
 agg := false
 rep _ _ cs _ F := cs = [.func (.func f) #[] caps.toArray] ∧ F = []
 len h := by rw [h.1]; rfl
 one h v hv := by rw [h.1] at hv; simp at hv; subst hv; rfl
 one1 _ := rfl
 frame h _ := h
 inh h b hb := by rw [h.2] at hb; cases hb
 weak h := h
theorem ro_raw {D : List Nat} {w : World} {v : Value} {f : Nat} {cs : List Value} {a : RawF f cs} (h : RO D w v a) : v = .func (.func f) #[] cs.toArray := by
 obtain ⟨F, ⟨c, rfl, rfl, rfl⟩, _⟩ := h
 rfl
theorem repw_raw {w : World} {f : Nat} {cs : List Value} : RepW w [.func (.func f) #[] cs.toArray] (RawF.mk : RawF f cs) := ⟨[], rfl, rfl⟩
theorem cells_of_int {cs : List Value} {x : Int} (h : cs.length = Rep.sz Int) (e : mkv (Rep.agg Int) cs = .int .i64 x) : cs = [.int .i64 x] := by
 match cs, h with
 | [c], _ => exact congrArg (· :: []) e
end Go.Gx
