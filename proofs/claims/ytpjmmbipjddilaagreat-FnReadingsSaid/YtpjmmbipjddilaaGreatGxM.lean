/- Owned data lent to a call; elements of owned slices opened and closed again. Conditions: none. -/
import Derived.Test.YtpjmmbipjddilaaGreatGxK
set_option linter.unusedVariables false
set_option linter.unusedSimpArgs false
namespace Go.Gx
open Go.RowKit
section
variable {α β : Type} [Rep α] [Rep β] {P : Program} {w w0 w' : World} {t e : TypeId}
variable {n : Nat} {l : Env} {ops : Array Oper} {K : Env → World → Prop} {os : List Oper} {d : Nat} {T U : TypeId} {pos : String} {aft : Array Edge} {x y z : Operand} {v u c xv : Value} {D : List Nat} {As Bs : List Item}

theorem Ctx.startIn {Fs : List (List Nat)} (h : Hold Bs w Fs) (hn : Fs.flatten.Nodup) : Ctx Fs.flatten w w Bs :=
 ⟨Keep.refl _ _, Fs, h, hn, fun b hb => .inr hb⟩
theorem Hold.parted : ∀ {Bs As : List Item} {w : World} {Hs : List (List Nat)}, Hold (Bs ++ As) w Hs → ∃ Fs Gs, Hs = Fs ++ Gs ∧ Hold Bs w Fs ∧ Hold As w Gs
 | [], As, w, Hs, h => ⟨[], Hs, rfl, rfl, h⟩
 | B :: Bs, As, w, _, ⟨F, Fs', rfl, h1, h2⟩ => by
  obtain ⟨Fs, Gs, rfl, h3, h4⟩ := h2.parted
  exact ⟨F :: Fs, Gs, rfl, ⟨F, Fs, rfl, h1, h3⟩, h4⟩
end
end Go.Gx
