/- slices.DeleteFunc at owned slices: a row with a gap, its steps, and what comes out. Conditions: none. -/
import Derived.Test.YtbfmhlhjkbimmaaGreatDoorGxZ
set_option linter.unusedVariables false
set_option linter.unusedSimpArgs false
namespace Go.Gx
open Go.RowKit
section
variable {α β : Type} [Rep α] [Rep β] {P : Program} {w w0 w' : World} {t e : TypeId}
variable {n : Nat} {l : Env} {ops : Array Oper} {K : Env → World → Prop} {os : List Oper} {d : Nat} {T U : TypeId} {pos : String} {aft : Array Edge} {x y z : Operand} {v u c xv : Value} {D : List Nat} {As : List Item}

theorem Ctx.seen {A B : Item} (hC : Ctx D w0 w (A :: As)) (h : ∀ F, A.p w F → F.Nodup → ∃ F', B.p w F' ∧ F'.Sublist F) : Ctx D w0 w (B :: As) := by
 obtain ⟨k, _, ⟨F, Fs, rfl, hA, h1⟩, h2, h3⟩ := hC
 rw [List.flatten_cons] at h2 h3
 obtain ⟨F', hB, hs⟩ := h F hA (List.nodup_append.1 h2).1
 refine ⟨k, F' :: Fs, ⟨F', Fs, rfl, hB, h1⟩, ?_, fun b hb => h3 b ?_⟩
 ·rw [List.flatten_cons]; exact (hs.append_right _).nodup h2
 ·rw [List.flatten_cons] at hb; exact (hs.append_right _).subset hb
theorem ROAt.lent {b off : Nat} {a : α} {Fs : List (List Nat)} (h : ROAt D w0 b off a) (k : Keep D w0 w) (hF : ∀ b ∈ Fs.flatten, w0.heap.size ≤ b ∨ b ∈ D) : ROAt Fs.flatten w b off a := by
 have h' := h
 obtain ⟨hb, row, T, fz, F, h1, h2, h3⟩ := h
 have ap : ∀ c, c < w0.heap.size → c ∉ D → c ∉ Fs.flatten := fun c hc hd hm => by
  rcases hF c hm with h4 | h4
  ·omega
  ·exact hd h4
 have hbs := (Array.getElem?_eq_some_iff.1 h1).1
 exact ⟨ap b hbs hb, row, T, fz, F, by rw [k.block b hbs hb]; exact h1, Rep.frame h2 fun c hc => k.block c (Rep.inh h2 c hc) (h3 c hc), fun c hc => ap c (Rep.inh h2 c hc) (h3 c hc)⟩
end
end Go.Gx
