/- Data that is shared: slices that lead to memory of another owner, which stays as it was. Conditions: each says them. -/
import Derived.Test.YtpjmmbipjddilaaGreatGxHo
set_option linter.unusedVariables false
set_option linter.unusedSimpArgs false
namespace Go.Gx
open Go.RowKit
def Sh (D : List Nat) (w0 : World) (α : Type) : Type := α
instance {D : List Nat} {w0 : World} {α : Type} [r : Rep α] : Rep (Sh D w0 α) where
 sz := r.sz
 agg := r.agg
 rep m w cs a F := r.rep m w cs a F ∨ (F = [] ∧ ∃ G, r.rep false w0 cs a G ∧ ∀ b ∈ G, b ∉ D)
 len h := h.elim r.len fun ⟨_, G, h, _⟩ => r.len h
 one h := h.elim r.one fun ⟨_, G, h, _⟩ => r.one h
 one1 h := r.one1 h
 frame h hf := h.elim (fun h => .inl (r.frame h hf)) fun h => .inr h
 inh h b hb := h.elim (fun h => r.inh h b hb) fun ⟨e, _⟩ => by subst e; cases hb
 weak h := h.elim (fun h => .inl (r.weak h)) fun h => .inr h
section
variable {α β : Type} [Rep α] [Rep β] {D D' : List Nat} {wx w0 w : World} {v : Value} {As : List Item}
theorem Ctx.toSh {a : α} (D' : List Nat) (wx : World) (h : Ctx D w0 w (Item.own v a :: As)) : Ctx D w0 w (Item.own (α := Sh D' wx α) v a :: As) :=
 h.turn fun w F (hF : Val true w v a F) => by
  obtain ⟨cs, e, hc⟩ := hF
  exact ⟨F, ⟨cs, e, Or.inl hc⟩, List.Sublist.refl _⟩
theorem Ctx.pushSh {a : α} (h : Ctx D w0 w As) (g : RO D' wx v a) : Ctx D w0 w (Item.own (α := Sh D' wx α) v a :: As) := by
 obtain ⟨G, ⟨cs, e, hc⟩, hG⟩ := g
 exact h.push (A := Item.own (α := Sh D' wx α) v a) (F := []) (Below.refl _ _) ⟨cs, e, Or.inr ⟨rfl, G, hc, hG⟩⟩ (by simp) (by simp)
theorem sh_now {m : Bool} {w : World} {cs : List Value} {a : α} {F : List Nat} (h : Rep.rep (α := Sh D' wx α) m w cs a F) (k : Keep D' wx w) : ∃ G, Rep.rep (α := α) false w cs a G := by
 rcases h with h | ⟨_, G, h, hG⟩
 ·cases m
  ·exact ⟨F, h⟩
  ·exact ⟨F, Rep.weak h⟩
 ·exact ⟨G, Rep.frame h fun b hb => k.block b (Rep.inh h b hb) (hG b hb)⟩
end
abbrev Ch (D : List Nat) (w0 : World) : Type := Bool × (Int × Sh D w0 (List Int))
abbrev Cg : Type := Bool × (Int × List Int)
section
variable {D : List Nat} {w0 w : World} {v : Value} {As : List Item}
theorem ch_now {m : Bool} {cs : List Value} {a : Cg} {F : List Nat} (h : Rep.rep (α := Ch D w0) m w cs a F) (k : Keep D w0 w) : ∃ G, Rep.rep (α := Cg) false w cs a G := by
 obtain ⟨c1, c2, F1, F2, rfl, rfl, h1, c3, c4, F3, F4, rfl, rfl, h2, h3⟩ := h
 obtain ⟨G, hG⟩ := sh_now (α := List Int) h3 k
 have h1' : Rep.rep false w c1 a.1 F1 := by
  cases m
  ·exact h1
  ·exact Rep.weak h1
 have h2' : Rep.rep false w c3 a.2.1 F3 := by
  cases m
  ·exact h2
  ·exact Rep.weak h2
 exact ⟨_, c1, _, F1, _, rfl, rfl, h1', c3, c4, F3, G, rfl, rfl, h2', hG⟩
theorem chs_now (k : Keep D w0 w) : ∀ {cs : List Value} {l : List Cg} {m : Bool} {F : List Nat}, elems (α := Ch D w0) m w cs l F → ∃ G, elems (α := Cg) false w cs l G
 | _, [], _, _, ⟨rfl, _⟩ => ⟨[], rfl, rfl⟩
 | _, a :: l, _, _, ⟨c, cs', F1, F2, rfl, rfl, h1, h2⟩ => by
  obtain ⟨G1, g1⟩ := ch_now (a := a) h1 k
  obtain ⟨G2, g2⟩ := chs_now k h2
  exact ⟨G1 ++ G2, c, cs', G1, G2, rfl, rfl, g1, g2⟩
theorem Ctx.roCh {l : List Cg} (h : Ctx D w0 w As) (i : Nat) (hi : As[i]? = some (Item.own (α := List (Ch D w0)) v l)) : RO [] w v l := by
 obtain ⟨F, hF, hn, _⟩ := h.focus hi
 obtain ⟨cs, e, p, cap, rfl, h1, h2, h3⟩ := hF
 have hlen : @List.length (Ch D w0) l = @List.length Cg l := rfl
 rcases h3 with ⟨g1, g2, g3, g4⟩ | ⟨g1, _⟩ | ⟨b, off, row, T, fz, cells, Fe, rfl, h4, rfl, h5, h6, h7⟩
 ·exact ⟨[], ⟨_, e, p, cap, rfl, h1, h2, Or.inl ⟨g1, g2, g3, rfl⟩⟩, by simp⟩
 ·cases g1
 ·obtain ⟨G, hG⟩ := chs_now h.keep h5
  exact ⟨b :: G, ⟨_, e, _, cap, rfl, h1, h2, Or.inr (Or.inr ⟨b, off, row, T, fz, cells, G, rfl, h4, rfl, hG, h6, by simp⟩)⟩, by simp⟩
theorem own_ch {wx : World} {Dx : List Nat} (x0 : Bool) (x1 : Int) (v2 : Value) (x2 : List Int) (h : Ctx D w0 w (Item.own (α := Sh Dx wx (List Int)) v2 x2 :: As)) :
  Ctx D w0 w (Item.own (α := Ch Dx wx) (.agg #[.bool x0, .int .i64 x1, v2]) (x0, (x1, x2)) :: As) :=
 h.turn fun w F (hF : Val true w v2 (α := Sh Dx wx (List Int)) x2 F) => by
  obtain ⟨cs, e, hc⟩ := hF
  have hl : cs.length = 1 := Rep.len (α := Sh Dx wx (List Int)) hc
  match cs, hl with
  | [c], _ =>
   have e' : v2 = c := e
   subst e'
   exact ⟨F, ⟨[.bool x0, .int .i64 x1, v2], rfl, [_], _, [], F, rfl, rfl, ⟨rfl, rfl⟩, [_], _, [], F, rfl, rfl, ⟨rfl, rfl⟩, hc⟩, List.Sublist.refl _⟩
theorem ch_own {wx : World} {Dx : List Nat} {a : Cg} (h : Ctx D w0 w (Item.own (α := Ch Dx wx) v a :: As)) :
  ∃ v2, v = .agg #[.bool a.1, .int .i64 a.2.1, v2] ∧ Ctx D w0 w (Item.own (α := Sh Dx wx (List Int)) v2 a.2.2 :: As) := by
 obtain ⟨k, _, ⟨F, Gs, rfl, ⟨cs, rfl, c1, c2, F1, F2, rfl, rfl, ⟨rfl, rfl⟩, c3, c4, F3, F4, rfl, rfl, ⟨rfl, rfl⟩, h3⟩, hrest⟩, h4, h5⟩ := h
 have hl : c4.length = 1 := Rep.len (α := Sh Dx wx (List Int)) h3
 match c4, hl with
 | [c], _ => exact ⟨c, rfl, k, _, ⟨F4, Gs, rfl, ⟨[c], rfl, h3⟩, hrest⟩, by simpa using h4, fun b hb => h5 b (by simpa using hb)⟩
end
end Go.Gx
