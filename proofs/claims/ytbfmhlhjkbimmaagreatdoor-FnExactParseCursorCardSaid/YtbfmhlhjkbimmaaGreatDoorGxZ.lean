/- slices.Grow at nil; literals whose parts are only read. Conditions: none. -/
import Derived.Test.YtbfmhlhjkbimmaaGreatDoorGxY
import Derived.Lib.AppendZeros
set_option linter.unusedVariables false
set_option linter.unusedSimpArgs false
namespace Go.Gx
open Go.RowKit
def grow0 {α : Type} (n : Int) : Option (List α) := if 0 ≤ n ∧ n ≤ LIM then some [] else none
theorem grow0_some {α : Type} {n : Int} {r : List α} (h : grow0 n = some r) : ∃ m : Nat, n = m ∧ m ≤ LIM ∧ r = [] := by
  unfold grow0 at h
  split at h
  · rename_i hc; cases h; exact ⟨n.toNat, by omega, by omega, rfl⟩
  · cases h
section
variable {α β : Type} [Rep α] [Rep β] {P : Program} {w w0 w' : World} {t e : TypeId}
variable {n : Nat} {l : Env} {ops : Array Oper} {K : Env → World → Prop} {os : List Oper} {d : Nat} {T U : TypeId} {pos : String} {aft : Array Edge} {x y z : Operand} {v u c xv : Value} {D : List Nat} {As : List Item}
theorem WL_sl_nil0 {k1 : IntKind} (hu : P.underlying U = some (.slice e)) (hE : Ty P e α) (hd : Nat.blt d n = true) (hx : ev l x = some (.slice none 0 0)) (hy : ev l y = some (.int k1 ((0 : Nat) : Int)))
    (k : WL P n ops K os ((d, .slice none 0 0) :: l) w) : WL P n ops K (⟨some d, .slice U x none (some y) none, T, pos, aft, none⟩ :: os) l w :=
  WL_val rfl rfl hd (fun ρ hρ => by
    simp [execOp, hρ x _ hx, hρ y _ hy, Instr.sliceAt, Instr.slice, run_underlying hu, Instr.sliceBounds, Instr.sliceBound, asIntOf, hE.size]) k
theorem WL_zeros_nil {k0 : Nat} {tn : TypeId} {kn : IntKind} (hu : P.underlying U = some (.slice e)) (hE : Ty P e α) (hs : Nat.blt 0 (Rep.sz α) = true) (htn : P.underlying tn = some (.int kn)) (h0 : 0 < k0) (hlim : k0 ≤ LIM) (hd : Nat.blt d n = true) (hx : ev l x = some (.slice none 0 0)) (hy : ev l y = some (.int .i64 (k0 : Int)))
    (k : ∀ (c' : Nat) (row' : Array Value), row'.size = c' * Rep.sz α → k0 ≤ c' → c' ≤ maxLen → WL P n ops K os ((d, .slice (some ⟨w.heap.size, 0, none⟩) k0 c') :: l) (w.drew.alloc (.cells row' e))) :
    WL P n ops K (⟨some d, .call ⟨.builtin .append, #[x, y], #[U, tn]⟩, T, pos, aft, none⟩ :: os) l w := by
  rw [LIM_eq] at hlim
  obtain ⟨i, z, hi, hsz, hby, hz, hzs⟩ := hE.info
  have hb2 : k0 * i.bytes ≤ 281474976710656 := by
    have : k0 * i.bytes ≤ 4294967296 * 1024 := Nat.mul_le_mul hlim hby
    omega
  have hr := Go.Lib.run_append_nil_zeros (P := P) w U tn T e i z .i64 kn hu htn hi hz k0 h0 (by rw [hsz]; simpa [Nat.blt_eq] using hs) (by omega) hb2
  have hge := grownCap_ge w k0 0 e
  have hcm : grownCap w k0 0 e ≤ maxLen := grownCap_le_maxLen w _ 0 e (by simp only [maxLen]; omega)
  refine WL_run rfl rfl hd (fun ρ hρ => ?_) (k (grownCap w k0 0 e) (Builtin.zeroCells z.cells k0 ++ Builtin.zeroCells z.cells (grownCap w k0 0 e - k0)) ?_ hge hcm)
  · simp [execOp, resolve, invoke, builtin, hρ x _ hx, hρ y _ hy, hr]
  · simp only [Array.size_append, size_zeroCells, hzs, ← Nat.add_mul]
    congr 1
    omega
theorem own_empty {b c : Nat} {row : Array Value} {T : TypeId} (h4 : w.heap[b]? = some (.cells row T (0, 0))) (h8 : row.size = c * Rep.sz α) (h2 : c ≤ maxLen) : Val true w (.slice (some ⟨b, 0, none⟩) 0 c) ([] : List α) [b] :=
  slice_own (cells := []) (as := ([] : List α)) h4 ⟨rfl, rfl⟩ (by simp) h8 (Nat.zero_le _) h2

/-! a literal some of whose parts are only read -/
def RowRO (w : World) (cs : List Value) (as : List α) : Prop := ∃ F, elems false w cs as F
theorem rowro_nil : RowRO w [] ([] : List α) := ⟨[], rfl, rfl⟩
theorem rowro_cons {c cs : List Value} {a : α} {as : List α} (h : RepW w c a) (h' : RowRO w cs as) : RowRO w (c ++ cs) (a :: as) := by
  obtain ⟨F, h⟩ := h
  obtain ⟨G, h'⟩ := h'
  exact ⟨F ++ G, c, cs, F, G, rfl, rfl, h, h'⟩
theorem Ctx.litRO {b m : Nat} {cs : List Value} {as : List α} (hC : Ctx D w0 w As) (i : Nat) (hi : As[i]? = some (Item.box b cs)) (h : RowRO w cs as) (hm : as.length = m) (hl : m ≤ maxLen) (hp : m ≠ 0) : RO [] w (.slice (some ⟨b, 0, none⟩) m m) as := by
  obtain ⟨F, h⟩ := h
  obtain ⟨T, h4⟩ := hC.boxCell hi
  subst hm
  refine ⟨b :: F, ⟨[_], rfl, _, as.length, rfl, Nat.le_refl _, hl, .inr (.inr ⟨b, 0, cs.toArray, T, (0, 0), cs, F, rfl, h4, rfl, h, ?_, fun h => by cases h⟩)⟩, by simp⟩
  have := elems_len h
  rw [List.drop_zero, ← this, List.take_length]
end
end Go.Gx
