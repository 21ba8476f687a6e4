/- Elements of owned slices that are opened and moved out, one after the other; stores into new variables leave older facts as they are. Conditions: none. -/
import Derived.Test.YtpjmmbipjddilaaGreatGxEq
set_option linter.unusedVariables false
set_option linter.unusedSimpArgs false
namespace Go.Gx
open Go.RowKit
section
variable {α β : Type} [Rep α] [Rep β] {P : Program} {w w0 w' : World} {t e : TypeId}
variable {n : Nat} {l : Env} {ops : Array Oper} {K : Env → World → Prop} {os : List Oper} {d : Nat} {T U : TypeId} {pos : String} {aft : Array Edge} {x y z : Operand} {v u c xv : Value} {D : List Nat} {As Bs : List Item} {g : Option (Nat × Bool)}

theorem Keep.over {D : List Nat} {w w1 w2 : World} {b : Nat} (h : Keep D w w1) (hb : w.heap.size ≤ b) (h2 : Keep [b] w1 w2) : Keep D w w2 :=
 h.trans h2 fun c hc => .inl (by rw [List.mem_singleton.1 hc]; exact hb)
theorem WL_boxK {cs : List Value} (hC : Ctx D w0 w As) (hcs : v.cells.toList = cs) (hd : Nat.blt d n = true) (hx : ev l x = some v)
  (k : ∀ b w', Ctx D w0 w' (Item.box b cs :: As) → Below w.heap.size w w' → w.heap.size ≤ b → WL P n ops K os ((d, ptr b 0) :: l) w') : WL P n ops K (⟨some d, .box U x, T, pos, aft, none⟩ :: os) l w := by
 have e : v.cells = cs.toArray := by rw [← hcs]
 refine WL_run (w' := w.alloc (.cells cs.toArray U)) rfl rfl hd (fun ρ hρ => ?_) (k w.heap.size _ (hC.box (b := 0)) (below_alloc w _) (Nat.le_refl _))
 simp [execOp, hρ x _ hx, Instr.box, newVar, newRow, e]
theorem WL_allocK {z : Value} {cs : List Value} (hC : Ctx D w0 w As) (hz : ∀ w, (zeroValue U).run P w = .ok z w) (hcs : z.cells.toList = cs) (hd : Nat.blt d n = true)
  (k : ∀ b w', Ctx D w0 w' (Item.box b cs :: As) → Below w.heap.size w w' → w.heap.size ≤ b → WL P n ops K os ((d, ptr b 0) :: l) w') : WL P n ops K (⟨some d, .alloc U, T, pos, aft, none⟩ :: os) l w := by
 have e : z.cells = cs.toArray := by rw [← hcs]
 refine WL_run (w' := w.alloc (.cells cs.toArray U)) rfl rfl hd (fun ρ hρ => ?_) (k w.heap.size _ (hC.box (b := 0)) (below_alloc w _) (Nat.le_refl _))
 simp [execOp, Instr.alloc, newVar, newRow, e, hz]
theorem WL_store_boxK {t : TypeId} {cs cs' : List Value} {b k : Nat} (hC : Ctx D w0 w As) (i : Nat) (hi : As[i]? = some (Item.box b cs)) (hk : Nat.blt k cs.length = true) (h1 : c.oneCell' = true) (hcs : cs.set k c = cs') (hS : ∀ w, (sizeOf t).run P w = .ok 1 w)
  (hx : ev l x = some (ptr b k)) (hy : ev l y = some c)
  (h : ∀ w', Ctx D w0 w' (As.set i (Item.box b cs')) → Keep [b] w w' → WL P n ops K os l w') : WL P n ops K (⟨none, .store t x y, T, pos, aft, none⟩ :: os) l w := by
 obtain ⟨T', hb⟩ := hC.boxCell hi
 have hk' : k < cs.length := by simpa [Nat.blt_eq] using hk
 have hcell : w.cell? ⟨b, k, none⟩ = some cs[k] := by simp [World.cell?, hb, hk']
 have hfr : w.frozen? ⟨b, k, none⟩ = false := by simp [World.frozen?, hb]
 have hst := run_store P w ⟨b, k, none⟩ c .plain h1
 rw [hcell, hfr] at hst
 have hkp : Keep [b] w (w.setCell ⟨b, k, none⟩ c) := ⟨rfl, rfl, rfl, by simp, fun j hj hjb => Below.heap_setCell _ _ _ _ (by simpa using hjb)⟩
 refine WL_run0 (w' := w.setCell ⟨b, k, none⟩ c) rfl rfl (fun ρ hρ => ?_) (h _ (hC.setBox hi (T := T') hkp ?_) hkp)
 ·have e : c.cells = #[c] := cells_one h1
  simp [execOp, hρ x _ hx, hρ y _ hy, Instr.storeAt, Instr.sureAddr, storeVar, hS, e, storeCells, ptr_add, hst]
 ·simp [World.setCell, hb, Array.getElem?_modify, ← hcs]
theorem WL_store_box_aggK {t : TypeId} {cs cs' new : List Value} {b k : Nat} (hC : Ctx D w0 w As) (i : Nat) (hi : As[i]? = some (Item.box b cs)) (hk : Nat.ble (k + new.length) cs.length = true) (h1 : ∀ v ∈ new, v.oneCell' = true) (hcs : cs.take k ++ new ++ cs.drop (k + new.length) = cs')
  (hS : ∀ w, (sizeOf t).run P w = .ok new.length w) (hx : ev l x = some (ptr b k)) (hy : ev l y = some (.agg new.toArray))
  (h : ∀ w', Ctx D w0 w' (As.set i (Item.box b cs')) → Keep [b] w w' → WL P n ops K os l w') : WL P n ops K (⟨none, .store t x y, T, pos, aft, none⟩ :: os) l w := by
 obtain ⟨T', hb⟩ := hC.boxCell hi
 have hk' : k + new.length ≤ cs.length := by simpa using hk
 have hst := run_storeCells_at P b k T' new 0 cs.toArray w hb (by simpa using hk') h1
 simp only [Nat.add_zero] at hst
 have hkp : Keep [b] w (w.setRow b (cs.take k ++ new ++ cs.drop (k + new.length)).toArray) := ⟨rfl, rfl, rfl, by simp, fun j hj hjb => setRow_other w b j _ (by simpa using hjb)⟩
 refine WL_run0 (w' := w.setRow b (cs.take k ++ new ++ cs.drop (k + new.length)).toArray) rfl rfl (fun ρ hρ => ?_) (h _ (hC.setBox hi (T := T') hkp ?_) hkp)
 ·have e2 : (storeCells ⟨b, k, none⟩ new).run P w = .ok () (w.setRow b (cs.take k ++ new ++ cs.drop (k + new.length)).toArray) := by simpa using hst
  simp [execOp, hρ x _ hx, hρ y _ hy, Instr.storeAt, Instr.sureAddr, storeVar, hS, Value.cells, e2]
 ·rw [hcs]; exact setRow_heap w b cs.toArray _ T' _ hb

def Item.rest (v : Value) (as : List α) (i : Nat) : Item :=
 ⟨fun w F => (v = .slice none 0 0 ∧ as = [] ∧ F = []) ∨ ∃ b cap row T c1 c2 F2, v = .slice (some ⟨b, 0, none⟩) as.length cap ∧ w.heap[b]? = some (.cells row T (0, 0)) ∧ F = b :: F2 ∧ c1.length = i * Rep.sz α ∧ elems true w c2 (as.drop i) F2 ∧
   row.toList.take (as.length * Rep.sz α) = c1 ++ c2 ∧ row.size = cap * Rep.sz α ∧ as.length ≤ cap ∧ cap ≤ maxLen,
  fun h hf => h.imp id fun ⟨b, cap, row, T, c1, c2, F2, h1, h2, h3, h4, h5, h6⟩ => ⟨b, cap, row, T, c1, c2, F2, h1, by rw [hf b (by simp [h3])]; exact h2, h3, h4, elems_frame h5 fun c hc => hf c (by simp [h3, hc]), h6⟩,
  fun h c hc => by
   rcases h with ⟨_, _, rfl⟩ | ⟨b, cap, row, T, c1, c2, F2, h1, h2, h3, h4, h5, h6⟩
   ·cases hc
   ·subst h3
    rcases List.mem_cons.1 hc with rfl | hc
    ·exact (Array.getElem?_eq_some_iff.1 h2).1
    ·exact elems_inh h5 c hc⟩
end
section
variable {P : Program} {fn : Func} {R : Ending → World → Prop} {l : Env} {w : World}
theorem fn_retG7 {r1 r2 r3 r4 r5 r6 r7 : ResultVar} {v1 v2 v3 v4 v5 v6 v7 : Value} (hr : fn.results = #[r1, r2, r3, r4, r5, r6, r7]) (h1 : RVal P fn.ntmps r1 l w v1) (h2 : RVal P fn.ntmps r2 l w v2) (h3 : RVal P fn.ntmps r3 l w v3) (h4 : RVal P fn.ntmps r4 l w v4) (h5 : RVal P fn.ntmps r5 l w v5) (h6 : RVal P fn.ntmps r6 l w v6) (h7 : RVal P fn.ntmps r7 l w v7) (h : R (.returned (.tuple #[v1, v2, v3, v4, v5, v6, v7])) w) : fnPost P fn R .ret l w :=
 ⟨_, fun a ha => by have g1 := h1 a ha; have g2 := h2 a ha; have g3 := h3 a ha; have g4 := h4 a ha; have g5 := h5 a ha; have g6 := h6 a ha; have g7 := h7 a ha; rw [results_rvg, hr]; simp [g1, g2, g3, g4, g5, g6, g7], h⟩
end
section
variable {α β : Type} [Rep α] [Rep β] {P : Program} {w w0 w' : World} {t e : TypeId}
variable {n : Nat} {l : Env} {ops : Array Oper} {K : Env → World → Prop} {os : List Oper} {d : Nat} {T U : TypeId} {pos : String} {aft : Array Edge} {x y z : Operand} {v u c xv : Value} {D : List Nat} {As Bs : List Item} {g : Option (Nat × Bool)}
end
end Go.Gx
