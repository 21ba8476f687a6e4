/- The first two elements of an owned slice, taken out. Conditions: none. -/
import Derived.Test.YtngpabaocflipaaGreatGxHo
set_option linter.unusedVariables false
set_option linter.unusedSimpArgs false
namespace Go.Gx
open Go.RowKit
section
variable {α β : Type} [Rep α] [Rep β] {P : Program} {w w0 w' : World} {t e : TypeId}
variable {n : Nat} {l : Env} {ops : Array Oper} {K : Env → World → Prop} {os : List Oper} {d : Nat} {T U : TypeId} {pos : String} {aft : Array Edge} {x y z : Operand} {v u c xv : Value} {D : List Nat} {As Bs : List Item} {g : Option (Nat × Bool)}
def Item.pair (v : Value) (as : List α) (c0 c1 : List Value) : Item :=
 ⟨fun w F => ∃ b cap row T c2 F2, v = .slice (some ⟨b, 0, none⟩) as.length cap ∧ w.heap[b]? = some (.cells row T (0, 0)) ∧ F = b :: F2 ∧ c0.length = Rep.sz α ∧ c1.length = Rep.sz α ∧ elems true w c2 (as.drop 2) F2 ∧ 1 < as.length ∧
   row.toList.take (as.length * Rep.sz α) = c0 ++ (c1 ++ c2),
  fun h hf => by
   obtain ⟨b, cap, row, T, c2, F2, h1, h2, h3, h4, h4', h5, h6⟩ := h
   exact ⟨b, cap, row, T, c2, F2, h1, by rw [hf b (by simp [h3])]; exact h2, h3, h4, h4', elems_frame h5 fun c hc => hf c (by simp [h3, hc]), h6⟩,
  fun ⟨b, cap, row, T, c2, F2, h1, h2, h3, h4, h4', h5, h6⟩ c hc => by
   subst h3
   rcases List.mem_cons.1 hc with rfl | hc
   ·exact (Array.getElem?_eq_some_iff.1 h2).1
   ·exact elems_inh h5 c hc⟩
theorem Ctx.openPair {as : List α} {a0 a1 : α} (h : Ctx D w0 w (Item.own v as :: As)) (h0 : idx as 0 = some a0) (h1 : idx as 1 = some a1) : ∃ b c0 c1, EB v b ∧ Ctx D w0 w (Item.cells c0 a0 :: Item.cells c1 a1 :: Item.pair v as c0 c1 :: As) := by
 obtain ⟨k, _, ⟨F, Fs, rfl, hA, hH⟩, h2, h3⟩ := h
 obtain ⟨_, hlt, hg⟩ := idx_some h1
 obtain ⟨_, _, hg0⟩ := idx_some h0
 have hlt : 1 < as.length := hlt
 have hd : as = a0 :: a1 :: as.drop 2 := by
  match as, hlt, hg, hg0 with
  | x :: y :: r, _, hg, hg0 => simp at hg hg0; subst hg; subst hg0; rfl
 rcases own_slice hA with ⟨_, rfl, _⟩ | ⟨b, cap, row, T, cells, Fe, rfl, h4, rfl, h6, h7, h8, h9, h10⟩
 ·simp at hlt
 ·rw [hd] at h6
  obtain ⟨c0, cs', F0, F1', rfl, rfl, g0, c1, c2, F1, F2, rfl, rfl, g1, g2⟩ := h6
  have hp : (F0 ++ (F1 ++ ((b :: F2) ++ Fs.flatten))).Perm ((b :: (F0 ++ (F1 ++ F2))) ++ Fs.flatten) := by
   have e : (b :: (F0 ++ (F1 ++ F2))) ++ Fs.flatten = b :: (F0 ++ (F1 ++ (F2 ++ Fs.flatten))) := by simp
   rw [e]
   exact ((List.perm_middle (l₁ := F1)).append_left F0).trans List.perm_middle
  refine ⟨b, c0, c1, ⟨_, _, rfl⟩, k, F0 :: F1 :: (b :: F2) :: Fs, ⟨F0, _, rfl, g0, F1, _, rfl, g1, _, Fs, rfl, ⟨b, cap, row, T, c2, F2, rfl, h4, rfl, Rep.len g0, Rep.len g1, g2, hlt, h7⟩, hH⟩, ?_, fun x hx => h3 x ?_⟩
  ·simp only [List.flatten_cons] at h2 ⊢
   exact hp.nodup_iff.2 h2
  ·simp only [List.flatten_cons] at hx ⊢
   exact hp.mem_iff.1 hx
theorem pair_vb {as : List α} {b : Nat} {c0 c1 : List Value} {k : Nat} (hC : Ctx D w0 w As) (hk : As[k]? = some (Item.pair v as c0 c1)) (hb : EB v b) : ∃ cap, v = .slice (some ⟨b, 0, none⟩) as.length cap := by
 obtain ⟨F, b', cap, row, T', c2, F2, hv, _⟩ := hC.get hk
 obtain ⟨len, cap', rfl⟩ := hb
 simp only [Value.slice.injEq, Option.some.injEq, Addr.mk.injEq] at hv
 obtain ⟨⟨rfl, _⟩, rfl, rfl⟩ := hv
 exact ⟨_, rfl⟩
theorem WL_index_pair {as : List α} {i : Int} {a : α} {b : Nat} {c0 c1 : List Value} {kd : IntKind} (hC : Ctx D w0 w As) (k : Nat) (hk : As[k]? = some (Item.pair v as c0 c1)) (hu : P.underlying U = some (.slice e)) (hE : Ty P e α) (hb : EB v b) (hi : idx as i = some a) (hd : Nat.blt d n = true)
  (hx : ev l x = some v) (hy : ev l y = some (.int kd i)) (h : WL P n ops K os ((d, ptr b (Int.toNat i * Rep.sz α)) :: l) w) : WL P n ops K (⟨some d, .indexAddr U x y, T, pos, aft, none⟩ :: os) l w := by
 obtain ⟨cap, rfl⟩ := pair_vb hC hk hb
 exact WL_val rfl rfl hd (fun ρ hρ => run_index_at hu hE hi (hρ x _ hx) (hρ y _ hy)) h
theorem fl_index_pair {as : List α} {i : Int} {a : α} {b : Nat} {c0 c1 : List Value} {kd : IntKind} (hC : Ctx D w0 w As) (k : Nat) (hk : As[k]? = some (Item.pair v as c0 c1)) (hu : P.underlying U = some (.slice e)) (hE : Ty P e α) (hb : EB v b) (hi : idx as i = some a)
  (hx : ev l x = some v) (hy : ev l y = some (.int kd i)) : Fl P l (⟨some d, .indexAddr U x y, T, pos, aft, g⟩) := by
 obtain ⟨cap, rfl⟩ := pair_vb hC hk hb
 exact ⟨_, fun w ρ hρ => run_index_at hu hE hi (hρ x _ hx) (hρ y _ hy)⟩
theorem pair_cell {as : List α} {b : Nat} {c0 c1 : List Value} {k : Nat} (hC : Ctx D w0 w As) (hk : As[k]? = some (Item.pair v as c0 c1)) (hb : EB v b) : ∀ (fo : Nat) c, (c0 ++ c1)[fo]? = some c → w.cell? ⟨b, fo, none⟩ = some c := by
 intro fo c hc
 obtain ⟨F, b', cap, row, T', c2, F2, hv, h2, h3, h4, h4', h5, h6, h7⟩ := hC.get hk
 obtain ⟨len, cap', rfl⟩ := hb
 simp only [Value.slice.injEq, Option.some.injEq, Addr.mk.injEq] at hv
 obtain ⟨⟨rfl, _⟩, rfl, rfl⟩ := hv
 have hfo : fo < (c0 ++ c1).length := (List.getElem?_eq_some_iff.1 hc).1
 have e : (row.toList.take (as.length * Rep.sz α))[fo]? = some c := by
  rw [h7, ← List.append_assoc, List.getElem?_append_left hfo, hc]
 rw [List.getElem?_take] at e
 split at e
 ·simp only [World.cell?, h2]; simpa using e
 ·cases e
theorem WL_load_pair0_agg {t : TypeId} {as : List α} {b off fo m : Nat} {c0 c1 cs' : List Value} (hC : Ctx D w0 w As) (k : Nat) (hk : As[k]? = some (Item.pair v as c0 c1)) (hb : EB v b) (hc : (c0.drop fo).take m = cs') (hm : cs'.length = m) (ho : off = Int.toNat 0 * Rep.sz α + fo) (hT : ∀ w, (isAgg t).run P w = .ok true w) (hS : ∀ w, (sizeOf t).run P w = .ok m w) (hd : Nat.blt d n = true) (hx : ev l x = some (ptr b off))
  (h : WL P n ops K os ((d, .agg cs'.toArray) :: l) w) : WL P n ops K (⟨some d, .load t x, T, pos, aft, none⟩ :: os) l w :=
 WL_load_cells (cells_part (b := b) (off := Int.toNat 0 * Rep.sz α) (fun fo c hcc => by
  have hlt : fo < c0.length := (List.getElem?_eq_some_iff.1 hcc).1
  rw [show Int.toNat 0 * Rep.sz α + fo = fo by simp]
  exact pair_cell hC hk hb fo c (by rw [List.getElem?_append_left hlt]; exact hcc)) hc ho) hm hT hS hd hx h
theorem WL_load_pair1_agg {t : TypeId} {as : List α} {b off fo m : Nat} {c0 c1 cs' : List Value} (hC : Ctx D w0 w As) (k : Nat) (hk : As[k]? = some (Item.pair v as c0 c1)) (hb : EB v b) (hc : (c1.drop fo).take m = cs') (hm : cs'.length = m) (ho : off = Int.toNat 1 * Rep.sz α + fo) (hT : ∀ w, (isAgg t).run P w = .ok true w) (hS : ∀ w, (sizeOf t).run P w = .ok m w) (hd : Nat.blt d n = true) (hx : ev l x = some (ptr b off))
  (h : WL P n ops K os ((d, .agg cs'.toArray) :: l) w) : WL P n ops K (⟨some d, .load t x, T, pos, aft, none⟩ :: os) l w :=
 WL_load_cells (cells_part (b := b) (off := Int.toNat 1 * Rep.sz α) (fun fo c hcc => by
  have hl : c0.length = Rep.sz α := by obtain ⟨F, b', cap, row, T', c2, F2, hv, h2, h3, h4, _⟩ := hC.get hk; exact h4
  rw [show Int.toNat 1 * Rep.sz α + fo = c0.length + fo by rw [hl]; simp]
  exact pair_cell hC hk hb _ c (by rw [List.getElem?_append_right (Nat.le_add_right _ _), Nat.add_sub_cancel_left]; exact hcc)) hc ho) hm hT hS hd hx h
end
end Go.Gx
