/- Appending to great lists of integers. Conditions: none. -/
import Derived.Test.YtdkfiadoiapnbaaGreatGxAb
set_option linter.unusedVariables false
set_option linter.unusedSimpArgs false
namespace Go.Gx
open Go.RowKit
section
variable {α β : Type} [Rep α] [Rep β] {P : Program} {w w0 : World} {t e : TypeId}
theorem append_own8 {v xv : Value} {as bs : List α} {F G : List Nat} {news : List Value} (ty : TypeId) (hu : P.underlying t = some (.slice e)) (hE : Ty P e α) (hs : 0 < Rep.sz α) (h : Val true w v as F) (hn : F.Nodup)
  (hsrc : Src w xv news bs.length) (hel : elems true w news bs G) (hG : G.Nodup) (hFG : ∀ b ∈ F, b ∉ G) (hb8 : ∀ i, P.info? e = some i → i.bytes ≤ 8) (hlim : as.length + bs.length ≤ 1099511627776) :
  ∃ v' w' F', (Builtin.append_ #[t, t] ty #[v, xv]).run P w = .ok v' w' ∧ Keep F w w' ∧ Val true w' v' (as ++ bs) F' ∧ F'.Nodup ∧ (∀ b ∈ F', b ∈ F ∨ b ∈ G ∨ w.heap.size ≤ b) := by
 obtain ⟨i, z, hi, hsz, hby, hz, hzs⟩ := hE.info
 have hlen := elems_len hel
 have hbytes : (as.length + bs.length) * i.bytes ≤ 140737488355328 := by
  have : (as.length + bs.length) * i.bytes ≤ 1099511627776 * 8 := Nat.mul_le_mul hlim (hb8 i hi)
  omega
 have hdrew : ∀ (old : Nat) (k : Nat), w.drew.heap[k]? = w.heap[k]? := fun _ _ => rfl
 rcases hsrc with ⟨rfl, rfl, hm⟩ | ⟨ad, c, rfl, hnews⟩
 ·
  have hb : bs = [] := List.eq_nil_of_length_eq_zero hm
  subst hb
  rcases own_slice h with ⟨rfl, rfl, rfl⟩ | ⟨b, cap, row, T, cells, Fe, rfl, h4, rfl, h5, h6, h8, h1, h2⟩
  ·exact ⟨_, w, [], run_append_none ty i hu hi none 0 0 (Nat.le_refl _), Keep.refl _ _, h, List.nodup_nil, by simp⟩
  ·exact ⟨_, w, b :: Fe, run_append_none ty i hu hi _ _ _ h1, Keep.refl _ _, by simpa using h, hn, fun b hb => .inl hb⟩
 ·have grown : ∀ (old : Nat) (Fe : List Nat) (cells : List Value), elems true w cells as Fe → Fe.Nodup → (∀ b ∈ Fe, b ∉ G) → old < as.length + bs.length →
    ∃ w' F', w' = w.drew.alloc (.cells (cells.toArray ++ news.toArray ++ Builtin.zeroCells z.cells (grownCap w (as.length + bs.length) old e - (as.length + bs.length))) e) ∧
     Keep [] w w' ∧ Val true w' (.slice (some ⟨w.heap.size, 0, none⟩) (as.length + bs.length) (grownCap w (as.length + bs.length) old e)) (as ++ bs) F' ∧ F'.Nodup ∧ ∀ b ∈ F', b ∈ Fe ∨ b ∈ G ∨ w.heap.size ≤ b := by
   intro old Fe cells h5 hFe hdis ho
   have hge := grownCap_ge w (as.length + bs.length) old e
   have hcm : grownCap w (as.length + bs.length) old e ≤ maxLen := grownCap_le_maxLen w _ old e (by simp only [maxLen]; omega)
   have hcl := elems_len h5
   refine ⟨_, w.heap.size :: (Fe ++ G), rfl, Keep.of (((Below.refl _ _).drew).alloc (by simp) _), ?_, ?_, ?_⟩
   ·have hl2 : (as ++ bs).length = as.length + bs.length := by simp
    rw [← hl2]
    have hkeep : ∀ b ∈ Fe ++ G, (w.drew.alloc (.cells (cells.toArray ++ news.toArray ++ Builtin.zeroCells z.cells (grownCap w (as ++ bs).length old e - (as ++ bs).length)) e)).heap[b]? = w.heap[b]? := by
     intro b hb
     have : b < w.heap.size := by
      rcases List.mem_append.1 hb with hb | hb
      ·exact elems_inh h5 b hb
      ·exact elems_inh hel b hb
     exact Below.heap_alloc w.drew _ b this
    refine slice_own (row := cells.toArray ++ news.toArray ++ Builtin.zeroCells z.cells (grownCap w (as ++ bs).length old e - (as ++ bs).length)) (heap_alloc_new w.drew _) (elems_frame (elems_append h5 hel) hkeep) ?_ ?_ (by rw [hl2]; exact hge) (by rw [hl2]; exact hcm)
    ·simp only [Array.toList_append, List.append_assoc]
     rw [← List.append_assoc, hl2, Nat.add_mul, ← hcl, ← hlen, ← List.length_append]
     exact List.take_left
    ·simp only [Array.size_append, List.size_toArray, size_zeroCells, hzs, hcl, hlen, ← Nat.add_mul, hl2]
     congr 1
     omega
   ·rw [List.nodup_cons]
    refine ⟨fun hb => ?_, List.nodup_append.2 ⟨hFe, hG, fun a ha b hb e => by subst e; exact hdis a ha hb⟩⟩
    rcases List.mem_append.1 hb with hb | hb
    ·have := elems_inh h5 _ hb; omega
    ·have := elems_inh hel _ hb; omega
   ·intro b hb
    rcases List.mem_cons.1 hb with rfl | hb
    ·exact .inr (.inr (Nat.le_refl _))
    ·rcases List.mem_append.1 hb with hb | hb
     ·exact .inl hb
     ·exact .inr (.inl hb)
  rcases own_slice h with ⟨rfl, rfl, rfl⟩ | ⟨b, cap, row, T, cells, Fe, rfl, h4, rfl, h5, h6, h8, h1, h2⟩
  ·by_cases hm : bs = []
   ·subst hm
    have hn0 : news = [] := hel.1
    subst hn0
    refine ⟨.slice none 0 0, w, [], ?_, Keep.refl _ _, h, List.nodup_nil, by simp⟩
    simp [Builtin.append_, run_underlying hu, sizeOf, typeInfo, hi, Builtin.lenOf, Builtin.firstCells, loadCells, loadCellsFrom]
   ·have hpos : 0 < bs.length := List.length_pos_iff.2 hm
    have hr := run_append_nil (P := P) w t ty e i z hu hi hz ad bs.length c news (by rw [hlen, hsz]) hnews hpos (by omega) (by
     have hb2 := hbytes; simp only [List.length_nil, Nat.zero_add] at hb2; omega)
    obtain ⟨w', F', rfl, g1, g2, g3, g4⟩ := grown 0 [] [] ⟨rfl, rfl⟩ List.nodup_nil (by simp) (by simp; omega)
    simp only [List.length_nil, Nat.zero_add, List.nil_append] at g1 g2 g3 g4 ⊢
    refine ⟨_, _, F', hr, ?_, ?_, g3, fun b hb => ?_⟩
    ·simpa using g1
    ·simpa using g2
    ·rcases g4 b hb with h9 | h9
     ·cases h9
     ·exact .inr h9
  ·rw [List.nodup_cons] at hn
   have hcl := elems_len h5
   by_cases hroom : as.length + bs.length ≤ cap
   ·have hfit : as.length * i.size + news.length ≤ row.size := by
     rw [hsz, hlen, h8, ← Nat.add_mul]; exact Nat.mul_le_mul_right _ hroom
    have hr := run_append_room' (P := P) ty i hu hi b as.length cap row T h4 ad bs.length c news (by rw [hlen, hsz]) hnews (elems_one hel) hroom hfit
    have hl2 : (as ++ bs).length = as.length + bs.length := by simp
    refine ⟨_, _, b :: (Fe ++ G), hr, ⟨rfl, rfl, rfl, by simp, fun k hk hkb => setRow_other w b k _ (fun e => hkb (by simp [e]))⟩, ?_, ?_, ?_⟩
    ·rw [← hl2]
     refine slice_own (row := (row.toList.take (as.length * i.size) ++ news ++ row.toList.drop (as.length * i.size + news.length)).toArray) (T := T) (setRow_heap w b row _ T _ h4) (elems_frame (elems_append h5 hel) fun k hk => setRow_other w b k _ (fun e => ?_)) ?_ ?_ (by rw [hl2]; exact hroom) h2
     ·subst e
      rcases List.mem_append.1 hk with hk | hk
      ·exact hn.1 hk
      ·exact hFG k (by simp) hk
     ·rw [hsz, h6, hl2, Nat.add_mul, ← hcl, ← hlen, ← List.length_append]
      exact List.take_left
     ·rw [← h8]
      simp only [List.size_toArray, List.length_append, List.length_take, List.length_drop, Array.length_toList]
      omega
    ·rw [List.nodup_cons]
     refine ⟨fun hb => ?_, List.nodup_append.2 ⟨hn.2, hG, fun a ha b' hb e => by subst e; exact hFG a (List.mem_cons_of_mem _ ha) hb⟩⟩
     rcases List.mem_append.1 hb with hb | hb
     ·exact hn.1 hb
     ·exact hFG b (by simp) hb
    ·intro k hk
     rcases List.mem_cons.1 hk with rfl | hk
     ·exact .inl (by simp)
     ·rcases List.mem_append.1 hk with hk | hk
      ·exact .inl (List.mem_cons_of_mem _ hk)
      ·exact .inr (.inl hk)
   ·have holds : ∀ j u, cells[j]? = some u → w.cell? ((⟨b, 0, none⟩ : Addr).add j) = some u := fun j u hu' => by
     rw [ptr_add]
     exact cell_row (off := 0) (k := as.length * Rep.sz α) h4 (by rw [List.drop_zero, h6]; exact hu')
    have hr := run_append_grow (P := P) w t ty e i z hu hi hz ⟨b, 0, none⟩ as.length cap cells (by rw [hcl, hsz]) holds ad bs.length c news (by rw [hlen, hsz]) hnews (by omega) (by omega) (growslice_fits (by omega) hbytes)
    obtain ⟨w', F', rfl, g1, g2, g3, g4⟩ := grown cap Fe cells h5 hn.2 (fun k hk => hFG k (List.mem_cons_of_mem _ hk)) (by omega)
    refine ⟨_, _, F', hr, ⟨g1.os, g1.tape, g1.output, g1.size, fun k hk _ => g1.block k hk (by simp)⟩, g2, g3, fun k hk => ?_⟩
    rcases g4 k hk with h9 | h9
    ·exact .inl (List.mem_cons_of_mem _ h9)
    ·exact .inr h9
theorem appB_some {α : Type} {as bs cs : List α} (h : appB as bs = some cs) : as.length + bs.length ≤ 1099511627776 ∧ cs = as ++ bs := by
 unfold appB at h; split at h
 ·cases h; exact ⟨‹_›, rfl⟩
 ·cases h
variable {n : Nat} {l : Env} {ops : Array Oper} {K : Env → World → Prop} {os : List Oper} {d : Nat} {T U : TypeId} {pos : String} {aft : Array Edge} {x y z : Operand} {v u c xv : Value} {D : List Nat} {As : List Item}
theorem WL_append_flat8 [Flat α] (hb8 : ∀ i, P.info? e = some i → i.bytes ≤ 8) {as bs cs : List α} {D' : List Nat} {wa : World} (hC : Ctx D w0 w As) (i : Nat) (hi : As[i]? = some (Item.own v as)) (hxs : RO D' wa xv bs) (hk' : Keep D' wa w) (hu : P.underlying U = some (.slice e)) (hE : Ty P e α) (hs : Nat.blt 0 (Rep.sz α) = true) (ha : appB as bs = some cs) (hd : Nat.blt d n = true)
  (hx : ev l x = some v) (hy : ev l y = some xv) (k : ∀ v' w', Ctx D w0 w' (As.set i (Item.own v' cs)) → WL P n ops K os ((d, v') :: l) w') :
  WL P n ops K (⟨some d, .call ⟨.builtin .append, #[x, y], #[U, U]⟩, T, pos, aft, none⟩ :: os) l w := by
 obtain ⟨F, hA, hn, hk⟩ := hC.focus hi
 obtain ⟨hlim, rfl⟩ := appB_some ha
 obtain ⟨news, G', hsrc, hel, _⟩ := src_of_ro (hxs.now hk')
 obtain ⟨v', w', F', hr, h1, h2, h3, h4⟩ := append_own8 (P := P) T hu hE (by simpa [Nat.blt_eq] using hs) hA hn hsrc (elems_flat hel true w) List.nodup_nil (by simp) hb8 hlim
 refine WL_run rfl rfl hd (fun ρ hρ => ?_) (k v' w' (hk w' (Item.own v' (as ++ bs)) F' h1 h2 h3 (fun b hb => by
  rcases h4 b hb with h | h | h
  ·exact .inl h
  ·cases h
  ·exact .inr h)))
 simp [execOp, resolve, invoke, builtin, hρ x _ hx, hρ y _ hy, hr]
end
end Go.Gx
