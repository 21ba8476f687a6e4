/- Slices that the call owns: append, make, literals, stores into elements. Conditions: none. -/
import Derived.Test.YtpjmmbipjddilaaGreatGxF
import Derived.Laws.MakeOwn
set_option linter.unusedVariables false
set_option linter.unusedSimpArgs false
namespace Go.Gx
open Go.RowKit

def Item.cells {α : Type} [Rep α] (cs : List Value) (a : α) : Item := ⟨fun w F => Rep.rep true w cs a F, Rep.frame, Rep.inh⟩

def Src (w : World) (xv : Value) (news : List Value) (m : Nat) : Prop :=
 (xv = .slice none 0 0 ∧ news = [] ∧ m = 0) ∨ ∃ ad c, xv = .slice (some ad) m c ∧ ∀ j u, news[j]? = some u → w.cell? (ad.add j) = some u

section
variable {α β : Type} [Rep α] [Rep β] {P : Program} {w w0 : World} {t e : TypeId}

theorem own_slice {v : Value} {as : List α} {F : List Nat} (h : Val true w v as F) : (v = .slice none 0 0 ∧ as = [] ∧ F = []) ∨
  ∃ b cap row T cells Fe, v = .slice (some ⟨b, 0, none⟩) as.length cap ∧ w.heap[b]? = some (.cells row T (0, 0)) ∧ F = b :: Fe ∧ elems true w cells as Fe ∧ row.toList.take (as.length * Rep.sz α) = cells ∧ row.size = cap * Rep.sz α ∧ as.length ≤ cap ∧ cap ≤ maxLen := by
 obtain ⟨cs, rfl, p, cap, rfl, h1, h2, h3⟩ := h
 rcases h3 with ⟨rfl, rfl, rfl, rfl⟩ | ⟨h3, _⟩ | ⟨b, off, row, T, fz, cells, Fe, rfl, h4, rfl, h5, h6, h7⟩
 ·exact .inl ⟨rfl, rfl, rfl⟩
 ·cases h3
 ·obtain ⟨rfl, rfl, h8⟩ := h7 rfl
  exact .inr ⟨b, cap, row, T, cells, Fe, rfl, h4, rfl, h5, by simpa using h6, h8, h1, h2⟩
theorem slice_own {b cap : Nat} {row : Array Value} {T : TypeId} {cells : List Value} {as : List α} {Fe : List Nat} (h4 : w.heap[b]? = some (.cells row T (0, 0))) (h5 : elems true w cells as Fe) (h6 : row.toList.take (as.length * Rep.sz α) = cells) (h8 : row.size = cap * Rep.sz α) (h1 : as.length ≤ cap) (h2 : cap ≤ maxLen) :
  Val true w (.slice (some ⟨b, 0, none⟩) as.length cap) as (b :: Fe) :=
 ⟨[_], rfl, _, cap, rfl, h1, h2, .inr (.inr ⟨b, 0, row, T, (0, 0), cells, Fe, rfl, h4, rfl, h5, by simpa using h6, fun _ => ⟨rfl, rfl, h8⟩⟩)⟩

theorem src_of_ro {D : List Nat} {v : Value} {as : List α} (h : RO D w v as) : ∃ news G, Src w v news as.length ∧ elems false w news as G ∧ (as = [] → news = []) := by
 obtain ⟨p, cap, rfl, h1, h2, h3⟩ := ro_slice h
 rcases h3 with ⟨rfl, rfl, rfl⟩ | ⟨rfl, hp0⟩ | ⟨b, off, row, T, fz, cells, Fe, rfl, h4, _, h5, h6, _⟩
 ·exact ⟨[], [], .inl ⟨rfl, rfl, rfl⟩, ⟨rfl, rfl⟩, fun _ => rfl⟩
 ·cases p with
  | none =>
   have hc := hp0 rfl
   subst hc
   exact ⟨[], [], .inl ⟨rfl, rfl, rfl⟩, ⟨rfl, rfl⟩, fun _ => rfl⟩
  | some ad => exact ⟨[], [], .inr ⟨ad, cap, rfl, fun j u hu => by simp at hu⟩, ⟨rfl, rfl⟩, fun _ => rfl⟩
 ·refine ⟨cells, Fe, .inr ⟨_, cap, rfl, fun j u hu => ?_⟩, h5, fun hn => ?_⟩
  ·rw [ptr_add]; rw [← h6] at hu; exact cell_row h4 hu
  ·subst hn; exact h5.1

theorem run_append_room' (ty : TypeId) (i : TypeInfo) (ht : P.underlying t = some (.slice e)) (hi : P.info? e = some i)
  (g sLen sCap : Nat) (cur : Array Value) (T : TypeId) (hg : w.heap[g]? = some (.cells cur T (0, 0)))
  (a : Addr) (m c : Nat) (news : List Value) (hl : news.length = m * i.size) (hnews : ∀ j u, news[j]? = some u → w.cell? (a.add j) = some u) (h1 : ∀ u ∈ news, u.oneCell' = true)
  (hroom : sLen + m ≤ sCap) (hfit : sLen * i.size + news.length ≤ cur.size) :
  (Builtin.append_ #[t, t] ty #[.slice (some ⟨g, 0, none⟩) sLen sCap, .slice (some a) m c]).run P w =
   .ok (.slice (some ⟨g, 0, none⟩) (sLen + m) sCap) (w.setRow g (cur.toList.take (sLen * i.size) ++ news ++ cur.toList.drop (sLen * i.size + news.length)).toArray) := by
 have hf := run_firstCells_some (P := P) w i.size m a m c news hl hnews
 have hst := run_storeCells_at P g (sLen * i.size) T news 0 cur w hg (by simpa using hfit) h1
 simp only [Nat.add_zero] at hst
 simp [Builtin.append_, run_underlying ht, sizeOf, typeInfo, hi, Builtin.lenOf, hroom, hf, Addr.add_lit, hst]

theorem run_append_none (ty : TypeId) (i : TypeInfo) (ht : P.underlying t = some (.slice e)) (hi : P.info? e = some i) (a : Option Addr) (sLen sCap : Nat) (h : sLen ≤ sCap) :
  (Builtin.append_ #[t, t] ty #[.slice a sLen sCap, .slice none 0 0]).run P w = .ok (.slice a sLen sCap) w := by
 cases a <;> simp [Builtin.append_, run_underlying ht, sizeOf, typeInfo, hi, Builtin.lenOf, h, Builtin.firstCells, storeCells]

theorem append_own {v xv : Value} {as bs : List α} {F G : List Nat} {news : List Value} (ty : TypeId) (hu : P.underlying t = some (.slice e)) (hE : Ty P e α) (hs : 0 < Rep.sz α) (h : Val true w v as F) (hn : F.Nodup)
  (hsrc : Src w xv news bs.length) (hel : elems true w news bs G) (hG : G.Nodup) (hFG : ∀ b ∈ F, b ∉ G) (hlim : as.length + bs.length ≤ LIM) :
  ∃ v' w' F', (Builtin.append_ #[t, t] ty #[v, xv]).run P w = .ok v' w' ∧ Keep F w w' ∧ Val true w' v' (as ++ bs) F' ∧ F'.Nodup ∧ (∀ b ∈ F', b ∈ F ∨ b ∈ G ∨ w.heap.size ≤ b) := by
 rw [LIM_eq] at hlim
 obtain ⟨i, z, hi, hsz, hby, hz, hzs⟩ := hE.info
 have hlen := elems_len hel
 have hbytes : (as.length + bs.length) * i.bytes ≤ 140737488355328 := by
  have : (as.length + bs.length) * i.bytes ≤ 4294967296 * 1024 := Nat.mul_le_mul hlim hby
  omega
 have hdrew : ∀ (old : Nat) (k : Nat), w.drew.heap[k]? = w.heap[k]? := fun _ _ => rfl
 rcases hsrc with ⟨rfl, rfl, hm⟩ | ⟨ad, c, rfl, hnews⟩
 ·
  have hb : bs = [] := List.eq_nil_of_length_eq_zero hm
  subst hb
  rcases own_slice h with ⟨rfl, rfl, rfl⟩ | ⟨b, cap, row, T, cells, Fe, rfl, h4, rfl, h5, h6, h8, h1, h2⟩
  ·exact ⟨_, w, [], run_append_none ty i hu hi none 0 0 (Nat.le_refl _), Keep.refl _ _, h, List.nodup_nil, by simp⟩
  ·exact ⟨_, w, b :: Fe, run_append_none ty i hu hi _ _ _ h1, Keep.refl _ _, by simpa using h, hn, fun b hb => .inl hb⟩
 ·have grown : ∀ (old : Nat) (Fe : List Nat) (cells : List Value), elems true w cells as Fe → Fe.Nodup → (∀ b ∈ Fe, b ∉ G) → old < as.length + bs.length →
    ∃ w' F', w' = w.drew.alloc (.cells (cells.toArray ++ news.toArray ++ Builtin.zeroCells z.cells (grownCap w (as.length + bs.length) old e - (as.length + bs.length))) e) ∧
     Keep [] w w' ∧ Val true w' (.slice (some ⟨w.heap.size, 0, none⟩) (as.length + bs.length) (grownCap w (as.length + bs.length) old e)) (as ++ bs) F' ∧ F'.Nodup ∧ ∀ b ∈ F', b ∈ Fe ∨ b ∈ G ∨ w.heap.size ≤ b := by
   intro old Fe cells h5 hFe hdis ho
   have hge := grownCap_ge w (as.length + bs.length) old e
   have hcm : grownCap w (as.length + bs.length) old e ≤ maxLen := grownCap_le_maxLen w _ old e (by simp only [maxLen]; omega)
   have hcl := elems_len h5
   refine ⟨_, w.heap.size :: (Fe ++ G), rfl, Keep.of (((Below.refl _ _).drew).alloc (by simp) _), ?_, ?_, ?_⟩
   ·have hl2 : (as ++ bs).length = as.length + bs.length := by simp
    rw [← hl2]
    have hkeep : ∀ b ∈ Fe ++ G, (w.drew.alloc (.cells (cells.toArray ++ news.toArray ++ Builtin.zeroCells z.cells (grownCap w (as ++ bs).length old e - (as ++ bs).length)) e)).heap[b]? = w.heap[b]? := by
     intro b hb
     have : b < w.heap.size := by
      rcases List.mem_append.1 hb with hb | hb
      ·exact elems_inh h5 b hb
      ·exact elems_inh hel b hb
     exact Below.heap_alloc w.drew _ b this
    refine slice_own (row := cells.toArray ++ news.toArray ++ Builtin.zeroCells z.cells (grownCap w (as ++ bs).length old e - (as ++ bs).length)) (heap_alloc_new w.drew _) (elems_frame (elems_append h5 hel) hkeep) ?_ ?_ (by rw [hl2]; exact hge) (by rw [hl2]; exact hcm)
    ·simp only [Array.toList_append, List.append_assoc]
     rw [← List.append_assoc, hl2, Nat.add_mul, ← hcl, ← hlen, ← List.length_append]
     exact List.take_left
    ·simp only [Array.size_append, List.size_toArray, size_zeroCells, hzs, hcl, hlen, ← Nat.add_mul, hl2]
     congr 1
     omega
   ·rw [List.nodup_cons]
    refine ⟨fun hb => ?_, List.nodup_append.2 ⟨hFe, hG, fun a ha b hb e => by subst e; exact hdis a ha hb⟩⟩
    rcases List.mem_append.1 hb with hb | hb
    ·have := elems_inh h5 _ hb; omega
    ·have := elems_inh hel _ hb; omega
   ·intro b hb
    rcases List.mem_cons.1 hb with rfl | hb
    ·exact .inr (.inr (Nat.le_refl _))
    ·rcases List.mem_append.1 hb with hb | hb
     ·exact .inl hb
     ·exact .inr (.inl hb)
  rcases own_slice h with ⟨rfl, rfl, rfl⟩ | ⟨b, cap, row, T, cells, Fe, rfl, h4, rfl, h5, h6, h8, h1, h2⟩
  ·by_cases hm : bs = []
   ·subst hm
    have hn0 : news = [] := hel.1
    subst hn0
    refine ⟨.slice none 0 0, w, [], ?_, Keep.refl _ _, h, List.nodup_nil, by simp⟩
    simp [Builtin.append_, run_underlying hu, sizeOf, typeInfo, hi, Builtin.lenOf, Builtin.firstCells, loadCells, loadCellsFrom]
   ·have hpos : 0 < bs.length := List.length_pos_iff.2 hm
    have hr := run_append_nil (P := P) w t ty e i z hu hi hz ad bs.length c news (by rw [hlen, hsz]) hnews hpos (by omega) (by
     have hb2 := hbytes; simp only [List.length_nil, Nat.zero_add] at hb2; omega)
    obtain ⟨w', F', rfl, g1, g2, g3, g4⟩ := grown 0 [] [] ⟨rfl, rfl⟩ List.nodup_nil (by simp) (by simp; omega)
    simp only [List.length_nil, Nat.zero_add, List.nil_append] at g1 g2 g3 g4 ⊢
    refine ⟨_, _, F', hr, ?_, ?_, g3, fun b hb => ?_⟩
    ·simpa using g1
    ·simpa using g2
    ·rcases g4 b hb with h9 | h9
     ·cases h9
     ·exact .inr h9
  ·rw [List.nodup_cons] at hn
   have hcl := elems_len h5
   by_cases hroom : as.length + bs.length ≤ cap
   ·have hfit : as.length * i.size + news.length ≤ row.size := by
     rw [hsz, hlen, h8, ← Nat.add_mul]; exact Nat.mul_le_mul_right _ hroom
    have hr := run_append_room' (P := P) ty i hu hi b as.length cap row T h4 ad bs.length c news (by rw [hlen, hsz]) hnews (elems_one hel) hroom hfit
    have hl2 : (as ++ bs).length = as.length + bs.length := by simp
    refine ⟨_, _, b :: (Fe ++ G), hr, ⟨rfl, rfl, rfl, by simp, fun k hk hkb => setRow_other w b k _ (fun e => hkb (by simp [e]))⟩, ?_, ?_, ?_⟩
    ·rw [← hl2]
     refine slice_own (row := (row.toList.take (as.length * i.size) ++ news ++ row.toList.drop (as.length * i.size + news.length)).toArray) (T := T) (setRow_heap w b row _ T _ h4) (elems_frame (elems_append h5 hel) fun k hk => setRow_other w b k _ (fun e => ?_)) ?_ ?_ (by rw [hl2]; exact hroom) h2
     ·subst e
      rcases List.mem_append.1 hk with hk | hk
      ·exact hn.1 hk
      ·exact hFG k (by simp) hk
     ·rw [hsz, h6, hl2, Nat.add_mul, ← hcl, ← hlen, ← List.length_append]
      exact List.take_left
     ·rw [← h8]
      simp only [List.size_toArray, List.length_append, List.length_take, List.length_drop, Array.length_toList]
      omega
    ·rw [List.nodup_cons]
     refine ⟨fun hb => ?_, List.nodup_append.2 ⟨hn.2, hG, fun a ha b' hb e => by subst e; exact hFG a (List.mem_cons_of_mem _ ha) hb⟩⟩
     rcases List.mem_append.1 hb with hb | hb
     ·exact hn.1 hb
     ·exact hFG b (by simp) hb
    ·intro k hk
     rcases List.mem_cons.1 hk with rfl | hk
     ·exact .inl (by simp)
     ·rcases List.mem_append.1 hk with hk | hk
      ·exact .inl (List.mem_cons_of_mem _ hk)
      ·exact .inr (.inl hk)
   ·have holds : ∀ j u, cells[j]? = some u → w.cell? ((⟨b, 0, none⟩ : Addr).add j) = some u := fun j u hu' => by
     rw [ptr_add]
     exact cell_row (off := 0) (k := as.length * Rep.sz α) h4 (by rw [List.drop_zero, h6]; exact hu')
    have hr := run_append_grow (P := P) w t ty e i z hu hi hz ⟨b, 0, none⟩ as.length cap cells (by rw [hcl, hsz]) holds ad bs.length c news (by rw [hlen, hsz]) hnews (by omega) (by omega) (growslice_fits (by omega) hbytes)
    obtain ⟨w', F', rfl, g1, g2, g3, g4⟩ := grown cap Fe cells h5 hn.2 (fun k hk => hFG k (List.mem_cons_of_mem _ hk)) (by omega)
    refine ⟨_, _, F', hr, ⟨g1.os, g1.tape, g1.output, g1.size, fun k hk _ => g1.block k hk (by simp)⟩, g2, g3, fun k hk => ?_⟩
    rcases g4 k hk with h9 | h9
    ·exact .inl (List.mem_cons_of_mem _ h9)
    ·exact .inr h9

theorem nodup_set2 {Fs : List (List Nat)} (h : Fs.flatten.Nodup) : ∀ {i : Nat} {F F' : List Nat}, Fs[i]? = some F → F'.Nodup → (∀ b ∈ F', b ∈ F ∨ b ∉ Fs.flatten) → (Fs.set i F').flatten.Nodup ∧ ∀ b ∈ (Fs.set i F').flatten, b ∈ Fs.flatten ∨ b ∈ F' := by
 induction Fs with
 | nil => intro i F F' h1; simp at h1
 | cons H Fs ih =>
  intro i F F' h1 h2 h3
  rw [List.flatten_cons, List.nodup_append] at h
  cases i with
  | zero =>
   simp at h1; subst h1
   refine ⟨?_, ?_⟩
   ·show (F' :: Fs).flatten.Nodup
    rw [List.flatten_cons, List.nodup_append]
    refine ⟨h2, h.2.1, fun a ha b hb e => ?_⟩
    subst e
    rcases h3 a ha with h4 | h4
    ·exact h.2.2 a h4 a hb rfl
    ·exact h4 (by rw [List.flatten_cons]; exact List.mem_append_right _ hb)
   ·intro b hb
    rw [show (H :: Fs).set 0 F' = F' :: Fs from rfl, List.flatten_cons, List.mem_append] at hb
    rw [List.flatten_cons, List.mem_append]
    rcases hb with hb | hb
    ·exact .inr hb
    ·exact .inl (.inr hb)
  | succ i =>
   obtain ⟨g1, g2⟩ := ih h.2.1 (by simpa using h1) h2 (fun b hb => (h3 b hb).imp id fun h4 h5 => h4 (by rw [List.flatten_cons]; exact List.mem_append_right _ h5))
   refine ⟨?_, ?_⟩
   ·show (H :: Fs.set i F').flatten.Nodup
    rw [List.flatten_cons, List.nodup_append]
    refine ⟨h.1, g1, fun a ha b hb e => ?_⟩
    subst e
    rcases g2 a hb with h4 | h4
    ·exact h.2.2 a ha a h4 rfl
    ·rcases h3 a h4 with h5 | h5
     ·exact h.2.2 a ha a (List.mem_flatten.2 ⟨F, List.mem_of_getElem? (by simpa using h1), h5⟩) rfl
     ·exact h5 (by rw [List.flatten_cons]; exact List.mem_append_left _ ha)
   ·intro b hb
    rw [show (H :: Fs).set (i + 1) F' = H :: Fs.set i F' from rfl, List.flatten_cons, List.mem_append] at hb
    rw [List.flatten_cons, List.mem_append]
    rcases hb with hb | hb
    ·exact .inl (.inl hb)
    ·rcases g2 b hb with h4 | h4
     ·exact .inl (.inr h4)
     ·exact .inr h4

theorem Ctx.focus2 {D : List Nat} {As : List Item} {A B : Item} (h : Ctx D w0 w (B :: As)) {i : Nat} (hi : As[i]? = some A) : ∃ F G, A.p w F ∧ F.Nodup ∧ B.p w G ∧ G.Nodup ∧ (∀ b ∈ F, b ∉ G) ∧
  ∀ (w' : World) (A' : Item) (F' : List Nat), Keep F w w' → A'.p w' F' → F'.Nodup → (∀ b ∈ F', b ∈ F ∨ b ∈ G ∨ w.heap.size ≤ b) → Ctx D w0 w' (As.set i A') := by
 obtain ⟨k, _, ⟨G, Fs, rfl, hB, h1⟩, h2, h3⟩ := h
 rw [List.flatten_cons, List.nodup_append] at h2
 rw [List.flatten_cons] at h3
 obtain ⟨F, hF, hA⟩ := h1.get hi
 have hsub : ∀ b ∈ F, b ∈ Fs.flatten := fun b hb => List.mem_flatten.2 ⟨F, List.mem_of_getElem? hF, hb⟩
 have hnd : F.Nodup := by
  have : ∀ {Fs : List (List Nat)}, Fs.flatten.Nodup → ∀ G ∈ Fs, G.Nodup := by
   intro Fs
   induction Fs with
   | nil => intro _ G hG; cases hG
   | cons H Fs ih =>
    intro hn G hG
    rw [List.flatten_cons, List.nodup_append] at hn
    rcases List.mem_cons.1 hG with rfl | hG
    ·exact hn.1
    ·exact ih hn.2.1 G hG
  exact this h2.2.1 F (List.mem_of_getElem? hF)
 refine ⟨F, G, hA, hnd, hB, h2.1, fun b hb hb' => h2.2.2 b hb' b (hsub b hb) rfl, fun w' A' F' hk hA' hn' hF' => ?_⟩
 have h4 := nodup_set2 h2.2.1 hF hn' (fun b hb => by
  rcases hF' b hb with h5 | h5 | h5
  ·exact .inl h5
  ·exact .inr fun h6 => h2.2.2 b h5 b h6 rfl
  ·exact .inr fun h6 => by have := h1.inh b h6; omega)
 refine ⟨k.trans hk fun b hb => h3 b (List.mem_append_right _ (hsub b hb)), Fs.set i F', h1.set hF hA' fun j hj G' hG b hb => hk.block b (h1.inh b (List.mem_flatten.2 ⟨G', List.mem_of_getElem? hG, hb⟩)) (nodup_apart h2.2.1 hG hF hj b hb), h4.1, fun b hb => ?_⟩
 rcases h4.2 b hb with h5 | h5
 ·exact h3 b (List.mem_append_right _ h5)
 ·rcases hF' b h5 with h6 | h6 | h6
  ·exact h3 b (List.mem_append_right _ (hsub b h6))
  ·exact h3 b (List.mem_append_left _ h6)
  ·exact .inl (Nat.le_trans k.size h6)

class Flat (α : Type) [Rep α] : Prop where
 flat : ∀ {m : Bool} {w : World} {cs : List Value} {a : α} {F : List Nat}, Rep.rep m w cs a F → ∀ m' w', Rep.rep m' w' cs a []
instance : Flat Int := ⟨fun h _ _ => ⟨h.1, rfl⟩⟩
instance : Flat Bool := ⟨fun h _ _ => ⟨h.1, rfl⟩⟩
instance : Flat UInt8 := ⟨fun h _ _ => ⟨h.1, rfl⟩⟩
instance : Flat Str := ⟨fun h _ _ => ⟨h.1, rfl⟩⟩
instance [Flat α] [Flat β] : Flat (α × β) := ⟨fun h m w => by obtain ⟨c1, c2, F1, F2, rfl, rfl, h1, h2⟩ := h; exact ⟨c1, c2, [], [], rfl, rfl, Flat.flat h1 m w, Flat.flat h2 m w⟩⟩
theorem elems_flat [Flat α] {m : Bool} : ∀ {l : List α} {cs : List Value} {F : List Nat}, elems m w cs l F → ∀ m' w', elems m' w' cs l []
 | [], _, _, h, _, _ => ⟨h.1, rfl⟩
 | a :: l, _, _, ⟨c, cs', F1, F2, rfl, rfl, h1, h2⟩, m', w' => ⟨c, cs', [], [], rfl, rfl, Flat.flat h1 m' w', elems_flat h2 m' w'⟩

def app {α : Type} (as bs : List α) : Option (List α) := if as.length + bs.length ≤ LIM then some (as ++ bs) else none
theorem app_some {α : Type} {as bs cs : List α} (h : app as bs = some cs) : as.length + bs.length ≤ LIM ∧ cs = as ++ bs := by
 unfold app at h; split at h
 ·cases h; exact ⟨‹_›, rfl⟩
 ·cases h

variable {n : Nat} {l : Env} {ops : Array Oper} {K : Env → World → Prop} {os : List Oper} {d : Nat} {T U : TypeId} {pos : String} {aft : Array Edge} {x y z : Operand} {v u c xv : Value} {D : List Nat} {As : List Item}

theorem val_src {xv : Value} {bs : List α} {G : List Nat} (h : Val true w xv bs G) : ∃ news G', Src w xv news bs.length ∧ elems true w news bs G' ∧ G'.Sublist G := by
 rcases own_slice h with ⟨rfl, rfl, rfl⟩ | ⟨b, cap, row, T, cells, Fe, rfl, h4, rfl, h5, h6, h8, h1, h2⟩
 ·exact ⟨[], [], .inl ⟨rfl, rfl, rfl⟩, ⟨rfl, rfl⟩, List.Sublist.refl _⟩
 ·refine ⟨cells, Fe, .inr ⟨_, cap, rfl, fun j u hu => ?_⟩, h5, List.sublist_cons_self _ _⟩
  rw [ptr_add]
  exact cell_row (off := 0) (k := bs.length * Rep.sz α) h4 (by rw [List.drop_zero, h6]; exact hu)

theorem WL_append_head {as bs cs : List α} (hC : Ctx D w0 w (Item.own xv bs :: As)) (i : Nat) (hi : As[i]? = some (Item.own v as)) (hu : P.underlying U = some (.slice e)) (hE : Ty P e α) (hs : Nat.blt 0 (Rep.sz α) = true) (ha : app as bs = some cs) (hd : Nat.blt d n = true)
  (hx : ev l x = some v) (hy : ev l y = some xv) (k : ∀ v' w', Ctx D w0 w' (As.set i (Item.own v' cs)) → WL P n ops K os ((d, v') :: l) w') :
  WL P n ops K (⟨some d, .call ⟨.builtin .append, #[x, y], #[U, U]⟩, T, pos, aft, none⟩ :: os) l w := by
 obtain ⟨F, G, hA, hn, hB, hG, hFG, hk⟩ := hC.focus2 hi
 obtain ⟨hlim, rfl⟩ := app_some ha
 obtain ⟨news, G', hsrc, hel, hsub⟩ := val_src hB
 obtain ⟨v', w', F', hr, h1, h2, h3, h4⟩ := append_own (P := P) T hu hE (by simpa [Nat.blt_eq] using hs) hA hn hsrc hel (hsub.nodup hG) (fun b hb hb' => hFG b hb (hsub.subset hb')) hlim
 refine WL_run rfl rfl hd (fun ρ hρ => ?_) (k v' w' (hk w' (Item.own v' (as ++ bs)) F' h1 h2 h3 (fun b hb => (h4 b hb).imp id (Or.imp (fun h => hsub.subset h) id))))
 simp [execOp, resolve, invoke, builtin, hρ x _ hx, hρ y _ hy, hr]
theorem WL_append_flat [Flat α] {as bs cs : List α} {D' : List Nat} {wa : World} (hC : Ctx D w0 w As) (i : Nat) (hi : As[i]? = some (Item.own v as)) (hxs : RO D' wa xv bs) (hk' : Keep D' wa w) (hu : P.underlying U = some (.slice e)) (hE : Ty P e α) (hs : Nat.blt 0 (Rep.sz α) = true) (ha : app as bs = some cs) (hd : Nat.blt d n = true)
  (hx : ev l x = some v) (hy : ev l y = some xv) (k : ∀ v' w', Ctx D w0 w' (As.set i (Item.own v' cs)) → WL P n ops K os ((d, v') :: l) w') :
  WL P n ops K (⟨some d, .call ⟨.builtin .append, #[x, y], #[U, U]⟩, T, pos, aft, none⟩ :: os) l w := by
 obtain ⟨F, hA, hn, hk⟩ := hC.focus hi
 obtain ⟨hlim, rfl⟩ := app_some ha
 obtain ⟨news, G', hsrc, hel, _⟩ := src_of_ro (hxs.now hk')
 obtain ⟨v', w', F', hr, h1, h2, h3, h4⟩ := append_own (P := P) T hu hE (by simpa [Nat.blt_eq] using hs) hA hn hsrc (elems_flat hel true w) List.nodup_nil (by simp) hlim
 refine WL_run rfl rfl hd (fun ρ hρ => ?_) (k v' w' (hk w' (Item.own v' (as ++ bs)) F' h1 h2 h3 (fun b hb => by
  rcases h4 b hb with h | h | h
  ·exact .inl h
  ·cases h
  ·exact .inr h)))
 simp [execOp, resolve, invoke, builtin, hρ x _ hx, hρ y _ hy, hr]

theorem fill_step {place : Nat → Option (Nat × Nat)} {cells cells' cs : List Value} {i off : Nat} {v : Value} {rest : List (Nat × Value)} {res : Array Value} (hp : place i = some (off, cs.length)) (hv : v.cells.toList = cs) (hl : Nat.ble (off + cs.length) cells.length = true)
  (hs : cells.take off ++ cs ++ cells.drop (off + cs.length) = cells') (h : Instr.fill place cells'.toArray rest = some res) : Instr.fill place cells.toArray ((i, v) :: rest) = some res := by
 have hsz : v.cells.size = cs.length := by rw [← hv]; simp
 have hl' : off + cs.length ≤ cells.length := by simpa using hl
 have key : ∀ (cs : List Value) (k : Nat) (cells : List Value), off + k + cs.length ≤ cells.length →
   (cs.zipIdx k).foldl (fun (a : Array Value) (p : Value × Nat) => a.setIfInBounds (off + p.2) p.1) cells.toArray = (cells.take (off + k) ++ cs ++ cells.drop (off + k + cs.length)).toArray := by
  intro cs
  induction cs with
  | nil => intro k cells _; simp
  | cons c cs ih =>
   intro k cells hk
   simp only [List.length_cons] at hk
   simp only [List.zipIdx_cons, List.foldl_cons, List.setIfInBounds_toArray]
   rw [ih (k + 1) (cells.set (off + k) c) (by simp; omega)]
   congr 1
   have e1 : (cells.set (off + k) c).take (off + (k + 1)) = cells.take (off + k) ++ [c] := by
    apply List.ext_getElem?
    intro j
    simp only [List.getElem?_append, List.length_take, List.getElem?_take, List.getElem?_set]
    rcases Nat.lt_trichotomy j (off + k) with h | h | h
    ·rw [if_pos (by omega), if_neg (by omega), if_pos (by omega), if_pos (by omega)]
    ·subst h
     rw [if_pos (by omega), if_pos rfl, if_pos (by omega), if_neg (by omega)]
     simp [Nat.min_eq_left (show off + k ≤ cells.length by omega)]
    ·rw [if_neg (by omega), if_neg (by omega), List.getElem?_eq_none (by simp; omega)]
   have e2 : (cells.set (off + k) c).drop (off + (k + 1) + cs.length) = cells.drop (off + k + (cs.length + 1)) := by
    apply List.ext_getElem?
    intro j
    simp only [List.getElem?_drop, List.getElem?_set]
    rw [if_neg (by omega)]
    congr 1; omega
   rw [e1, e2]
   simp
 unfold Instr.fill
 rw [hp]
 simp only [hsz, ne_eq, not_true_eq_false, List.size_toArray, decide_false, Bool.false_or, decide_eq_true_eq]
 rw [if_neg (by omega)]
 have h2 : v.cells.zipIdx.foldl (fun cs (c, j) => cs.setIfInBounds (off + j) c) cells.toArray = cells'.toArray := by
  have e : v.cells = cs.toArray := by rw [← hv]
  have := key cs 0 cells (by omega)
  rw [e, ← hs]
  rw [Nat.add_zero] at this
  rw [← this, ← Array.foldl_toList, Array.toList_zipIdx]
 rw [h2]
 exact h
theorem fill_end {place : Nat → Option (Nat × Nat)} {cells : List Value} : Instr.fill place cells.toArray [] = some cells.toArray := rfl
end
end Go.Gx
