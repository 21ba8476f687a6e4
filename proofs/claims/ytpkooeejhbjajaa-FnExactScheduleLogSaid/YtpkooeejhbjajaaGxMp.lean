/- Maps from numbers to owned slices: made, looked up, put into. Conditions: none. -/
import Derived.Test.YtpkooeejhbjajaaGxHo
import Derived.MapKept
set_option linter.unusedVariables false
set_option linter.unusedSimpArgs false
namespace Go.Gx
open Go.RowKit
def mget {α : Type} : List (Int × List α) → Int → List α
  | [], _ => []
  | (j, a) :: es, k => if j = k then a else mget es k
def mset {α : Type} : List (Int × List α) → Int → List α → List (Int × List α)
  | [], k, b => [(k, b)]
  | (j, a) :: es, k, b => if j = k then (k, b) :: es else (j, a) :: mset es k b
section
variable {α : Type} [Rep α]
/-- the entries of a map, their slices owned -/
def ments (w : World) : List MapEntry → List (Int × List α) → List Nat → Prop
  | [], [], F => F = []
  | e :: ents, (j, a) :: es, F => e.key = .int .i64 j ∧ ∃ F1 F2, F = F1 ++ F2 ∧ Val true w e.val a F1 ∧ ments w ents es F2
  | _, _, _ => False
/-- the same but what lies at k, which is v -/
def mholes (w : World) (k : Int) (v : Value) : List MapEntry → List (Int × List α) → List Nat → Prop
  | [], [], F => F = [] ∧ v = .slice none 0 0
  | e :: ents, (j, a) :: es, F => e.key = .int .i64 j ∧ if j = k then e.val = v ∧ ments w ents es F else ∃ F1 F2, F = F1 ++ F2 ∧ Val true w e.val a F1 ∧ mholes w k v ents es F2
  | _, _, _ => False
theorem ments_frame {w w' : World} : ∀ {ents : List MapEntry} {es : List (Int × List α)} {F : List Nat}, ments w ents es F → (∀ b ∈ F, w'.heap[b]? = w.heap[b]?) → ments w' ents es F
  | [], [], _, h, _ => h
  | e :: ents, (j, a) :: es, _, ⟨h1, F1, F2, rfl, h2, h3⟩, hf => ⟨h1, F1, F2, rfl, Val.frame h2 fun b hb => hf b (List.mem_append_left _ hb), ments_frame h3 fun b hb => hf b (List.mem_append_right _ hb)⟩
  | [], _ :: _, _, h, _ => h.elim
  | _ :: _, [], _, h, _ => h.elim
theorem ments_inh {w : World} : ∀ {ents : List MapEntry} {es : List (Int × List α)} {F : List Nat}, ments w ents es F → ∀ b ∈ F, b < w.heap.size
  | [], [], _, h, b, hb => by rw [show _ = [] from h] at hb; cases hb
  | e :: ents, (j, a) :: es, _, ⟨h1, F1, F2, rfl, h2, h3⟩, b, hb => by
    rcases List.mem_append.1 hb with hb | hb
    · exact Val.inh h2 b hb
    · exact ments_inh h3 b hb
  | [], _ :: _, _, h, _, _ => h.elim
  | _ :: _, [], _, h, _, _ => h.elim
theorem mholes_frame {w w' : World} {k : Int} {v : Value} : ∀ {ents : List MapEntry} {es : List (Int × List α)} {F : List Nat}, mholes w k v ents es F → (∀ b ∈ F, w'.heap[b]? = w.heap[b]?) → mholes w' k v ents es F
  | [], [], _, h, _ => h
  | e :: ents, (j, a) :: es, F, ⟨h1, h2⟩, hf => by
    refine ⟨h1, ?_⟩
    by_cases c : j = k
    · rw [if_pos c] at h2 ⊢; exact ⟨h2.1, ments_frame h2.2 hf⟩
    · rw [if_neg c] at h2 ⊢
      obtain ⟨F1, F2, rfl, h3, h4⟩ := h2
      exact ⟨F1, F2, rfl, Val.frame h3 fun b hb => hf b (List.mem_append_left _ hb), mholes_frame h4 fun b hb => hf b (List.mem_append_right _ hb)⟩
  | [], _ :: _, _, h, _ => h.elim
  | _ :: _, [], _, h, _ => h.elim
theorem mholes_inh {w : World} {k : Int} {v : Value} : ∀ {ents : List MapEntry} {es : List (Int × List α)} {F : List Nat}, mholes w k v ents es F → ∀ b ∈ F, b < w.heap.size
  | [], [], _, h, b, hb => by rw [h.1] at hb; cases hb
  | e :: ents, (j, a) :: es, F, ⟨h1, h2⟩, b, hb => by
    by_cases c : j = k
    · rw [if_pos c] at h2; exact ments_inh h2.2 b hb
    · rw [if_neg c] at h2
      obtain ⟨F1, F2, rfl, h3, h4⟩ := h2
      rcases List.mem_append.1 hb with hb | hb
      · exact Val.inh h3 b hb
      · exact mholes_inh h4 b hb
  | [], _ :: _, _, h, _, _ => h.elim
  | _ :: _, [], _, h, _, _ => h.elim
/-- a map that the call owns -/
def Item.imap (b : Nat) (es : List (Int × List α)) : Item :=
  ⟨fun w F => ∃ ents clock Fe, w.heap[b]? = some (.map ents clock) ∧ F = b :: Fe ∧ ments w ents.toList es Fe,
   fun h hf => by
     obtain ⟨ents, clock, Fe, h1, rfl, h2⟩ := h
     exact ⟨ents, clock, Fe, by rw [hf b (by simp)]; exact h1, rfl, ments_frame h2 fun c hc => hf c (by simp [hc])⟩,
   fun h c hc => by
     obtain ⟨ents, clock, Fe, h1, rfl, h2⟩ := h
     rcases List.mem_cons.1 hc with rfl | hc
     · exact (Array.getElem?_eq_some_iff.1 h1).1
     · exact ments_inh h2 c hc⟩
/-- what lies at k is taken out: v -/
def Item.mhole (b : Nat) (es : List (Int × List α)) (k : Int) (v : Value) : Item :=
  ⟨fun w F => ∃ ents clock Fe, w.heap[b]? = some (.map ents clock) ∧ F = b :: Fe ∧ mholes w k v ents.toList es Fe,
   fun h hf => by
     obtain ⟨ents, clock, Fe, h1, rfl, h2⟩ := h
     exact ⟨ents, clock, Fe, by rw [hf b (by simp)]; exact h1, rfl, mholes_frame h2 fun c hc => hf c (by simp [hc])⟩,
   fun h c hc => by
     obtain ⟨ents, clock, Fe, h1, rfl, h2⟩ := h
     rcases List.mem_cons.1 hc with rfl | hc
     · exact (Array.getElem?_eq_some_iff.1 h1).1
     · exact mholes_inh h2 c hc⟩
theorem ments_open {w : World} (k : Int) : ∀ {ents : List MapEntry} {es : List (Int × List α)} {F : List Nat}, ments w ents es F → ∃ v F1 F2, Val true w v (mget es k) F1 ∧ mholes w k v ents es F2 ∧ (F1 ++ F2).Perm F
  | [], [], _, h => ⟨.slice none 0 0, [], [], nil_val, ⟨rfl, rfl⟩, by rw [show _ = [] from h]; exact List.Perm.refl _⟩
  | e :: ents, (j, a) :: es, _, ⟨h1, F1, F2, rfl, h2, h3⟩ => by
    by_cases c : j = k
    · exact ⟨e.val, F1, F2, by rw [mget, if_pos c]; exact h2, ⟨h1, by rw [if_pos c]; exact ⟨rfl, h3⟩⟩, List.Perm.refl _⟩
    · obtain ⟨v, G1, G2, g1, g2, g3⟩ := ments_open k h3
      refine ⟨v, G1, F1 ++ G2, by rw [mget, if_neg c]; exact g1, ⟨h1, by rw [if_neg c]; exact ⟨F1, G2, rfl, h2, g2⟩⟩, ?_⟩
      rw [← List.append_assoc]
      exact (List.perm_append_comm.append_right _).trans (by rw [List.append_assoc]; exact g3.append_left _)
  | [], _ :: _, _, h => h.elim
  | _ :: _, [], _, h => h.elim
theorem find_ments {w : World} (k : Int) : ∀ {ents : List MapEntry} {es : List (Int × List α)} {F : List Nat} (i : Nat), ments w ents es F →
    (Instr.findNow (.int .i64) (.int .i64 k) ents i = some none ∧ mget es k = []) ∨ ∃ j v F1, Instr.findNow (.int .i64) (.int .i64 k) ents i = some (some (j, v)) ∧ Val true w v (mget es k) F1
  | [], [], _, i, h => .inl ⟨rfl, rfl⟩
  | e :: ents, (j, a) :: es, _, i, ⟨h1, F1, F2, rfl, h2, h3⟩ => by
    unfold Instr.findNow
    rw [h1]
    by_cases c : j = k
    · right
      refine ⟨i, e.val, F1, ?_, by rw [mget, if_pos c]; exact h2⟩
      simp [Instr.sameNow, c]
    · have hs : Instr.sameNow (.int .i64) (.int .i64 k) (.int .i64 j) = some false := by simp [Instr.sameNow]; omega
      rw [hs, mget, if_neg c]
      exact find_ments k (i + 1) h3
  | [], _ :: _, _, _, h => h.elim
  | _ :: _, [], _, _, h => h.elim
theorem find_mholes {w : World} {k : Int} {v : Value} : ∀ {ents : List MapEntry} {es : List (Int × List α)} {F : List Nat} (i : Nat), mholes w k v ents es F →
    (Instr.findNow (.int .i64) (.int .i64 k) ents i = some none ∧ v = .slice none 0 0) ∨ ∃ j, Instr.findNow (.int .i64) (.int .i64 k) ents i = some (some (j, v))
  | [], [], _, i, h => .inl ⟨rfl, h.2⟩
  | e :: ents, (j, a) :: es, F, i, ⟨h1, h2⟩ => by
    unfold Instr.findNow
    rw [h1]
    by_cases c : j = k
    · rw [if_pos c] at h2
      right
      refine ⟨i, ?_⟩
      simp [Instr.sameNow, c, h2.1]
    · rw [if_neg c] at h2
      obtain ⟨F1, F2, rfl, h3, h4⟩ := h2
      have hs : Instr.sameNow (.int .i64) (.int .i64 k) (.int .i64 j) = some false := by simp [Instr.sameNow]; omega
      rw [hs]
      exact find_mholes (i + 1) h4
  | [], _ :: _, _, _, h => h.elim
  | _ :: _, [], _, _, h => h.elim
theorem set_mholes {w : World} {k : Int} {v v' : Value} {a' : List α} {F' : List Nat} {born : Nat} (hv : Val true w v' a' F') : ∀ {ents : List MapEntry} {es : List (Int × List α)} {F : List Nat} (i : Nat), mholes w k v ents es F →
    (Instr.findNow (.int .i64) (.int .i64 k) ents i = some none ∧ ∃ G, ments w (ents ++ [⟨.int .i64 k, v', born⟩]) (mset es k a') G ∧ G.Perm (F' ++ F)) ∨
    ∃ j u e0, Instr.findNow (.int .i64) (.int .i64 k) ents i = some (some (i + j, u)) ∧ ents[j]? = some e0 ∧ e0.key = .int .i64 k ∧ ∃ G, ments w (ents.modify j fun e => { e with key := .int .i64 k, val := v' }) (mset es k a') G ∧ G.Perm (F' ++ F)
  | [], [], F, i, h => .inl ⟨rfl, F' ++ [], ⟨rfl, F', [], rfl, hv, rfl⟩, by rw [h.1]⟩
  | e :: ents, (j, a) :: es, F, i, ⟨h1, h2⟩ => by
    by_cases c : j = k
    · rw [if_pos c] at h2
      right
      refine ⟨0, e.val, e, ?_, rfl, by rw [h1, c], F' ++ F, ?_, List.Perm.refl _⟩
      · unfold Instr.findNow
        rw [h1]
        simp [Instr.sameNow, c]
      · rw [mset, if_pos c]
        exact ⟨rfl, F', F, rfl, hv, h2.2⟩
    · rw [if_neg c] at h2
      obtain ⟨F1, F2, rfl, h3, h4⟩ := h2
      have hs : Instr.sameNow (.int .i64) (.int .i64 k) (.int .i64 j) = some false := by simp [Instr.sameNow]; omega
      have hp : ∀ {G : List Nat}, G.Perm (F' ++ F2) → (F1 ++ G).Perm (F' ++ (F1 ++ F2)) := fun hg => by
        refine (hg.append_left F1).trans ?_
        rw [← List.append_assoc, ← List.append_assoc]
        exact List.perm_append_comm.append_right _
      rcases set_mholes hv (i + 1) h4 with ⟨g1, G, g2, g3⟩ | ⟨q, u, e0, g1, g4, g5, G, g2, g3⟩
      · left
        refine ⟨?_, F1 ++ G, ?_, hp g3⟩
        · unfold Instr.findNow; rw [h1, hs]; exact g1
        · rw [mset, if_neg c]; exact ⟨h1, F1, G, rfl, h3, g2⟩
      · right
        refine ⟨q + 1, u, e0, ?_, g4, g5, F1 ++ G, ?_, hp g3⟩
        · unfold Instr.findNow; rw [h1, hs]; simp only [g1]; congr 3; omega
        · rw [mset, if_neg c]; exact ⟨h1, F1, G, rfl, h3, g2⟩
  | [], _ :: _, _, _, h => h.elim
  | _ :: _, [], _, _, h => h.elim
variable {P : Program} {w w0 w' : World} {t e kt : TypeId}
variable {n : Nat} {l : Env} {ops : Array Oper} {K : Env → World → Prop} {os : List Oper} {d : Nat} {T U : TypeId} {pos : String} {aft : Array Edge} {x y z : Operand} {v u c xv : Value} {D : List Nat} {As Bs : List Item} {g : Option (Nat × Bool)}
theorem Ctx.openMap {b : Nat} {es : List (Int × List α)} (k : Int) (h : Ctx D w0 w (Item.imap b es :: As)) : ∃ v, Ctx D w0 w (Item.own v (mget es k) :: Item.mhole b es k v :: As) := by
  obtain ⟨kp, _, ⟨F, Fs, rfl, ⟨ents, clock, Fe, h1, rfl, h2⟩, hH⟩, h3, h4⟩ := h
  obtain ⟨v, F1, F2, g1, g2, g3⟩ := ments_open k h2
  have hp : (F1 ++ ((b :: F2) ++ Fs.flatten)).Perm ((b :: Fe) ++ Fs.flatten) := by
    rw [← List.append_assoc]
    refine List.Perm.append_right _ ?_
    exact (List.perm_middle).trans (g3.cons b)
  refine ⟨v, kp, F1 :: (b :: F2) :: Fs, ⟨F1, _, rfl, g1, _, Fs, rfl, ⟨ents, clock, F2, h1, rfl, g2⟩, hH⟩, ?_, fun q hq => h4 q ?_⟩
  · simp only [List.flatten_cons] at h3 ⊢
    exact hp.nodup_iff.2 h3
  · simp only [List.flatten_cons] at hq ⊢
    exact hp.mem_iff.1 hq
theorem isKeyI (k : Int) : MapKept.IsKey (.int .i64) (.int .i64 k) := by simp [MapKept.IsKey]
theorem WL_makeMap (hC : Ctx D w0 w As) (hd : Nat.blt d n = true) (k : ∀ b w', Ctx D w0 w' (Item.imap b ([] : List (Int × List α)) :: As) → Below w.heap.size w w' → WL P n ops K os ((d, .map (some b)) :: l) w') : WL P n ops K (⟨some d, .makeMap U none, T, pos, aft, none⟩ :: os) l w := by
  refine WL_run (w' := w.alloc (.map #[] 0)) rfl rfl hd (fun ρ hρ => ?_) (k w.heap.size _ (hC.push (A := Item.imap w.heap.size ([] : List (Int × List α))) (F := [w.heap.size]) (below_alloc w _) ⟨#[], 0, [], alloc_new w _, rfl, rfl⟩ (by simp) (by simp)) (below_alloc w _))
  simp [execOp, Instr.makeMap]
theorem WL_lookup {b : Nat} {es : List (Int × List α)} {k : Int} {wa : World} (hC : Ctx D w0 wa As) (i : Nat) (hi : As[i]? = some (Item.imap b es)) (hk : Keep [] wa w) (hu : P.underlying U = some (.map kt t)) (hkt : P.underlying kt = some (.int .i64)) (hz : ∀ w, (zeroValue t).run P w = .ok (.slice none 0 0) w) (hd : Nat.blt d n = true)
    (hx : ev l x = some (.map (some b))) (hy : ev l y = some (.int .i64 k)) (h : ∀ v, RO [] wa v (mget es k) → WL P n ops K os ((d, v) :: l) w) : WL P n ops K (⟨some d, .lookup U x y false, T, pos, aft, none⟩ :: os) l w := by
  obtain ⟨F, ents, clock, Fe, h1, rfl, h2⟩ := hC.get hi
  have hw : w.heap[b]? = some (.map ents clock) := by rw [hk.block b (Array.getElem?_eq_some_iff.1 h1).1 (by simp)]; exact h1
  have hc := MapKept.run_checkKey (P := P) (w := w) hkt (isKeyI k) ents.isEmpty 9999
  rcases find_ments k 0 h2 with ⟨g1, g2⟩ | ⟨j, u, F1, g1, g2⟩
  · refine WL_val rfl rfl hd (fun ρ hρ => ?_) (h _ (by rw [g2]; exact ro_nil))
    have hf := MapKept.run_findKey (P := P) (w := w) hkt g1
    simp [execOp, hρ x _ hx, hρ y _ hy, Instr.lookup, run_underlying hu, MapKept.run_getObj_map hw, hc, hf, hz w, Result.andThen]
  · refine WL_val rfl rfl hd (fun ρ hρ => ?_) (h u (ro_of_own g2))
    have hf := MapKept.run_findKey (P := P) (w := w) hkt g1
    simp [execOp, hρ x _ hx, hρ y _ hy, Instr.lookup, run_underlying hu, MapKept.run_getObj_map hw, hc, hf, Result.andThen]
theorem WL_lookup_hole {b : Nat} {es : List (Int × List α)} {k : Int} (hC : Ctx D w0 w As) (i : Nat) (hi : As[i]? = some (Item.mhole b es k v)) (hu : P.underlying U = some (.map kt t)) (hkt : P.underlying kt = some (.int .i64)) (hz : ∀ w, (zeroValue t).run P w = .ok (.slice none 0 0) w) (hd : Nat.blt d n = true)
    (hx : ev l x = some (.map (some b))) (hy : ev l y = some (.int .i64 k)) (h : WL P n ops K os ((d, v) :: l) w) : WL P n ops K (⟨some d, .lookup U x y false, T, pos, aft, none⟩ :: os) l w := by
  obtain ⟨F, ents, clock, Fe, hw, rfl, h2⟩ := hC.get hi
  have hc := MapKept.run_checkKey (P := P) (w := w) hkt (isKeyI k) ents.isEmpty 9999
  rcases find_mholes 0 h2 with ⟨g1, rfl⟩ | ⟨j, g1⟩
  · refine WL_val rfl rfl hd (fun ρ hρ => ?_) h
    have hf := MapKept.run_findKey (P := P) (w := w) hkt g1
    simp [execOp, hρ x _ hx, hρ y _ hy, Instr.lookup, run_underlying hu, MapKept.run_getObj_map hw, hc, hf, hz w, Result.andThen]
  · refine WL_val rfl rfl hd (fun ρ hρ => ?_) h
    have hf := MapKept.run_findKey (P := P) (w := w) hkt g1
    simp [execOp, hρ x _ hx, hρ y _ hy, Instr.lookup, run_underlying hu, MapKept.run_getObj_map hw, hc, hf, Result.andThen]
theorem set_obj_keep {b : Nat} {o o' : Obj} (h : w.heap[b]? = some o) : Keep [b] w { w with heap := w.heap.setIfInBounds b o' } :=
  ⟨rfl, rfl, rfl, by simp, fun j hj hjb => (MapKept.heap_set h).2 j (by simpa using hjb)⟩
theorem run_stays {P : Program} {w : World} (k : Int) : (Instr.keyThatStays (.int .i64 k) (.int .i64 k)).run P w = .ok (.int .i64 k) w := by
  have : Instr.sameBits 10000 (.int .i64 k) (.int .i64 k) = true := by
    rw [show (10000 : Nat) = 9999 + 1 from rfl]; simp [Instr.sameBits]
  simp [Instr.keyThatStays, this]
theorem run_mapPut {b : Nat} {ents : Array MapEntry} {clock : Nat} {k : Int} {v' u : Value} {j : Nat} {e0 : MapEntry} (hu : P.underlying U = some (.map kt t)) (hkt : P.underlying kt = some (.int .i64)) (hw : w.heap[b]? = some (.map ents clock)) (g1 : Instr.findNow (.int .i64) (.int .i64 k) ents.toList 0 = some (some (j, u))) (g4 : ents[j]? = some e0) (g5 : e0.key = .int .i64 k) :
    (Instr.mapUpdate U (.map (some b)) (.int .i64 k) v').run P w = .ok () { w with heap := w.heap.setIfInBounds b (.map (ents.modify j fun e => { e with key := .int .i64 k, val := v' }) clock) } := by
  have hc := MapKept.run_checkKey (P := P) (w := w) hkt (isKeyI k) false 9999
  have hf := MapKept.run_findKey (P := P) (w := w) hkt g1
  simp [Instr.mapUpdate, run_underlying hu, MapKept.run_getObj_map hw, hc, hf, g4, g5, run_stays, MapKept.run_setObj_map _ hw, Result.andThen]
theorem WL_mapUpdate {b : Nat} {es : List (Int × List α)} {k : Int} {v' : Value} {a' : List α} (hC : Ctx D w0 w (Item.own v' a' :: As)) (i : Nat) (hi : As[i]? = some (Item.mhole b es k v)) (hu : P.underlying U = some (.map kt t)) (hkt : P.underlying kt = some (.int .i64))
    (hx : ev l x = some (.map (some b))) (hy : ev l y = some (.int .i64 k)) (hz : ev l z = some v') (h : ∀ w', Ctx D w0 w' (As.set i (Item.imap b (mset es k a'))) → WL P n ops K os l w') : WL P n ops K (⟨none, .mapUpdate U x y z, T, pos, aft, none⟩ :: os) l w := by
  obtain ⟨F, G, ⟨ents, clock, Fe, hw, rfl, h2⟩, hF, hv, hG, hFG, hk⟩ := hC.focus2 hi
  have hnd := List.nodup_cons.1 hF
  have fin : ∀ (ents' : Array MapEntry) (clock' : Nat) (H : List Nat), ments w ents'.toList (mset es k a') H → H.Perm (G ++ Fe) → Ctx D w0 { w with heap := w.heap.setIfInBounds b (.map ents' clock') } (As.set i (Item.imap b (mset es k a'))) := by
    intro ents' clock' H g2 g3
    have hbH : b ∉ H := fun hb => by
      rcases List.mem_append.1 (g3.mem_iff.1 hb) with h | h
      · exact hFG b (List.mem_cons_self ..) h
      · exact hnd.1 h
    have hHn : H.Nodup := g3.nodup_iff.2 (List.nodup_append.2 ⟨hG, hnd.2, fun x hx y hy e => hFG y (List.mem_cons_of_mem _ hy) (e ▸ hx)⟩)
    refine hk _ _ (b :: H) ⟨rfl, rfl, rfl, by simp, fun j hj hjb => (MapKept.heap_set hw).2 j (fun e => hjb (by simp [e]))⟩ ⟨ents', clock', H, (MapKept.heap_set hw).1, rfl, ments_frame g2 fun c hc => (MapKept.heap_set hw).2 c (fun e => hbH (e ▸ hc))⟩ (List.nodup_cons.2 ⟨hbH, hHn⟩) (fun q hq => ?_)
    rcases List.mem_cons.1 hq with rfl | hq
    · exact .inl (List.mem_cons_self ..)
    · rcases List.mem_append.1 (g3.mem_iff.1 hq) with h | h
      · exact .inr (.inl h)
      · exact .inl (List.mem_cons_of_mem _ h)
  rcases set_mholes (born := clock) hv 0 h2 with ⟨g1, H, g2, g3⟩ | ⟨j, u, e0, g1, g4, g5, H, g2, g3⟩
  · have hc := MapKept.run_checkKey (P := P) (w := w) hkt (isKeyI k) false 9999
    have hf := MapKept.run_findKey (P := P) (w := w) hkt g1
    refine WL_run0 (w' := { w with heap := w.heap.setIfInBounds b (.map (ents.push { key := .int .i64 k, val := v', born := clock }) (clock + 1)) }) rfl rfl (fun ρ hρ => ?_) (h _ (fin _ _ H (by simpa using g2) g3))
    simp [execOp, hρ x _ hx, hρ y _ hy, hρ z _ hz, Instr.mapUpdate, run_underlying hu, MapKept.run_getObj_map hw, hc, hf, MapKept.run_setObj_map _ hw, Result.andThen]
  · rw [Nat.zero_add] at g1
    have hr := run_mapPut (v' := v') hu hkt hw g1 (by simpa using g4) g5
    refine WL_run0 (w' := { w with heap := w.heap.setIfInBounds b (.map (ents.modify j fun e => { e with key := .int .i64 k, val := v' }) clock) }) rfl rfl (fun ρ hρ => ?_) (h _ (fin _ _ H (by simpa using g2) g3))
    simp [execOp, hρ x _ hx, hρ y _ hy, hρ z _ hz, hr]
end
end Go.Gx
