/- Some operations of a region that draws, in whatever order, each with its post; what is done already is left out. Conditions: none. -/
import Derived.Test.YtbfmhlhjkbimmaaGreatDoorGxS
set_option linter.unusedVariables false
set_option linter.unusedSimpArgs false
namespace Go.Gx
open Go.RowKit

def lookX : List (Nat × PV) → Nat → Option PV
  | [], _ => none
  | (i, p) :: X, j => bif Nat.beq i j then some p else lookX X j
def idsX (X : List (Nat × PV)) : List Nat := X.map (·.1)
def DepsX (os : List Oper) (X : List (Nat × PV)) : List Nat → Env → World → (Env → Prop) → Prop
  | [], l, _, K => K l
  | j :: js, l, w, K => match lookX X j, dstOf os j with
    | some p, some d => ∀ v F, p.p v w F → DepsX os X js ((d, v) :: l) w K
    | _, _ => DepsX os X js l w K
def StepX (P : Program) (n : Nat) (os : List Oper) (X : List (Nat × PV)) (w0 : World) (l : Env) (i : Nat) (p : PV) (use : List Nat) : Prop :=
  ∀ w, Below w0.heap.size w0 w → DepsX os X use l w (fun l' => ∃ o, os[i]? = some o ∧ WL P n os.toArray (Fin1 o p w) [o] l' w)
def StepsX (P : Program) (n : Nat) (os : List Oper) (X : List (Nat × PV)) (w0 : World) (l : Env) : List (Nat × PV) → List (List Nat) → Prop
  | (i, p) :: X', u :: us => StepX P n os X w0 l i p u ∧ StepsX P n os X w0 l X' us
  | [], _ => True
  | _, _ => False
def AllX (os : List Oper) (w' : World) : List (Nat × PV) → Env → List (List Nat) → (Env → List (List Nat) → Prop) → Prop
  | (i, p) :: X, l, Fs, K => match dstOf os i with
    | some d => ∀ v F, p.p v w' F → AllX os w' X ((d, v) :: l) (F :: Fs) K
    | none => True
  | [], l, Fs, K => K l Fs
def setX (listed : Array Bool) : List Nat → Array Bool
  | [] => listed
  | i :: is => setX (listed.setIfInBounds i true) is

def mem (i : Nat) : List Nat → Bool
  | [] => false
  | j :: js => Nat.beq i j || mem i js
theorem mem_iff {i : Nat} : ∀ {l : List Nat}, mem i l = true ↔ i ∈ l
  | [] => by simp [mem]
  | j :: js => by simp [mem, mem_iff (l := js)]
def xDsts (os : List Oper) (l : Env) : List Nat → List Nat → Bool
  | [], _ => true
  | i :: is, seen => match dstOf os i with
    | some d => (look l d).isNone && !mem d seen && xDsts os l is (d :: seen)
    | none => false
def xDeps (os : List Oper) (listed : Array Bool) (ids : List Nat) : List Nat → Bool
  | [] => true
  | i :: is => (match os[i]? with
    | some o => o.after.toList.all fun e => !Region.binds .any e || listed.getD e.on false || mem e.on ids
    | none => false) && xDeps os listed ids is
def xUses (os : List Oper) (ids : List Nat) : List Nat → List (List Nat) → Bool
  | i :: is, u :: us => (match os[i]? with
    | some o => u.all fun j => bound o j && mem j ids
    | none => false) && xUses os ids is us
  | _, _ => true
def xOut (os : List Oper) (ms : List Nat) (listed : Array Bool) (ids : List Nat) : Nat → Nat → Bool
  | _, 0 => true
  | k, f + 1 => (listed.getD k false || mem k ids || ids.all fun i => (ms.getD k 0).testBit i) && xOut os ms listed ids (k + 1) f
def xClosed (listed : Array Bool) : Nat → List Oper → Bool
  | _, [] => true
  | k, o :: os => (!listed.getD k false || o.after.toList.all fun e => !Region.binds .any e || listed.getD e.on false) && xClosed listed (k + 1) os
def xFree (listed : Array Bool) : List Nat → List Nat → Bool
  | [], _ => true
  | i :: is, seen => !listed.getD i true && !mem i seen && xFree listed is (i :: seen)
def xOk (os : List Oper) (l : Env) (listed : Array Bool) (ids : List Nat) (uses : List (List Nat)) : Bool :=
  xFree listed ids [] && xDsts os l ids [] && xDeps os listed ids ids && xUses os ids ids uses && xOut os (masks os []) listed ids 0 os.length && xClosed listed 0 os && depsOk os 0

theorem lookX_mem {X : List (Nat × PV)} {j : Nat} {p : PV} (h : lookX X j = some p) : (j, p) ∈ X := by
  induction X with
  | nil => simp [lookX] at h
  | cons x X ih =>
    obtain ⟨i, q⟩ := x
    simp only [lookX] at h
    cases hb : Nat.beq i j with
    | true => rw [hb] at h; simp at h; subst h; rw [Nat.eq_of_beq_eq_true hb]; simp
    | false => rw [hb] at h; simp at h; exact List.mem_cons_of_mem _ (ih h)
theorem lookX_some {X : List (Nat × PV)} {j : Nat} (h : j ∈ idsX X) : ∃ p, lookX X j = some p := by
  induction X with
  | nil => simp [idsX] at h
  | cons x X ih =>
    obtain ⟨i, q⟩ := x
    simp only [lookX]
    cases hb : Nat.beq i j with
    | true => exact ⟨q, rfl⟩
    | false =>
      simp only [cond_false]
      refine ih ?_
      simp only [idsX, List.map_cons, List.mem_cons] at h
      rcases h with h | h
      · subst h; simp at hb
      · exact h
theorem lookX_uniq {X : List (Nat × PV)} (hn : (idsX X).Nodup) {j : Nat} {p : PV} (h : (j, p) ∈ X) : lookX X j = some p := by
  induction X with
  | nil => cases h
  | cons x X ih =>
    obtain ⟨i, q⟩ := x
    simp only [idsX, List.map_cons, List.nodup_cons] at hn
    simp only [lookX]
    rcases List.mem_cons.1 h with h | h
    · cases h; simp
    · have hne : Nat.beq i j = false := by
        cases hb : Nat.beq i j with
        | false => rfl
        | true => exact absurd (List.mem_map.2 ⟨(j, p), h, (Nat.eq_of_beq_eq_true hb).symm⟩) hn.1
      rw [hne]; exact ih hn.2 h

theorem xFree_spec (listed : Array Bool) : ∀ (is seen : List Nat), xFree listed is seen = true → is.Nodup ∧ (∀ i ∈ is, i ∉ seen) ∧ ∀ i ∈ is, i < listed.size ∧ ¬ lst listed i
  | [], _, _ => by simp
  | i :: is, seen, h => by
    simp only [xFree, Bool.and_eq_true, Bool.not_eq_true'] at h
    obtain ⟨⟨h1, h2⟩, h3⟩ := h
    obtain ⟨g1, g2, g3⟩ := xFree_spec listed is (i :: seen) h3
    have h2' : i ∉ seen := fun hm => by rw [mem_iff.2 hm] at h2; cases h2
    refine ⟨List.nodup_cons.2 ⟨fun hm => g2 i hm (List.mem_cons_self ..), g1⟩, fun j hj => ?_, fun j hj => ?_⟩
    · rcases List.mem_cons.1 hj with rfl | hj
      · exact h2'
      · exact fun hs => g2 j hj (List.mem_cons_of_mem _ hs)
    · rcases List.mem_cons.1 hj with rfl | hj
      · exact unlisted_getD h1
      · exact g3 j hj
theorem xDsts_spec (os : List Oper) (l : Env) : ∀ (is seen : List Nat), xDsts os l is seen = true → ∀ i ∈ is, ∃ o d, os[i]? = some o ∧ o.dst = some d ∧ look l d = none ∧ d ∉ seen ∧ (is.Nodup → ∀ j ∈ is, j ≠ i → dstOf os j ≠ some d)
  | [], _, _, i, hi => by cases hi
  | k :: is, seen, h, i, hi => by
    simp only [xDsts] at h
    cases hd : dstOf os k with
    | none => rw [hd] at h; cases h
    | some d0 =>
      rw [hd] at h
      simp only [Bool.and_eq_true, Option.isNone_iff_eq_none, Bool.not_eq_true'] at h
      obtain ⟨⟨h1, h2⟩, h3⟩ := h
      have h2' : d0 ∉ seen := fun hm => by rw [mem_iff.2 hm] at h2; cases h2
      rcases List.mem_cons.1 hi with rfl | hi
      · have hd' := hd
        simp only [dstOf] at hd
        cases ho : os[i]? with
        | none => rw [ho] at hd; cases hd
        | some o =>
          rw [ho] at hd
          refine ⟨o, d0, rfl, by simpa using hd, h1, h2', fun hn j hj hji => ?_⟩
          rcases List.mem_cons.1 hj with rfl | hj
          · exact absurd rfl hji
          · obtain ⟨o2, d2, g1, g2, g3, g4, _⟩ := xDsts_spec os l is (d0 :: seen) h3 j hj
            intro he
            simp only [dstOf, g1, Option.bind_some, g2, Option.some.injEq] at he
            subst he; simp at g4
      · obtain ⟨o, d, g1, g2, g3, g4, g5⟩ := xDsts_spec os l is (d0 :: seen) h3 i hi
        refine ⟨o, d, g1, g2, g3, fun hm => g4 (List.mem_cons_of_mem _ hm), fun hn j hj hji => ?_⟩
        rcases List.mem_cons.1 hj with rfl | hj
        · rw [hd]; intro he; simp at he; subst he; simp at g4
        · exact g5 (List.nodup_cons.1 hn).2 j hj hji
theorem xDeps_spec (os : List Oper) (listed : Array Bool) (ids : List Nat) : ∀ (is : List Nat), xDeps os listed ids is = true → ∀ i ∈ is, ∀ o, os[i]? = some o → ∀ e ∈ o.after, Region.binds .any e = true → lst listed e.on ∨ e.on ∈ ids
  | [], _, i, hi => by cases hi
  | k :: is, h, i, hi => by
    simp only [xDeps, Bool.and_eq_true] at h
    rcases List.mem_cons.1 hi with rfl | hi
    · intro o ho e he hb
      rw [ho] at h
      have h1 := List.all_eq_true.1 h.1 e (by simpa using he)
      simp only [hb, Bool.not_true, Bool.false_or, Bool.or_eq_true] at h1
      exact h1.imp id mem_iff.1
    · exact xDeps_spec os listed ids is h.2 i hi
theorem xUses_spec (os : List Oper) (ids : List Nat) : ∀ (is : List Nat) (us : List (List Nat)), xUses os ids is us = true → ∀ (k : Nat) i u, is[k]? = some i → us[k]? = some u → ∀ o, os[i]? = some o → ∀ j ∈ u, bound o j = true ∧ j ∈ ids
  | [], _, _, k, i, u, h, _ => by simp at h
  | _ :: _, [], _, k, i, u, _, h => by simp at h
  | i' :: is, u' :: us, h, k, i, u, hi, hu => by
    simp only [xUses, Bool.and_eq_true] at h
    cases k with
    | zero =>
      simp at hi hu; subst hi; subst hu
      intro o ho j hj
      rw [ho] at h
      have := List.all_eq_true.1 h.1 j hj
      simp only [Bool.and_eq_true] at this
      exact ⟨this.1, mem_iff.1 this.2⟩
    | succ k => exact xUses_spec os ids is us h.2 k i u (by simpa using hi) (by simpa using hu)
theorem xOut_spec (os : List Oper) (ms : List Nat) (listed : Array Bool) (ids : List Nat) : ∀ (f k : Nat), xOut os ms listed ids k f = true → ∀ j, k ≤ j → j < k + f → lst listed j ∨ j ∈ ids ∨ ∀ i ∈ ids, (ms.getD j 0).testBit i = true
  | 0, k, _, j, h1, h2 => by omega
  | f + 1, k, h, j, h1, h2 => by
    simp only [xOut, Bool.and_eq_true, Bool.or_eq_true] at h
    by_cases e : j = k
    · subst e
      rcases h.1 with (h3 | h3) | h3
      · exact .inl h3
      · exact .inr (.inl (mem_iff.1 h3))
      · exact .inr (.inr (List.all_eq_true.1 h3))
    · exact xOut_spec os ms listed ids f (k + 1) h.2 j (by omega) (by omega)
theorem xClosed_spec (listed : Array Bool) : ∀ (os : List Oper) (k : Nat), xClosed listed k os = true → ∀ (i : Nat) o, os[i]? = some o → lst listed (k + i) → ∀ e ∈ o.after, Region.binds .any e = true → lst listed e.on
  | [], _, _, i, o, ho => by simp at ho
  | o' :: os, k, h, i, o, ho => by
    simp only [xClosed, Bool.and_eq_true, Bool.or_eq_true] at h
    cases i with
    | zero =>
      simp at ho; subst ho
      intro hl e he hb
      rcases h.1 with h1 | h1
      · simp only [Nat.add_zero] at hl; rw [show listed.getD k false = true from hl] at h1; simp at h1
      · have := List.all_eq_true.1 h1 e (by simpa using he)
        simp only [hb, Bool.not_true, Bool.false_or] at this
        exact this
    | succ i =>
      intro hl
      exact xClosed_spec listed os (k + 1) h.2 i o (by simpa using ho) (by rw [show k + 1 + i = k + (i + 1) by omega]; exact hl)

theorem lst_setX : ∀ (is : List Nat) (listed : Array Bool), (∀ i ∈ is, i < listed.size) → (setX listed is).size = listed.size ∧ ∀ j, lst (setX listed is) j ↔ j ∈ is ∨ lst listed j
  | [], listed, _ => ⟨rfl, fun j => by simp [setX]⟩
  | i :: is, listed, h => by
    obtain ⟨h1, h2⟩ := lst_setX is (listed.setIfInBounds i true) (fun j hj => by simpa using h j (List.mem_cons_of_mem _ hj))
    refine ⟨by simpa [setX] using h1, fun j => ?_⟩
    simp only [setX]
    rw [h2, lst_set (h i (List.mem_cons_self ..)), List.mem_cons]
    constructor
    · rintro (h | h | h)
      · exact .inl (.inr h)
      · exact .inl (.inl h)
      · exact .inr h
    · rintro ((h | h) | h)
      · exact .inr (.inl h)
      · exact .inl h
      · exact .inr (.inr h)
theorem listed_ext {a b : Array Bool} (hs : a.size = b.size) (h : ∀ i, lst a i ↔ lst b i) : a = b := by
  apply Array.ext hs
  intro i h1 h2
  have := h i
  simp only [lst, Array.getD_eq_getD_getElem?, h1, h2, Array.getElem?_eq_getElem, Option.getD_some] at this
  cases ha : a[i] <;> cases hb : b[i] <;> simp_all

section
variable {P : Program} {n : Nat}
structure MidX (n : Nat) (os : List Oper) (X : List (Nat × PV)) (w0 : World) (l : Env) (G : Nat → List Nat) (S : Nat → Prop) (a : Act) (w : World) : Prop where
  below : Below w0.heap.size w0 w
  agr : Agr n l a
  posts : ∀ i p, S i → lookX X i = some p → ∃ o d, os[i]? = some o ∧ o.dst = some d ∧ p.p (a.tmps.getD d undef) w (G i) ∧ (G i).Nodup ∧ ∀ b ∈ G i, w0.heap.size ≤ b ∧ b < w.heap.size
  apart : ∀ i j p q, S i → S j → lookX X i = some p → lookX X j = some q → i ≠ j → ∀ b ∈ G i, b ∉ G j

theorem stepsX_get {os : List Oper} {X : List (Nat × PV)} {w0 : World} {l : Env} : ∀ (X' : List (Nat × PV)) (us : List (List Nat)), StepsX P n os X w0 l X' us → ∀ {i : Nat} {p : PV}, (i, p) ∈ X' → ∃ (k : Nat) (u : List Nat), (idsX X')[k]? = some i ∧ us[k]? = some u ∧ StepX P n os X w0 l i p u
  | [], _, _, i, p, h => by cases h
  | (i', p') :: X', [], h, i, p, _ => by simp [StepsX] at h
  | (i', p') :: X', u :: us, h, i, p, hm => by
    simp only [StepsX] at h
    rcases List.mem_cons.1 hm with hm | hm
    · cases hm; exact ⟨0, u, rfl, rfl, h.1⟩
    · obtain ⟨k, u', h1, h2, h3⟩ := stepsX_get X' us h.2 hm
      exact ⟨k + 1, u', by simpa [idsX] using h1, by simpa using h2, h3⟩

theorem depsX_elim {os : List Oper} {X : List (Nat × PV)} {w0 : World} {l : Env} {G : Nat → List Nat} {S : Nat → Prop} {a : Act} {w : World} (hM : MidX n os X w0 l G S a w) {K : Env → Prop} :
    ∀ (js : List Nat) (l' : Env), Agr n l' a → (∀ j ∈ js, S j) → DepsX os X js l' w K → ∃ l'', Agr n l'' a ∧ K l''
  | [], l', ha, _, h => ⟨l', ha, h⟩
  | j :: js, l', ha, hj, h => by
    have hS := hj j (List.mem_cons_self ..)
    have hrest : ∀ j' ∈ js, S j' := fun j' h' => hj j' (List.mem_cons_of_mem _ h')
    simp only [DepsX] at h
    cases hp : lookX X j with
    | none => rw [hp] at h; exact depsX_elim hM js l' ha hrest h
    | some p =>
      obtain ⟨o, d, h1, h3, h4, _, _⟩ := hM.posts j p hS hp
      rw [hp] at h
      simp only [dstOf, h1, Option.bind_some, h3] at h
      exact depsX_elim hM js _ ⟨ha.defers, ha.size, fun t v hv => by
        rw [look_cons] at hv
        by_cases e : d = t
        · subst e; simp only [if_true, Option.some.injEq] at hv; exact hv
        · simp [e] at hv; exact ha.look t v hv⟩ hrest (h _ _ h4)

theorem allX_elim {os : List Oper} {X : List (Nat × PV)} {w0 : World} {l : Env} {G : Nat → List Nat} {S : Nat → Prop} {a : Act} {w : World} (hM : MidX n os X w0 l G S a w) (hn : (idsX X).Nodup) (hall : ∀ i ∈ idsX X, S i) {K : Env → List (List Nat) → Prop} :
    ∀ (X' : List (Nat × PV)) (l' : Env) (Fs : List (List Nat)) (done : List Nat), (∀ x ∈ X', x ∈ X) → (idsX X').Nodup → (∀ i ∈ idsX X', i ∉ done) → (∀ i ∈ done, i ∈ idsX X) → Agr n l' a →
      (Fs.flatten).Nodup → (∀ b ∈ Fs.flatten, w0.heap.size ≤ b ∧ b < w.heap.size) → (∀ b ∈ Fs.flatten, ∃ i ∈ done, b ∈ G i) →
      AllX os w X' l' Fs K → ∃ l'' Fs', Agr n l'' a ∧ (Fs'.flatten).Nodup ∧ (∀ b ∈ Fs'.flatten, w0.heap.size ≤ b ∧ b < w.heap.size) ∧ K l'' Fs'
  | [], l', Fs, done, _, _, _, _, ha, h1, h2, _, h => ⟨l', Fs, ha, h1, h2, h⟩
  | (i, p) :: X', l', Fs, done, hsub, hnd, hdis, hdone, ha, h1, h2, h3, h => by
    have hmem := hsub (i, p) (List.mem_cons_self ..)
    have hlook := lookX_uniq hn hmem
    have hi : i ∈ idsX X := List.mem_map.2 ⟨(i, p), hmem, rfl⟩
    obtain ⟨o, d, g1, g2, g3, g4, g5⟩ := hM.posts i p (hall i hi) hlook
    simp only [AllX, dstOf, g1, Option.bind_some, g2] at h
    simp only [idsX, List.map_cons, List.nodup_cons] at hnd
    have hidone : i ∉ done := hdis i (by simp [idsX])
    refine allX_elim hM hn hall X' _ (G i :: Fs) (i :: done) (fun x hx => hsub x (List.mem_cons_of_mem _ hx)) hnd.2 (fun j hj hjd => ?_) (fun j hj => ?_) ⟨ha.defers, ha.size, fun t v hv => ?_⟩ ?_ ?_ ?_ (h _ _ g3)
    · rcases List.mem_cons.1 hjd with rfl | hjd
      · exact hnd.1 hj
      · exact hdis j (by simp only [idsX, List.map_cons]; exact List.mem_cons_of_mem _ hj) hjd
    · rcases List.mem_cons.1 hj with rfl | hj
      · exact hi
      · exact hdone j hj
    · rw [look_cons] at hv
      by_cases e : d = t
      · subst e; simp only [if_true, Option.some.injEq] at hv; exact hv
      · simp [e] at hv; exact ha.look t v hv
    · rw [List.flatten_cons, List.nodup_append]
      refine ⟨g4, h1, fun b hb c hc e => ?_⟩
      subst e
      obtain ⟨k, hk, hbk⟩ := h3 b hc
      obtain ⟨q, hq⟩ := lookX_some (hdone k hk)
      exact hM.apart i k p q (hall i hi) (hall k (hdone k hk)) hlook hq (fun e => hidone (e ▸ hk)) b hb hbk
    · intro b hb
      rw [List.flatten_cons, List.mem_append] at hb
      rcases hb with hb | hb
      · exact g5 b hb
      · exact h2 b hb
    · intro b hb
      rw [List.flatten_cons, List.mem_append] at hb
      rcases hb with hb | hb
      · exact ⟨i, List.mem_cons_self .., hb⟩
      · obtain ⟨k, hk, hbk⟩ := h3 b hb
        exact ⟨k, List.mem_cons_of_mem _ hk, hbk⟩

theorem MidX.next {os : List Oper} {X : List (Nat × PV)} {w0 : World} {l : Env} {G : Nat → List Nat} {listed : Array Bool} {a : Act} {w : World} (hM : MidX n os X w0 l G (lst listed) a w)
    {i : Nat} {o : Oper} {p : PV} {a' : Act} {w' : World} {l' : Env} {v : Value} (hsz : i < listed.size) (hi : ¬ lst listed i) (ho : os[i]? = some o) (hp : lookX X i = some p)
    (hds : ∃ d, o.dst = some d ∧ look l d = none ∧ ∀ j q, lookX X j = some q → j ≠ i → dstOf os j ≠ some d)
    (hv : a' = a.put o.dst v) (ha : Agr n l' a') (hf : Fin1 o p w l' w') : ∃ G', MidX n os X w0 l G' (lst (listed.setIfInBounds i true)) a' w' := by
  obtain ⟨d, hd, hln, hne⟩ := hds
  obtain ⟨hB, d', v', F, hd', hlk, hpv, hnd, hF⟩ := hf
  obtain rfl : d = d' := by rw [hd] at hd'; simpa using hd'
  have hkeep : ∀ t, t ≠ d → a'.tmps.getD t undef = a.tmps.getD t undef := fun t ht => by
    rw [hv, hd]; simp [Act.put, Array.getElem?_setIfInBounds_ne (Ne.symm ht)]
  have other : ∀ k, lst (listed.setIfInBounds i true) k → k ≠ i → lst listed k := fun k hk e => by
    rcases (lst_set hsz).1 hk with h | h
    · exact absurd h e
    · exact h
  refine ⟨fun k => if k = i then F else G k, ⟨hM.below.trans (hB.mono hM.below.size), ⟨ha.defers, ha.size, fun t u hu => ?_⟩, fun k q hk hq => ?_, fun k j q r hk hj hq hr hkj b hb => ?_⟩⟩
  · have ht : t ≠ d := fun e => by subst e; rw [hln] at hu; cases hu
    rw [hkeep t ht]; exact hM.agr.look t u hu
  · by_cases e : k = i
    · subst e
      obtain rfl : p = q := by rw [hp] at hq; simpa using hq
      refine ⟨o, d, ho, hd, ?_, ?_, ?_⟩ <;> simp only [if_true]
      · rw [ha.look d v' hlk]; exact hpv
      · exact hnd
      · exact fun b hb => ⟨Nat.le_trans hM.below.size (hF b hb).1, (hF b hb).2⟩
    · obtain ⟨ok, dk, h1, h3, h4, h5, h6⟩ := hM.posts k q (other k hk e) hq
      have hdk : dk ≠ d := fun e' => by
        subst e'
        exact hne k q hq e (by simp [dstOf, h1, h3])
      refine ⟨ok, dk, h1, h3, ?_, ?_, ?_⟩ <;> simp only [if_neg e]
      · rw [hkeep dk hdk]; exact q.st _ _ _ _ h4 hB
      · exact h5
      · exact fun b hb => ⟨(h6 b hb).1, Nat.lt_of_lt_of_le (h6 b hb).2 hB.size⟩
  · by_cases e1 : k = i
    · have e2 : j ≠ i := fun e => hkj (e1.trans e.symm)
      simp only [if_pos e1] at hb
      simp only [if_neg e2]
      obtain ⟨_, _, _, _, _, _, h6⟩ := hM.posts j r (other j hj e2) hr
      intro hb'
      have := (h6 b hb').2
      have := (hF b hb).1
      omega
    · simp only [if_neg e1] at hb
      by_cases e2 : j = i
      · simp only [if_pos e2]
        obtain ⟨_, _, _, _, _, _, h6⟩ := hM.posts k q (other k hk e1) hq
        intro hb'
        have := (h6 b hb).2
        have := (hF b hb').1
        omega
      · simp only [if_neg e2]
        exact hM.apart k j q r (other k hk e1) (other j hj e2) hq hr hkj b hb

/-- some operations in whatever order, each with its post -/
theorem WA_posts {os : List Oper} {K : Env → World → Prop} {g : Nat} {listed listed' : Array Bool} {l : Env} {w : World} (X : List (Nat × PV)) (uses : List (List Nat)) (f : Nat) (hg : X.length + f = g) (hsz : listed.size = os.length) (hchk : xOk os l listed (idsX X) uses = true) (hL : setX listed (idsX X) = listed')
    (steps : StepsX P n os X w l X uses)
    (rest : ∀ w', Below w.heap.size w w' → AllX os w' X l [] (fun l' Fs => (Fs.flatten).Nodup → (∀ b ∈ Fs.flatten, w.heap.size ≤ b ∧ b < w'.heap.size) → WA P n os.toArray K f listed' l' w')) :
    WA P n os.toArray K g listed l w := by
  subst hg
  intro a ha
  simp only [xOk, Bool.and_eq_true] at hchk
  obtain ⟨⟨⟨⟨⟨⟨c1, c2⟩, c3⟩, c4⟩, c5⟩, c6⟩, c7⟩ := hchk
  obtain ⟨hnd, _, hun⟩ := xFree_spec listed _ _ c1
  have hclL := xClosed_spec listed os 0 c6
  -- what is left of X
  have key : ∀ (rem : List Nat) (lis : Array Bool) (a : Act) (w1 : World) (G : Nat → List Nat), rem.Nodup → (∀ i ∈ rem, i ∈ idsX X) → lis.size = os.length → (∀ i, lst lis i ↔ lst listed i ∨ i ∈ idsX X ∧ i ∉ rem) →
      (∀ (i : Nat) (o : Oper), os[i]? = some o → lst lis i → ∀ e ∈ o.after, Region.binds .any e = true → lst lis e.on) →
      MidX n os X w l G (lst lis) a w1 → wpAny P .any os.toArray (fun e a w => e = .normal ∧ ∃ l', Agr n l' a ∧ K l' w) (rem.length + f) lis a w1 := by
    intro rem
    generalize hk : rem.length = k
    induction k generalizing rem with
    | zero =>
      intro lis a w1 G hr hsub hs hl hcl hM
      have hnil : rem = [] := List.eq_nil_of_length_eq_zero hk
      subst hnil
      obtain ⟨l'', Fs', h1, h2, h3, h4⟩ := allX_elim hM hnd (fun i hi => (hl i).2 (.inr ⟨hi, by simp⟩)) X l [] [] (fun _ h => h) hnd (by simp) (by simp) hM.agr (by simp) (by simp) (by simp) (rest w1 hM.below)
      have hset := lst_setX (idsX X) listed (fun i hi => (hun i hi).1)
      have e : lis = listed' := by
        rw [← hL]
        refine listed_ext (by rw [hset.1, hs, hsz]) fun i => ?_
        rw [hl, hset.2]
        simp [or_comm]
      subst e
      simpa using h4 h2 h3 a h1
    | succ k ih =>
      intro lis a w1 G hr hsub hs hl hcl hM
      have unl : ∀ i ∈ rem, ¬ lst lis i := fun i hi h => by
        rcases (hl i).1 h with h | h
        · exact (hun i (hsub i hi)).2 h
        · exact h.2 hi
      have hex : ∃ r, r ∈ rem := by
        cases rem with
        | nil => simp at hk
        | cons r rem' => exact ⟨r, List.mem_cons_self ..⟩
      obtain ⟨r, hrr⟩ := hex
      have hready : ∃ j, j ∈ Region.ready .any os.toArray lis := by
        have go : ∀ j, j ∈ rem → ∃ j, j ∈ Region.ready .any os.toArray lis := by
          intro j
          induction j using Nat.strongRecOn with
          | _ j ihj =>
            intro hj
            obtain ⟨o, d, ho, _⟩ := xDsts_spec os l _ _ c2 j (hsub j hj)
            by_cases hd : ∀ e ∈ o.after, Region.binds .any e = true → lst lis e.on
            · exact ⟨j, mem_ready.2 ⟨getD_unlisted (by rw [hs]; exact (List.getElem?_eq_some_iff.1 ho).1) (unl j hj), o, by simpa using ho, hd⟩⟩
            · have : ∃ e ∈ o.after, Region.binds .any e = true ∧ ¬ lst lis e.on := by
                apply Classical.byContradiction
                intro h
                exact hd fun e he hb => Classical.byContradiction fun h' => h ⟨e, he, hb, h'⟩
              obtain ⟨e, he, hb, hn'⟩ := this
              have hlt := depsOk_spec os 0 c7 j o ho e he hb
              rcases xDeps_spec os listed _ _ c3 j (hsub j hj) o ho e he hb with h | h
              · exact absurd ((hl _).2 (.inl h)) hn'
              · refine ihj e.on (by omega) ?_
                exact Classical.byContradiction fun hrem => hn' ((hl _).2 (.inr ⟨h, hrem⟩))
        exact go r hrr
      rw [show k + 1 + f = (k + f) + 1 by omega]
      refine ⟨fun h0 => (by obtain ⟨j, hj⟩ := hready; rw [h0] at hj; cases hj), fun i hi => ?_⟩
      obtain ⟨h1, o, ho, hd⟩ := mem_ready.1 hi
      have hu := unlisted_getD h1
      have ho' : os[i]? = some o := by simpa using ho
      have hlt : i < os.length := (List.getElem?_eq_some_iff.1 ho').1
      have hirem : i ∈ rem := by
        rcases xOut_spec os _ listed _ _ 0 c5 i (by omega) (by omega) with h | h | h
        · exact absurd ((hl i).2 (.inl h)) hu.2
        · exact Classical.byContradiction fun hr' => hu.2 ((hl i).2 (.inr ⟨h, hr'⟩))
        · exfalso
          have := (masks_spec (lst lis) os [] (fun i _ j hj => by simp at hj) (fun i o h hS e he hb => hcl i o h (by simpa using hS) e he hb) (fun _ => .inr (.inr trivial)) i).1 (by simp) (by simpa using hlt) o (by simpa using ho') hd r (h r (hsub r hrr))
          exact unl r hrr this
      have hiX := hsub i hirem
      obtain ⟨p, hp⟩ := lookX_some hiX
      obtain ⟨q, u, hq, hu', hstep⟩ := stepsX_get X uses steps (lookX_mem hp)
      obtain ⟨l'', h4, o2, ho2, h5⟩ := depsX_elim hM u l hM.agr (fun j hj => by
        obtain ⟨h6, h7⟩ := xUses_spec os _ _ _ c4 q i u hq hu' o ho' j hj
        obtain ⟨e, he, hej, hb⟩ := mem_bound h6
        exact hej ▸ hd e he hb) (hstep w1 hM.below)
      obtain rfl : o = o2 := by rw [ho'] at ho2; simpa using ho2
      refine wpOp_mono ?_ (wpOp_of_WL ho h4 h5)
      rintro a' w' ⟨⟨v, hv⟩, l3, h6, h7⟩
      obtain ⟨o3, d, g0, h8, h9, _, h10⟩ := xDsts_spec os l _ _ c2 i hiX
      obtain rfl : o = o3 := by rw [ho'] at g0; simpa using g0
      obtain ⟨G', hM'⟩ := hM.next hu.1 hu.2 ho' hp ⟨d, h8, h9, fun j q hj hji => h10 hnd j (List.mem_map.2 ⟨(j, q), lookX_mem hj, rfl⟩) hji⟩ hv h6 h7
      have hlen : (rem.erase i).length = k := by rw [List.length_erase_of_mem hirem, hk]; rfl
      refine ih (rem.erase i) hlen _ a' w' G' (hr.erase i) (fun j hj => hsub j (List.mem_of_mem_erase hj)) (by simp [hs]) (fun j => ?_) (fun j oj hoj hl' e he hb => ?_) hM'
      · rw [lst_set hu.1, hl, hr.mem_erase_iff]
        by_cases e : j = i
        · subst e; simp [hiX]
        · simp [e]
      · rw [lst_set hu.1]
        rcases (lst_set hu.1).1 hl' with h | h
        · subst h
          rw [ho'] at hoj; simp at hoj; subst hoj
          exact .inr (hd e he hb)
        · exact .inr (hcl j oj hoj h e he hb)
  have hlenX : X.length = (idsX X).length := by simp [idsX]
  rw [hlenX]
  exact key (idsX X) listed a w (fun _ => []) hnd (fun _ h => h) hsz (fun i => by simp) (fun i o ho hi e he hb => hclL i o ho (by simpa using hi) e he hb)
    ⟨Below.refl _ _, ha, fun i p hS hp => absurd hS (hun i (List.mem_map.2 ⟨(i, p), lookX_mem hp, rfl⟩)).2, fun i j p q hS _ hp _ => absurd hS (hun i (List.mem_map.2 ⟨(i, p), lookX_mem hp, rfl⟩)).2⟩

theorem DepsX_nil {os : List Oper} {X : List (Nat × PV)} {l : Env} {w : World} {K : Env → Prop} (h : K l) : DepsX os X [] l w K := h
theorem DepsX_cons {os : List Oper} {X : List (Nat × PV)} {j : Nat} {js : List Nat} {l : Env} {w : World} {K : Env → Prop} {p : PV} {d : Nat} (hp : lookX X j = some p) (hd : dstOf os j = some d)
    (h : ∀ v F, p.p v w F → DepsX os X js ((d, v) :: l) w K) : DepsX os X (j :: js) l w K := by
  simp only [DepsX, hp, hd]; exact h
theorem AllX_nil {os : List Oper} {w' : World} {l : Env} {Fs : List (List Nat)} {K : Env → List (List Nat) → Prop} (h : K l Fs) : AllX os w' [] l Fs K := h
theorem AllX_cons {os : List Oper} {w' : World} {i : Nat} {p : PV} {X : List (Nat × PV)} {l : Env} {Fs : List (List Nat)} {K : Env → List (List Nat) → Prop} {d : Nat} (hd : dstOf os i = some d)
    (h : ∀ v F, p.p v w' F → AllX os w' X ((d, v) :: l) (F :: Fs) K) : AllX os w' ((i, p) :: X) l Fs K := by
  simp only [AllX, hd]; exact h
theorem StepsX_nil {os : List Oper} {X : List (Nat × PV)} {w0 : World} {l : Env} {us : List (List Nat)} : StepsX P n os X w0 l [] us := by cases us <;> simp [StepsX]
theorem StepsX_cons {os : List Oper} {X X' : List (Nat × PV)} {w0 : World} {l : Env} {i : Nat} {p : PV} {u : List Nat} {us : List (List Nat)} {o : Oper} (ho : os[i]? = some o)
    (h : ∀ w, Below w0.heap.size w0 w → DepsX os X u l w (fun l' => WL P n os.toArray (Fin1 o p w) [o] l' w)) (h' : StepsX P n os X w0 l X' us) : StepsX P n os X w0 l ((i, p) :: X') (u :: us) := by
  have mono : ∀ (js : List Nat) (l : Env) (w : World) (K K' : Env → Prop), (∀ l, K l → K' l) → DepsX os X js l w K → DepsX os X js l w K' := by
    intro js
    induction js with
    | nil => intro l w K K' hk h; exact hk _ h
    | cons j js ih =>
      intro l w K K' hk h
      simp only [DepsX] at h ⊢
      split at h
      · exact fun v F hv => ih _ _ _ _ hk (h v F hv)
      · exact ih _ _ _ _ hk h
  exact ⟨fun w hw => mono _ _ _ _ _ (fun l' h => ⟨o, ho, h⟩) (h w hw), h'⟩
/-- whichever comes next -/
theorem WA_all2 {ops : Array Oper} {K : Env → World → Prop} {f : Nat} {listed : Array Bool} {l : Env} {w : World} {i j : Nat} (hr : Region.ready .any ops listed = [i, j]) {o o' : Oper} (ho : ops[i]? = some o) (ho' : ops[j]? = some o')
    (h : WL P n ops (fun l' w' => WA P n ops K f (listed.setIfInBounds i true) l' w') [o] l w) (h' : WL P n ops (fun l' w' => WA P n ops K f (listed.setIfInBounds j true) l' w') [o'] l w) : WA P n ops K (f + 1) listed l w :=
  fun a ha => wpAny_all hr (by simp) fun k hk => by
    simp only [List.mem_cons, List.not_mem_nil, or_false] at hk
    rcases hk with rfl | rfl
    · exact wpOp_mono (fun a' w' ⟨l', h1, h2⟩ => h2 a' h1) (wpOp_of_WL' ho ha h)
    · exact wpOp_mono (fun a' w' ⟨l', h1, h2⟩ => h2 a' h1) (wpOp_of_WL' ho' ha h')
theorem WA_all3 {ops : Array Oper} {K : Env → World → Prop} {f : Nat} {listed : Array Bool} {l : Env} {w : World} {i j m : Nat} (hr : Region.ready .any ops listed = [i, j, m]) {o o' o'' : Oper} (ho : ops[i]? = some o) (ho' : ops[j]? = some o') (ho'' : ops[m]? = some o'')
    (h : WL P n ops (fun l' w' => WA P n ops K f (listed.setIfInBounds i true) l' w') [o] l w) (h' : WL P n ops (fun l' w' => WA P n ops K f (listed.setIfInBounds j true) l' w') [o'] l w)
    (h'' : WL P n ops (fun l' w' => WA P n ops K f (listed.setIfInBounds m true) l' w') [o''] l w) : WA P n ops K (f + 1) listed l w :=
  fun a ha => wpAny_all hr (by simp) fun k hk => by
    simp only [List.mem_cons, List.not_mem_nil, or_false] at hk
    rcases hk with rfl | rfl | rfl
    · exact wpOp_mono (fun a' w' ⟨l', h1, h2⟩ => h2 a' h1) (wpOp_of_WL' ho ha h)
    · exact wpOp_mono (fun a' w' ⟨l', h1, h2⟩ => h2 a' h1) (wpOp_of_WL' ho' ha h')
    · exact wpOp_mono (fun a' w' ⟨l', h1, h2⟩ => h2 a' h1) (wpOp_of_WL' ho'' ha h'')
theorem WA_all4 {ops : Array Oper} {K : Env → World → Prop} {f : Nat} {listed : Array Bool} {l : Env} {w : World} {i j m q : Nat} (hr : Region.ready .any ops listed = [i, j, m, q]) {o o' o'' o3 : Oper} (ho : ops[i]? = some o) (ho' : ops[j]? = some o') (ho'' : ops[m]? = some o'') (ho3 : ops[q]? = some o3)
    (h : WL P n ops (fun l' w' => WA P n ops K f (listed.setIfInBounds i true) l' w') [o] l w) (h' : WL P n ops (fun l' w' => WA P n ops K f (listed.setIfInBounds j true) l' w') [o'] l w)
    (h'' : WL P n ops (fun l' w' => WA P n ops K f (listed.setIfInBounds m true) l' w') [o''] l w) (h3 : WL P n ops (fun l' w' => WA P n ops K f (listed.setIfInBounds q true) l' w') [o3] l w) : WA P n ops K (f + 1) listed l w :=
  fun a ha => wpAny_all hr (by simp) fun k hk => by
    simp only [List.mem_cons, List.not_mem_nil, or_false] at hk
    rcases hk with rfl | rfl | rfl | rfl
    · exact wpOp_mono (fun a' w' ⟨l', h1, h2⟩ => h2 a' h1) (wpOp_of_WL' ho ha h)
    · exact wpOp_mono (fun a' w' ⟨l', h1, h2⟩ => h2 a' h1) (wpOp_of_WL' ho' ha h')
    · exact wpOp_mono (fun a' w' ⟨l', h1, h2⟩ => h2 a' h1) (wpOp_of_WL' ho'' ha h'')
    · exact wpOp_mono (fun a' w' ⟨l', h1, h2⟩ => h2 a' h1) (wpOp_of_WL' ho3 ha h3)
end
end Go.Gx
