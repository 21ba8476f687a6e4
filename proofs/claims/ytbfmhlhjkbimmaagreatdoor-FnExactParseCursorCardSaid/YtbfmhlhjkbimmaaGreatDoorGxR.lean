/- A region that draws its order: what each operation leaves, whatever the order. Conditions: none. -/
import Derived.Test.YtbfmhlhjkbimmaaGreatDoorGxA
set_option linter.unusedVariables false
set_option linter.unusedSimpArgs false
namespace Go.Gx
open Go.RowKit

/-- what is known of an operation's value: stable while the world grows -/
structure PV where
  p : Value → World → List Nat → Prop
  st : ∀ v w w' F, p v w F → Below w.heap.size w w' → p v w' F

def dstOf (os : List Oper) (j : Nat) : Option Nat := (os[j]?).bind (·.dst)

def DepsK (os : List Oper) (ps : List PV) : List Nat → Env → World → (Env → Prop) → Prop
  | [], l, _, K => K l
  | j :: js, l, w, K => match ps[j]?, dstOf os j with
    | some p, some d => ∀ v F, p.p v w F → DepsK os ps js ((d, v) :: l) w K
    | _, _ => DepsK os ps js l w K

/-- the end of one step: the operation's slot holds a value that its post knows, the world has grown -/
def Fin1 (o : Oper) (p : PV) (w : World) (l : Env) (w' : World) : Prop :=
  Below w.heap.size w w' ∧ ∃ d v F, o.dst = some d ∧ look l d = some v ∧ p.p v w' F ∧ F.Nodup ∧ ∀ b ∈ F, w.heap.size ≤ b ∧ b < w'.heap.size

def StepOK (P : Program) (n : Nat) (os : List Oper) (ps : List PV) (w0 : World) (l : Env) (o : Oper) (p : PV) (use : List Nat) : Prop :=
  ∀ w, Below w0.heap.size w0 w → DepsK os ps use l w (fun l' => WL P n os.toArray (Fin1 o p w) [o] l' w)

def Steps (P : Program) (n : Nat) (os : List Oper) (ps : List PV) (w0 : World) (l : Env) : List Oper → List PV → List (List Nat) → Prop
  | o :: os', p :: ps', u :: us' => StepOK P n os ps w0 l o p u ∧ Steps P n os ps w0 l os' ps' us'
  | _, [], _ => True
  | _, _, _ => False

def AllK (w' : World) : List PV → List Oper → Env → List (List Nat) → (Env → List (List Nat) → Prop) → Prop
  | p :: ps, o :: os, l, Fs, K => match o.dst with
    | some d => ∀ v F, p.p v w' F → AllK w' ps os ((d, v) :: l) (F :: Fs) K
    | none => True
  | [], _, l, Fs, K => K l Fs
  | _, [], _, _, _ => True

def bound (o : Oper) (j : Nat) : Bool := o.after.toList.any fun e => e.on == j && Region.binds .any e
def maskOf (acc : List Nat) (es : List Edge) : Nat := es.foldl (fun s e => if Region.binds .any e then s ||| 2 ^ e.on ||| acc.getD e.on 0 else s) 0
def masks : List Oper → List Nat → List Nat
  | [], acc => acc
  | o :: os, acc => masks os (acc ++ [maskOf acc o.after.toList])
def allBits (mask : Nat) : Nat → Bool
  | 0 => true
  | k + 1 => mask.testBit k && allBits mask k
def dstsOk (l : Env) : List Oper → List Nat → Bool
  | [], _ => true
  | o :: os, seen => match o.dst with
    | some d => (look l d).isNone && !seen.contains d && dstsOk l os (d :: seen)
    | none => false
def depsOk : List Oper → Nat → Bool
  | [], _ => true
  | o :: os, i => o.after.toList.all (fun e => !Region.binds .any e || Nat.blt e.on i) && depsOk os (i + 1)
def usesOk (m : Nat) : List Oper → List (List Nat) → Bool
  | o :: os, u :: us => u.all (fun j => bound o j && Nat.blt j m) && usesOk m os us
  | _, _ => true
def tailOk (ms : List Nat) (m k : Nat) : Nat → Bool
  | 0 => true
  | f + 1 => (Nat.blt k m || allBits (ms.getD k 0) k) && tailOk ms m (k + 1) f
def anyOk (os : List Oper) (l : Env) (m : Nat) (uses : List (List Nat)) : Bool :=
  Nat.ble m os.length && dstsOk l (os.take m) [] && depsOk os 0 && usesOk m os uses && tailOk (masks os []) m 0 os.length

section
variable {P : Program} {n : Nat}

theorem Oper.wp_puts {o : Oper} {a : Act} {w : World} {K : Act → World → Prop} {Q : Exit → Act → World → Prop} (h : o.wp P a w K Q) :
    o.wp P a w (fun a' w' => K a' w' ∧ ((∃ v, a' = a.put o.dst v) ∨ ∃ d, ∃ D, a' = ({ a with defers := D :: a.defers } : Act).put o.dst d)) Q := by
  unfold Oper.wp at *
  generalize (execOp a.eval o).run P w = r at *
  cases r with
  | ok nx w' =>
    cases nx <;> simp only [Oper.upon] at h ⊢ <;> first
      | exact ⟨h, .inl ⟨_, rfl⟩⟩
      | exact ⟨h, .inr ⟨_, _, rfl⟩⟩
      | exact Calls.mono h (fun e w'' he => by cases e <;> first | exact ⟨he, .inl ⟨_, rfl⟩⟩ | exact he)
      | exact Rows.mono h (fun _ _ he => ⟨he, .inl ⟨_, rfl⟩⟩)
      | exact h
  | halt x w' => cases x <;> simp only [Oper.upon] at h ⊢ <;> exact h

theorem Oper.wp_post {o : Oper} {a : Act} {w : World} {K K' : Act → World → Prop} {Q Q' : Exit → Act → World → Prop} (h : o.wp P a w K Q) (hk : ∀ a w, K a w → K' a w) (hq : ∀ e a w, e ≠ .normal → Q e a w → Q' e a w) :
    o.wp P a w K' Q' := by
  unfold Oper.wp at *
  generalize (execOp a.eval o).run P w = r at *
  cases r with
  | ok nx w' =>
    cases nx <;> simp only [Oper.upon] at h ⊢ <;> first
      | exact hk _ _ h
      | exact Calls.mono h (fun e w'' he => by
          cases e with
          | returned v => exact hk _ _ he
          | panicked c => exact hq _ _ _ (by simp) he
          | outgrown => obtain ⟨a0, w0, he⟩ := he; exact ⟨a0, w0, hq _ _ _ (by simp) he⟩)
      | exact Rows.mono h (fun _ _ he => hk _ _ he)
      | exact h
  | halt x w' =>
    cases x <;> simp only [Oper.upon] at h ⊢ <;> first
      | exact hq _ _ _ (by simp) h
      | exact h

/-- one operation alone, from WL to wpOp -/
theorem wpOp_of_WL {os : List Oper} {i : Nat} {o : Oper} {l : Env} {w : World} {a : Act} {K : Env → World → Prop} {Q : Exit → Act → World → Prop} (ho : os.toArray[i]? = some o) (ha : Agr n l a)
    (h : WL P n os.toArray K [o] l w) : wpOp P os.toArray Q i (fun a' w' => (∃ v, a' = a.put o.dst v) ∧ ∃ l', Agr n l' a' ∧ K l' w') a w := by
  have h1 := h a ha
  unfold wpOp
  simp only [ho]
  simp only [wpList] at h1
  split
  · rename_i hw
    rw [if_pos hw] at h1
    rcases h1 with h1 | ⟨_, a0, w0, hq⟩
    · refine .inl (Oper.wp_post (Oper.wp_puts h1) ?_ ?_)
      · rintro a' w' ⟨⟨_, l', h2, h3⟩, ⟨v, hv⟩ | ⟨d, D, hv⟩⟩
        · exact ⟨⟨v, hv⟩, l', h2, h3⟩
        · exfalso
          have hd := h2.defers
          rw [hv] at hd
          cases hdst : o.dst <;> simp [Act.put, hdst] at hd
      · rintro e a' w' hne ⟨he, _⟩; exact absurd he hne
    · exact absurd hq.1 (by simp)
  · rename_i hw
    rw [if_neg hw] at h1
    obtain ⟨_, l', h2, h3⟩ := h1
    exact ⟨⟨_, rfl⟩, l', h2, h3⟩

theorem getD_app_l {α : Type} (x y : List α) (d : α) (i : Nat) (h : i < x.length) : (x ++ y).getD i d = x.getD i d := by
  simp [List.getD_eq_getElem?_getD, List.getElem?_append_left h]
theorem getD_app_r {α : Type} (x y : List α) (d : α) (i : Nat) (h : x.length ≤ i) : (x ++ y).getD i d = y.getD (i - x.length) d := by
  simp [List.getD_eq_getElem?_getD, List.getElem?_append_right h]

theorem mem_bound {o : Oper} {j : Nat} (h : bound o j = true) : ∃ e ∈ o.after, e.on = j ∧ Region.binds .any e = true := by
  simp only [bound, List.any_eq_true, Bool.and_eq_true, beq_iff_eq] at h
  obtain ⟨e, he, h1, h2⟩ := h
  exact ⟨e, by simpa using he, h1, h2⟩

/-- a set that holds an operation's direct dependencies and is closed holds all bits of its mask -/
theorem maskOf_spec (S : Nat → Prop) (acc : List Nat) (hacc : ∀ i, S i → ∀ j, (acc.getD i 0).testBit j = true → S j) :
    ∀ (es : List Edge) (s : Nat), (∀ j, s.testBit j = true → S j) → (∀ e ∈ es, Region.binds .any e = true → S e.on) →
      ∀ j, (es.foldl (fun s e => if Region.binds .any e then s ||| 2 ^ e.on ||| acc.getD e.on 0 else s) s).testBit j = true → S j := by
  intro es
  induction es with
  | nil => intro s hs _ j hj; exact hs j hj
  | cons e es ih =>
    intro s hs he j hj
    simp only [List.foldl_cons] at hj
    refine ih _ ?_ (fun e' h' => he e' (List.mem_cons_of_mem _ h')) j hj
    intro k hk
    by_cases hb : Region.binds .any e = true
    · simp only [hb, if_true, Nat.testBit_or, Bool.or_eq_true] at hk
      have hS := he e (List.mem_cons_self ..) hb
      rcases hk with (hk | hk) | hk
      · exact hs k hk
      · rw [Nat.testBit_two_pow] at hk
        simp at hk
        subst hk; exact hS
      · exact hacc _ hS k hk
    · simp only [hb] at hk
      exact hs k hk

theorem masks_spec (S : Nat → Prop) : ∀ (os : List Oper) (acc : List Nat),
    (∀ i, S i → ∀ j, (acc.getD i 0).testBit j = true → S j) →
    (∀ (i : Nat) (o : Oper), os[i]? = some o → (S (acc.length + i) → ∀ e ∈ o.after, Region.binds .any e = true → S e.on)) →
    (∀ k, k < acc.length ∨ S k ∨ True) →
    ∀ i, (acc.length ≤ i → i < acc.length + os.length → ∀ o, os[i - acc.length]? = some o → (∀ e ∈ o.after, Region.binds .any e = true → S e.on) → ∀ j, ((masks os acc).getD i 0).testBit j = true → S j) ∧
      (i < acc.length → (masks os acc).getD i 0 = acc.getD i 0) := by
  intro os
  induction os with
  | nil => intro acc _ _ _ i; exact ⟨fun h1 h2 => by simp at h2; omega, fun h => rfl⟩
  | cons o os ih =>
    intro acc hacc hcl _ i
    have hnew : ∀ i, S i → ∀ j, ((acc ++ [maskOf acc o.after.toList]).getD i 0).testBit j = true → S j := by
      intro i hi j hj
      by_cases h1 : i < acc.length
      · rw [getD_app_l _ _ _ _ h1] at hj; exact hacc i hi j hj
      · rw [getD_app_r _ _ _ _ (by omega)] at hj
        by_cases h2 : i = acc.length
        · subst h2
          simp only [Nat.sub_self, List.getD_cons_zero] at hj
          exact maskOf_spec S acc hacc o.after.toList 0 (by simp) (fun e he hb => hcl 0 o rfl (by simpa using hi) e (by simpa using he) hb) j hj
        · have : i - acc.length = (i - acc.length - 1) + 1 := by omega
          rw [this] at hj
          simp at hj
    obtain ⟨h1, h2⟩ := ih (acc ++ [maskOf acc o.after.toList]) hnew (fun i o' ho' hS => by
      simp only [List.length_append, List.length_cons, List.length_nil] at hS
      exact hcl (i + 1) o' (by simpa using ho') (by rwa [show acc.length + (i + 1) = acc.length + (0 + 1) + i from by omega])) (fun _ => .inr (.inr trivial)) i
    simp only [List.length_append, List.length_cons, List.length_nil] at h1 h2
    refine ⟨fun ha hb o' ho' hd j hj => ?_, fun ha => ?_⟩
    · simp only [masks] at hj
      by_cases he : i = acc.length
      · subst he
        simp only [Nat.sub_self, List.getElem?_cons_zero, Option.some.injEq] at ho'
        subst ho'
        rw [h2 (by omega), getD_app_r _ _ _ _ (by omega)] at hj
        simp only [Nat.sub_self, List.getD_cons_zero] at hj
        exact maskOf_spec S acc hacc o.after.toList 0 (by simp) (fun e he hb => hd e (by simpa using he) hb) j hj
      · refine h1 (by omega) (by simp at hb; omega) o' ?_ hd j hj
        rw [← ho', show i - acc.length = (i - (acc.length + (0 + 1))) + 1 from by omega, List.getElem?_cons_succ]
    · simp only [masks]
      rw [h2 (by omega), getD_app_l _ _ _ _ ha]

theorem depsOk_spec : ∀ (os : List Oper) (k : Nat), depsOk os k = true → ∀ i o, os[i]? = some o → ∀ e ∈ o.after, Region.binds .any e = true → e.on < k + i
  | [], _, _, i, o, ho => by simp at ho
  | o' :: os, k, h, i, o, ho => by
    simp only [depsOk, Bool.and_eq_true, List.all_eq_true, Bool.or_eq_true, Bool.not_eq_true'] at h
    cases i with
    | zero =>
      simp at ho; subst ho
      intro e he hb
      have := h.1 e (by simpa using he)
      rcases this with h' | h'
      · rw [hb] at h'; cases h'
      · simpa [Nat.blt_eq] using h'
    | succ i =>
      intro e he hb
      have := depsOk_spec os (k + 1) h.2 i o (by simpa using ho) e he hb
      omega

theorem allBits_spec (mask : Nat) : ∀ k, allBits mask k = true → ∀ j, j < k → mask.testBit j = true
  | 0, _, j, hj => by omega
  | k + 1, h, j, hj => by
    simp only [allBits, Bool.and_eq_true] at h
    by_cases e : j = k
    · subst e; exact h.1
    · exact allBits_spec mask k h.2 j (by omega)

theorem tailOk_spec (ms : List Nat) (m : Nat) : ∀ f k, tailOk ms m k f = true → ∀ i, k ≤ i → i < k + f → m ≤ i → allBits (ms.getD i 0) i = true
  | 0, k, _, i, h1, h2, _ => by omega
  | f + 1, k, h, i, h1, h2, h3 => by
    simp only [tailOk, Bool.and_eq_true, Bool.or_eq_true, Nat.blt_eq] at h
    by_cases e : i = k
    · subst e
      rcases h.1 with h' | h'
      · omega
      · exact h'
    · exact tailOk_spec ms m f (k + 1) h.2 i (by omega) (by omega) h3

/-- a tail operation comes up only when all before it are done -/
theorem forced {os : List Oper} {m : Nat} (ht : tailOk (masks os []) m 0 os.length = true) (S : Nat → Prop)
    (hcl : ∀ i o, os[i]? = some o → S i → ∀ e ∈ o.after, Region.binds .any e = true → S e.on)
    {i : Nat} {o : Oper} (ho : os[i]? = some o) (hi : m ≤ i) (hd : ∀ e ∈ o.after, Region.binds .any e = true → S e.on) : ∀ j, j < i → S j := by
  intro j hj
  have hlt : i < os.length := (List.getElem?_eq_some_iff.1 ho).1
  have hb := allBits_spec _ _ (tailOk_spec _ m _ 0 ht i (by omega) (by omega) hi) j hj
  exact (masks_spec S os [] (fun i _ j hj => by simp at hj) (fun i o h hS e he hb => hcl i o h (by simpa using hS) e he hb) (fun _ => .inr (.inr trivial)) i).1 (by simp) (by simpa using hlt) o (by simpa using ho) hd j hb

abbrev lst (listed : Array Bool) (i : Nat) : Prop := listed.getD i false = true

theorem lst_set {listed : Array Bool} {i j : Nat} (hi : i < listed.size) : lst (listed.setIfInBounds i true) j ↔ j = i ∨ lst listed j := by
  unfold lst
  by_cases h : i = j
  · subst h; simp [hi]
  · rw [Array.getD_eq_getD_getElem?, Array.getElem?_setIfInBounds_ne h, ← Array.getD_eq_getD_getElem?]
    simp [Ne.symm h]

theorem unlisted_getD {listed : Array Bool} {i : Nat} (h : listed.getD i true = false) : i < listed.size ∧ ¬ lst listed i := by
  rcases Nat.lt_or_ge i listed.size with h' | h'
  · exact ⟨h', by simp [lst, h'] at h ⊢; exact h⟩
  · simp [Array.getElem?_eq_none h'] at h

theorem getD_unlisted {listed : Array Bool} {i : Nat} (h : i < listed.size) (h' : ¬ lst listed i) : listed.getD i true = false := by
  simp [lst, h] at h' ⊢; exact h'

/-- how many are not listed -/
def left (listed : Array Bool) : Nat := listed.toList.countP (fun b => !b)
theorem left_set {listed : Array Bool} {i : Nat} (hi : i < listed.size) (h : ¬ lst listed i) : left (listed.setIfInBounds i true) + 1 = left listed := by
  have hb : listed[i] = false := by simpa [lst, hi] using h
  have hpos : 0 < listed.toList.countP (fun b => !b) := by
    rw [List.countP_pos_iff]
    exact ⟨listed[i], by simp, by simp [hb]⟩
  unfold left
  rw [Array.toList_setIfInBounds, List.countP_set (by simpa using hi), if_pos (by simp [hb]), if_neg (by simp)]
  omega
theorem left_zero {listed : Array Bool} (h : left listed = 0) : ∀ i, i < listed.size → lst listed i := by
  intro i hi
  unfold left at h
  rw [List.countP_eq_zero] at h
  have := h listed[i] (by simp)
  simp [lst, hi] at this ⊢
  exact this
theorem left_replicate (k : Nat) : left (Array.replicate k false) = k := by
  simp [left, List.countP_replicate]

theorem dstsOk_spec (l : Env) : ∀ (os : List Oper) (seen : List Nat), dstsOk l os seen = true →
    ∀ (i : Nat) (o : Oper), os[i]? = some o → ∃ d, o.dst = some d ∧ look l d = none ∧ d ∉ seen ∧ ∀ (j : Nat) (o' : Oper), os[j]? = some o' → j ≠ i → o'.dst ≠ some d
  | [], _, _, i, o, ho => by simp at ho
  | o' :: os, seen, h, i, o, ho => by
    simp only [dstsOk] at h
    cases hd : o'.dst with
    | none => rw [hd] at h; cases h
    | some d0 =>
      rw [hd] at h
      simp only [Bool.and_eq_true, Option.isNone_iff_eq_none, Bool.not_eq_true'] at h
      obtain ⟨⟨h1, h2⟩, h3⟩ := h
      have h2' : d0 ∉ seen := by simpa using h2
      cases i with
      | zero =>
        simp at ho; subst ho
        refine ⟨d0, hd, h1, h2', fun j o2 h4 hj => ?_⟩
        cases j with
        | zero => exact absurd rfl hj
        | succ j =>
          obtain ⟨d2, h5, _, h6, _⟩ := dstsOk_spec l os (d0 :: seen) h3 j o2 (by simpa using h4)
          rw [h5]; intro e; simp at e; subst e; simp at h6
      | succ i =>
        obtain ⟨d, h4, h5, h6, h7⟩ := dstsOk_spec l os (d0 :: seen) h3 i o (by simpa using ho)
        refine ⟨d, h4, h5, fun h => h6 (List.mem_cons_of_mem _ h), fun j o2 h8 hj => ?_⟩
        cases j with
        | zero => simp at h8; subst h8; rw [hd]; intro e; simp at e; subst e; simp at h6
        | succ j => exact h7 j o2 (by simpa using h8) (by omega)

/-- the state in the middle of a region -/
structure Mid (n : Nat) (os : List Oper) (ps : List PV) (m : Nat) (w0 : World) (l : Env) (G : Nat → List Nat) (S : Nat → Prop) (a : Act) (w : World) : Prop where
  below : Below w0.heap.size w0 w
  agr : Agr n l a
  posts : ∀ i, S i → i < m → ∃ o p d, os[i]? = some o ∧ ps[i]? = some p ∧ o.dst = some d ∧ p.p (a.tmps.getD d undef) w (G i) ∧ (G i).Nodup ∧ ∀ b ∈ G i, w0.heap.size ≤ b ∧ b < w.heap.size
  apart : ∀ i j, S i → S j → i < m → j < m → i ≠ j → ∀ b ∈ G i, b ∉ G j

theorem steps_get {n : Nat} {os : List Oper} {ps : List PV} {w0 : World} {l : Env} : ∀ (os' : List Oper) (ps' : List PV) (us : List (List Nat)), Steps P n os ps w0 l os' ps' us →
    ∀ (i : Nat) (p : PV), ps'[i]? = some p → ∃ (o : Oper) (u : List Nat), os'[i]? = some o ∧ us[i]? = some u ∧ StepOK P n os ps w0 l o p u
  | os', [], us, h, i, p, hp => by simp at hp
  | [], p' :: ps', us, h, i, p, hp => by simp [Steps] at h
  | o :: os', p' :: ps', [], h, i, p, hp => by simp [Steps] at h
  | o :: os', p' :: ps', u :: us, h, i, p, hp => by
    simp only [Steps] at h
    cases i with
    | zero => simp at hp; subst hp; exact ⟨o, u, rfl, rfl, h.1⟩
    | succ i =>
      obtain ⟨o2, u2, h1, h2, h3⟩ := steps_get os' ps' us h.2 i p (by simpa using hp)
      exact ⟨o2, u2, by simpa using h1, by simpa using h2, h3⟩

theorem usesOk_spec (m : Nat) : ∀ (os : List Oper) (us : List (List Nat)), usesOk m os us = true → ∀ (i : Nat) o u, os[i]? = some o → us[i]? = some u → ∀ j ∈ u, bound o j = true ∧ j < m
  | [], _, _, i, o, u, ho, _ => by simp at ho
  | _ :: _, [], _, i, o, u, _, hu => by simp at hu
  | o' :: os, u' :: us, h, i, o, u, ho, hu => by
    simp only [usesOk, Bool.and_eq_true, List.all_eq_true, Nat.blt_eq] at h
    cases i with
    | zero => simp at ho hu; subst ho; subst hu; exact h.1
    | succ i => exact usesOk_spec m os us h.2 i o u (by simpa using ho) (by simpa using hu)

theorem depsK_elim {n : Nat} {os : List Oper} {ps : List PV} {m : Nat} {w0 : World} {l : Env} {G : Nat → List Nat} {S : Nat → Prop} {a : Act} {w : World} (hM : Mid n os ps m w0 l G S a w) {K : Env → Prop} :
    ∀ (js : List Nat) (l' : Env), Agr n l' a → (∀ j ∈ js, S j ∧ j < m) → DepsK os ps js l' w K → ∃ l'', Agr n l'' a ∧ K l''
  | [], l', ha, _, h => ⟨l', ha, h⟩
  | j :: js, l', ha, hj, h => by
    obtain ⟨hS, hm⟩ := hj j (List.mem_cons_self ..)
    obtain ⟨o, p, d, h1, h2, h3, h4, _, _⟩ := hM.posts j hS hm
    simp only [DepsK, h2, dstOf, h1, Option.bind_some, h3] at h
    exact depsK_elim hM js _ ⟨ha.defers, ha.size, fun t v hv => by
      rw [look_cons] at hv
      by_cases e : d = t
      · subst e; simp only [if_true, Option.some.injEq] at hv; exact hv
      · simp [e] at hv; exact ha.look t v hv⟩ (fun j' h' => hj j' (List.mem_cons_of_mem _ h')) (h _ _ h4)

theorem tail_any {os : List Oper} {Q : Exit → Act → World → Prop} {R : Act → World → Prop} (hdeps : depsOk os 0 = true) {m : Nat} (ht : tailOk (masks os []) m 0 os.length = true)
    (hQ : ∀ a w, R a w → Q .normal a w) :
    ∀ (f k : Nat) (listed : Array Bool) (a : Act) (w : World), m ≤ k → os.length = k + f → listed.size = os.length →
      (∀ i, lst listed i ↔ i < k) → wpList P os.toArray (fun e a w => e = .normal ∧ R a w) (os.drop k) a w → wpAny P .any os.toArray Q f listed a w := by
  intro f
  induction f with
  | zero =>
    intro k listed a w hm hk hs hl h1
    have hr : Region.ready .any os.toArray listed = [] := by
      apply List.eq_nil_iff_forall_not_mem.2
      intro i hi
      obtain ⟨h1, o, ho, _⟩ := mem_ready.1 hi
      have := unlisted_getD h1
      exact this.2 ((hl i).2 (by omega))
    rw [List.drop_eq_nil_of_le (by omega)] at h1
    exact ⟨hr, hQ _ _ h1.2⟩
  | succ f ih =>
    intro k listed a w hm hk hs hl h1
    have hk' : k < os.length := by omega
    have hready : ∀ i, i ∈ Region.ready .any os.toArray listed → i = k := by
      intro i hi
      obtain ⟨h1, o, ho, hd⟩ := mem_ready.1 hi
      have hu := unlisted_getD h1
      rcases Nat.lt_or_ge i k with hik | hik
      · exact absurd ((hl i).2 hik) hu.2
      · by_cases e : i = k
        · exact e
        · have := forced ht (fun j => lst listed j) (fun i2 o2 ho2 hS e2 he2 hb2 => by
            have h3 := depsOk_spec os 0 hdeps i2 o2 ho2 e2 he2 hb2
            have h4 := (hl i2).1 hS
            exact (hl _).2 (by omega)) (by simpa using ho) (by omega) (fun e2 he2 hb2 => hd e2 he2 hb2) k (by omega)
          exact absurd ((hl k).1 this) (by omega)
    have hkr : k ∈ Region.ready .any os.toArray listed := by
      refine mem_ready.2 ⟨getD_unlisted (by omega) (fun h => by have := (hl k).1 h; omega), os[k], by simp [hk'], fun e he hb => ?_⟩
      have := depsOk_spec os 0 hdeps k os[k] (by simp [hk']) e he hb
      exact (hl _).2 (by omega)
    refine ⟨fun h0 => (by rw [h0] at hkr; cases hkr), fun i hi => ?_⟩
    have hik := hready i hi
    subst hik
    rw [List.drop_eq_getElem_cons hk'] at h1
    unfold wpOp
    have ho : os.toArray[i]? = some os[i] := by simp [hk']
    simp only [ho]
    simp only [wpList] at h1
    have hnext : ∀ a' w', wpList P os.toArray (fun e a w => e = .normal ∧ R a w) (os.drop (i + 1)) a' w' → wpAny P .any os.toArray Q f (listed.setIfInBounds i true) a' w' := fun a' w' h2 =>
      ih (i + 1) _ a' w' (by omega) (by omega) (by simp [hs]) (fun j => by rw [lst_set (by omega), hl]; omega) h2
    split
    · rename_i hw
      rw [if_pos hw] at h1
      rcases h1 with h1 | ⟨_, a0, w0, hq⟩
      · exact .inl (Oper.wp_post h1 hnext (fun e a w hne hh => absurd hh.1 hne))
      · exact absurd hq.1 (by simp)
    · rename_i hw
      rw [if_neg hw] at h1
      exact hnext _ _ h1

theorem allK_elim {n : Nat} {os : List Oper} {ps : List PV} {m : Nat} {w0 : World} {l : Env} {G : Nat → List Nat} {S : Nat → Prop} {a : Act} {w : World} (hM : Mid n os ps m w0 l G S a w) (hm : m ≤ os.length)
    (hall : ∀ i, i < m → S i) {K : Env → List (List Nat) → Prop} :
    ∀ (f k : Nat) (l' : Env) (Fs : List (List Nat)), k + f = m → Agr n l' a → ((Fs.flatten).Nodup ∧ (∀ b ∈ Fs.flatten, w0.heap.size ≤ b ∧ b < w.heap.size) ∧ ∀ b ∈ Fs.flatten, ∃ i, i < k ∧ b ∈ G i) → ps.length = m →
      AllK w (ps.drop k) (os.drop k) l' Fs K → ∃ l'' Fs', Agr n l'' a ∧ (Fs'.flatten).Nodup ∧ (∀ b ∈ Fs'.flatten, w0.heap.size ≤ b ∧ b < w.heap.size) ∧ K l'' Fs'
  | 0, k, l', Fs, hk, ha, hF, hp, h => by
    rw [List.drop_eq_nil_of_le (by omega)] at h
    cases hos : os.drop k with
    | nil => rw [hos] at h; exact ⟨l', Fs, ha, hF.1, hF.2.1, by simpa [AllK] using h⟩
    | cons o os' => rw [hos] at h; exact ⟨l', Fs, ha, hF.1, hF.2.1, by simpa [AllK] using h⟩
  | f + 1, k, l', Fs, hk, ha, hF, hp, h => by
    have hkm : k < m := by omega
    obtain ⟨o, p, d, h1, h2, h3, h4, h5, h6⟩ := hM.posts k (hall k hkm) hkm
    obtain ⟨hl1, hp1⟩ := List.getElem?_eq_some_iff.1 h2
    obtain ⟨hl2, ho1⟩ := List.getElem?_eq_some_iff.1 h1
    rw [List.drop_eq_getElem_cons hl1, List.drop_eq_getElem_cons hl2, hp1, ho1] at h
    simp only [AllK, h3] at h
    refine allK_elim hM hm hall f (k + 1) _ (G k :: Fs) (by omega) ⟨ha.defers, ha.size, fun t v hv => ?_⟩ ⟨?_, ?_, ?_⟩ hp (h _ _ h4)
    · rw [look_cons] at hv
      by_cases e : d = t
      · subst e; simp only [if_true, Option.some.injEq] at hv; exact hv
      · simp [e] at hv; exact ha.look t v hv
    · rw [List.flatten_cons, List.nodup_append]
      refine ⟨h5, hF.1, fun b hb c hc e => ?_⟩
      subst e
      obtain ⟨i, hi, hbi⟩ := hF.2.2 b hc
      exact hM.apart k i (hall k hkm) (hall i (by omega)) hkm (by omega) (by omega) b hb hbi
    · intro b hb
      rw [List.flatten_cons, List.mem_append] at hb
      rcases hb with hb | hb
      · exact h6 b hb
      · exact hF.2.1 b hb
    · intro b hb
      rw [List.flatten_cons, List.mem_append] at hb
      rcases hb with hb | hb
      · exact ⟨k, by omega, hb⟩
      · obtain ⟨i, hi, hbi⟩ := hF.2.2 b hb
        exact ⟨i, by omega, hbi⟩

theorem left_prefix {listed : Array Bool} {m : Nat} (h : ∀ i, lst listed i ↔ i < m) (hm : m ≤ listed.size) : left listed = listed.size - m := by
  have e : listed.toList = List.replicate m true ++ List.replicate (listed.size - m) false := by
    apply List.ext_getElem
    · simp; omega
    · intro i h1 h2
      have h1' : i < listed.size := by simpa using h1
      rw [Array.getElem_toList]
      by_cases hi : i < m
      · rw [List.getElem_append_left (by simpa using hi)]
        have := (h i).2 hi
        simpa [lst, h1'] using this
      · rw [List.getElem_append_right (by simpa using hi)]
        have : ¬ lst listed i := fun h' => hi ((h i).1 h')
        simpa [lst, h1'] using this
  unfold left
  rw [e, List.countP_append, List.countP_replicate, List.countP_replicate]
  simp

theorem Mid.next {os : List Oper} {ps : List PV} {m : Nat} {w0 : World} {l : Env} {G : Nat → List Nat} {listed : Array Bool} {a : Act} {w : World} (hM : Mid n os ps m w0 l G (lst listed) a w)
    {i : Nat} {o : Oper} {p : PV} {a' : Act} {w' : World} {l' : Env} {v : Value} (hsz : i < listed.size) (hi : ¬ lst listed i) (ho : os[i]? = some o) (hp : ps[i]? = some p)
    (hds : ∃ d, o.dst = some d ∧ look l d = none ∧ ∀ (j : Nat) (o' : Oper), os[j]? = some o' → j < m → j ≠ i → o'.dst ≠ some d)
    (hv : a' = a.put o.dst v) (ha : Agr n l' a') (hf : Fin1 o p w l' w') : ∃ G', Mid n os ps m w0 l G' (lst (listed.setIfInBounds i true)) a' w' := by
  obtain ⟨d, hd, hln, hne⟩ := hds
  obtain ⟨hB, d', v', F, hd', hlk, hpv, hnd, hF⟩ := hf
  obtain rfl : d = d' := by rw [hd] at hd'; simpa using hd'
  have hkeep : ∀ t, t ≠ d → a'.tmps.getD t undef = a.tmps.getD t undef := fun t ht => by
    rw [hv, hd]; simp [Act.put, Array.getElem?_setIfInBounds_ne (Ne.symm ht)]
  refine ⟨fun k => if k = i then F else G k, ⟨hM.below.trans (hB.mono hM.below.size), ⟨ha.defers, ha.size, fun t u hu => ?_⟩, fun k hk hkm => ?_, fun k j hk hj hkm hjm hkj b hb => ?_⟩⟩
  · have ht : t ≠ d := fun e => by subst e; rw [hln] at hu; cases hu
    rw [hkeep t ht]; exact hM.agr.look t u hu
  · by_cases e : k = i
    · subst e
      refine ⟨o, p, d, ho, hp, hd, ?_, ?_, ?_⟩ <;> simp only [if_true]
      · rw [ha.look d v' hlk]; exact hpv
      · exact hnd
      · exact fun b hb => ⟨Nat.le_trans hM.below.size (hF b hb).1, (hF b hb).2⟩
    · have hk' : lst listed k := by
        rcases (lst_set hsz).1 hk with h | h
        · exact absurd h e
        · exact h
      obtain ⟨ok, pk, dk, h1, h2, h3, h4, h5, h6⟩ := hM.posts k hk' hkm
      have hdk : dk ≠ d := fun e' => by subst e'; exact hne k ok h1 hkm e h3
      refine ⟨ok, pk, dk, h1, h2, h3, ?_, ?_, ?_⟩ <;> simp only [if_neg e]
      · rw [hkeep dk hdk]; exact pk.st _ _ _ _ h4 hB
      · exact h5
      · exact fun b hb => ⟨(h6 b hb).1, Nat.lt_of_lt_of_le (h6 b hb).2 hB.size⟩
  · have other : ∀ k, lst (listed.setIfInBounds i true) k → k ≠ i → lst listed k := fun k hk e => by
      rcases (lst_set hsz).1 hk with h | h
      · exact absurd h e
      · exact h
    by_cases e1 : k = i
    · have e2 : j ≠ i := fun e => hkj (e1.trans e.symm)
      simp only [if_pos e1] at hb
      simp only [if_neg e2]
      obtain ⟨_, _, _, _, _, _, _, _, h6⟩ := hM.posts j (other j hj e2) hjm
      intro hb'
      have := (h6 b hb').2
      have := (hF b hb).1
      omega
    · simp only [if_neg e1] at hb
      by_cases e2 : j = i
      · simp only [if_pos e2]
        obtain ⟨_, _, _, _, _, _, _, _, h6⟩ := hM.posts k (other k hk e1) hkm
        intro hb'
        have := (h6 b hb).2
        have := (hF b hb').1
        omega
      · simp only [if_neg e2]
        exact hM.apart k j (other k hk e1) (other j hj e2) hkm hjm hkj b hb

theorem prefix_any {os : List Oper} {ps : List PV} {uses : List (List Nat)} {m : Nat} {w0 : World} {l : Env} {Q : Exit → Act → World → Prop} {K : Env → World → Prop}
    (hmo : m ≤ os.length) (hdst : dstsOk l (os.take m) [] = true) (hdeps : depsOk os 0 = true) (huse : usesOk m os uses = true) (ht : tailOk (masks os []) m 0 os.length = true)
    (hlen : ps.length = m) (steps : Steps P n os ps w0 l (os.take m) ps uses)
    (hQ : ∀ l a w, Agr n l a → K l w → Q .normal a w)
    (rest : ∀ w', Below w0.heap.size w0 w' → AllK w' ps os l [] (fun l' Fs => (Fs.flatten).Nodup → (∀ b ∈ Fs.flatten, w0.heap.size ≤ b ∧ b < w'.heap.size) → WL P n os.toArray K (os.drop m) l' w')) :
    ∀ (f : Nat) (listed : Array Bool) (a : Act) (w : World) (G : Nat → List Nat), Mid n os ps m w0 l G (lst listed) a w → listed.size = os.length → left listed = f →
      (∀ i, m ≤ i → ¬ lst listed i) → (∀ (i : Nat) (o : Oper), os[i]? = some o → lst listed i → ∀ e ∈ o.after, Region.binds .any e = true → lst listed e.on) → wpAny P .any os.toArray Q f listed a w := by
  intro f
  induction f with
  | zero =>
    intro listed a w G hM hs hf htl hcl
    have hall := left_zero hf
    have hmeq : m = os.length := by
      rcases Nat.lt_or_ge m os.length with h | h
      · exact absurd (hall m (by omega)) (htl m (Nat.le_refl _))
      · omega
    obtain ⟨l'', Fs', h1, h2, h3, h4⟩ := allK_elim hM hmo (fun i hi => hall i (by omega)) m 0 l [] (by omega) hM.agr ⟨by simp, by simp, by simp⟩ hlen (rest w hM.below)
    exact tail_any hdeps ht (R := fun a w => ∃ l', Agr n l' a ∧ K l' w) (fun a w ⟨l', h5, h6⟩ => hQ l' a w h5 h6) 0 m listed a w (Nat.le_refl _) (by omega) hs
      (fun i => ⟨fun h => by rcases Nat.lt_or_ge i m with h' | h'; exact h'; exact absurd h (htl i h'), fun h => hall i (by omega)⟩) (h4 h2 h3 a h1)
  | succ f ih =>
    intro listed a w G hM hs hf htl hcl
    by_cases hall : ∀ i, i < m → lst listed i
    · have hiff : ∀ i, lst listed i ↔ i < m := fun i => ⟨fun h => by rcases Nat.lt_or_ge i m with h' | h'; exact h'; exact absurd h (htl i h'), hall i⟩
      have hleft := left_prefix hiff (by omega)
      obtain ⟨l'', Fs', h1, h2, h3, h4⟩ := allK_elim hM hmo hall m 0 l [] (by omega) hM.agr ⟨by simp, by simp, by simp⟩ hlen (rest w hM.below)
      exact tail_any hdeps ht (R := fun a w => ∃ l', Agr n l' a ∧ K l' w) (fun a w ⟨l', h5, h6⟩ => hQ l' a w h5 h6) (f + 1) m listed a w (Nat.le_refl _) (by omega) hs hiff (h4 h2 h3 a h1)
    · have hex : ∃ j, j < m ∧ ¬ lst listed j := by
        apply Classical.byContradiction
        intro h
        exact hall fun i hi => Classical.byContradiction fun h' => h ⟨i, hi, h'⟩
      have hready : ∃ j, j ∈ Region.ready .any os.toArray listed := by
        obtain ⟨j, hj, hjn⟩ := hex
        have key : ∀ k, k < m → ¬ lst listed k → ∃ j, j ∈ Region.ready .any os.toArray listed := by
          intro k
          induction k using Nat.strongRecOn with
          | _ k ihk =>
            intro hk hkn
            by_cases hd : ∀ e ∈ (os[k]'(by omega)).after, Region.binds .any e = true → lst listed e.on
            · exact ⟨k, mem_ready.2 ⟨getD_unlisted (by omega) hkn, os[k]'(by omega), by simp, hd⟩⟩
            · have : ∃ e ∈ (os[k]'(by omega)).after, Region.binds .any e = true ∧ ¬ lst listed e.on := by
                apply Classical.byContradiction
                intro h
                exact hd fun e he hb => Classical.byContradiction fun h' => h ⟨e, he, hb, h'⟩
              obtain ⟨e, he, hb, hn'⟩ := this
              have hlt := depsOk_spec os 0 hdeps k (os[k]'(by omega)) (by simp) e he hb
              exact ihk e.on (by omega) (by omega) hn'
        exact key j hj hjn
      refine ⟨fun h0 => (by obtain ⟨j, hj⟩ := hready; rw [h0] at hj; cases hj), fun i hi => ?_⟩
      obtain ⟨h1, o, ho, hd⟩ := mem_ready.1 hi
      have hu := unlisted_getD h1
      have ho' : os[i]? = some o := by simpa using ho
      have him : i < m := by
        rcases Nat.lt_or_ge i m with h | h
        · exact h
        · obtain ⟨j, hj, hjn⟩ := hex
          exact absurd (forced ht (lst listed) hcl ho' h hd j (by omega)) hjn
      have hp : ps[i]? = some (ps[i]'(by omega)) := by simp
      obtain ⟨o2, u, h2, h3, hstep⟩ := steps_get (os.take m) ps uses steps i _ hp
      obtain rfl : o = o2 := by rw [List.getElem?_take_of_lt him, ho'] at h2; simpa using h2
      obtain ⟨l'', h4, h5⟩ := depsK_elim hM u l hM.agr (fun j hj => by
        obtain ⟨h6, h7⟩ := usesOk_spec m os uses huse i o u ho' h3 j hj
        obtain ⟨e, he, hej, hb⟩ := mem_bound h6
        exact ⟨hej ▸ hd e he hb, h7⟩) (hstep w hM.below)
      refine wpOp_mono ?_ (wpOp_of_WL ho h4 h5)
      rintro a' w' ⟨⟨v, hv⟩, l3, h6, h7⟩
      obtain ⟨d, h8, h9, _, h10⟩ := dstsOk_spec l (os.take m) [] hdst i o (by rw [List.getElem?_take_of_lt him]; exact ho')
      obtain ⟨G', hM'⟩ := hM.next hu.1 hu.2 ho' hp ⟨d, h8, h9, fun j o' hj hjm hji => h10 j o' (by rw [List.getElem?_take_of_lt hjm]; exact hj) hji⟩ hv h6 h7
      refine ih _ a' w' G' hM' (by simp [hs]) (by have := left_set hu.1 hu.2; omega) (fun j hj hl => ?_) (fun j oj hoj hl e he hb => ?_)
      · rcases (lst_set hu.1).1 hl with h | h
        · omega
        · exact htl j hj h
      · rw [lst_set hu.1]
        rcases (lst_set hu.1).1 hl with h | h
        · subst h
          rw [ho'] at hoj; simp at hoj; subst hoj
          exact .inr (hd e he hb)
        · exact .inr (hcl j oj hoj h e he hb)

theorem not_lst_replicate {k i : Nat} : ¬ lst (Array.replicate k false) i := by
  unfold lst
  rcases Nat.lt_or_ge i k with h | h
  · simp [h]
  · simp [Array.getElem?_eq_none, h]

theorem Steps.mono {os : List Oper} {ps : List PV} {w w0 : World} {l : Env} (hB : Below w.heap.size w w0) : ∀ {os' : List Oper} {ps' : List PV} {us : List (List Nat)}, Steps P n os ps w l os' ps' us → Steps P n os ps w0 l os' ps' us
  | os', [], us, h => by cases os' <;> simp [Steps]
  | [], p' :: ps', us, h => by simp [Steps] at h
  | o :: os', p' :: ps', [], h => by simp [Steps] at h
  | o :: os', p' :: ps', u :: us, h => by
    simp only [Steps] at h ⊢
    exact ⟨fun w' hw' => h.1 w' (hB.trans (hw'.mono hB.size)), Steps.mono hB h.2⟩

/-- A REGION THAT DRAWS ITS ORDER: the first m operations in whatever order, each with its post; what comes behind them is forced. -/
theorem W_any {id : Nat} {os : List Oper} {Q : Post} {l : Env} {w : World} (m : Nat) (ps : List PV) (uses : List (List Nat)) (hm : P.follows .mixedOrders = true) (hchk : anyOk os l m uses = true) (hlen : ps.length = m)
    (steps : Steps P n os ps w l (os.take m) ps uses)
    (rest : ∀ w', Below w.heap.size w w' → AllK w' ps os l [] (fun l' Fs => (Fs.flatten).Nodup → (∀ b ∈ Fs.flatten, w.heap.size ≤ b ∧ b < w'.heap.size) → WL P n os.toArray (fun l w => Q .normal l w) (os.drop m) l' w')) :
    W P n (.region id os.toArray true) Q l w := by
  intro a ha
  simp only [anyOk, Bool.and_eq_true, Nat.ble_eq] at hchk
  obtain ⟨⟨⟨⟨h1, h2⟩, h3⟩, h4⟩, h5⟩ := hchk
  refine wp_region_any hm ?_
  have hB : Below w.heap.size w { w with drawn := w.drawn + 1 } := (Below.refl _ _).drew
  refine prefix_any (K := fun l w => Q .normal l w) h1 h2 h3 h4 h5 hlen (steps.mono hB) (fun l a w ha hq => ⟨l, ha, hq⟩)
    (fun w' hw' => rest w' (hB.trans hw')) _ _ a _ (fun _ => []) ?_ (by simp) (by rw [left_replicate]) (fun i _ => not_lst_replicate) (fun i o _ h => absurd h not_lst_replicate)
  exact ⟨Below.refl _ _, ha, fun i hi => absurd hi not_lst_replicate, fun i j hi => absurd hi not_lst_replicate⟩
end

section
variable {P : Program} {n : Nat}
theorem DepsK_nil {os : List Oper} {ps : List PV} {l : Env} {w : World} {K : Env → Prop} (h : K l) : DepsK os ps [] l w K := h
theorem DepsK_cons {os : List Oper} {ps : List PV} {j : Nat} {js : List Nat} {l : Env} {w : World} {K : Env → Prop} {p : PV} {d : Nat} (hp : ps[j]? = some p) (hd : dstOf os j = some d)
    (h : ∀ v F, p.p v w F → DepsK os ps js ((d, v) :: l) w K) : DepsK os ps (j :: js) l w K := by
  simp only [DepsK, hp, hd]; exact h
theorem AllK_nil {w' : World} {os : List Oper} {l : Env} {Fs : List (List Nat)} {K : Env → List (List Nat) → Prop} (h : K l Fs) : AllK w' [] os l Fs K := by
  cases os <;> simpa [AllK] using h
theorem AllK_cons {w' : World} {p : PV} {ps : List PV} {o : Oper} {os : List Oper} {l : Env} {Fs : List (List Nat)} {K : Env → List (List Nat) → Prop} {d : Nat} (hd : o.dst = some d)
    (h : ∀ v F, p.p v w' F → AllK w' ps os ((d, v) :: l) (F :: Fs) K) : AllK w' (p :: ps) (o :: os) l Fs K := by
  simp only [AllK, hd]; exact h
theorem Fin1_val {o : Oper} {p : PV} {w w' : World} {l : Env} {d : Nat} {v : Value} (hb : Below w.heap.size w w') (hd : o.dst = some d) (hl : look l d = some v) (hp : p.p v w' []) : Fin1 o p w l w' :=
  ⟨hb, d, v, [], hd, hl, hp, List.nodup_nil, fun b h => by cases h⟩
theorem Fin1_own {o : Oper} {p : PV} {w w' : World} {l : Env} {d : Nat} {v : Value} {F : List Nat} (hb : Below w.heap.size w w') (hd : o.dst = some d) (hl : look l d = some v) (hp : p.p v w' F) (hn : F.Nodup) (hF : ∀ b ∈ F, w.heap.size ≤ b) (hi : ∀ b ∈ F, b < w'.heap.size) : Fin1 o p w l w' :=
  ⟨hb, d, v, F, hd, hl, hp, hn, fun b h => ⟨hF b h, hi b h⟩⟩
def PV.val (u : Value) : PV := ⟨fun v _ F => u = v ∧ F = [], fun _ _ _ _ h _ => h⟩
def PV.any : PV := ⟨fun _ _ F => F = [], fun _ _ _ _ h _ => h⟩
theorem WL.mono {ops : Array Oper} {K K' : Env → World → Prop} {os : List Oper} {l : Env} {w : World} (h : WL P n ops K' os l w) (hk : ∀ l w, K' l w → K l w) : WL P n ops K os l w := by
  intro a ha
  have key : ∀ (os : List Oper) (a : Act) (w : World), wpList P ops (fun e a' w' => e = .normal ∧ ∃ l', Agr n l' a' ∧ K' l' w') os a w → wpList P ops (fun e a' w' => e = .normal ∧ ∃ l', Agr n l' a' ∧ K l' w') os a w := by
    intro os
    induction os with
    | nil => rintro a w ⟨h1, l', h2, h3⟩; exact ⟨h1, l', h2, hk _ _ h3⟩
    | cons o os ih =>
      intro a w h
      simp only [wpList] at h ⊢
      split
      · rename_i hw
        rw [if_pos hw] at h
        rcases h with h | ⟨_, a0, w0, hq⟩
        · exact .inl (Oper.wp_post h (fun a w => ih a w) (fun e a w hne hh => absurd hh.1 hne))
        · exact absurd hq.1 (by simp)
      · rename_i hw
        rw [if_neg hw] at h
        exact ih _ _ h
  exact key os a w (h a ha)
theorem WL_cut (I : Env → World → Prop) {ops : Array Oper} {K : Env → World → Prop} {os : List Oper} {l : Env} {w : World} (h : WL P n ops I os l w) (hk : ∀ l w, I l w → K l w) : WL P n ops K os l w := h.mono hk
theorem WL_fork {ops : Array Oper} {K : Env → World → Prop} {os : List Oper} {l : Env} {w : World} {d : Nat} {b : Bool} (ht : b = true → WL P n ops K os ((d, .bool true) :: l) w) (hf : b = false → WL P n ops K os ((d, .bool false) :: l) w) : WL P n ops K os ((d, .bool b) :: l) w := by
  cases b
  · exact hf rfl
  · exact ht rfl
theorem WL_known {ops : Array Oper} {K : Env → World → Prop} {os : List Oper} {l : Env} {w : World} {d : Nat} {b b' : Bool} (hb : b = b') (h : WL P n ops K os ((d, .bool b') :: l) w) : WL P n ops K os ((d, .bool b) :: l) w := by
  subst hb; exact h
end
theorem btf (b : Bool) : b = true ∨ b = false := by cases b <;> simp
section
variable {P : Program} {n : Nat} {os : List Oper} {ps : List PV} {w0 : World} {l : Env}
theorem Steps_nil {os' : List Oper} {us : List (List Nat)} : Steps P n os ps w0 l os' [] us := by cases os' <;> simp [Steps]
theorem Steps_cons {o : Oper} {os' : List Oper} {p : PV} {ps' : List PV} {u : List Nat} {us : List (List Nat)} (h : StepOK P n os ps w0 l o p u) (h' : Steps P n os ps w0 l os' ps' us) : Steps P n os ps w0 l (o :: os') (p :: ps') (u :: us) := by
  simp only [Steps]; exact ⟨h, h'⟩
end
theorem ite_t {α : Type} {b : Bool} {x y : Option α} {r : α} (h : (if b then x else y) = some r) (hb : b = true) : x = some r := by subst hb; simpa using h
theorem ite_f {α : Type} {b : Bool} {x y : Option α} {r : α} (h : (if b then x else y) = some r) (hb : b = false) : y = some r := by subst hb; simpa using h
end Go.Gx
