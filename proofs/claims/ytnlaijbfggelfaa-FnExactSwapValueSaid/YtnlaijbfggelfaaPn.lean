/- Plain laws: ranges. Conditions: none. -/
import Derived.Test.YtnlaijbfggelfaaPlSp
import Derived.Test.YtnlaijbfggelfaaPlTy
set_option linter.unusedVariables false
set_option linter.unusedSimpArgs false
namespace Go.Gx.Px
abbrev Fa := Int × List Int
theorem inS (a b c : Int) : S.l1In a b c = some (inR a b c) := by
  unfold S.l1In inR
  by_cases h : b ≤ a <;> simp [h]
theorem inM (a b c : Int) : M.within a b c = some (inR a b c) := by
  unfold M.within inR
  by_cases h : b ≤ a <;> simp [h]
theorem idx_in {α : Type} {l : List α} {r : Int} (d : α) (h : inR r 0 ((l.length : Int) - 1) = true) : idx l r = some (l.getD r.toNat d) := by
  rw [inR_iff] at h
  obtain ⟨n, rfl⟩ : ∃ n : Nat, r = n := ⟨r.toNat, by omega⟩
  have hn : n < l.length := by omega
  rw [idx_nat l hn]
  simp [hn]
/-- a loop over numbers that stops at the first that is not as it should be -/
theorem all_loopN {β : Type} (f : Nat → Int → Option (Sum Unit β)) (n : Nat) (q : Nat → Bool) (b : β) (hn : n ≤ 4294967296) (he : ∀ k, f (k + 1) (n : Int) = some (.inl ()))
    (hs : ∀ k (i : Nat), i < n → f (k + 1) (i : Int) = if q i then f k ((i + 1 : Nat) : Int) else some (.inr b)) : f FUEL 0 = some (if (List.range n).all q then .inl () else .inr b) :=
  all_loop f (List.range n) q b (by simpa using hn) (by simpa using he) (fun k i hi => by rw [hs k i (by simpa using hi)]; simp)
theorem any_loop {α β : Type} (f : Nat → Int → Option (Sum Unit β)) (a : List α) (q : α → Bool) (b : β) (hn : a.length ≤ 4294967296) (he : ∀ k, f (k + 1) (a.length : Int) = some (.inl ()))
    (hs : ∀ k (i : Nat) (hi : i < a.length), f (k + 1) (i : Int) = if q a[i] then some (.inr b) else f k ((i + 1 : Nat) : Int)) : f FUEL 0 = some (if a.any q then .inr b else .inl ()) := by
  rw [all_loop f a (fun e => !q e) b hn he (fun k i hi => by rw [hs k i hi]; cases q a[i] <;> rfl)]
  have : a.all (fun e => !q e) = !a.any q := by rw [List.any_eq_not_all_not]; simp
  rw [this]; cases a.any q <;> rfl
theorem flat_loopN {β : Type} (f : Nat → List β → Int → Option (List β)) (n : Nat) (g : Nat → List β) (hn : n ≤ 4294967296) (he : ∀ k x, f (k + 1) x (n : Int) = some x)
    (hs : ∀ k (x : List β) (i : Nat), i < n → x = (List.range i).flatMap g → f (k + 1) x (i : Int) = f k (x ++ g i) ((i + 1 : Nat) : Int)) : f FUEL [] 0 = some ((List.range n).flatMap g) :=
  flat_loop f (List.range n) g (by simpa using hn) (by simpa using he) (fun k x i hi hx => by
    rw [List.length_range] at hi
    rw [hs k x i hi (by rw [hx, List.take_range, Nat.min_eq_left (by omega)])]; simp)
theorem flatMap_len {α β : Type} (g : α → List β) (hg : ∀ i, (g i).length ≤ 1) : ∀ l : List α, (l.flatMap g).length ≤ l.length
  | [] => by simp
  | a :: l => by have := hg a; have := flatMap_len g hg l; simp only [List.flatMap_cons, List.length_append, List.length_cons]; omega
theorem w64_pred {i : Nat} (h0 : 0 < i) (h : i < 4294967296) : w64 ((i : Int) - 1) = ((i - 1 : Nat) : Int) := by
  rw [w64_id (by omega) (by omega)]; omega
theorem any_not {α : Type} (l : List α) (q : α → Bool) : l.any (fun e => !q e) = !l.all q := by rw [List.all_eq_not_any_not]; simp
end Go.Gx.Px
