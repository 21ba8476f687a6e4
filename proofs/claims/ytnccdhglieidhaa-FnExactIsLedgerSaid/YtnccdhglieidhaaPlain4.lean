/- Plain laws of the pure functions: copies and comparisons of lists of numbers, loops over all elements. Conditions: none. -/
import Derived.Test.YtnccdhglieidhaaPure
import Derived.Test.YtnccdhglieidhaaGxG
set_option linter.unusedVariables false
set_option linter.unusedSimpArgs false
namespace Go.Gx.Px

theorem idx_nat {α : Type} (l : List α) {i : Nat} (h : i < l.length) : idx l (i : Int) = some l[i] := by
  unfold idx; rw [if_pos (by omega), Int.toNat_natCast, List.getElem?_eq_getElem h]
theorem w64_succ {i : Nat} (h : i < 4294967296) : w64 ((i : Int) + 1) = ((i + 1 : Nat) : Int) := by
  rw [w64_id (by omega) (by omega)]; rfl
theorem take_set_next {α : Type} (out a : List α) (i : Nat) (hl : out.length = a.length) (hi : i < a.length) (ht : out.take i = a.take i) : (out.set i a[i]).take (i + 1) = a.take (i + 1) := by
  rw [List.take_add_one, List.take_add_one, List.take_set_of_le (Nat.le_refl i), ht]
  simp [hl, hi]
theorem toIntS_loop (a : List Int) (ha : a.length ≤ 1048576) : ∀ (k i : Nat) (out : List Int), out.length = a.length → i ≤ a.length → out.take i = a.take i → a.length - i < k → Q.toIntS_l1 a k out (i : Int) = some a
  | 0, i, out, _, _, _, h => by omega
  | k + 1, i, out, hl, hi, ht, h => by
    rw [Q.toIntS_l1]
    by_cases hc : i < a.length
    · rw [if_pos (by simpa using hc), idx_nat a hc, Option.bind_some, idx_nat out (by omega), Option.bind_some, w64_succ (by omega), Int.toNat_natCast]
      exact toIntS_loop a ha k (i + 1) _ (by simpa using hl) (by omega) (take_set_next out a i hl hc ht) (by omega)
    · have e : i = a.length := by omega
      rw [if_neg (by simpa using hc)]
      subst e
      rw [List.take_length, List.take_of_length_le (by omega)] at ht
      rw [ht]
theorem toIntS_id (a : List Int) (ha : a.length ≤ 1048576) : Q.toIntS a = some a := by
  unfold Q.toIntS mk
  rw [if_pos (by rw [LIM_eq]; omega), Option.bind_some]
  rw [show (0 : Int) = ((0 : Nat) : Int) from rfl, toIntS_loop a ha FUEL 0 _ (by simp) (by omega) (by simp) (by rw [FUEL_eq]; omega)]
  rfl
/-- all of i, .., n - 1 -/
def allFrom (p : Nat → Bool) (n : Nat) : Nat → Nat → Bool
  | _, 0 => true
  | i, k + 1 => if i < n then p i && allFrom p n (i + 1) k else true
theorem allFrom_true {p : Nat → Bool} {n : Nat} : ∀ (k i : Nat), n ≤ i + k → (allFrom p n i k = true ↔ ∀ j, i ≤ j → j < n → p j = true)
  | 0, i, h => by simp [allFrom]; intro j h1 h2; omega
  | k + 1, i, h => by
    unfold allFrom
    by_cases hi : i < n
    · rw [if_pos hi, Bool.and_eq_true, allFrom_true k (i + 1) (by omega)]
      constructor
      · rintro ⟨h1, h2⟩ j h3 h4
        by_cases hj : j = i
        · subst hj; exact h1
        · exact h2 j (by omega) h4
      · intro h1
        exact ⟨h1 i (Nat.le_refl _) hi, fun j h3 h4 => h1 j (by omega) h4⟩
    · rw [if_neg hi]
      simp; intro j h1 h2; omega
-- a loop that goes on while all is well
open Classical in
theorem all_loop (f : Nat → Int → Option (Sum Unit Bool)) (p : Nat → Bool) (n : Nat) (hend : ∀ k, f (k + 1) (n : Int) = some (.inl ()))
    (hstep : ∀ k i, i < n → f (k + 1) (i : Int) = if p i then f k ((i + 1 : Nat) : Int) else some (.inr false)) :
    ∀ (k i : Nat), i ≤ n → n - i < k → f k (i : Int) = some (if (∀ j, i ≤ j → j < n → p j = true) then .inl () else .inr false)
  | 0, i, _, h => by omega
  | k + 1, i, hi, h => by
    by_cases hc : i < n
    · rw [hstep k i hc]
      by_cases hp : p i = true
      · rw [if_pos hp, all_loop f p n hend hstep k (i + 1) (by omega) (by omega)]
        by_cases hq : ∀ j, i + 1 ≤ j → j < n → p j = true
        · rw [if_pos hq, if_pos (fun j h1 h2 => by
            by_cases hj : j = i
            · subst hj; exact hp
            · exact hq j (by omega) h2)]
        · rw [if_neg hq, if_neg (fun h1 => hq fun j h2 h3 => h1 j (by omega) h3)]
      · rw [if_neg hp, if_neg (fun h1 => hp (h1 i (Nat.le_refl _) hc))]
    · have e : i = n := by omega
      subst e
      rw [hend k, if_pos (fun j h1 h2 => by omega)]
theorem eqIntS_refl (a : List Int) (ha : a.length ≤ 1048576) : Q.eqIntS a a = some true := by
  unfold Q.eqIntS
  rw [if_neg (by simp)]
  have h := all_loop (Q.eqIntS_l1 a a) (fun _ => true) a.length (fun k => by rw [Q.eqIntS_l1, if_neg (by simp)]) (fun k i hi => by
    rw [Q.eqIntS_l1, if_pos (by simpa using hi), idx_nat a hi, Option.bind_some, Option.bind_some, if_neg (by simp), if_pos rfl, w64_succ (by omega)]) FUEL 0 (by omega) (by rw [FUEL_eq]; omega)
  rw [show (0 : Int) = ((0 : Nat) : Int) from rfl, h, if_pos (by simp)]
  rfl
end Go.Gx.Px
