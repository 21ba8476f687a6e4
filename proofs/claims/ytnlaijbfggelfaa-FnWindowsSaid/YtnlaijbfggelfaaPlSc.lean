/- Plain laws: schedules of calls. Conditions: none. -/
import Derived.Test.YtnlaijbfggelfaaPlWin
set_option linter.unusedVariables false
set_option linter.unusedSimpArgs false
namespace Go.Gx.Px
theorem NextTime_kept (a : List Int) (w : Int × Int) (now : Int) (hk : S.IsKept a (w.1, w.2) = some true) (h0 : 0 ≤ now) (h1 : now ≤ 10000) : S.NextTime a (w.1, w.2) now = M.Window_next (w.1, w.2) a now := by
  unfold S.NextTime M.Window_next
  simp only [hk, inS, h0, h1, Option.bind_some, decide_true, Bool.and_true, Bool.not_true, Bool.false_eq_true, if_false]
/-- the next time: it is late enough -/
theorem next_spec (a : List Int) (w : Int × Int) (now : Int) (h : Sched w a) (hw : okW w = true) (hn : a.length ≤ 100) (h0 : 0 ≤ now) (h1 : now ≤ 10000) :
    M.Window_next (w.1, w.2) a now = some (0, false) ∨ ∃ t, M.Window_next (w.1, w.2) a now = some (t, true) ∧ 0 ≤ t ∧ t ≤ 10000 ∧ now ≤ t ∧ Sched w (a ++ [t]) := by
  have hw' : 1 ≤ w.1 ∧ w.1 ≤ 100 ∧ 1 ≤ w.2 ∧ w.2 ≤ 99 := by unfold okW at hw; simp at hw; omega
  unfold M.Window_next
  -- the last one
  have hA : ∃ t1, (if decide (0 < (List.length a : Int)) = true then (idx a (w64 ((List.length a : Int) - 1))).bind fun x2 => some (if x2 > now then x2 else now) else some now) = some t1 ∧ now ≤ t1 ∧ t1 ≤ 10000 ∧ ∀ i (hi : i < a.length), a[i] ≤ t1 := by
    by_cases hl : 0 < a.length
    · rw [if_pos (by simpa using hl), w64_pred hl (by omega), idx_nat a (show a.length - 1 < a.length by omega)]
      have hb := h.lo (a.length - 1) (by omega)
      refine ⟨_, rfl, by split <;> omega, by split <;> omega, fun i hi => ?_⟩
      have := h.mono i (a.length - 1) hi (by omega) (by omega)
      split <;> omega
    · rw [if_neg (by simpa using hl)]
      exact ⟨now, rfl, by omega, h1, fun i hi => by omega⟩
  obtain ⟨t1, e1, g1, g2, g3⟩ := hA
  rw [e1, Option.bind_some]
  have hB : ∃ t2, (if decide (w.2 ≤ (List.length a : Int)) = true then (idx a (w64 ((List.length a : Int) - w.2))).bind fun x4 => some (if w64 (x4 + w.1) > t1 then w64 (x4 + w.1) else t1) else some t1) = some t2 ∧ t1 ≤ t2 ∧ ∀ (hi : w.2.toNat ≤ a.length) (hj : a.length - w.2.toNat < a.length), a[a.length - w.2.toNat] + w.1 ≤ t2 := by
    by_cases hm : w.2 ≤ (List.length a : Int)
    · have e2 : w64 ((List.length a : Int) - w.2) = ((a.length - w.2.toNat : Nat) : Int) := by rw [w64_id (by omega) (by omega)]; omega
      rw [if_pos (by simpa using hm), e2, idx_nat a (show a.length - w.2.toNat < a.length by omega), Option.bind_some]
      have hb := h.lo (a.length - w.2.toNat) (by omega)
      have e3 : w64 (a[a.length - w.2.toNat]'(by omega) + w.1) = a[a.length - w.2.toNat]'(by omega) + w.1 := w64_sm (by omega) (by omega)
      rw [e3]
      exact ⟨_, rfl, by split <;> omega, fun _ _ => by split <;> omega⟩
    · rw [if_neg (by simpa using hm)]
      exact ⟨t1, rfl, by omega, fun hi _ => by omega⟩
  obtain ⟨t2, e2, g4, g5⟩ := hB
  rw [e2, Option.bind_some]
  by_cases hx : 10000 < t2
  · left; rw [if_pos (by simpa using hx)]
  · right
    rw [if_neg (by simpa using hx)]
    exact ⟨t2, rfl, by omega, by omega, by omega, h.snoc (by omega) (by omega) (fun i hi => by have := g3 i hi; omega) g5 hw'.2.2.1⟩
theorem Sched.nil (w : Int × Int) : Sched w [] := ⟨fun i h => by simp at h, fun i j h => by simp at h, fun i h => by simp at h⟩
theorem Calls_loop (n : Int) (w : Int × Int) (now : Int) (hn : n ≤ 100) (hw : okW w = true) (h0 : 0 ≤ now) (h1 : now ≤ 10000) : ∀ (k i : Nat) (out : List Int), out.length = i → (i : Int) ≤ n → Sched w out → n < (i : Int) + k →
    ∃ r, S.ScheduleCalls_l1 n w now k out (i : Int) = some r ∧ M.ScheduleCalls_l1 n w now k out (i : Int) = some r ∧ ∀ x, (r = .inl x → Sched w x ∧ x.length ≤ 100 ∧ (x.length : Int) = n ∧ ∀ y ∈ x, y ∈ out ∨ now ≤ y) ∧ (∀ b, r = .inr (x, b) → x = [] ∧ b = false)
  | 0, i, out, _, _, _, h => by omega
  | k + 1, i, out, hl, hi, hs, h => by
    rw [S.ScheduleCalls_l1, M.ScheduleCalls_l1]
    by_cases hc : (i : Int) < n
    · have hkept := hs.kept hw (by omega)
      rw [if_pos (by simpa using hc), if_pos (by simpa using hc), NextTime_kept out w now hkept h0 h1]
      rcases next_spec out w now hs hw (by omega) h0 h1 with h2 | ⟨t, h2, h3, h4, h5, h6⟩
      · rw [h2]
        exact ⟨_, rfl, rfl, fun x => ⟨fun e => (by cases e), fun b e => (by cases e; exact ⟨rfl, rfl⟩)⟩⟩
      · rw [h2]
        simp only [Option.bind_some, Bool.not_true, Bool.false_eq_true, if_false]
        rw [app_eq _ _ (by simp; omega), Option.bind_some, Option.bind_some, w64_succ (by omega)]
        obtain ⟨r, h7, h8, h9⟩ := Calls_loop n w now hn hw h0 h1 k (i + 1) (out ++ [t]) (by simp; omega) (by omega) h6 (by omega)
        refine ⟨r, h7, h8, fun x => ⟨fun e => ?_, (h9 x).2⟩⟩
        obtain ⟨k1, k2, k3, k4⟩ := (h9 x).1 e
        refine ⟨k1, k2, k3, fun y hy => ?_⟩
        rcases k4 y hy with k5 | k5
        · rcases List.mem_append.1 k5 with k6 | k6
          · exact .inl k6
          · simp at k6; subst k6; exact .inr h5
        · exact .inr k5
    · rw [if_neg (by simpa using hc), if_neg (by simpa using hc)]
      exact ⟨_, rfl, rfl, fun x => ⟨fun e => (by cases e; exact ⟨hs, by omega, by omega, fun y hy => .inl hy⟩), fun b e => (by cases e)⟩⟩
theorem Calls_same (n : Int) (w : Int × Int) (now : Int) : ∃ r, S.ScheduleCalls n (w.1, w.2) now = some r ∧ M.ScheduleCalls n (w.1, w.2) now = some r ∧ r.1.length ≤ 100 ∧ (r.2 = true → (r.1.length : Int) = n ∧ okW w = true ∧ Sched w r.1 ∧ (∀ y ∈ r.1, now ≤ y) ∧ 0 ≤ now ∧ now ≤ 10000) ∧ (r.2 = false → r.1 = []) := by
  unfold S.ScheduleCalls M.ScheduleCalls M.isTime
  rw [inS, inM, inS, inM, Window_S, Window_M]
  by_cases h1 : (decide (0 ≤ n) && decide (n ≤ 100)) = true
  · cases hw : okW w
    · have hw' : okW (w.1, w.2) = false := hw
      simp only [h1, hw', Option.bind_some, Bool.not_true, Bool.not_false, Bool.false_eq_true, if_false, if_true]
      exact ⟨([], false), rfl, rfl, by simp, by simp, by simp⟩
    · have hw' : okW (w.1, w.2) = true := hw
      by_cases h2 : (decide (0 ≤ now) && decide (now ≤ 10000)) = true
      · simp only [h1, hw', h2, Option.bind_some, Bool.not_true, Bool.false_eq_true, if_false]
        simp at h1 h2
        obtain ⟨r, h3, h4, h5⟩ := Calls_loop n (w.1, w.2) now h1.2 hw' h2.1 h2.2 FUEL 0 [] rfl (by simpa using h1.1) (Sched.nil _) (by rw [FUEL_eq]; omega)
        rw [show (0 : Int) = ((0 : Nat) : Int) from rfl, h3, h4]
        cases r with
        | inl x =>
          obtain ⟨k1, k2, k3, k4⟩ := (h5 x).1 rfl
          exact ⟨(x, true), rfl, rfl, k2, fun _ => ⟨k3, trivial, k1, fun y hy => (k4 y hy).resolve_left (by simp), h2.1, h2.2⟩, by simp⟩
        | inr y =>
          obtain ⟨x, b⟩ := y
          obtain ⟨rfl, rfl⟩ := (h5 x).2 b rfl
          exact ⟨([], false), rfl, rfl, by simp, by simp, by simp⟩
      · simp only [h1, hw', h2, Option.bind_some, Bool.not_true, Bool.not_false, Bool.false_eq_true, if_false, if_true]
        exact ⟨([], false), rfl, rfl, by simp, by simp, by simp⟩
  · simp only [h1, Option.bind_some, Bool.not_false, Bool.not_true, Bool.false_eq_true, if_true, if_false]
    exact ⟨([], false), rfl, rfl, by simp, by simp, by simp⟩
end Go.Gx.Px
