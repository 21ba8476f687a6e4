/- Plain laws: windows: the law. Conditions: none. -/
import Derived.Test.YtnlaijbfggelfaaPwd
set_option linter.unusedVariables false
set_option linter.unusedSimpArgs false
namespace Go.Gx.Px
theorem CallsIn_neg (a : List Int) (ha : a.length ≤ 1048576) (x L : Int) (hx : x < 0) : ∀ (k i : Nat) (c : Int), 0 ≤ c → c ≤ i → i ≤ a.length → S.CallsIn_l1 a x L k c (i : Int) = M.CallsIn_l1 a x L k c (i : Int) ∧ (a.length - i < k → ∃ r, S.CallsIn_l1 a x L k c (i : Int) = some r)
  | 0, i, c, h0, h1, h2 => ⟨rfl, fun h => by omega⟩
  | k + 1, i, c, h0, h1, h2 => by
    rw [S.CallsIn_l1, M.CallsIn_l1]
    by_cases hc : i < a.length
    · have ih := CallsIn_neg a ha x L hx k (i + 1) c h0 (by omega) (by omega)
      have e0 : w64 (c + 0) = c := by rw [w64_id (by omega) (by omega)]; omega
      have hS : ((idx a (i : Int)).bind fun x5 => if (decide (x ≤ x5)) then (idx a (i : Int)).bind fun x6 => if (decide ((w64 (x6 - x)) < L)) then (idx a (i : Int)).bind fun x7 => if (decide (0 ≤ x7)) then some (decide (0 ≤ x)) else some false else some false else some false) = some false := by
        rw [idx_nth a hc]
        simp only [Option.bind_some, show ¬ (0 ≤ x) by omega, decide_false]
        split
        · split
          · split <;> rfl
          · rfl
        · rfl
      have hM : (if (decide (0 ≤ x)) then if (decide (x ≤ nth a i)) then (M.bit (decide ((w64 (nth a i - x)) < L))).bind fun x6 => some (w64 (c + x6)) else (M.bit false).bind fun x7 => some (w64 (c + x7)) else (M.bit false).bind fun x8 => some (w64 (c + x8))) = some c := by
        rw [if_neg (by simp; omega), bit_eq]
        simp only [Bool.false_eq_true, if_false, Option.bind_some, e0]
      rw [if_pos (by simpa using hc), if_pos (by simpa using hc), hS, Option.bind_some, if_neg Bool.false_ne_true, Option.bind_some, idx_nth a hc, Option.bind_some, hM, Option.bind_some, w64_succ (by omega)]
      exact ⟨ih.1, fun h => ih.2 (by omega)⟩
    · rw [if_neg (by simpa using hc), if_neg (by simpa using hc)]
      exact ⟨rfl, fun _ => ⟨c, rfl⟩⟩
theorem CallsIn_both (a : List Int) (ha : a.length ≤ 1048576) (x L : Int) : ∃ r, S.CallsIn a x L = some r ∧ M.CallsIn a x L = some r := by
  have key : S.CallsIn_l1 a x L FUEL 0 ((0 : Nat) : Int) = M.CallsIn_l1 a x L FUEL 0 ((0 : Nat) : Int) ∧ (a.length - 0 < FUEL → ∃ r, S.CallsIn_l1 a x L FUEL 0 ((0 : Nat) : Int) = some r) := by
    by_cases hx : 0 ≤ x
    · exact CallsIn_same a ha x L hx FUEL 0 0 (by omega) (by omega) (by omega)
    · exact CallsIn_neg a ha x L (by omega) FUEL 0 0 (by omega) (by omega) (by omega)
  obtain ⟨h1, h2⟩ := key
  obtain ⟨r, hr⟩ := h2 (by rw [FUEL_eq]; omega)
  refine ⟨r, ?_, ?_⟩
  · unfold S.CallsIn; rw [show (S.CallsIn_l1 a x L FUEL 0 0) = some r from hr]; rfl
  · unfold M.CallsIn; rw [show (M.CallsIn_l1 a x L FUEL 0 0) = some r from h1 ▸ hr]; rfl
theorem cnt_eq (a : List Int) (x L : Int) (hn : a.length ≤ 1048576) (hx : 0 ≤ x) (ha : ∀ e ∈ a, e ≤ 1000000) : cnt a x L = ((a.countP (inW x L) : Nat) : Int) := by
  unfold cnt; rw [CallsIn_count a x L hn hx ha]; rfl
theorem nth_lt (a : List Int) {i : Nat} (h : i < a.length) : nth a i = a[i] := by simp [nth, h]
theorem count_mid (a b c : List Int) (q : Int → Bool) (h : ∀ e ∈ b, q e = true) : b.length ≤ (a ++ (b ++ c)).countP q := by
  rw [List.countP_append, List.countP_append, List.countP_eq_length.2 h]; omega
theorem kept_sched (a : List Int) (w : Int × Int) (ha : a.length ≤ 1048576) (hk : S.IsKept a w = some true) : Sched w a ∧ okW w = true ∧ a.length ≤ 1000 := by
  classical
  rw [IsKept_S a w ha] at hk
  have hk := Option.some.inj hk
  simp only [Bool.and_eq_true, decide_eq_true_eq] at hk
  obtain ⟨⟨⟨hT, hl⟩, hw⟩, hC⟩ := hk
  have hw' : 1 ≤ w.1 ∧ w.1 ≤ 100 ∧ 1 ≤ w.2 ∧ w.2 ≤ 99 := by unfold okW at hw; simp at hw; omega
  have lo : ∀ i (h : i < a.length), 0 ≤ a[i] ∧ a[i] ≤ 10000 := fun i h => by
    have := hT i (by omega) h
    unfold okT at this
    rw [nth_lt a h] at this
    simp at this
    exact ⟨this.1.1, this.1.2⟩
  have adj : ∀ i (h : i + 1 < a.length), a[i]'(by omega) ≤ a[i + 1] := fun i h => by
    have := hT (i + 1) (by omega) h
    unfold okT at this
    rw [nth_lt a h, nth_lt a (i := i + 1 - 1) (by omega)] at this
    simp at this
    exact this.2
  have mono : ∀ d i (h : i + d < a.length), a[i]'(by omega) ≤ a[i + d] := by
    intro d
    induction d with
    | zero => intro i h; exact Int.le_refl _
    | succ d ih => intro i h; exact Int.le_trans (ih i (by omega)) (adj (i + d) h)
  refine ⟨⟨lo, fun i j hi hj hij => ?_, fun i h => ?_⟩, hw, hl⟩
  · have := mono (j - i) i (by omega)
    have e : a[i + (j - i)]'(by omega) = a[j] := by congr 1; omega
    rw [e] at this; exact this
  · refine Decidable.byContradiction fun hg => ?_
    have hi : i < a.length := by omega
    have h1 := (hC i (by omega) hi).2
    unfold okC at h1
    rw [nth_lt a hi, cnt_eq a _ _ ha (lo i hi).1 (fun e he => by
      obtain ⟨j, hj, rfl⟩ := List.mem_iff_getElem.1 he
      have := (lo j hj).2; omega)] at h1
    have e : a = a.take i ++ ((a.drop i).take (w.2.toNat + 1) ++ (a.drop i).drop (w.2.toNat + 1)) := by rw [List.take_append_drop, List.take_append_drop]
    have h2 := count_mid (a.take i) ((a.drop i).take (w.2.toNat + 1)) ((a.drop i).drop (w.2.toNat + 1)) (inW a[i] w.1) (fun y hy => by
      obtain ⟨j, hj, rfl⟩ := List.mem_iff_getElem.1 hy
      rw [List.length_take, List.length_drop] at hj
      simp only [List.getElem_take, List.getElem_drop]
      have m1 := mono j i (by omega)
      have m2 := mono (w.2.toNat - j) (i + j) (by omega)
      have e2 : a[i + j + (w.2.toNat - j)]'(by omega) = a[i + w.2.toNat] := by congr 1; omega
      rw [e2] at m2
      unfold inW
      simp; omega)
    rw [← e, List.length_take, List.length_drop] at h2
    simp at h1
    omega
theorem next_both (a : List Int) (w : Int × Int) (now : Int) (ha : a.length ≤ 100) : ∃ r : Int × Bool, S.NextTime a (w.1, w.2) now = some r ∧ M.NextTime a (w.1, w.2) now = some r ∧ (r.2 = true → S.IsKept (a ++ [r.1]) (w.1, w.2) = some true) := by
  obtain ⟨b, k1, k2, -⟩ := IsKept_same a (w.1, w.2) (by omega)
  have off : ∀ (P : Prop), (b = false ∨ ¬ (0 ≤ now ∧ now ≤ 10000)) → S.NextTime a (w.1, w.2) now = some (0, false) ∧ M.NextTime a (w.1, w.2) now = some (0, false) := by
    intro _ h
    unfold S.NextTime M.NextTime M.isTime
    rw [k1, k2, inS, inM]
    rcases h with rfl | h
    · exact ⟨rfl, rfl⟩
    · have : (decide (0 ≤ now) && decide (now ≤ 10000)) = false := by rw [Bool.eq_false_iff]; intro h2; simp at h2; exact h h2
      rw [this]
      cases b <;> exact ⟨rfl, rfl⟩
  by_cases hb : b = true
  · subst hb
    by_cases hn : 0 ≤ now ∧ now ≤ 10000
    · obtain ⟨hs, hw, -⟩ := kept_sched a (w.1, w.2) (by omega) k1
      have eM : M.NextTime a (w.1, w.2) now = (M.Window_next (w.1, w.2) a now).bind fun x4 => some (x4.1, x4.2) := by
        unfold M.NextTime M.isTime
        simp only [k2, inM, hn.1, hn.2, Option.bind_some, decide_true, Bool.and_true, Bool.not_true, Bool.false_eq_true, if_false]
      have eS := NextTime_kept a w now k1 hn.1 hn.2
      rcases next_spec a (w.1, w.2) now hs hw ha hn.1 hn.2 with h | ⟨t, h, h3, h4, h5, h6⟩
      · exact ⟨(0, false), by rw [eS]; exact h, by rw [eM, h]; rfl, fun h => by cases h⟩
      · refine ⟨(t, true), by rw [eS]; exact h, by rw [eM, h]; rfl, fun _ => h6.kept hw (by simp; omega)⟩
    · obtain ⟨e1, e2⟩ := off True (.inr hn)
      exact ⟨_, e1, e2, fun h => by cases h⟩
  · obtain ⟨e1, e2⟩ := off True (.inl (by simpa using hb))
    exact ⟨_, e1, e2, fun h => by cases h⟩
/-! no call could be made earlier -/
def Tight (now : Int) (w : Int × Int) (a : List Int) : Prop := ∀ i, i < a.length → nth a i ≤ now ∨ (0 < i ∧ nth a i ≤ nth a (i - 1)) ∨ (w.2.toNat ≤ i ∧ nth a i ≤ nth a (i - w.2.toNat) + w.1)
theorem nth_app (a : List Int) (t : Int) {i : Nat} (h : i < a.length) : nth (a ++ [t]) i = nth a i := by
  unfold nth; rw [List.getD_eq_getElem?_getD, List.getElem?_append_left h, ← List.getD_eq_getElem?_getD]
theorem nth_app_end (a : List Int) (t : Int) : nth (a ++ [t]) a.length = t := by
  unfold nth; rw [List.getD_eq_getElem?_getD, List.getElem?_append_right (Nat.le_refl _)]; simp
theorem next_tight (a : List Int) (w : Int × Int) (now t : Int) (hs : Sched w a) (hw : okW w = true) (hn : a.length ≤ 100) (h : M.Window_next (w.1, w.2) a now = some (t, true)) :
    t ≤ now ∨ (0 < a.length ∧ t ≤ nth a (a.length - 1)) ∨ (w.2.toNat ≤ a.length ∧ t ≤ nth a (a.length - w.2.toNat) + w.1) := by
  have hw' : 1 ≤ w.1 ∧ w.1 ≤ 100 ∧ 1 ≤ w.2 ∧ w.2 ≤ 99 := by unfold okW at hw; simp at hw; omega
  unfold M.Window_next at h
  have hA : ∃ t1, (if decide (0 < (List.length a : Int)) = true then (idx a (w64 ((List.length a : Int) - 1))).bind fun x2 => some (if x2 > now then x2 else now) else some now) = some t1 ∧ (t1 ≤ now ∨ (0 < a.length ∧ t1 ≤ nth a (a.length - 1))) := by
    by_cases hl : 0 < a.length
    · rw [if_pos (by simpa using hl), w64_pred hl (by omega), idx_nth a (show a.length - 1 < a.length by omega)]
      refine ⟨_, rfl, ?_⟩
      split
      · right; exact ⟨hl, Int.le_refl _⟩
      · left; exact Int.le_refl _
    · rw [if_neg (by simpa using hl)]
      exact ⟨now, rfl, .inl (Int.le_refl _)⟩
  obtain ⟨t1, e1, g1⟩ := hA
  rw [e1, Option.bind_some] at h
  have hB : ∃ t2, (if decide (w.2 ≤ (List.length a : Int)) = true then (idx a (w64 ((List.length a : Int) - w.2))).bind fun x4 => some (if w64 (x4 + w.1) > t1 then w64 (x4 + w.1) else t1) else some t1) = some t2 ∧ (t2 ≤ t1 ∨ (w.2.toNat ≤ a.length ∧ t2 ≤ nth a (a.length - w.2.toNat) + w.1)) := by
    by_cases hm : w.2 ≤ (List.length a : Int)
    · have e2 : w64 ((List.length a : Int) - w.2) = ((a.length - w.2.toNat : Nat) : Int) := by rw [w64_id (by omega) (by omega)]; omega
      have hlt : a.length - w.2.toNat < a.length := by omega
      rw [if_pos (by simpa using hm), e2, idx_nth a hlt, Option.bind_some]
      have hb := hs.lo (a.length - w.2.toNat) hlt
      rw [← nth_lt a hlt] at hb
      have e3 : w64 (nth a (a.length - w.2.toNat) + w.1) = nth a (a.length - w.2.toNat) + w.1 := w64_sm (by omega) (by omega)
      rw [e3]
      refine ⟨_, rfl, ?_⟩
      split
      · right; exact ⟨by omega, Int.le_refl _⟩
      · left; exact Int.le_refl _
    · rw [if_neg (by simpa using hm)]
      exact ⟨t1, rfl, .inl (Int.le_refl _)⟩
  obtain ⟨t2, e2, g2⟩ := hB
  rw [e2, Option.bind_some] at h
  by_cases hx : 10000 < t2
  · rw [if_pos (by simpa using hx)] at h; simp at h
  · rw [if_neg (by simpa using hx)] at h
    have ht : t2 = t := by simpa using h
    subst ht
    rcases g2 with g2 | g2
    · rcases g1 with g1 | g1
      · left; omega
      · right; left; exact ⟨g1.1, by omega⟩
    · right; right; exact g2
theorem Tight.snoc {now : Int} {w : Int × Int} {a : List Int} {t : Int} (h : Tight now w a) (hw : 1 ≤ w.2) (ht : t ≤ now ∨ (0 < a.length ∧ t ≤ nth a (a.length - 1)) ∨ (w.2.toNat ≤ a.length ∧ t ≤ nth a (a.length - w.2.toNat) + w.1)) : Tight now w (a ++ [t]) := by
  intro i hi
  simp only [List.length_append, List.length_singleton] at hi
  by_cases e : i < a.length
  · rw [nth_app a t e]
    rcases h i e with h1 | ⟨h1, h2⟩ | ⟨h1, h2⟩
    · exact .inl h1
    · exact .inr (.inl ⟨h1, by rw [nth_app a t (by omega)]; exact h2⟩)
    · exact .inr (.inr ⟨h1, by rw [nth_app a t (by omega)]; exact h2⟩)
  · obtain rfl : i = a.length := by omega
    rw [nth_app_end]
    rcases ht with h1 | ⟨h1, h2⟩ | ⟨h1, h2⟩
    · exact .inl h1
    · exact .inr (.inl ⟨h1, by rw [nth_app a t (by omega)]; exact h2⟩)
    · exact .inr (.inr ⟨h1, by rw [nth_app a t (by omega)]; exact h2⟩)
theorem tight_loop (n : Int) (w : Int × Int) (now : Int) (hn : n ≤ 100) (hw : okW w = true) (h0 : 0 ≤ now) (h1 : now ≤ 10000) : ∀ (k i : Nat) (out x : List Int), out.length = i → (i : Int) ≤ n → Sched w out → Tight now w out →
    S.ScheduleCalls_l1 n w now k out (i : Int) = some (.inl x) → Tight now w x
  | 0, i, out, x, _, _, _, _, h => by cases h
  | k + 1, i, out, x, hl, hi, hs, ht, h => by
    have hw' : 1 ≤ w.1 ∧ w.1 ≤ 100 ∧ 1 ≤ w.2 ∧ w.2 ≤ 99 := by unfold okW at hw; simp at hw; omega
    rw [S.ScheduleCalls_l1] at h
    by_cases hc : (i : Int) < n
    · have hkept := hs.kept hw (by omega)
      rw [if_pos (by simpa using hc), NextTime_kept out w now hkept h0 h1] at h
      rcases next_spec out w now hs hw (by omega) h0 h1 with h2 | ⟨t, h2, h3, h4, h5, h6⟩
      · rw [h2] at h; simp at h
      · have htt := next_tight out w now t hs hw (by omega) h2
        rw [h2] at h
        simp only [Option.bind_some, Bool.not_true, Bool.false_eq_true, if_false] at h
        rw [app_eq _ _ (by simp; omega), Option.bind_some, w64_succ (by omega)] at h
        exact tight_loop n w now hn hw h0 h1 k (i + 1) (out ++ [t]) x (by simp; omega) (by omega) h6 (ht.snoc hw'.2.2.1 htt) h
    · rw [if_neg (by simpa using hc)] at h
      simp at h
      subst h; exact ht
theorem calls_tight (n : Int) (w : Int × Int) (now : Int) (x : List Int) (h : S.ScheduleCalls n (w.1, w.2) now = some (x, true)) : Tight now w x := by
  unfold S.ScheduleCalls at h
  rw [inS, inS, Window_S] at h
  by_cases h1 : (decide (0 ≤ n) && decide (n ≤ 100)) = true
  · cases hw : okW w
    · have hw' : okW (w.1, w.2) = false := hw
      simp [h1, hw'] at h
    · have hw' : okW (w.1, w.2) = true := hw
      by_cases h2 : (decide (0 ≤ now) && decide (now ≤ 10000)) = true
      · simp only [h1, hw', h2, Option.bind_some, Bool.not_true, Bool.false_eq_true, if_false] at h
        simp at h1 h2
        cases hr : S.ScheduleCalls_l1 n (w.1, w.2) now FUEL [] 0 with
        | none => rw [hr] at h; cases h
        | some r =>
          rw [hr, Option.bind_some] at h
          cases r with
          | inl y =>
            simp at h
            subst h
            exact tight_loop n (w.1, w.2) now h1.2 hw' h2.1 h2.2 FUEL 0 [] y rfl (by simpa using h1.1) (Sched.nil _) (fun i hi => by simp at hi) hr
          | inr y =>
            simp at h
            obtain ⟨r, h3, h4, h5⟩ := Calls_loop n (w.1, w.2) now h1.2 hw' h2.1 h2.2 FUEL 0 [] rfl (by simpa using h1.1) (Sched.nil _) (by rw [FUEL_eq]; omega)
            have h3' : S.ScheduleCalls_l1 n (w.1, w.2) now FUEL [] 0 = some r := h3
            rw [hr] at h3'
            have := (h5 y.1).2 y.2 (Option.some.inj h3').symm
            rw [h] at this
            exact absurd this.2 (by simp)
      · simp [h1, hw', h2] at h
  · simp [h1] at h
theorem early_no (a : List Int) (w : Int × Int) (now : Int) (i : Nat) (hs : Sched w a) (hw : okW w = true) (ht : Tight now w a) (hn : a.length ≤ 100) (hi : i < a.length) (h1 : now < nth a i) (h2 : i = 0 ∨ nth a (i - 1) < nth a i) : S.IsKept (a.take i ++ [nth a i - 1]) (w.1, w.2) = some false := by
  have hw' : 1 ≤ w.1 ∧ w.1 ≤ 100 ∧ 1 ≤ w.2 ∧ w.2 ≤ 99 := by unfold okW at hw; simp at hw; omega
  have h3 : w.2.toNat ≤ i ∧ nth a i ≤ nth a (i - w.2.toNat) + w.1 := by
    rcases ht i hi with h | ⟨h, h'⟩ | h
    · omega
    · rcases h2 with h2 | h2 <;> omega
    · exact h
  obtain ⟨h3, h4⟩ := h3
  obtain ⟨b, k1, -, -⟩ := IsKept_same (a.take i ++ [nth a i - 1]) (w.1, w.2) (by simp; omega)
  rw [k1]
  refine congrArg some (Bool.eq_false_iff.2 fun hb => ?_)
  subst hb
  obtain ⟨hs2, -, -⟩ := kept_sched _ _ (by simp; omega) k1
  have hlen : (a.take i).length = i := by rw [List.length_take]; omega
  have hj : i - w.2.toNat + w.2.toNat = i := by omega
  have hg := hs2.gap (i - w.2.toNat) (by simp; omega)
  have e1 : (a.take i ++ [nth a i - 1])[i - w.2.toNat]'(by simp; omega) = nth a (i - w.2.toNat) := by
    rw [List.getElem_append_left (by omega), List.getElem_take, nth_lt a (by omega)]
  have e2 : (a.take i ++ [nth a i - 1])[i - w.2.toNat + w.2.toNat]'(by simp; omega) = nth a i - 1 := by
    rw [List.getElem_append_right (by omega)]; simp
  have hg' : nth a (i - w.2.toNat) + w.1 ≤ nth a i - 1 := Int.le_trans (Int.le_trans (Int.le_of_eq (congrArg (· + w.1) e1.symm)) hg) (Int.le_of_eq e2)
  omega
/-! the law -/
theorem win_tail (a1 : List UInt8) (ha : a1.length ≤ 1048576) : ((S.DrawNextTime a1).bind fun x45 =>
        (M.NextTime x45.1 (x45.2.1.1, x45.2.1.2) x45.2.2).bind fun x46 =>
        (S.NextTime x45.1 (x45.2.1.1, x45.2.1.2) x45.2.2).bind fun x47 =>
        (S.DrawIsKept a1).bind fun x48 =>
        (S.DrawCallsIn a1).bind fun x49 =>
        (if (decide (x46.2 = x47.2)) then
          if (decide (x46.1 = x47.1)) then
            if (!x46.2) then
              (M.IsKept x48.1 (x48.2.1, x48.2.2)).bind fun x51 =>
              (S.IsKept x48.1 (x48.2.1, x48.2.2)).bind fun x52 =>
              if (decide (x51 = x52)) then
                (M.CallsIn x49.1 x49.2.1 x49.2.2).bind fun x53 =>
                (S.CallsIn x49.1 x49.2.1 x49.2.2).bind fun x54 =>
                if (decide (x53 = x54)) then
                  (M.IsWindow (x48.2.1, x48.2.2)).bind fun x55 =>
                  (S.IsWindow (x48.2.1, x48.2.2)).bind fun x56 =>
                  some (decide (x55 = x56))
                else
                  some false
              else
                some false
            else
              (app ([] : List Int) x45.1).bind fun x57 =>
              (app x57 ([x47.1])).bind fun x58 =>
              (S.IsKept x58 (x45.2.1.1, x45.2.1.2)).bind fun x59 =>
              if x59 then
                (M.IsKept x48.1 (x48.2.1, x48.2.2)).bind fun x60 =>
                (S.IsKept x48.1 (x48.2.1, x48.2.2)).bind fun x61 =>
                if (decide (x60 = x61)) then
                  (M.CallsIn x49.1 x49.2.1 x49.2.2).bind fun x62 =>
                  (S.CallsIn x49.1 x49.2.1 x49.2.2).bind fun x63 =>
                  if (decide (x62 = x63)) then
                    (M.IsWindow (x48.2.1, x48.2.2)).bind fun x64 =>
                    (S.IsWindow (x48.2.1, x48.2.2)).bind fun x65 =>
                    some (decide (x64 = x65))
                  else
                    some false
                else
                  some false
              else
                some false
          else
            some false
        else
          some false).bind fun x50 =>
        some x50) = some true := by
  obtain ⟨l, w, now, e1, hl⟩ := drawNext_ok a1 ha
  obtain ⟨d, e, e2, hd⟩ := drawKept_ok a1 ha
  obtain ⟨f, g, h, e3, hf⟩ := drawIn_ok a1 ha
  obtain ⟨r, n1, n2, n3⟩ := next_both l w now (by omega)
  obtain ⟨b, k1, k2, -⟩ := IsKept_same d (e.1, e.2) (by omega)
  obtain ⟨c, c1, c2⟩ := CallsIn_both f (by omega) g h
  rw [e1, Option.bind_some]
  simp only
  rw [n2, n1, Option.bind_some, Option.bind_some, e2, Option.bind_some, e3, Option.bind_some]
  simp only
  rw [k1, k2, c1, c2, Window_S, Window_M, app_eq [] l (by simp; omega), List.nil_append]
  by_cases hr : r.2 = true
  · have hap : app l [r.1] = some (l ++ [r.1]) := app_eq _ _ (by simp; omega)
    simp only [hr, hap, n3 hr, Option.bind_some, decide_true, if_true, Bool.not_true, Bool.false_eq_true, if_false]
  · simp only [hr, Option.bind_some, decide_true, if_true, Bool.not_false]
theorem p_FnWindows (a1 : List UInt8) (h1 : Rng.r a1) : Q.FnWindows a1 = some true := by
  unfold Q.FnWindows Q.big
  rw [Option.bind_some]
  by_cases hb : (1048576 : Int) < (a1.length : Int)
  · rw [if_pos (by simpa using hb)]
  · rw [if_neg (by simpa using hb)]
    have ha : a1.length ≤ 1048576 := by omega
    have tail := win_tail a1 ha
    obtain ⟨n, w, now, e1⟩ := drawCalls_ok a1 ha
    obtain ⟨r, s1, s2, s3, s4, s5⟩ := Calls_same n w now
    have hsame : Q.sameInts r.1 r.1 = some true := by
      unfold Q.sameInts
      rw [if_neg (by simp), eq_loop (Q.sameInts_l1 r.1 r.1) r.1.length (by omega) (fun k => by rw [Q.sameInts_l1, if_neg (by simp)]) (fun k i hi => by
        rw [Q.sameInts_l1, if_pos (by simpa using hi), idx_nat r.1 hi]; simp [w64_succ (show i < 4611686018427387904 by omega)])]
      rfl
    rw [e1, Option.bind_some]
    simp only
    rw [s2, s1, Option.bind_some, Option.bind_some, hsame, decide_eq_true rfl, Bool.not_true, if_neg Bool.false_ne_true, Option.bind_some, Bool.not_true, Option.bind_some, if_neg Bool.false_ne_true]
    by_cases hr : r.2 = true
    · obtain ⟨t1, t2, t3, t4, t5, t6⟩ := s4 hr
      have hw' : 1 ≤ w.1 ∧ w.1 ≤ 100 ∧ 1 ≤ w.2 ∧ w.2 ≤ 99 := by unfold okW at t2; simp at t2; omega
      have k0 := t3.kept t2 (by omega)
      obtain ⟨b, k1, k2, -⟩ := IsKept_same r.1 (w.1, w.2) (by omega)
      have hbt : b = true := Option.some.inj (k1.symm.trans k0)
      subst hbt
      have htight : Tight now w r.1 := calls_tight n w now r.1 (by rw [s1, ← hr])
      have L1 : Q.FnWindows_l1 r (n, (w.1, w.2), now) FUEL 0 = some (.inl ()) := by
        refine eq_loop (Q.FnWindows_l1 r (n, (w.1, w.2), now)) 40 (by omega) (fun k => by rw [Q.FnWindows_l1, if_neg (by simp)]) (fun k i hi => ?_)
        have e5 : w64 (now + (i : Int)) = now + (i : Int) := w64_sm (by omega) (by omega)
        have hcnt := t3.count (now + (i : Int))
        rw [Q.FnWindows_l1, if_pos (decide_eq_true (by omega))]
        simp only
        rw [e5, CallsIn_count r.1 _ _ (by omega) (by omega) (fun y hy => by
          obtain ⟨j, hj, rfl⟩ := List.mem_iff_getElem.1 hy
          have := (t3.lo j hj).2; omega), Option.bind_some, if_neg (by simp; omega), w64_succ (by omega)]
      have L2 : Q.FnWindows_l2 r (n, (w.1, w.2), now) FUEL 0 = some (.inl ()) := by
        refine eq_loop (Q.FnWindows_l2 r (n, (w.1, w.2), now)) r.1.length (by omega) (fun k => by rw [Q.FnWindows_l2, if_neg (by simp)]) (fun k i hi => ?_)
        have hsub : sub r.1 0 (i : Int) = some (r.1.take i) := by
          unfold sub
          rw [if_pos (by omega)]; simp
        have hv := t3.lo i hi
        rw [← nth_lt r.1 hi] at hv
        have e6 : w64 (nth r.1 i - 1) = nth r.1 i - 1 := w64_sm (by omega) (by omega)
        have hle : (r.1.take i).length ≤ 100 := by rw [List.length_take]; omega
        rw [Q.FnWindows_l2, if_pos (by simpa using hi), hsub, Option.bind_some, app_eq _ _ (by simp; omega), Option.bind_some, List.nil_append, idx_nth r.1 hi]
        simp only [Option.bind_some]
        rw [e6, app_eq _ _ (by simp; omega), Option.bind_some, w64_succ (by omega)]
        by_cases g1 : now < nth r.1 i
        · rw [if_pos (decide_eq_true g1)]
          by_cases g2 : i = 0
          · subst g2
            rw [if_pos (by simp), early_no r.1 w now 0 t3 t2 htight (by omega) hi g1 (.inl rfl)]
            simp
          · rw [if_neg (by simp; omega), w64_pred (by omega) (by omega), idx_nth r.1 (show i - 1 < r.1.length by omega), Option.bind_some]
            by_cases g3 : nth r.1 (i - 1) < nth r.1 i
            · rw [if_pos (decide_eq_true g3), early_no r.1 w now i t3 t2 htight (by omega) hi g1 (.inr g3)]
              simp
            · rw [if_neg (by simpa using g3)]; simp
        · rw [if_neg (by simpa using g1)]; simp
      rw [if_pos hr, decide_eq_true t1, Bool.not_true, if_neg Bool.false_ne_true, k2, Option.bind_some, Bool.not_true, Option.bind_some, if_neg Bool.false_ne_true, L1, Option.bind_some]
      simp only
      rw [L2, Option.bind_some]
      exact tail
    · rw [if_neg hr]
      exact tail
end Go.Gx.Px
