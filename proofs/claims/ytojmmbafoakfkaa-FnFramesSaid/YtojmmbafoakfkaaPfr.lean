/- Plain laws: frames in whatever pieces: the law. Conditions: none. -/
import Derived.Test.YtojmmbafoakfkaaPff
set_option linter.unusedVariables false
set_option linter.unusedSimpArgs false
namespace Go.Gx.Px
theorem chk_250 (a : List UInt8) (ha : a.length ≤ 1048576) : ∀ (n i : Nat) (x : Int), 0 ≤ x → x ≤ 250 → i ≤ a.length → a.length < i + n → ∃ r : Int, S.CheckByte_l1 a n x (i : Int) = some r ∧ 0 ≤ r ∧ r ≤ 250 := by
  intro n
  induction n with
  | zero => intro i x h0 h1 h2 h3; omega
  | succ n ih =>
    intro i x h0 h1 h2 h3
    rw [S_chk]
    by_cases hi : i < a.length
    · have hlt := a[i].toNat_lt
      rw [if_pos (by simpa using hi)]
      have e : idx (α := UInt8) a (i : Int) = some a[i] := idx_nat a hi
      rw [e, Option.bind_some, w64_succ (by omega)]
      have h5 : (w64 ((w64 (x * 31)) + (w64 (a[i].toNat : Int)))).tmod 251 = (x * 31 + (a[i].toNat : Int)) % 251 := by
        rw [w64_id (n := x * 31) (by omega) (by omega), w64_id (n := (a[i].toNat : Int)) (by omega) (by omega), w64_id (by omega) (by omega), Int.tmod_eq_emod_of_nonneg (by omega)]
      rw [h5]
      exact ih (i + 1) _ (by omega) (by omega) (by omega) (by omega)
    · rw [if_neg (by simpa using hi)]
      exact ⟨x, rfl, h0, h1⟩
theorem chk_le (a : Li) (h : a.length ≤ 1048576) : chk a ≤ 250 := by
  obtain ⟨r, h1, h2, h3⟩ := chk_250 a h FUEL 0 7 (by omega) (by omega) (by omega) (by rw [FUEL_eq]; omega)
  have e : chS a = some r := by
    show (S.CheckByte_l1 a FUEL 7 0).bind (fun x3 => some x3) = some r
    have h1' : S.CheckByte_l1 a FUEL 7 0 = some r := h1
    rw [h1']; rfl
  unfold chk; rw [e]; exact h3
theorem split_ok (a : Li) (h : a.length ≤ 1048576) : S.SplitFrames a = some (spl FUEL a) ∧ M.SplitFrames a = some (spl FUEL a) := by
  have := split_eq FUEL a [] (by rw [FUEL_eq]; omega) (by simpa using h)
  rw [List.nil_append] at this
  exact this
theorem take_len2 (a : Li) (k : Nat) : (a.take k).length ≤ a.length := by rw [List.length_take]; omega
theorem sub_nat0 (a : Li) (k : Nat) (h : k ≤ a.length) : sub a 0 (k : Int) = some (a.take k) := by
  have := sub_nat a 0 k (by omega) h
  rw [List.drop_zero] at this; exact this
theorem sub_nat_end (a : Li) (k : Nat) (h : k ≤ a.length) : sub a (k : Int) (a.length : Int) = some (a.drop k) := by
  have := sub_nat a k a.length h (Nat.le_refl _)
  rw [List.take_length] at this; exact this
theorem len_app_lt (p q : Li) {n : Nat} (h : p.length + q.length < n) : (p ++ q).length < n := by rw [List.length_append]; exact h
theorem frm_tail (y : Str) (hy : List.length y ≤ 400000) : ((M.FrameOf y).bind fun x18 =>
              ((S.FrameOf y).bind fun x20 =>
              if (!decide (x18 = x20)) then
                some true
              else
                (M.CheckByte y).bind fun x21 =>
                (S.CheckByte y).bind fun x22 =>
                if (!decide (x21 = x22)) then
                  some true
                else
                  (M.CheckByte y).bind fun x23 =>
                  if (decide (x23 < 0)) then
                    some true
                  else
                    (M.CheckByte y).bind fun x24 =>
                    some (decide (250 < x24))).bind fun x19 =>
              if x19 then
                some false
              else
                if (!decide (x18 = (str []))) then
                  (S.FrameOf y).bind fun x25 =>
                  (M.SplitFrames x25).bind fun x26 =>
                  (if (!x26.2.2) then
                    some true
                  else
                    if (!decide (x26.2.1 = (str []))) then
                      some true
                    else
                      if (!decide ((List.length x26.1 : Int) = 1)) then
                        some true
                      else
                        (idx x26.1 0).bind fun x28 =>
                        some (!decide (x28 = y))).bind fun x27 =>
                  if x27 then
                    some false
                  else
                    some true
                else
                  some true) = some true := by
  have hy2 : List.length y ≤ 1048576 := by omega
  obtain ⟨z, hz⟩ : ∃ z : Str, z = frmOf y := ⟨_, rfl⟩
  have f1 : S.FrameOf y = some z := by rw [hz]; exact (frameOf_eq y hy2).1
  have f2 : M.FrameOf y = some z := by rw [hz]; exact (frameOf_eq y hy2).2
  obtain ⟨k1, k2, k3, k4⟩ := chk_eq y hy2
  have c1 : S.CheckByte y = some (chk y) := k1
  have c2 : M.CheckByte y = some (chk y) := k2
  have c3 := chk_le y hy2
  rw [f2, Option.bind_some, f1, Option.bind_some, c1, c2, Option.bind_some, Option.bind_some, Option.bind_some, Option.bind_some, Option.bind_some]
  rw [decide_eq_true rfl, Bool.not_true, if_neg Bool.false_ne_true, decide_eq_true rfl, Bool.not_true, if_neg Bool.false_ne_true, decide_eq_false (show ¬ chk y < 0 by omega), if_neg Bool.false_ne_true, decide_eq_false (show ¬ 250 < chk y by omega), Option.bind_some, if_neg Bool.false_ne_true]
  by_cases hn : z = str []
  · rw [decide_eq_true hn, Bool.not_true, if_neg Bool.false_ne_true]
  · rw [decide_eq_false hn, Bool.not_false, if_pos rfl]
    have hl : List.length y ≤ 200 := by
      refine Decidable.byContradiction fun h => hn ?_
      rw [hz]; unfold frmOf; rw [if_neg h]; rfl
    have hm0 : ∀ w : Li, w.length ≤ 200 → M.SplitFrames (frmOf w) = some ([w], [], true) := by
      intro w hw
      have hzl := frmOf_len w
      have h5 := (split_ok (frmOf w) (by omega)).2
      have hz2 : frmOf w = enc w.length ++ w ++ [u8 (chk w)] := by unfold frmOf; rw [if_pos hw]
      rw [h5, hz2, spl_made w hw FUEL (by rw [← hz2, FUEL_eq]; omega)]
    have hm : M.SplitFrames z = some (([y], str [], true) : List Str × Str × Bool) := by
      rw [hz]; exact hm0 y hl
    rw [hm, Option.bind_some]
    simp [idx]
theorem p_FnFrames (a1 : List UInt8) (h1 : Rng.r a1) : Q.FnFrames a1 = some true := by
  unfold Q.FnFrames Q.big
  rw [Option.bind_some]
  by_cases hb : (1048576 : Int) < (a1.length : Int)
  · rw [if_pos (by simpa using hb)]
  · rw [if_neg (by simpa using hb)]
    have ha : a1.length ≤ 1048576 := by omega
    obtain ⟨x, e1, hx⟩ := drawSplit_ok a1 ha
    obtain ⟨y, e2, hy⟩ := drawFrame_ok a1 ha
    have tail := frm_tail y hy
    obtain ⟨r, hr⟩ : ∃ r : List Str × Str × Bool, r = spl FUEL x := ⟨_, rfl⟩
    have s1 : S.SplitFrames x = some r := by rw [hr]; exact (split_ok x (show List.length x ≤ _ by omega)).1
    have s2 : M.SplitFrames x = some r := by rw [hr]; exact (split_ok x (show List.length x ≤ _ by omega)).2
    have hrl : List.length r.1 ≤ 1048576 := by rw [hr]; exact Nat.le_trans (spl_rest_len FUEL x).2 (show List.length x ≤ 1048576 by omega)
    have hloop : Q.FnFrames_l1 r r FUEL 0 = some (.inl ()) := by
      refine eq_loop (Q.FnFrames_l1 r r) r.1.length (by omega) (fun k => by rw [Q.FnFrames_l1, if_neg (by simp)]) (fun k i hi => ?_)
      rw [Q.FnFrames_l1, if_pos (by simpa using hi), idx_nat r.1 hi, Option.bind_some, Option.bind_some, decide_eq_true rfl, Bool.not_true, if_neg Bool.false_ne_true, w64_succ (by omega)]
    rw [e1, Option.bind_some, s2, s1, Option.bind_some, Option.bind_some]
    rw [decide_eq_true rfl, Bool.not_true, if_neg Bool.false_ne_true, decide_eq_true rfl, Bool.not_true, if_neg Bool.false_ne_true, decide_eq_true rfl, Bool.not_true, Option.bind_some, if_neg Bool.false_ne_true, hloop, Option.bind_some, e2]
    simp only
    by_cases ht : r.2.2 = true
    · rw [if_pos ht]
      have hk : ∃ k : Nat, k ≤ List.length x ∧ (if (decide (0 < (List.length x : Int))) then
              (Q.at a1 3).bind fun x10 =>
              (nz (w64 ((List.length x : Int) + 1))).bind fun _ =>
              some (x10.tmod (w64 ((List.length x : Int) + 1)))
            else
              some (0 : Int)) = some (k : Int) := by
        by_cases h0 : (0 : Int) < (List.length x : Int)
        · rw [if_pos (decide_eq_true h0)]
          have hat : ∃ v : Int, 0 ≤ v ∧ Q.at a1 3 = some v := by
            unfold Q.at
            by_cases h3 : (3 : Int) < (a1.length : Int)
            · rw [if_pos (decide_eq_true h3)]
              have h3' : 3 < a1.length := by omega
              have : idx a1 (3 : Int) = some a1[3] := idx_nat a1 (i := 3) h3'
              have hlt := a1[3].toNat_lt
              rw [this, Option.bind_some]
              exact ⟨_, by rw [w64_id (by omega) (by omega)]; omega, rfl⟩
            · rw [if_neg (by simpa using h3)]
              refine ⟨_, ?_, rfl⟩
              rw [w64_id (n := 3 * 37) (by omega) (by omega), w64_id (n := (a1.length : Int) * 11) (by omega) (by omega), w64_id (by omega) (by omega), Int.tmod_eq_emod_of_nonneg (by omega)]
              omega
          obtain ⟨v, hv, hat⟩ := hat
          have hw : w64 ((List.length x : Int) + 1) = ((List.length x + 1 : Nat) : Int) := w64_succ (by omega)
          have hz : nz ((List.length x + 1 : Nat) : Int) = some () := by unfold nz; rw [if_neg (by omega)]
          rw [hat, Option.bind_some, hw, hz, Option.bind_some]
          refine ⟨(v.tmod ((List.length x + 1 : Nat) : Int)).toNat, ?_, ?_⟩
          · rw [Int.tmod_eq_emod_of_nonneg hv]
            have := Int.emod_lt_of_pos v (show (0 : Int) < ((List.length x + 1 : Nat) : Int) by omega)
            have := Int.emod_nonneg v (show ((List.length x + 1 : Nat) : Int) ≠ 0 by omega)
            omega
          · rw [Int.tmod_eq_emod_of_nonneg hv]
            have := Int.emod_nonneg v (show ((List.length x + 1 : Nat) : Int) ≠ 0 by omega)
            congr 1; omega
        · rw [if_neg (by simpa using h0)]
          exact ⟨0, by omega, rfl⟩
      obtain ⟨k, hk, ek⟩ := hk
      rw [ek, Option.bind_some]
      obtain ⟨p, hp⟩ : ∃ p : Str, p = List.take k (x : List UInt8) := ⟨_, rfl⟩
      obtain ⟨q, hq⟩ : ∃ q : Str, q = List.drop k (x : List UInt8) := ⟨_, rfl⟩
      have hpq : List.append p q = x := by rw [hp, hq]; exact List.take_append_drop k x
      have hpl : List.length p ≤ 1048576 := by rw [hp]; exact Nat.le_trans (take_len2 x k) (show List.length x ≤ 1048576 by omega)
      have g1 : subS x 0 (k : Int) = some p := by
        rw [hp]; exact sub_nat0 x k hk
      have g2 : subS x (k : Int) (List.length x : Int) = some q := by
        rw [hq]; exact sub_nat_end x k hk
      have hxl : List.length x = List.length p + List.length q := by rw [← hpq]; exact List.length_append
      rw [hr, ← hpq] at ht
      obtain ⟨i1, l, i2, i3⟩ := pieces FUEL p q (len_app_lt p q (by rw [FUEL_eq]; omega)) ht
      obtain ⟨u, hu⟩ : ∃ u : List Str × Str × Bool, u = spl FUEL p := ⟨_, rfl⟩
      have s3 : M.SplitFrames p = some u := by rw [hu]; exact (split_ok p hpl).2
      have hul : List.length u.2.1 ≤ List.length p := by rw [hu]; exact (spl_rest_len FUEL p).1
      obtain ⟨v, hv⟩ : ∃ v : Str, v = catS u.2.1 q := ⟨_, rfl⟩
      have hvl : List.length v = List.length u.2.1 + List.length q := by rw [hv, catS_len]
      obtain ⟨m, hm, hml⟩ : ∃ m : List Str, m = l ∧ m.length = l.length := ⟨_, rfl, rfl⟩
      have s4 : M.SplitFrames v = some (m, r.2.1, true) := by
        rw [hm]
        have h5 := (split_ok v (show List.length v ≤ 1048576 by omega)).2
        have h6 : spl FUEL v = (l, (spl FUEL (List.append p q)).2.1, true) := by rw [hv, hu]; exact i2
        have h7 : spl FUEL (List.append p q) = r := by rw [hpq, hr]
        rw [h7] at h6
        exact h5.trans (congrArg some h6)
      have hlen : (List.length u.1 : Int) + (List.length m : Int) = (List.length r.1 : Int) := by
        have h7 : (spl FUEL x).1 = (spl FUEL p).1 ++ l := by rw [← hpq]; exact i3
        have h8 : List.length r.1 = List.length u.1 + List.length m := by rw [hr, hu, hm]; exact (congrArg List.length h7).trans List.length_append
        omega
      have hu2 : u.2.2 = true := by rw [hu]; exact i1
      rw [g1, Option.bind_some, s3, Option.bind_some, g2, Option.bind_some, cat_ok _ _ (by omega), Option.bind_some, ← hv, s4, Option.bind_some]
      rw [hu2, Bool.not_true, if_neg Bool.false_ne_true, Option.bind_some, if_neg Bool.false_ne_true, decide_eq_true rfl, Bool.not_true, if_neg Bool.false_ne_true, w64_sm (n := (List.length u.1 : Int) + (List.length m : Int)) (by omega) (by omega), decide_eq_true hlen, Bool.not_true, Option.bind_some, if_neg Bool.false_ne_true]
      exact tail
    · rw [if_neg ht, Option.bind_some]
      exact tail
end Go.Gx.Px
