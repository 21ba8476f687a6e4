/- Plain laws: schedules keep the order and the quota. Conditions: none. -/
import Derived.Test.YtpkooeejhbjajaaPsl
set_option linter.unusedVariables false
set_option linter.unusedSimpArgs false
namespace Go.Gx.Px
theorem log7_loop (a : Code) (ha : a.length ≤ 1048576) (l : List Mf) (hl : l.length ≤ 5) (hm : ∀ m ∈ l, m.2.1.length ≤ 100) (sc : List Int) (fs : List Fa) (cu : Code × Int × Int) : ∀ (n K : Nat) (p s : Int) (log : List At), n < K → log.length + n ≤ 100 → Pos a p →
    ∃ q t m, S.l7Log_l1 a (sc, l, fs, cu) K p s log (n : Int) = some (q, t, m) ∧ m.length ≤ 100 := by
  intro n
  induction n with
  | zero =>
    intro K p s log hK hlg hp
    obtain ⟨K, rfl⟩ : ∃ k, K = k + 1 := ⟨K - 1, by omega⟩
    rw [S.l7Log_l1, if_neg (by simp)]
    exact ⟨_, _, _, rfl, by omega⟩
  | succ n ih =>
    intro K p s log hK hlg hp
    obtain ⟨K, rfl⟩ : ∃ k, K = k + 1 := ⟨K - 1, by omega⟩
    obtain ⟨f, q1, t1, e1, h1, p1⟩ := anyAccess_ok a p s l ha hp hl hm
    rw [S.l7Log_l1, if_pos (decide_eq_true (by omega))]
    simp only
    rw [e1, Option.bind_some]
    simp only
    rw [app_eq _ _ (by simp; omega), Option.bind_some, w64_down n (by omega)]
    exact ih K q1 t1 _ (by omega) (by simp; omega) p1
theorem drawLog_ok (a : Code) (ha : a.length ≤ 1048576) : ∃ (l : List Mt) (log : List At) (L now : Int), S.DrawScheduleLog a = some (l, log, L, now) ∧ l.length ≤ 5 := by
  obtain ⟨t0, e0⟩ := new_ok a ha
  obtain ⟨sc, l, f, q1, t1, e1, h1, h2, p1⟩ := draw5_ok a 0 t0 ha ⟨by omega, by omega⟩
  obtain ⟨v, q2, t2, e2, g0, g1, p2⟩ := below_ok a q1 t1 8 ha p1 (by omega) (by omega)
  obtain ⟨n, rfl⟩ : ∃ n : Nat, v = (n : Int) := ⟨v.toNat, by omega⟩
  obtain ⟨q3, t3, log, e3, h3⟩ := log7_loop a ha l h1 h2 sc f (a, q1, t1) n FUEL q2 t2 [] (by rw [FUEL_eq]; omega) (by simp; omega) p2
  refine ⟨l, log, w64 (((List.length a : Int).tmod 8) + 1), (List.length a : Int).tmod 5, ?_, h1⟩
  unfold S.DrawScheduleLog S.l7Log
  rw [e0, Option.bind_some]
  simp only
  rw [e1, Option.bind_some]
  simp only
  rw [e2, Option.bind_some]
  simp only
  rw [e3]
  rfl
theorem sameInts_refl' (l : List Int) (h : l.length ≤ 1048576) : Q.sameInts l l = some true := by
  unfold Q.sameInts
  rw [if_neg (by simp), eq_loop (Q.sameInts_l1 l l) l.length (by omega) (fun k => by rw [Q.sameInts_l1, if_neg (by simp)]) (fun k i hi => by
    rw [Q.sameInts_l1, if_pos (by simpa using hi), idx_nat l hi]; simp [w64_succ (show i < 4611686018427387904 by omega)])]
  rfl
theorem own_Q (l : List Mt) (log : List At) (L now : Int) (out : List Int) (b : Bool) (q : Int) (ho : out.length = log.length) (hn : log.length ≤ 100) : Q.FnSchedules_l3 (l, log, L, now) q (out, b) FUEL [] 0 = some (owF log out q log.length) :=
  flat_loopN (Q.FnSchedules_l3 (l, log, L, now) q (out, b)) log.length (owB log out q) (by omega) (fun k x => by rw [Q.FnSchedules_l3, if_neg (by simp)]) (fun k x j hj hx => by
    have hxl : x.length ≤ j := by rw [hx]; exact ow_len log out _ j
    rw [Q.FnSchedules_l3, if_pos (by simpa using hj), w64_succ (by omega)]
    simp only
    rw [idx_nat log hj]
    unfold owB
    rw [getD_lt log _ hj, getD_lt out _ (show j < out.length by omega)]
    simp only [Option.bind_some]
    by_cases c : log[j].1 = q
    · rw [if_pos (by simpa using c), if_pos c, idx_nat out (show j < out.length by omega), Option.bind_some, app_eq _ _ (by simp; omega)]; rfl
    · rw [if_neg (by simpa using c), if_neg c]; simp)
theorem p_FnSchedules (a1 : List UInt8) (h1 : Rng.r a1) : Q.FnSchedules a1 = some true := by
  unfold Q.FnSchedules Q.big
  rw [Option.bind_some]
  by_cases hb : (1048576 : Int) < (a1.length : Int)
  · rw [if_pos (by simpa using hb)]
  · rw [if_neg (by simpa using hb)]
    have ha : a1.length ≤ 1048576 := by omega
    obtain ⟨l, log, L, now, e1, hl⟩ := drawLog_ok a1 ha
    obtain ⟨r, s1, s2, s3⟩ := Log_same l log L now (by omega)
    rw [e1, Option.bind_some]
    simp only
    rw [s1, s2]
    simp only [Option.bind_some, decide_true, Bool.not_true, Bool.false_eq_true, if_false]
    rcases s3 with rfl | ⟨t, g1, g2, g3, hI⟩
    · have e2 := sameInts_refl' [] (by simp)
      simp only
      rw [e2]
      simp only [Option.bind_some, Bool.not_true, Bool.false_eq_true, if_false]
      have e3 : Q.FnSchedules_l1 ([], false) (l, log, L, now) FUEL 0 = some (.inl ()) := by rw [fuel_succ, Q.FnSchedules_l1, if_neg (by simp)]
      have e4 : Q.FnSchedules_l2 (l, log, L, now) ([], false) ([], false) FUEL 0 = some (.inl ()) := by
        rw [fuel_succ, Q.FnSchedules_l2]
        by_cases c : decide ((0 : Int) < (List.length ((l, log, L, now) : List Mt × List At × Int × Int).1 : Int)) = true
        · rw [if_pos c]; rfl
        · rw [if_neg c]; rfl
      rw [e3, Option.bind_some]
      simp only
      rw [e4]
      rfl
    · obtain ⟨out, b⟩ := r
      simp only at g1 g2 hI
      subst g1
      have e2 := sameInts_refl' out (by omega)
      simp only
      rw [e2]
      simp only [Option.bind_some, Bool.not_true, Bool.false_eq_true, if_false]
      have e3 : Q.FnSchedules_l1 (out, true) (l, log, L, now) FUEL 0 = some (.inl ()) := by
        rw [all_loopN (Q.FnSchedules_l1 (out, true) (l, log, L, now)) out.length (fun _ => true) false (by omega) (fun k => by rw [Q.FnSchedules_l1, if_neg (by simp)]) (fun k i hi => by
          have h2 := hI.ge i hi
          rw [Q.FnSchedules_l1, if_pos (by simpa using hi), w64_succ (by omega)]
          simp only
          rw [idx_nat out hi]
          simp only [Option.bind_some]
          rw [if_neg (by simp; omega)]
          by_cases c : i = 0
          · subst c
            rw [if_neg (by simp)]
            simp
          · obtain ⟨j, rfl⟩ : ∃ j, i = j + 1 := ⟨i - 1, by omega⟩
            have h3 := hI.up j hi
            rw [if_pos (by simp), w64_pred (by omega) (by omega), Nat.add_sub_cancel, idx_nat out (show j < out.length by omega)]
            simp only [Option.bind_some]
            rw [decide_eq_false (by omega)]
            simp)]
        simp
      have e4 : Q.FnSchedules_l2 (l, log, L, now) (out, true) (out, true) FUEL 0 = some (.inl ()) := by
        rw [all_loopN (Q.FnSchedules_l2 (l, log, L, now) (out, true) (out, true)) l.length (fun _ => true) false (by omega) (fun k => by rw [Q.FnSchedules_l2, if_neg (by simp)]; rfl) (fun k i hi => by
          rw [Q.FnSchedules_l2, if_pos (by simpa using hi), w64_succ (by omega), Option.bind_some, if_pos rfl, own_Q l log L now out true (i : Int) g2 g3, Option.bind_some]
          simp only
          rw [idx_nat l hi, Option.bind_some]
          have hs := hI.sch (i : Int)
          have hq := hI.qu (i : Int)
          have hlen := ow_len log out (i : Int) log.length
          rw [g2] at hs hq
          have eq : quo l (i : Int) = l[i].2.2.2.2 := by unfold quo; rw [Int.toNat_natCast, getD_lt l _ hi]
          rw [eq] at hs hq
          by_cases c : 0 < (owF log out (i : Int) log.length).length
          · have hw := hq (fun h => by rw [h] at c; simp at c)
            have hk := hs.kept hw (by omega)
            obtain ⟨b, k1, k2, -⟩ := Pw.IsKept_same (owF log out (i : Int) log.length) (L, l[i].2.2.2.2) (by omega)
            rw [hk] at k1
            cases k1
            rw [if_pos (by simpa using c), k2]
            rfl
          · rw [if_neg (by simpa using c)]
            rfl)]
        simp
      rw [e3, Option.bind_some]
      simp only
      rw [e4, Option.bind_some]
      simp only [g2]
      simp
end Go.Gx.Px
