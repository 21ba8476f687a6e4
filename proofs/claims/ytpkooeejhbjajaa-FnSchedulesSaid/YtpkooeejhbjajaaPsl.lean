/- Plain laws: schedules of a log. Conditions: none. -/
import Derived.Test.YtpkooeejhbjajaaPwS
set_option linter.unusedVariables false
set_option linter.unusedSimpArgs false
namespace Go.Gx.Px
abbrev Mt := Int × List Int × Int × Int × Int
abbrev At := Int × List Int
def quo (l : List Mt) (q : Int) : Int := (l.getD q.toNat (0, [], 0, 0, 0)).2.2.2.2
def owB (log : List At) (out : List Int) (q : Int) (j : Nat) : List Int := if (log.getD j (0, [])).1 = q then [out.getD j 0] else []
def owF (log : List At) (out : List Int) (q : Int) (i : Nat) : List Int := (List.range i).flatMap (owB log out q)
theorem owB_le (log : List At) (out : List Int) (q : Int) (j : Nat) : (owB log out q j).length ≤ 1 := by unfold owB; split <;> simp
theorem ow_len (log : List At) (out : List Int) (q : Int) (i : Nat) : (owF log out q i).length ≤ i := by
  have := flatMap_len _ (owB_le log out q) (List.range i); rwa [List.length_range] at this
theorem getD_lt {α : Type} (l : List α) (d : α) {i : Nat} (h : i < l.length) : l.getD i d = l[i] := by simp [h]
theorem ow_app (log : List At) (out : List Int) (t : Int) (q : Int) : ∀ i, i ≤ out.length → owF log (out ++ [t]) q i = owF log out q i
  | 0, _ => rfl
  | i + 1, h => by
    unfold owF at *
    have ih := ow_app log out t q i (by omega)
    unfold owF at ih
    rw [List.range_succ, List.flatMap_append, List.flatMap_append, ih]
    congr 1
    simp only [List.flatMap_cons, List.flatMap_nil, List.append_nil]
    unfold owB
    have e : (out ++ [t]).getD i 0 = out.getD i 0 := by
      rw [getD_lt _ _ (show i < (out ++ [t]).length by simp; omega), getD_lt _ _ (show i < out.length by omega), List.getElem_append_left]
    rw [e]
theorem ow_step (log : List At) (out : List Int) (t : Int) (q : Int) (hi : out.length < log.length) : owF log (out ++ [t]) q (out.length + 1) = owF log out q out.length ++ (if log[out.length].1 = q then [t] else []) := by
  have h := ow_app log out t q out.length (Nat.le_refl _)
  unfold owF at *
  rw [List.range_succ, List.flatMap_append, h]
  congr 1
  simp only [List.flatMap_cons, List.flatMap_nil, List.append_nil]
  unfold owB
  rw [getD_lt log _ hi]
  have e : (out ++ [t]).getD out.length 0 = t := by rw [getD_lt _ _ (show out.length < (out ++ [t]).length by simp)]; simp
  rw [e]
theorem own_S (log : List At) (out : List Int) (i : Nat) (hi : i < log.length) (ho : out.length = i) (hn : log.length ≤ 4294967296) : S.ScheduleLog_l2 (i : Int) log out FUEL [] 0 = some (owF log out log[i].1 i) :=
  flat_loopN (S.ScheduleLog_l2 (i : Int) log out) i (owB log out log[i].1) (by omega) (fun k x => by rw [S.ScheduleLog_l2, if_neg (by simp)]) (fun k x j hj hx => by
    have hxl : x.length ≤ j := by rw [hx]; exact ow_len log out _ j
    rw [S.ScheduleLog_l2, if_pos (by simpa using hj), idx_nat log (show j < log.length by omega), idx_nat log hi, w64_succ (by omega)]
    unfold owB
    rw [getD_lt log _ (show j < log.length by omega), getD_lt out _ (show j < out.length by omega)]
    simp only [Option.bind_some]
    by_cases c : (log[j]'(by omega)).1 = log[i].1
    · rw [if_pos (by simpa using c), if_pos c, idx_nat out (show j < out.length by omega), Option.bind_some, app_eq _ _ (by simp; omega)]; rfl
    · rw [if_neg (by simpa using c), if_neg c]; simp)
theorem mget_mset (es : List (Int × List Int)) (k q : Int) (b : List Int) : mget (mset es k b) q = if k = q then b else mget es q := by
  induction es with
  | nil => simp only [mset, mget]
  | cons e es ih =>
    obtain ⟨j, a⟩ := e
    unfold mset
    by_cases c : j = k
    · rw [if_pos c]
      simp only [mget]
      by_cases c2 : k = q
      · simp [c2]
      · rw [if_neg c2, if_neg c2, if_neg (by omega)]
    · rw [if_neg c]
      simp only [mget]
      by_cases c2 : j = q
      · rw [if_pos c2, if_pos c2, if_neg (by omega)]
      · rw [if_neg c2, if_neg c2, ih]
/-- what holds while calls are scheduled -/
structure Log (l : List Mt) (log : List At) (L now t : Int) (out : List Int) : Prop where
  lo : 0 ≤ now
  hi : t ≤ 10000
  nt : now ≤ t
  sch : ∀ q, Pw.Sched (L, quo l q) (owF log out q out.length)
  qu : ∀ q, owF log out q out.length ≠ [] → Pw.okW (L, quo l q) = true
  ge : ∀ j (h : j < out.length), now ≤ out[j] ∧ out[j] ≤ t
  up : ∀ j (h : j + 1 < out.length), out[j]'(by omega) ≤ out[j + 1]
theorem Log.snoc {l : List Mt} {log : List At} {L now t t' : Int} {out : List Int} (h : Log l log L now t out) (hi : out.length < log.length) (hw : Pw.okW (L, quo l log[out.length].1) = true) (h1 : t' ≤ 10000) (h2 : t ≤ t')
    (hs : Pw.Sched (L, quo l log[out.length].1) (owF log out log[out.length].1 out.length ++ [t'])) : Log l log L now t' (out ++ [t']) := by
  have hl : (out ++ [t']).length = out.length + 1 := by simp
  have hnt := h.nt
  refine ⟨h.lo, h1, by omega, fun q => ?_, fun q => ?_, fun j hj => ?_, fun j hj => ?_⟩
  · rw [hl, ow_step log out t' q hi]
    by_cases c : log[out.length].1 = q
    · rw [if_pos c]; subst c; exact hs
    · rw [if_neg c, List.append_nil]; exact h.sch q
  · rw [hl, ow_step log out t' q hi]
    by_cases c : log[out.length].1 = q
    · subst c; intro _; exact hw
    · rw [if_neg c, List.append_nil]; exact h.qu q
  · by_cases c : j < out.length
    · have := h.ge j c
      rw [List.getElem_append_left c]; omega
    · rw [hl] at hj
      have : j = out.length := by omega
      subst this
      simp; omega
  · rw [hl] at hj
    by_cases c : j + 1 < out.length
    · have := h.up j c
      rw [List.getElem_append_left c, List.getElem_append_left (by omega)]; exact this
    · have e : j + 1 = out.length := by omega
      have := (h.ge j (by omega)).2
      rw [List.getElem_append_left (by omega)]
      simp only [e, List.getElem_append_right (Nat.le_refl _), Nat.sub_self, List.getElem_singleton]
      omega
theorem log_loop (l : List Mt) (log : List At) (L now : Int) (hl : l.length ≤ 1048576) (hlog : log.length ≤ 100) (hL : 1 ≤ L ∧ L ≤ 100) : ∀ (m k i : Nat) (mp : List (Int × List Int)) (t : Int) (out : List Int), log.length - i = m → m < k → i ≤ log.length → out.length = i →
    (∀ q, mget mp q = owF log out q i) → Log l log L now t out →
    (S.ScheduleLog_l1 log l L k out t (i : Int) = some (.inr ([], false)) ∧ M.ScheduleLog_l1 log l L k mp t out (i : Int) = some (.inr ([], false))) ∨
    ∃ t' out' mp', S.ScheduleLog_l1 log l L k out t (i : Int) = some (.inl out') ∧ M.ScheduleLog_l1 log l L k mp t out (i : Int) = some (.inl (mp', out')) ∧ out'.length = log.length ∧ Log l log L now t' out'
  | m, 0, i, _, _, _, _, hk, _, _, _, _ => by omega
  | m, k + 1, i, mp, t, out, hm, hk, hi, ho, hmp, hI => by
    rw [S.ScheduleLog_l1, M.ScheduleLog_l1]
    by_cases c : i < log.length
    · rw [if_pos (by simpa using c), if_pos (by simpa using c), idx_nat log c]
      simp only [Option.bind_some]
      rw [inS, inM, w64_sm (by omega) (by omega)]
      cases c1 : inR log[i].1 0 ((l.length : Int) - 1)
      · left
        exact ⟨rfl, rfl⟩
      · rw [idx_in (0, [], 0, 0, 0) c1]
        simp only [Option.bind_some, Bool.not_true, Bool.false_eq_true, if_false]
        have eq : (l.getD log[i].1.toNat (0, [], 0, 0, 0)).2.2.2.2 = quo l log[i].1 := rfl
        rw [eq, inS, inM]
        cases c2 : inR (quo l log[i].1) 1 99
        · left
          exact ⟨rfl, rfl⟩
        · simp only [Option.bind_some, Bool.not_true, Bool.false_eq_true, if_false]
          have hq := inR_iff.1 c2
          have hw : Pw.okW (L, quo l log[i].1) = true := by unfold Pw.okW; simp; omega
          subst ho
          have hs := hI.sch log[out.length].1
          have hlen := ow_len log out log[out.length].1 out.length
          have hkept := hs.kept hw (by omega)
          have h0 := hI.lo
          have h1 := hI.hi
          have h2 := hI.nt
          have e1 := Pw.NextTime_kept (owF log out log[out.length].1 out.length) (L, quo l log[out.length].1) t hkept (by omega) (by omega)
          rw [own_S log out out.length c rfl (by omega), Option.bind_some, hmp]
          simp only at e1
          rw [e1]
          rcases Pw.next_spec (owF log out log[out.length].1 out.length) (L, quo l log[out.length].1) t hs hw (by omega) (by omega) (by omega) with hn | ⟨t', hn, g1, g2, g3, g4⟩
          · left
            simp only at hn
            rw [hn]
            exact ⟨rfl, rfl⟩
          · simp only at hn
            rw [hn]
            simp only [Option.bind_some, Bool.not_true, Bool.false_eq_true, if_false]
            rw [app_eq (owF log out log[out.length].1 out.length) [t'] (by simp; omega), app_eq out [t'] (by simp; omega)]
            simp only [Option.bind_some]
            rw [w64_succ (by omega)]
            have hI' := hI.snoc c hw g2 g3 g4
            have hl' : (out ++ [t']).length = out.length + 1 := by simp
            refine log_loop l log L now hl hlog hL (m - 1) k (out.length + 1) _ t' (out ++ [t']) (by omega) (by omega) (by omega) hl' (fun q => ?_) hI'
            rw [mget_mset, ow_step log out t' q c]
            by_cases c3 : log[out.length].1 = q
            · rw [if_pos c3, if_pos c3, c3]
            · rw [if_neg c3, if_neg c3, List.append_nil, hmp]
    · rw [if_neg (by simpa using c), if_neg (by simpa using c)]
      right
      exact ⟨t, out, mp, rfl, rfl, by omega, hI⟩
theorem Log_same (l : List Mt) (log : List At) (L now : Int) (hl : l.length ≤ 1048576) : ∃ r : List Int × Bool, S.ScheduleLog l log L now = some r ∧ M.ScheduleLog l log L now = some r ∧ (r = ([], false) ∨ ∃ t, r.2 = true ∧ r.1.length = log.length ∧ log.length ≤ 100 ∧ Log l log L now t r.1) := by
  unfold S.ScheduleLog M.ScheduleLog M.isTime
  rw [inS, inM, inS, inM]
  cases c1 : inR L 1 100
  · exact ⟨([], false), rfl, rfl, .inl rfl⟩
  · cases c2 : inR now 0 10000
    · exact ⟨([], false), rfl, rfl, .inl rfl⟩
    · by_cases c3 : (100 : Int) < (log.length : Int)
      · refine ⟨([], false), ?_, ?_, .inl rfl⟩
        · simp [c3]
        · simp [c3]
      · have h1 := inR_iff.1 c1
        have h2 := inR_iff.1 c2
        have hI : Log l log L now now [] := ⟨h2.1, h2.2, Int.le_refl _, fun q => Pw.Sched.nil _, fun q h => absurd rfl h, fun j h => by simp at h, fun j h => by simp at h⟩
        simp only [Option.bind_some, Bool.not_true, Bool.false_eq_true, if_false]
        rw [if_neg (by simpa using c3), if_neg (by simpa using c3)]
        rcases log_loop l log L now hl (by omega) h1 log.length FUEL 0 [] now [] (by omega) (by rw [FUEL_eq]; omega) (by omega) rfl (fun q => rfl) hI with ⟨g1, g2⟩ | ⟨t, out, mp, g1, g2, g3, g4⟩
        · refine ⟨([], false), ?_, ?_, .inl rfl⟩
          · have g1' : S.ScheduleLog_l1 log l L FUEL [] now 0 = some (.inr ([], false)) := g1
            rw [g1']; rfl
          · have g2' : M.ScheduleLog_l1 log l L FUEL [] now [] 0 = some (.inr ([], false)) := g2
            rw [g2']; rfl
        · refine ⟨(out, true), ?_, ?_, .inr ⟨t, rfl, g3, by omega, g4⟩⟩
          · have g1' : S.ScheduleLog_l1 log l L FUEL [] now 0 = some (.inl out) := g1
            rw [g1']; rfl
          · have g2' : M.ScheduleLog_l1 log l L FUEL [] now [] 0 = some (.inl (mp, out)) := g2
            rw [g2']; rfl
theorem same_ScheduleLog (l : List Mt) (log : List At) (L now : Int) (z1 : SZ.sz l ≤ 1048576) (z2 : SZ.sz log ≤ 1048576) (_ : SZ.sz L ≤ 1048576) (_ : SZ.sz now ≤ 1048576) (_ : Rng.r l) (_ : Rng.r log) (_ : Rng.r L) (_ : Rng.r now) : ∃ r, S.ScheduleLog l log L now = some r ∧ M.ScheduleLog l log L now = some r ∧ SZ.sm r := by
  obtain ⟨r, h1, h2, h3⟩ := Log_same l log L now (sm_of z1).1
  refine ⟨r, h1, h2, ?_⟩
  rcases h3 with rfl | ⟨t, -, h3, h4, -⟩
  · exact ⟨sm_nil, trivial⟩
  · exact ⟨sm_ints (by omega), trivial⟩
end Go.Gx.Px
