/- Plain laws: frames that are split. Conditions: none. -/
import Derived.Test.YtnccdhglieidhaaPvar
set_option linter.unusedVariables false
set_option linter.unusedSimpArgs false
namespace Go.Gx.Px
theorem chk_same (a : Str) : ∀ (n : Nat) (x i : Int), S.CheckByte_l1 a n x i = M.CheckByte_l1 a n x i := by
  intro n
  induction n with
  | zero => intro x i; rfl
  | succ n ih =>
    intro x i
    rw [S.CheckByte_l1, M.CheckByte_l1]
    simp only [ih, Int.mul_comm x 31]
theorem S_chk (a : List UInt8) (k : Nat) (x1 x2 : Int) : S.CheckByte_l1 a (k + 1) x1 x2 = if (decide (x2 < (List.length a : Int))) then
      (idx a x2).bind fun x4 =>
      S.CheckByte_l1 a k ((w64 ((w64 (x1 * 31)) + (w64 (UInt8.toNat x4 : Int)))).tmod 251) (w64 (x2 + 1))
    else
      some x1 := rfl
theorem chk_ends (a : List UInt8) (ha : a.length ≤ 1048576) : ∀ (n i : Nat) (x : Int), 0 ≤ x → x < 256 → i ≤ a.length → a.length < i + n → ∃ r : Int, S.CheckByte_l1 a n x (i : Int) = some r ∧ 0 ≤ r ∧ r < 256 := by
  intro n
  induction n with
  | zero => intro i x h0 h1 h2 h3; omega
  | succ n ih =>
    intro i x h0 h1 h2 h3
    rw [S_chk]
    by_cases hc : i < a.length
    · have hb := a[i].toNat_lt
      rw [if_pos (by simpa using hc), idx_nat a hc, Option.bind_some, w64_succ (by omega)]
      refine ih (i + 1) _ ?_ ?_ (by omega) (by omega)
      · rw [w64_id (n := x * 31) (by omega) (by omega), w64_id (n := (a[i].toNat : Int)) (by omega) (by omega), w64_id (by omega) (by omega), Int.tmod_eq_emod_of_nonneg (by omega)]
        omega
      · rw [w64_id (n := x * 31) (by omega) (by omega), w64_id (n := (a[i].toNat : Int)) (by omega) (by omega), w64_id (by omega) (by omega), Int.tmod_eq_emod_of_nonneg (by omega)]
        omega
    · rw [if_neg (by simpa using hc)]; exact ⟨_, rfl, h0, h1⟩
theorem chk_both (a : List UInt8) (ha : a.length ≤ 1048576) : ∃ r : Int, S.CheckByte a = some r ∧ M.CheckByte a = some r ∧ 0 ≤ r ∧ r < 256 := by
  obtain ⟨r, h1, h2, h3⟩ := chk_ends a ha FUEL 0 7 (by omega) (by omega) (by omega) (by rw [FUEL_eq]; omega)
  have h1' : S.CheckByte_l1 a FUEL 7 0 = some r := h1
  refine ⟨r, ?_, ?_, h2, h3⟩
  · show (S.CheckByte_l1 a FUEL 7 0).bind _ = _
    rw [h1']; rfl
  · have h4 : M.CheckByte_l1 a FUEL 7 0 = some r := (chk_same a FUEL 7 0).symm.trans h1'
    show (M.CheckByte_l1 a FUEL 7 0).bind _ = _
    rw [h4]; rfl
theorem Fixed1 (x : Int) (h0 : 0 ≤ x) (h1 : x < 256) : S.EncodeFixed x 1 = some (Str.of [u8 x]) := by
  have hx : ¬ x < 0 := by omega
  unfold S.EncodeFixed
  have hr : inR 1 1 7 = true := rfl
  rw [inS, hr]
  simp only [Option.bind_some]
  simp only [Bool.not_true, Bool.false_eq_true, if_false, Option.bind_some, hx, decide_false]
  have ef : FUEL = (FUEL - 2) + 2 := by rw [FUEL_eq]
  have h5 : x.tmod 256 = x := by rw [Int.tmod_eq_emod_of_nonneg h0]; omega
  have h6 : w64 (x.tdiv 256) = 0 := by rw [Int.tdiv_eq_ediv_of_nonneg h0, w64_id (by omega) (by omega)]; omega
  have h7 : w64 (0 + 1) = 1 := w64_id (by omega) (by omega)
  rw [ef, S.EncodeFixed_l1]
  rw [if_pos (by decide), h5, h6, h7, cat_ok _ _ (by show 1 + 0 ≤ _; omega), Option.bind_some, S.EncodeFixed_l1, if_neg (by decide)]
  rfl
def hiB (a : List UInt8) : Bool := a.all fun c => !decide ((c.toNat : Int) < 128)
theorem S_open (a : List UInt8) (h : a.length ≤ 1048576) : S.l26Open a = some (hiB a) := by
  show (S.l26Open_l1 a FUEL 0).bind _ = _
  rw [all_loop (S.l26Open_l1 a) a (fun c => !decide ((c.toNat : Int) < 128)) false (by omega) (fun k => by
    show (if decide ((a.length : Int) < (a.length : Int)) = true then _ else _) = _
    rw [if_neg (by simp)]) (fun k i hi => by
    show (if decide ((i : Int) < (a.length : Int)) = true then (idx a (i : Int)).bind _ else _) = _
    rw [if_pos (by simpa using hi), idx_nat a hi, Option.bind_some, w64_succ (by omega)]
    cases decide ((a[i].toNat : Int) < 128) <;> rfl)]
  unfold hiB
  cases a.all fun c => !decide ((c.toNat : Int) < 128) <;> rfl
theorem M_open (a : List UInt8) (h : a.length ≤ 1048576) : M.isOpenLength a = some (hiB a && decide ((a.length : Int) ≤ 3)) := by
  show (M.isOpenLength_l1 a FUEL 0).bind _ = _
  rw [all_loop (M.isOpenLength_l1 a) a (fun c => !decide ((c.toNat : Int) < 128)) false (by omega) (fun k => by
    show (if decide ((a.length : Int) < (a.length : Int)) = true then _ else _) = _
    rw [if_neg (by simp)]) (fun k i hi => by
    show (if decide ((i : Int) < (a.length : Int)) = true then (idx a (i : Int)).bind _ else _) = _
    rw [if_pos (by simpa using hi), idx_nat a hi, Option.bind_some, w64_succ (by omega)]
    cases decide ((a[i].toNat : Int) < 128) <;> rfl)]
  unfold hiB
  cases a.all fun c => !decide ((c.toNat : Int) < 128)
  · rfl
  · show some _ = _; simp
abbrev Li := List UInt8
abbrev SF := List Li × Li × Bool
def sfS (k : Nat) (a : Li) (l : List Li) : Option (Sum (List Li) SF) := S.SplitFrames_l1 k a l
def sfM (k : Nat) (a : Li) (l : List Li) : Option (Sum (Li × List Li) SF) := M.SplitFrames_l1 k a l
def decS (a : Li) : Option (Int × Int) := S.DecodeVarint a
def decM (a : Li) : Option (Int × Int) := M.DecodeVarint a
def opS (a : Li) : Option Bool := S.l26Open a
def opM (a : Li) : Option Bool := M.isOpenLength a
def chS (a : Li) : Option Int := S.CheckByte a
def chM (a : Li) : Option Int := M.CheckByte a
def fixL (x n : Int) : Option Li := S.EncodeFixed x n
def catL (a b : Li) : Option Li := cat a b
def eqL (a b : Li) : Bool := eqS a b
theorem eqL_iff (x y : Li) : eqL x y = true ↔ x = y := eqS_iff x y
theorem catL_eq (a b : Li) (h : a.length + b.length ≤ 4294967296) : catL a b = some (a ++ b) := cat_ok a b h
theorem S_sf (a : Li) (k : Nat) (l : List Li) : sfS (k + 1) a l = if (decide (0 < (List.length a : Int))) then
      (decS a).bind fun x4 =>
      if (decide (x4.2 = 0)) then
        (if (decide ((List.length a : Int) < 4)) then
          (opS a).bind fun x6 =>
          some x6
        else
          some false).bind fun x5 =>
        if x5 then
          some (.inr (l, a, true))
        else
          some (.inr (l, a, false))
      else
        if (decide (200 < x4.1)) then
          some (.inr (l, a, false))
        else
          if (decide ((List.length a : Int) < (w64 ((w64 (x4.2 + x4.1)) + 1)))) then
            some (.inr (l, a, true))
          else
            (sub a x4.2 (w64 (x4.2 + x4.1))).bind fun x7 =>
            (sub a x4.2 (w64 ((w64 (x4.2 + x4.1)) + 1))).bind fun x8 =>
            (chS x7).bind fun x9 =>
            (fixL x9 1).bind fun x10 =>
            (catL x7 x10).bind fun x11 =>
            if (!eqL x8 x11) then
              some (.inr (l, a, false))
            else
              (app l ([x7])).bind fun x12 =>
              (sub a (w64 ((w64 (x4.2 + x4.1)) + 1)) (List.length a : Int)).bind fun x13 =>
              sfS k x13 x12
    else
      some (.inl l) := rfl
theorem M_sf (a : Li) (k : Nat) (l : List Li) : sfM (k + 1) a l = if (!eqL a []) then
      (decM a).bind fun x5 =>
      if (decide (x5.2 = 0)) then
        (opM a).bind fun x6 =>
        some (.inr (l, a, x6))
      else
        if (decide (200 < x5.1)) then
          some (.inr (l, a, false))
        else
          if (decide ((List.length a : Int) < (w64 ((w64 (x5.2 + x5.1)) + 1)))) then
            some (.inr (l, a, true))
          else
            (sub a x5.2 (w64 (x5.2 + x5.1))).bind fun x7 =>
            (idx a (w64 (x5.2 + x5.1))).bind fun x8 =>
            (chM x7).bind fun x9 =>
            if (!decide ((w64 (UInt8.toNat x8 : Int)) = x9)) then
              some (.inr (l, a, false))
            else
              (app l ([x7])).bind fun x10 =>
              (sub a (w64 ((w64 (x5.2 + x5.1)) + 1)) (List.length a : Int)).bind fun x11 =>
              sfM k x11 x10
    else
      some (.inl (a, l)) := rfl
def fS (o : Sum (List Li) SF) : Option SF := match o with
  | .inl x3 => some (x3, [], true)
  | .inr r => some r
def fM (o : Sum (Li × List Li) SF) : Option SF := match o with
  | .inl (x3, x4) => some (x4, x3, true)
  | .inr r => some r
def smF (r : SF) : Prop := (r.1.length ≤ 1048576 ∧ ∀ e ∈ r.1, e.length ≤ 1048576) ∧ r.2.1.length ≤ 1048576
theorem sm_app1 {l : List Li} {x : Li} (hl : ∀ e ∈ l, e.length ≤ 1048576) (hx : x.length ≤ 1048576) : ∀ e ∈ l ++ [x], e.length ≤ 1048576 := fun e he => by
  rcases List.mem_append.1 he with he | he
  · exact hl e he
  · rw [List.mem_singleton] at he; subst he; exact hx
theorem sub_nat {α : Type} (a : List α) (i j : Nat) (h : i ≤ j) (h2 : j ≤ a.length) : sub a (i : Int) (j : Int) = some ((a.take j).drop i) := by
  unfold sub; rw [if_pos ⟨by omega, by omega, by omega⟩]; simp
theorem split_both : ∀ (K : Nat) (a : Li) (l : List Li), a.length < K → a.length + l.length ≤ 1048576 → (∀ e ∈ l, e.length ≤ 1048576) → ∃ r : SF, (sfS K a l).bind fS = some r ∧ (sfM K a l).bind fM = some r ∧ smF r := by
  intro K
  induction K with
  | zero => intro a l h; omega
  | succ K ih =>
    intro a l hK hn hl
    have hsm : ∀ b : Bool, smF (l, a, b) := fun b => ⟨⟨show l.length ≤ 1048576 by omega, hl⟩, (show a.length ≤ 1048576 by omega)⟩
    rw [S_sf, M_sf]
    by_cases h0 : a = []
    · subst h0
      rw [if_neg (by simp), (eqL_iff [] []).2 rfl, if_neg (by simp)]
      exact ⟨_, rfl, rfl, hsm true⟩
    · have hpos : 0 < a.length := List.length_pos_iff.2 h0
      have e0 : eqL a [] = false := by
        rw [Bool.eq_false_iff]; intro h; exact h0 ((eqL_iff a []).1 h)
      have hdS : decS a = some (dcd a) := DecodeVarint_S a (by omega)
      have hdM : decM a = some (dcd a) := DecodeVarint_M a (by omega)
      rw [if_pos (by simpa using hpos), e0, Bool.not_false, if_pos rfl, hdS, hdM, Option.bind_some, Option.bind_some]
      rcases dcd_r a with hd | ⟨n, s, hd, h1, h2, h3, h4⟩
      · have hoS : opS a = some (hiB a) := S_open a (by omega)
        have hoM : opM a = some (hiB a && decide ((a.length : Int) ≤ 3)) := M_open a (by omega)
        rw [hd]
        dsimp only
        rw [decide_eq_true (show (0 : Int) = 0 from rfl), if_pos rfl, if_pos rfl, hoS, hoM]
        refine ⟨(l, a, hiB a && decide ((a.length : Int) ≤ 3)), ?_, rfl, hsm _⟩
        by_cases h3 : (a.length : Int) ≤ 3
        · rw [decide_eq_true h3, Bool.and_true, decide_eq_true (show (a.length : Int) < 4 by omega), if_pos rfl]
          cases hiB a <;> rfl
        · rw [decide_eq_false h3, Bool.and_false, decide_eq_false (show ¬ (a.length : Int) < 4 by omega), if_neg Bool.false_ne_true]
          rfl
      · rw [hd]
        dsimp only
        rw [decide_eq_false (show ¬ (s : Int) = 0 by omega), if_neg Bool.false_ne_true, if_neg Bool.false_ne_true]
        by_cases c1 : 200 < (n : Int)
        · rw [decide_eq_true c1, if_pos rfl, if_pos rfl]
          exact ⟨_, rfl, rfl, hsm _⟩
        · rw [decide_eq_false c1, if_neg Bool.false_ne_true, if_neg Bool.false_ne_true]
          have e1 : w64 ((s : Int) + (n : Int)) = ((s + n : Nat) : Int) := by rw [w64_sm (by omega) (by omega)]; omega
          have e2 : w64 (((s + n : Nat) : Int) + 1) = ((s + n + 1 : Nat) : Int) := w64_succ (by omega)
          rw [e1, e2]
          by_cases c2 : (a.length : Int) < ((s + n + 1 : Nat) : Int)
          · rw [decide_eq_true c2, if_pos rfl, if_pos rfl]
            exact ⟨_, rfl, rfl, hsm _⟩
          · rw [decide_eq_false c2, if_neg Bool.false_ne_true, if_neg Bool.false_ne_true]
            have hlt : s + n < a.length := by omega
            rw [sub_nat a s (s + n) (by omega) (by omega), sub_nat a s (s + n + 1) (by omega) (by omega), idx_nat a hlt, sub_nat a (s + n + 1) a.length (by omega) (by omega)]
            simp only [Option.bind_some]
            generalize hbd : (a.take (s + n)).drop s = body
            have hbl : body.length ≤ 1048576 := by rw [← hbd, List.length_drop, List.length_take]; omega
            obtain ⟨c, k1, k2, k3, k4⟩ := chk_both body hbl
            have k1' : chS body = some c := k1
            have k2' : chM body = some c := k2
            have k5 : fixL c 1 = some [u8 c] := Fixed1 c k3 k4
            rw [k1', k2', Option.bind_some, Option.bind_some, k5, Option.bind_some]
            have hb8 : (a.take (s + n + 1)).drop s = body ++ [a[s + n]] := by
              rw [take_snoc a hlt, List.drop_append_of_le_length (by rw [List.length_take]; omega), hbd]
            rw [catL_eq _ _ (by simp; omega), Option.bind_some, hb8]
            have hlt8 := a[s + n].toNat_lt
            have hcc : eqL (body ++ [a[s + n]]) (body ++ [u8 c]) = decide (w64 (a[s + n].toNat : Int) = c) := by
              rw [Bool.eq_iff_iff, eqL_iff, decide_eq_true_eq, w64_id (by omega) (by omega), u8_nat c k3 k4]
              simp only [List.append_cancel_left_eq, List.cons.injEq, and_true]
              refine ⟨fun h => ?_, fun h => ?_⟩
              · rw [h]; simp; omega
              · rw [← h]; simp
            rw [hcc]
            by_cases c3 : w64 (a[s + n].toNat : Int) = c
            · rw [decide_eq_true c3, Bool.not_true, if_neg Bool.false_ne_true, if_neg Bool.false_ne_true, app_eq _ _ (by simp; omega), Option.bind_some, Option.bind_some]
              refine ih _ _ ?_ ?_ (sm_app1 hl hbl)
              · rw [List.length_drop, List.length_take]; omega
              · rw [List.length_drop, List.length_take, List.length_append]; simp only [List.length_cons, List.length_nil]; omega
            · rw [decide_eq_false c3, Bool.not_false, if_pos rfl, if_pos rfl]
              exact ⟨_, rfl, rfl, hsm _⟩
theorem same_SplitFrames (a : Str) (z : SZ.sz a ≤ 1048576) (_ : Rng.r a) : ∃ r, S.SplitFrames a = some r ∧ M.SplitFrames a = some r ∧ SZ.sm r := by
  have hz : List.length a ≤ 1048576 := z
  obtain ⟨r, h1, h2, h3⟩ := split_both FUEL a [] (by rw [FUEL_eq]; show List.length a < _; omega) (by show List.length a + 0 ≤ _; omega) (fun e he => by cases he)
  exact ⟨r, h1, h2, h3.1, h3.2, trivial⟩
end Go.Gx.Px
