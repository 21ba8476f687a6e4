/- Plain laws: the page at a cursor. Conditions: none. -/
import Derived.Test.YtceapjnnikegoaaPxm
import Derived.Test.YtceapjnnikegoaaPb
import Derived.Test.YtceapjnnikegoaaPacc
import Derived.Test.YtceapjnnikegoaaPs
set_option linter.unusedVariables false
set_option linter.unusedSimpArgs false
namespace Go.Gx.Px
abbrev Cu := Ac × Int × Int
theorem cursor_S (c : Cu) (h : SZ.sm c) : S.l25Cursor c = some c := by
  unfold S.l25Cursor
  rw [access_S c.1 h.1.2.1]; rfl
theorem cursor_M (c : Cu) (h : SZ.sm c) : M.copyCursor c = some c := by
  unfold M.copyCursor
  rw [show (c.1.1, c.1.2) = c.1 from rfl, access_M c.1 h.1.2.1]; rfl
def npOk (s : List Int) (l : List Me) (x : So) (c : Cu) (n : Int) : Bool := srcOk s x && (accOk s l c.1 && (inR n 1 9 && inR c.2.1 0 1000))
def allF (l : List Me) (x : So) (c : Cu) : List Fa := x.1.filter (fitsF (methAt l c.1.1) c.1.2)
def npF (s : List Int) (l : List Me) (x : So) (c : Cu) (n : Int) : List Fa × Cu × Int :=
  if npOk s l x c n then
    (if c.2.2 = x.2 then
      (if (pageOf (allF l x c) c.2.1 n).2.2 then ((pageOf (allF l x c) c.2.1 n).1, (c.1, (pageOf (allF l x c) c.2.1 n).2.1, c.2.2), if (pageOf (allF l x c) c.2.1 n).2.1 = ((allF l x c).length : Int) then 1 else 0) else ([], c, 3))
    else ([], c, 2))
  else ([], c, 3)
theorem all_both (s : List Int) (l : List Me) (x : So) (c : Cu) (hx : SZ.sm x) (hc : SZ.sm c) (h1 : srcOk s x = true) (h2 : accOk s l c.1 = true) :
    idx l c.1.1 = some (methAt l c.1.1) ∧ S.l5Matches (methAt l c.1.1) c.1.2 x.1 = some (allF l x c) ∧ M.matches l x.1 c.1 = some (allF l x c) := by
  obtain ⟨-, g2, -, -, -⟩ := acc_meth h2
  have h3 : ∀ f ∈ x.1, factOk s f = true := by
    unfold srcOk at h1; rw [Bool.and_eq_true] at h1; exact facts_all h1.1
  have h4 : ∀ f ∈ x.1, Fit (methAt l c.1.1) c.1.2 f := fun f hf => fit_of h2 (h3 f hf) hc.1.2.1
  exact ⟨idx_in (0, [], 0, 0, 0) g2, l5Matches_S _ _ _ hx.1 h4, matches_M l x.1 c.1 hx.1 g2 h4⟩
theorem NextPage_eq (s : List Int) (l : List Me) (x : So) (c : Cu) (n : Int) (hs : SZ.sm s) (hl : SZ.sm l) (hx : SZ.sm x) (hc : SZ.sm c) :
    S.NextPage s l x c n = some (npF s l x c n) ∧ M.NextPage s l x c n = some (npF s l x c n) := by
  have e1 : S.NextPage s l x c n = some (npF s l x c n) := by
    unfold S.NextPage npF npOk
    rw [show ((c.1.1, c.1.2), c.2.1, c.2.2) = c from rfl, cursor_S c hc, show (x.1, x.2) = x from rfl, show (c.1.1, c.1.2) = c.1 from rfl, IsSource_S s x hs hx, IsAccess_S s l c.1 hs hl hc.1, inS, inS]
    cases h1 : srcOk s x
    · rfl
    · cases h2 : accOk s l c.1
      · rfl
      · cases h3 : inR n 1 9
        · rfl
        · cases h4 : inR c.2.1 0 1000
          · rfl
          · obtain ⟨k1, k2, k3⟩ := all_both s l x c hx hc h1 h2
            have k4 := (PageAt_eq (allF l x c) c.2.1 n (sm_filter hx.1 _)).1
            by_cases h5 : c.2.2 = x.2
            · simp only [Option.bind_some, Bool.not_true, Bool.false_eq_true, if_false, h5, decide_true, Bool.and_true, if_true, k1, k2, k4]
              cases h6 : (pageOf (allF l x c) c.2.1 n).2.2
              · rw [← h5]; rfl
              · simp only [Bool.not_true, Bool.false_eq_true, if_false, if_true]
                by_cases h7 : (pageOf (allF l x c) c.2.1 n).2.1 = ((allF l x c).length : Int) <;> simp [h7, h5]
            · simp [h5]
  have e2 : M.NextPage s l x c n = some (npF s l x c n) := by
    unfold M.NextPage npF npOk M.isPage
    have q1 := IsAccess_M s l c.1 hs hl hc.1
    rw [show ((c.1.1, c.1.2), c.2.1, c.2.2) = c from rfl, cursor_M c hc, show (x.1, x.2) = x from rfl, show (c.1.1, c.1.2) = c.1 from rfl, IsSource_M s x hs hx, q1, inM, inM]
    cases h1 : srcOk s x
    · rfl
    · cases h2 : accOk s l c.1
      · rfl
      · cases h3 : inR n 1 9
        · rfl
        · cases h4 : inR c.2.1 0 1000
          · rfl
          · obtain ⟨k1, k2, k3⟩ := all_both s l x c hx hc h1 h2
            have k4 := (PageAt_eq (allF l x c) c.2.1 n (sm_filter hx.1 _)).2
            by_cases h5 : c.2.2 = x.2
            · simp only [Option.bind_some, Bool.not_true, Bool.false_eq_true, if_false, h5, decide_true, Bool.and_true, if_true, k1, k3, k4]
              cases h6 : (pageOf (allF l x c) c.2.1 n).2.2
              · rw [← h5]; rfl
              · simp only [Bool.not_true, Bool.false_eq_true, if_false, if_true]
                by_cases h7 : (pageOf (allF l x c) c.2.1 n).2.1 = ((allF l x c).length : Int) <;> simp [h7, h5]
            · simp [h5]
  exact ⟨e1, e2⟩
theorem npF_sm (s : List Int) (l : List Me) (x : So) (c : Cu) (n : Int) (hx : SZ.sm x) (hc : SZ.sm c) : SZ.sm (npF s l x c n) := by
  unfold npF
  split
  · split
    · split
      · exact ⟨(pageOf_sm _ _ _ (sm_filter hx.1 _)).1, ⟨hc.1, trivial, trivial⟩, trivial⟩
      · exact ⟨sm_nil, hc, trivial⟩
    · exact ⟨sm_nil, hc, trivial⟩
  · exact ⟨sm_nil, hc, trivial⟩
theorem same_NextPage (s : List Int) (l : List Me) (x : So) (c : Cu) (n : Int) (z1 : SZ.sz s ≤ 1048576) (z2 : SZ.sz l ≤ 1048576) (z3 : SZ.sz x ≤ 1048576) (z4 : SZ.sz c ≤ 1048576) (_ : SZ.sz n ≤ 1048576) (_ : Rng.r s) (_ : Rng.r l) (_ : Rng.r x) (_ : Rng.r c) (_ : Rng.r n) :
    ∃ r, S.NextPage s l x c n = some r ∧ M.NextPage s l x c n = some r ∧ SZ.sm r :=
  ⟨_, (NextPage_eq s l x c n (sm_of z1) (sm_of z2) (sm_of z3) (sm_of z4)).1, (NextPage_eq s l x c n (sm_of z1) (sm_of z2) (sm_of z3) (sm_of z4)).2, npF_sm s l x c n (sm_of z3) (sm_of z4)⟩
end Go.Gx.Px
