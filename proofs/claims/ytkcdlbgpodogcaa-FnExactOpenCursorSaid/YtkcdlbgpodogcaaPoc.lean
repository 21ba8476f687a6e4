/- Plain laws: cursors that are opened. Conditions: none. -/
import Derived.Test.YtkcdlbgpodogcaaPcp
import Derived.Test.YtkcdlbgpodogcaaPs
import Derived.Test.YtkcdlbgpodogcaaPe
set_option linter.unusedVariables false
set_option linter.unusedSimpArgs false
namespace Go.Gx.Px
theorem access_S (a : Ac) (h : a.2.length ≤ 1048576) : S.l8Access a.1 a.2 = some a := by
  unfold S.l8Access; rw [app_eq _ _ (by simp; omega)]; rfl
theorem access_M (a : Ac) (h : a.2.length ≤ 1048576) : M.copyAccess a = some a := by
  unfold M.copyAccess; rw [clone_eq _ h]; rfl
def ocF (s : List Int) (l : List Me) (x : So) (a : Ac) : (Ac × Int × Int) × Bool := if srcOk s x && accOk s l a then ((a, 0, x.2), true) else (((0, []), 0, 0), false)
theorem OpenCursor_S (s : List Int) (l : List Me) (x : So) (a : Ac) (hs : SZ.sm s) (hl : SZ.sm l) (hx : SZ.sm x) (ha : SZ.sm a) : S.OpenCursor s l x a = some (ocF s l x a) := by
  unfold S.OpenCursor ocF
  rw [show (x.1, x.2) = x from rfl, show (a.1, a.2) = a from rfl, IsSource_S s x hs hx, IsAccess_S s l a hs hl ha, access_S a ha.2.1]
  cases srcOk s x <;> cases accOk s l a <;> rfl
theorem OpenCursor_M (s : List Int) (l : List Me) (x : So) (a : Ac) (hs : SZ.sm s) (hl : SZ.sm l) (hx : SZ.sm x) (ha : SZ.sm a) : M.OpenCursor s l x a = some (ocF s l x a) := by
  unfold M.OpenCursor ocF
  rw [show (x.1, x.2) = x from rfl, show (a.1, a.2) = a from rfl, IsSource_M s x hs hx, IsAccess_M s l a hs hl ha, access_M a ha.2.1]
  cases srcOk s x <;> cases accOk s l a <;> rfl
theorem oc_sm (s : List Int) (l : List Me) (x : So) (a : Ac) (ha : SZ.sm a) : SZ.sm (ocF s l x a) := by
  unfold ocF
  split
  · exact ⟨⟨ha, trivial, trivial⟩, trivial⟩
  · exact ⟨⟨⟨trivial, sm_nil⟩, trivial, trivial⟩, trivial⟩
theorem same_OpenCursor (s : List Int) (l : List Me) (x : So) (a : Ac) (z1 : SZ.sz s ≤ 1048576) (z2 : SZ.sz l ≤ 1048576) (z3 : SZ.sz x ≤ 1048576) (z4 : SZ.sz a ≤ 1048576) (_ : Rng.r s) (_ : Rng.r l) (_ : Rng.r x) (_ : Rng.r a) :
    ∃ r, S.OpenCursor s l x a = some r ∧ M.OpenCursor s l x a = some r ∧ SZ.sm r :=
  ⟨_, OpenCursor_S s l x a (sm_of z1) (sm_of z2) (sm_of z3) (sm_of z4), OpenCursor_M s l x a (sm_of z1) (sm_of z2) (sm_of z3) (sm_of z4), oc_sm s l x a (sm_of z4)⟩
end Go.Gx.Px
