/- The Go functions as pure Lean functions, printed by program. Conditions: none. -/
import Derived.Test.YtnccdhglieidhaaGxK
set_option linter.unusedVariables false
namespace Go.Gx.Px

def Q.szIntS (a1 : (List Int)) (a2 : Int) : Option Int :=
  if (decide ((w64 (a2 - (List.length a1 : Int))) < 0)) then
    some (-1)
  else
    some (w64 (a2 - (List.length a1 : Int)))

def Q.szLedger (a1 : ((List Int) × Int × Int)) (a2 : Int) : Option Int :=
  (Q.szIntS a1.1 a2).bind fun x1 =>
  if (decide (x1 < 0)) then
    some (-1)
  else
    some x1

def S.l1In (a1 : Int) (a2 : Int) (a3 : Int) : Option Bool :=
  (if (decide (a2 ≤ a1)) then
    some (decide (a1 ≤ a3))
  else
    some false).bind fun x1 =>
  some x1

def S.IsLedger_l1 (a1 : ((List Int) × Int × Int)) : Nat → Int → Option (Sum Unit Bool)
  | 0, _ => none
  | k + 1, x1 =>
    if (decide (x1 < (List.length a1.1 : Int))) then
      ((idx a1.1 x1).bind fun x3 =>
      (S.l1In x3 0 1000000).bind fun x4 =>
      if (!x4) then
        some true
      else
        if (decide (0 < x1)) then
          (idx a1.1 x1).bind fun x5 =>
          (idx a1.1 (w64 (x1 - 1))).bind fun x6 =>
          some (decide (x5 ≤ x6))
        else
          some false).bind fun x2 =>
      if x2 then
        some (.inr false)
      else
        S.IsLedger_l1 a1 k (w64 (x1 + 1))
    else
      some (.inl ())

def S.IsLedger (a1 : ((List Int) × Int × Int)) : Option Bool :=
  (S.IsLedger_l1 a1 FUEL 0).bind fun o => match o with
    | .inl () =>
      ((S.l1In a1.2.1 0 1000000000).bind fun x8 =>
      if x8 then
        (S.l1In a1.2.2 0 1000000000).bind fun x9 =>
        some x9
      else
        some false).bind fun x7 =>
      some x7
    | .inr r => some r

def Q.toIntS_l1 (a1 : (List Int)) : Nat → (List Int) → Int → Option ((List Int))
  | 0, _, _ => none
  | k + 1, x2, x3 =>
    if (decide (x3 < (List.length a1 : Int))) then
      (idx a1 x3).bind fun x5 =>
      (idx x2 x3).bind fun x6 =>
      Q.toIntS_l1 a1 k (List.set x2 (Int.toNat x3) x5) (w64 (x3 + 1))
    else
      some x2

def Q.toIntS (a1 : (List Int)) : Option (List Int) :=
  (mk (List.length a1 : Int) (0 : Int)).bind fun x1 =>
  (Q.toIntS_l1 a1 FUEL x1 0).bind fun x4 =>
  some x4

def Q.toLedger (a1 : ((List Int) × Int × Int)) : Option ((List Int) × Int × Int) :=
  (Q.toIntS a1.1).bind fun x1 =>
  some (x1, a1.2.1, a1.2.2)

def M.ascending_l1 (a1 : (List Int)) : Nat → Int → Option (Sum Unit Bool)
  | 0, _ => none
  | k + 1, x1 =>
    if (decide (x1 < (List.length a1 : Int))) then
      (if (decide (0 < x1)) then
        (idx a1 x1).bind fun x3 =>
        (idx a1 (w64 (x1 - 1))).bind fun x4 =>
        some (decide (x3 ≤ x4))
      else
        some false).bind fun x2 =>
      if x2 then
        some (.inr false)
      else
        M.ascending_l1 a1 k (w64 (x1 + 1))
    else
      some (.inl ())

def M.ascending (a1 : (List Int)) : Option Bool :=
  (M.ascending_l1 a1 FUEL 0).bind fun o => match o with
    | .inl () =>
      some true
    | .inr r => some r

def M.within (a1 : Int) (a2 : Int) (a3 : Int) : Option Bool :=
  (if (decide (a2 ≤ a1)) then
    some (decide (a1 ≤ a3))
  else
    some false).bind fun x1 =>
  some x1

def M.isKey (a1 : Int) : Option Bool :=
  (M.within a1 0 1000000).bind fun x1 =>
  some x1

def M.IsLedger_c1 (a1 : Int) : Option Bool :=
  (M.isKey a1).bind fun x1 =>
  some (!x1)

def Slices.IndexFunc_Lint_int_F82_l1 (a1 : (List Int)) : Nat → Int → Option (Sum Unit Int)
  | 0, _ => none
  | k + 1, x1 =>
    if (decide (x1 < (List.length a1 : Int))) then
      (idx a1 x1).bind fun x2 =>
      (M.IsLedger_c1 x2).bind fun x3 =>
      if x3 then
        some (.inr x1)
      else
        Slices.IndexFunc_Lint_int_F82_l1 a1 k (w64 (x1 + 1))
    else
      some (.inl ())

def Slices.IndexFunc_Lint_int_F82 (a1 : (List Int)) : Option Int :=
  (Slices.IndexFunc_Lint_int_F82_l1 a1 FUEL 0).bind fun o => match o with
    | .inl () =>
      some (-1)
    | .inr r => some r

def Slices.ContainsFunc_Lint_int_F82 (a1 : (List Int)) : Option Bool :=
  (Slices.IndexFunc_Lint_int_F82 a1).bind fun x1 =>
  some (decide (0 ≤ x1))

def M.IsLedger (a1 : ((List Int) × Int × Int)) : Option Bool :=
  ((M.ascending a1.1).bind fun x2 =>
  if x2 then
    (Slices.ContainsFunc_Lint_int_F82 a1.1).bind fun x3 =>
    if (!x3) then
      (M.within a1.2.1 0 1000000000).bind fun x4 =>
      if x4 then
        (M.within a1.2.2 0 1000000000).bind fun x5 =>
        some x5
      else
        some false
    else
      some false
  else
    some false).bind fun x1 =>
  some x1

def Q.eqIntS_l1 (a1 : (List Int)) (a2 : (List Int)) : Nat → Int → Option (Sum Unit Bool)
  | 0, _ => none
  | k + 1, x1 =>
    if (decide (x1 < (List.length a1 : Int))) then
      (idx a1 x1).bind fun x2 =>
      (idx a2 x1).bind fun x3 =>
      if (!decide (x2 = x3)) then
        some (.inr false)
      else
        Q.eqIntS_l1 a1 a2 k (w64 (x1 + 1))
    else
      some (.inl ())

def Q.eqIntS (a1 : (List Int)) (a2 : (List Int)) : Option Bool :=
  if (!decide ((List.length a1 : Int) = (List.length a2 : Int))) then
    some false
  else
    (Q.eqIntS_l1 a1 a2 FUEL 0).bind fun o => match o with
      | .inl () =>
        some true
      | .inr r => some r

def Q.eqLedger (a1 : ((List Int) × Int × Int)) (a2 : ((List Int) × Int × Int)) : Option Bool :=
  (Q.eqIntS a1.1 a2.1).bind fun x1 =>
  if (!x1) then
    some false
  else
    if (!decide (a1.2.1 = a2.2.1)) then
      some false
    else
      if (!decide (a1.2.2 = a2.2.2)) then
        some false
      else
        some true

def Q.FnExactIsLedger (a1 : ((List Int) × Int × Int)) : Option Bool :=
  (Q.szLedger (a1.1, a1.2.1, a1.2.2) 1048576).bind fun x1 =>
  if (decide (x1 < 0)) then
    some true
  else
    (Q.toLedger (a1.1, a1.2.1, a1.2.2)).bind fun x2 =>
    (S.IsLedger x2).bind fun x3 =>
    (Q.toLedger (a1.1, a1.2.1, a1.2.2)).bind fun x4 =>
    (M.IsLedger (x4.1, x4.2.1, x4.2.2)).bind fun x5 =>
    if (!decide (x5 = x3)) then
      some false
    else
      (Q.toLedger (a1.1, a1.2.1, a1.2.2)).bind fun x6 =>
      (Q.eqLedger (x4.1, x4.2.1, x4.2.2) x6).bind fun x7 =>
      if (!x7) then
        some false
      else
        some true

end Go.Gx.Px
