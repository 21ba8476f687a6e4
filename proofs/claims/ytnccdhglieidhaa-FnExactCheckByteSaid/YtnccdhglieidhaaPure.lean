/- The Go functions as pure Lean functions, printed by program. Conditions: none. -/
import Derived.Test.YtnccdhglieidhaaGxF
set_option linter.unusedVariables false
namespace Go.Gx.Px

def S.CheckByte_l1 (a1 : Str) : Nat → Int → Int → Option (Int)
  | 0, _, _ => none
  | k + 1, x1, x2 =>
    if (decide (x2 < (List.length a1 : Int))) then
      (idx (α := UInt8) a1 x2).bind fun x4 =>
      S.CheckByte_l1 a1 k ((w64 ((w64 (x1 * 31)) + (w64 (UInt8.toNat x4 : Int)))).tmod 251) (w64 (x2 + 1))
    else
      some x1

def S.CheckByte (a1 : Str) : Option Int :=
  (S.CheckByte_l1 a1 FUEL 7 0).bind fun x3 =>
  some x3

def M.CheckByte_l1 (a1 : Str) : Nat → Int → Int → Option (Int)
  | 0, _, _ => none
  | k + 1, x1, x2 =>
    if (decide (x2 < (List.length a1 : Int))) then
      (idx (α := UInt8) a1 x2).bind fun x4 =>
      M.CheckByte_l1 a1 k ((w64 ((w64 (31 * x1)) + (w64 (UInt8.toNat x4 : Int)))).tmod 251) (w64 (x2 + 1))
    else
      some x1

def M.CheckByte (a1 : Str) : Option Int :=
  (M.CheckByte_l1 a1 FUEL 7 0).bind fun x3 =>
  some x3

def Q.FnExactCheckByte (a1 : Str) : Option Bool :=
  if (decide (1048576 < (List.length a1 : Int))) then
    some true
  else
    (S.CheckByte a1).bind fun x1 =>
    (M.CheckByte a1).bind fun x2 =>
    if (!decide (x2 = x1)) then
      some false
    else
      some true

def S.l1In (a1 : Int) (a2 : Int) (a3 : Int) : Option Bool :=
  (if (decide (a2 ≤ a1)) then
    some (decide (a1 ≤ a3))
  else
    some false).bind fun x1 =>
  some x1

def M.within (a1 : Int) (a2 : Int) (a3 : Int) : Option Bool :=
  (if (decide (a2 ≤ a1)) then
    some (decide (a1 ≤ a3))
  else
    some false).bind fun x1 =>
  some x1

def Q.szIntS (a1 : (List Int)) (a2 : Int) : Option Int :=
  if (decide ((w64 (a2 - (List.length a1 : Int))) < 0)) then
    some (-1)
  else
    some (w64 (a2 - (List.length a1 : Int)))

def Q.szLedger (a1 : ((List Int) × Int × Int)) (a2 : Int) : Option Int :=
  (Q.szIntS a1.1 a2).bind fun x1 =>
  if (decide (x1 < 0)) then
    some (-1)
  else
    some x1

def M.ascending_l1 (a1 : (List Int)) : Nat → Int → Option (Sum Unit Bool)
  | 0, _ => none
  | k + 1, x1 =>
    if (decide (x1 < (List.length a1 : Int))) then
      (if (decide (0 < x1)) then
        (idx a1 x1).bind fun x3 =>
        (idx a1 (w64 (x1 - 1))).bind fun x4 =>
        some (decide (x3 ≤ x4))
      else
        some false).bind fun x2 =>
      if x2 then
        some (.inr false)
      else
        M.ascending_l1 a1 k (w64 (x1 + 1))
    else
      some (.inl ())

def M.ascending (a1 : (List Int)) : Option Bool :=
  (M.ascending_l1 a1 FUEL 0).bind fun o => match o with
    | .inl () =>
      some true
    | .inr r => some r

def M.isKey (a1 : Int) : Option Bool :=
  (M.within a1 0 1000000).bind fun x1 =>
  some x1

def M.IsLedger_c1 (a1 : Int) : Option Bool :=
  (M.isKey a1).bind fun x1 =>
  some (!x1)

def Q.eqIntS_l1 (a1 : (List Int)) (a2 : (List Int)) : Nat → Int → Option (Sum Unit Bool)
  | 0, _ => none
  | k + 1, x1 =>
    if (decide (x1 < (List.length a1 : Int))) then
      (idx a1 x1).bind fun x2 =>
      (idx a2 x1).bind fun x3 =>
      if (!decide (x2 = x3)) then
        some (.inr false)
      else
        Q.eqIntS_l1 a1 a2 k (w64 (x1 + 1))
    else
      some (.inl ())

def Q.eqIntS (a1 : (List Int)) (a2 : (List Int)) : Option Bool :=
  if (!decide ((List.length a1 : Int) = (List.length a2 : Int))) then
    some false
  else
    (Q.eqIntS_l1 a1 a2 FUEL 0).bind fun o => match o with
      | .inl () =>
        some true
      | .inr r => some r

def Q.eqLedger (a1 : ((List Int) × Int × Int)) (a2 : ((List Int) × Int × Int)) : Option Bool :=
  (Q.eqIntS a1.1 a2.1).bind fun x1 =>
  if (!x1) then
    some false
  else
    if (!decide (a1.2.1 = a2.2.1)) then
      some false
    else
      if (!decide (a1.2.2 = a2.2.2)) then
        some false
      else
        some true

def S.CallsIn_l1 (a1 : (List Int)) (a2 : Int) (a3 : Int) : Nat → Int → Int → Option (Int)
  | 0, _, _ => none
  | k + 1, x1, x2 =>
    if (decide (x2 < (List.length a1 : Int))) then
      ((idx a1 x2).bind fun x5 =>
      if (decide (a2 ≤ x5)) then
        (idx a1 x2).bind fun x6 =>
        if (decide ((w64 (x6 - a2)) < a3)) then
          (idx a1 x2).bind fun x7 =>
          if (decide (0 ≤ x7)) then
            some (decide (0 ≤ a2))
          else
            some false
        else
          some false
      else
        some false).bind fun x4 =>
      (if x4 then
        some (w64 (x1 + 1))
      else
        some x1).bind fun x8 =>
      S.CallsIn_l1 a1 a2 a3 k x8 (w64 (x2 + 1))
    else
      some x1

def S.CallsIn (a1 : (List Int)) (a2 : Int) (a3 : Int) : Option Int :=
  (S.CallsIn_l1 a1 a2 a3 FUEL 0 0).bind fun x3 =>
  some x3

def S.IsWindow (a1 : (Int × Int)) : Option Bool :=
  ((S.l1In a1.1 1 100).bind fun x2 =>
  if x2 then
    (S.l1In a1.2 1 99).bind fun x3 =>
    some x3
  else
    some false).bind fun x1 =>
  some x1

def M.bit (a1 : Bool) : Option Int :=
  if a1 then
    some 1
  else
    some 0

def M.CallsIn_l1 (a1 : (List Int)) (a2 : Int) (a3 : Int) : Nat → Int → Int → Option (Int)
  | 0, _, _ => none
  | k + 1, x1, x2 =>
    if (decide (x2 < (List.length a1 : Int))) then
      (idx a1 x2).bind fun x4 =>
      (if (decide (0 ≤ a2)) then
        if (decide (a2 ≤ x4)) then
          (M.bit (decide ((w64 (x4 - a2)) < a3))).bind fun x6 =>
          some (w64 (x1 + x6))
        else
          (M.bit false).bind fun x7 =>
          some (w64 (x1 + x7))
      else
        (M.bit false).bind fun x8 =>
        some (w64 (x1 + x8))).bind fun x5 =>
      M.CallsIn_l1 a1 a2 a3 k x5 (w64 (x2 + 1))
    else
      some x1

def M.CallsIn (a1 : (List Int)) (a2 : Int) (a3 : Int) : Option Int :=
  (M.CallsIn_l1 a1 a2 a3 FUEL 0 0).bind fun x3 =>
  some x3

def M.IsWindow (a1 : (Int × Int)) : Option Bool :=
  ((M.within a1.1 1 100).bind fun x2 =>
  if x2 then
    (M.within a1.2 1 99).bind fun x3 =>
    some x3
  else
    some false).bind fun x1 =>
  some x1

def M.isTime (a1 : Int) : Option Bool :=
  (M.within a1 0 10000).bind fun x1 =>
  some x1

def M.Window_next (a1 : (Int × Int)) (a2 : (List Int)) (a3 : Int) : Option (Int × Bool) :=
  (if (decide (0 < (List.length a2 : Int))) then
    (idx a2 (w64 ((List.length a2 : Int) - 1))).bind fun x2 =>
    some (if x2 > a3 then x2 else a3)
  else
    some a3).bind fun x1 =>
  (if (decide (a1.2 ≤ (List.length a2 : Int))) then
    (idx a2 (w64 ((List.length a2 : Int) - a1.2))).bind fun x4 =>
    some (if (w64 (x4 + a1.1)) > x1 then w64 (x4 + a1.1) else x1)
  else
    some x1).bind fun x3 =>
  if (decide (10000 < x3)) then
    some (0, false)
  else
    some (x3, true)

def Q.heldIntS_l1 (a1 : (List Int)) : Nat → Int → Int → Option (Sum Int Int)
  | 0, _, _ => none
  | k + 1, x1, x2 =>
    if (decide (x2 < (List.length a1 : Int))) then
      (idx a1 x2).bind fun x4 =>
      if (!decide (x4 = x1)) then
        some (.inr (-1))
      else
        Q.heldIntS_l1 a1 k (w64 (x1 + 1)) (w64 (x2 + 1))
    else
      some (.inl x1)

def Q.heldIntS (a1 : (List Int)) (a2 : Int) : Option Int :=
  (Q.heldIntS_l1 a1 FUEL a2 0).bind fun o => match o with
    | .inl x3 =>
      some x3
    | .inr r => some r

def Q.szFact (a1 : (Int × (List Int))) (a2 : Int) : Option Int :=
  (Q.szIntS a1.2 a2).bind fun x1 =>
  if (decide (x1 < 0)) then
    some (-1)
  else
    some x1

def Q.szFactS_l1 (a1 : (List (Int × (List Int)))) : Nat → Int → Int → Option (Sum Int Int)
  | 0, _, _ => none
  | k + 1, x1, x2 =>
    if (decide (x2 < (List.length a1 : Int))) then
      (idx a1 x2).bind fun x4 =>
      (Q.szFact x4 x1).bind fun x5 =>
      if (decide (x5 < 0)) then
        some (.inr (-1))
      else
        Q.szFactS_l1 a1 k x5 (w64 (x2 + 1))
    else
      some (.inl x1)

def Q.szFactS (a1 : (List (Int × (List Int)))) (a2 : Int) : Option Int :=
  if (decide ((w64 (a2 - (List.length a1 : Int))) < 0)) then
    some (-1)
  else
    (Q.szFactS_l1 a1 FUEL (w64 (a2 - (List.length a1 : Int))) 0).bind fun o => match o with
      | .inl x3 =>
        some x3
      | .inr r => some r

def M.isPage (a1 : Int) : Option Bool :=
  (M.within a1 1 9).bind fun x1 =>
  some x1

def Q.eqFact (a1 : (Int × (List Int))) (a2 : (Int × (List Int))) : Option Bool :=
  if (!decide (a1.1 = a2.1)) then
    some false
  else
    (Q.eqIntS a1.2 a2.2).bind fun x1 =>
    if (!x1) then
      some false
    else
      some true

def Q.eqFactS_l1 (a1 : (List (Int × (List Int)))) (a2 : (List (Int × (List Int)))) : Nat → Int → Option (Sum Unit Bool)
  | 0, _ => none
  | k + 1, x1 =>
    if (decide (x1 < (List.length a1 : Int))) then
      (idx a1 x1).bind fun x2 =>
      (idx a2 x1).bind fun x3 =>
      (Q.eqFact x2 x3).bind fun x4 =>
      if (!x4) then
        some (.inr false)
      else
        Q.eqFactS_l1 a1 a2 k (w64 (x1 + 1))
    else
      some (.inl ())

def Q.eqFactS (a1 : (List (Int × (List Int)))) (a2 : (List (Int × (List Int)))) : Option Bool :=
  if (!decide ((List.length a1 : Int) = (List.length a2 : Int))) then
    some false
  else
    (Q.eqFactS_l1 a1 a2 FUEL 0).bind fun o => match o with
      | .inl () =>
        some true
      | .inr r => some r

def Q.heldFactS_l1 (a1 : (List (Int × (List Int)))) : Nat → Int → Int → Option (Sum Int Int)
  | 0, _, _ => none
  | k + 1, x1, x2 =>
    if (decide (x2 < (List.length a1 : Int))) then
      (idx a1 x2).bind fun x4 =>
      if (!decide (x4.1 = x1)) then
        some (.inr (-1))
      else
        (idx a1 x2).bind fun x5 =>
        (Q.heldIntS x5.2 (w64 (x1 + 1))).bind fun x6 =>
        if (decide (x6 < 0)) then
          some (.inr (-1))
        else
          Q.heldFactS_l1 a1 k x6 (w64 (x2 + 1))
    else
      some (.inl x1)

def Q.heldFactS (a1 : (List (Int × (List Int)))) (a2 : Int) : Option Int :=
  (Q.heldFactS_l1 a1 FUEL a2 0).bind fun o => match o with
    | .inl x3 =>
      some x3
    | .inr r => some r

def S.l26Open_l1 (a1 : Str) : Nat → Int → Option (Sum Unit Bool)
  | 0, _ => none
  | k + 1, x1 =>
    if (decide (x1 < (List.length a1 : Int))) then
      (idx (α := UInt8) a1 x1).bind fun x2 =>
      if (decide ((UInt8.toNat x2 : Int) < 128)) then
        some (.inr false)
      else
        S.l26Open_l1 a1 k (w64 (x1 + 1))
    else
      some (.inl ())

def S.l26Open (a1 : Str) : Option Bool :=
  (S.l26Open_l1 a1 FUEL 0).bind fun o => match o with
    | .inl () =>
      some true
    | .inr r => some r

def M.isOpenLength_l1 (a1 : Str) : Nat → Int → Option (Sum Unit Bool)
  | 0, _ => none
  | k + 1, x1 =>
    if (decide (x1 < (List.length a1 : Int))) then
      (idx (α := UInt8) a1 x1).bind fun x2 =>
      if (decide ((UInt8.toNat x2 : Int) < 128)) then
        some (.inr false)
      else
        M.isOpenLength_l1 a1 k (w64 (x1 + 1))
    else
      some (.inl ())

def M.isOpenLength (a1 : Str) : Option Bool :=
  (M.isOpenLength_l1 a1 FUEL 0).bind fun o => match o with
    | .inl () =>
      some (decide ((List.length a1 : Int) ≤ 3))
    | .inr r => some r

def Q.eqStringS_l1 (a1 : (List Str)) (a2 : (List Str)) : Nat → Int → Option (Sum Unit Bool)
  | 0, _ => none
  | k + 1, x1 =>
    if (decide (x1 < (List.length a1 : Int))) then
      (idx a1 x1).bind fun x2 =>
      (idx a2 x1).bind fun x3 =>
      if (!decide (x2 = x3)) then
        some (.inr false)
      else
        Q.eqStringS_l1 a1 a2 k (w64 (x1 + 1))
    else
      some (.inl ())

def Q.eqStringS (a1 : (List Str)) (a2 : (List Str)) : Option Bool :=
  if (!decide ((List.length a1 : Int) = (List.length a2 : Int))) then
    some false
  else
    (Q.eqStringS_l1 a1 a2 FUEL 0).bind fun o => match o with
      | .inl () =>
        some true
      | .inr r => some r

def Q.szFactSS_l1 (a1 : (List (List (Int × (List Int))))) : Nat → Int → Int → Option (Sum Int Int)
  | 0, _, _ => none
  | k + 1, x1, x2 =>
    if (decide (x2 < (List.length a1 : Int))) then
      (idx a1 x2).bind fun x4 =>
      (Q.szFactS x4 x1).bind fun x5 =>
      if (decide (x5 < 0)) then
        some (.inr (-1))
      else
        Q.szFactSS_l1 a1 k x5 (w64 (x2 + 1))
    else
      some (.inl x1)

def Q.szFactSS (a1 : (List (List (Int × (List Int))))) (a2 : Int) : Option Int :=
  if (decide ((w64 (a2 - (List.length a1 : Int))) < 0)) then
    some (-1)
  else
    (Q.szFactSS_l1 a1 FUEL (w64 (a2 - (List.length a1 : Int))) 0).bind fun o => match o with
      | .inl x3 =>
        some x3
      | .inr r => some r

def Q.eqFactSS_l1 (a1 : (List (List (Int × (List Int))))) (a2 : (List (List (Int × (List Int))))) : Nat → Int → Option (Sum Unit Bool)
  | 0, _ => none
  | k + 1, x1 =>
    if (decide (x1 < (List.length a1 : Int))) then
      (idx a1 x1).bind fun x2 =>
      (idx a2 x1).bind fun x3 =>
      (Q.eqFactS x2 x3).bind fun x4 =>
      if (!x4) then
        some (.inr false)
      else
        Q.eqFactSS_l1 a1 a2 k (w64 (x1 + 1))
    else
      some (.inl ())

def Q.eqFactSS (a1 : (List (List (Int × (List Int))))) (a2 : (List (List (Int × (List Int))))) : Option Bool :=
  if (!decide ((List.length a1 : Int) = (List.length a2 : Int))) then
    some false
  else
    (Q.eqFactSS_l1 a1 a2 FUEL 0).bind fun o => match o with
      | .inl () =>
        some true
      | .inr r => some r

def Q.big (a1 : (List UInt8)) : Option Bool :=
  some (decide (1048576 < (List.length a1 : Int)))

def Q.sameInts_l1 (a1 : (List Int)) (a2 : (List Int)) : Nat → Int → Option (Sum Unit Bool)
  | 0, _ => none
  | k + 1, x1 =>
    if (decide (x1 < (List.length a1 : Int))) then
      (idx a1 x1).bind fun x2 =>
      (idx a2 x1).bind fun x3 =>
      if (!decide (x2 = x3)) then
        some (.inr false)
      else
        Q.sameInts_l1 a1 a2 k (w64 (x1 + 1))
    else
      some (.inl ())

def Q.sameInts (a1 : (List Int)) (a2 : (List Int)) : Option Bool :=
  if (!decide ((List.length a1 : Int) = (List.length a2 : Int))) then
    some false
  else
    (Q.sameInts_l1 a1 a2 FUEL 0).bind fun o => match o with
      | .inl () =>
        some true
      | .inr r => some r

def Q.heldFactSS_l1 (a1 : (List (List (Int × (List Int))))) : Nat → Int → Int → Option (Sum Int Int)
  | 0, _, _ => none
  | k + 1, x1, x2 =>
    if (decide (x2 < (List.length a1 : Int))) then
      (idx a1 x2).bind fun x4 =>
      (Q.heldFactS x4 x1).bind fun x5 =>
      if (decide (x5 < 0)) then
        some (.inr (-1))
      else
        Q.heldFactSS_l1 a1 k x5 (w64 (x2 + 1))
    else
      some (.inl x1)

def Q.heldFactSS (a1 : (List (List (Int × (List Int))))) (a2 : Int) : Option Int :=
  (Q.heldFactSS_l1 a1 FUEL a2 0).bind fun o => match o with
    | .inl x3 =>
      some x3
    | .inr r => some r

def Q.szAtom (a1 : (Int × (List Int))) (a2 : Int) : Option Int :=
  (Q.szIntS a1.2 a2).bind fun x1 =>
  if (decide (x1 < 0)) then
    some (-1)
  else
    some x1

def Q.szAtomS_l1 (a1 : (List (Int × (List Int)))) : Nat → Int → Int → Option (Sum Int Int)
  | 0, _, _ => none
  | k + 1, x1, x2 =>
    if (decide (x2 < (List.length a1 : Int))) then
      (idx a1 x2).bind fun x4 =>
      (Q.szAtom x4 x1).bind fun x5 =>
      if (decide (x5 < 0)) then
        some (.inr (-1))
      else
        Q.szAtomS_l1 a1 k x5 (w64 (x2 + 1))
    else
      some (.inl x1)

def Q.szAtomS (a1 : (List (Int × (List Int)))) (a2 : Int) : Option Int :=
  if (decide ((w64 (a2 - (List.length a1 : Int))) < 0)) then
    some (-1)
  else
    (Q.szAtomS_l1 a1 FUEL (w64 (a2 - (List.length a1 : Int))) 0).bind fun o => match o with
      | .inl x3 =>
        some x3
      | .inr r => some r

def Q.szQuery (a1 : ((List Int) × (List (Int × (List Int))))) (a2 : Int) : Option Int :=
  (Q.szIntS a1.1 a2).bind fun x1 =>
  if (decide (x1 < 0)) then
    some (-1)
  else
    (Q.szAtomS a1.2 x1).bind fun x2 =>
    if (decide (x2 < 0)) then
      some (-1)
    else
      some x2

def S.l30Swap (a1 : Int) (a2 : Int) (a3 : Int) : Option Int :=
  if (decide (a1 = a2)) then
    some a3
  else
    if (decide (a1 = a3)) then
      some a2
    else
      some a1

def M.isValue (a1 : Int) : Option Bool :=
  (M.within a1 0 9).bind fun x1 =>
  some x1

def Q.eqAtom (a1 : (Int × (List Int))) (a2 : (Int × (List Int))) : Option Bool :=
  if (!decide (a1.1 = a2.1)) then
    some false
  else
    (Q.eqIntS a1.2 a2.2).bind fun x1 =>
    if (!x1) then
      some false
    else
      some true

def Q.eqAtomS_l1 (a1 : (List (Int × (List Int)))) (a2 : (List (Int × (List Int)))) : Nat → Int → Option (Sum Unit Bool)
  | 0, _ => none
  | k + 1, x1 =>
    if (decide (x1 < (List.length a1 : Int))) then
      (idx a1 x1).bind fun x2 =>
      (idx a2 x1).bind fun x3 =>
      (Q.eqAtom x2 x3).bind fun x4 =>
      if (!x4) then
        some (.inr false)
      else
        Q.eqAtomS_l1 a1 a2 k (w64 (x1 + 1))
    else
      some (.inl ())

def Q.eqAtomS (a1 : (List (Int × (List Int)))) (a2 : (List (Int × (List Int)))) : Option Bool :=
  if (!decide ((List.length a1 : Int) = (List.length a2 : Int))) then
    some false
  else
    (Q.eqAtomS_l1 a1 a2 FUEL 0).bind fun o => match o with
      | .inl () =>
        some true
      | .inr r => some r

def Q.eqQuery (a1 : ((List Int) × (List (Int × (List Int))))) (a2 : ((List Int) × (List (Int × (List Int))))) : Option Bool :=
  (Q.eqIntS a1.1 a2.1).bind fun x1 =>
  if (!x1) then
    some false
  else
    (Q.eqAtomS a1.2 a2.2).bind fun x2 =>
    if (!x2) then
      some false
    else
      some true

def Q.heldAtomS_l1 (a1 : (List (Int × (List Int)))) : Nat → Int → Int → Option (Sum Int Int)
  | 0, _, _ => none
  | k + 1, x1, x2 =>
    if (decide (x2 < (List.length a1 : Int))) then
      (idx a1 x2).bind fun x4 =>
      if (!decide (x4.1 = x1)) then
        some (.inr (-1))
      else
        (idx a1 x2).bind fun x5 =>
        (Q.heldIntS x5.2 (w64 (x1 + 1))).bind fun x6 =>
        if (decide (x6 < 0)) then
          some (.inr (-1))
        else
          Q.heldAtomS_l1 a1 k x6 (w64 (x2 + 1))
    else
      some (.inl x1)

def Q.heldAtomS (a1 : (List (Int × (List Int)))) (a2 : Int) : Option Int :=
  (Q.heldAtomS_l1 a1 FUEL a2 0).bind fun o => match o with
    | .inl x3 =>
      some x3
    | .inr r => some r

def Q.heldQuery (a1 : ((List Int) × (List (Int × (List Int))))) (a2 : Int) : Option Int :=
  (Q.heldIntS a1.1 a2).bind fun x1 =>
  if (decide (x1 < 0)) then
    some (-1)
  else
    (Q.heldAtomS a1.2 x1).bind fun x2 =>
    if (decide (x2 < 0)) then
      some (-1)
    else
      some x2

end Go.Gx.Px
