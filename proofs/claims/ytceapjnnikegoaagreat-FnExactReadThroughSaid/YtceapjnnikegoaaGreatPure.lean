/- The Go functions as pure Lean functions, printed by program. Conditions: none. -/
import Derived.Test.YtceapjnnikegoaaGreatGxEq
set_option linter.unusedVariables false
namespace Go.Gx.Px

def Q.szIntS (a1 : (List Int)) (a2 : Int) : Option Int :=
 if (decide ((w64 (a2 - (List.length a1 : Int))) < 0)) then
  some (-1)
 else
  some (w64 (a2 - (List.length a1 : Int)))

def Q.szMethod (a1 : (Int × (List Int) × Int × Int × Int)) (a2 : Int) : Option Int :=
 (Q.szIntS a1.2.1 a2).bind fun x1 =>
 if (decide (x1 < 0)) then
  some (-1)
 else
  some x1

def Q.szMethodS_l1 (a1 : (List (Int × (List Int) × Int × Int × Int))) : Nat → Int → Int → Option (Sum Int Int)
 | 0, _, _ => none
 | k + 1, x1, x2 =>
  if (decide (x2 < (List.length a1 : Int))) then
   (idx a1 x2).bind fun x4 =>
   (Q.szMethod x4 x1).bind fun x5 =>
   if (decide (x5 < 0)) then
    some (.inr (-1))
   else
    Q.szMethodS_l1 a1 k x5 (w64 (x2 + 1))
  else
   some (.inl x1)

def Q.szMethodS (a1 : (List (Int × (List Int) × Int × Int × Int))) (a2 : Int) : Option Int :=
 if (decide ((w64 (a2 - (List.length a1 : Int))) < 0)) then
  some (-1)
 else
  (Q.szMethodS_l1 a1 FUEL (w64 (a2 - (List.length a1 : Int))) (0 : Int)).bind fun o => match o with
   | .inl x3 =>
    some x3
   | .inr r => some r

def Q.szFact (a1 : (Int × (List Int))) (a2 : Int) : Option Int :=
 (Q.szIntS a1.2 a2).bind fun x1 =>
 if (decide (x1 < 0)) then
  some (-1)
 else
  some x1

def Q.szFactS_l1 (a1 : (List (Int × (List Int)))) : Nat → Int → Int → Option (Sum Int Int)
 | 0, _, _ => none
 | k + 1, x1, x2 =>
  if (decide (x2 < (List.length a1 : Int))) then
   (idx a1 x2).bind fun x4 =>
   (Q.szFact x4 x1).bind fun x5 =>
   if (decide (x5 < 0)) then
    some (.inr (-1))
   else
    Q.szFactS_l1 a1 k x5 (w64 (x2 + 1))
  else
   some (.inl x1)

def Q.szFactS (a1 : (List (Int × (List Int)))) (a2 : Int) : Option Int :=
 if (decide ((w64 (a2 - (List.length a1 : Int))) < 0)) then
  some (-1)
 else
  (Q.szFactS_l1 a1 FUEL (w64 (a2 - (List.length a1 : Int))) (0 : Int)).bind fun o => match o with
   | .inl x3 =>
    some x3
   | .inr r => some r

def Q.szSource (a1 : ((List (Int × (List Int))) × Int)) (a2 : Int) : Option Int :=
 (Q.szFactS a1.1 a2).bind fun x1 =>
 if (decide (x1 < 0)) then
  some (-1)
 else
  some x1

def Q.szAccess (a1 : (Int × (List Int))) (a2 : Int) : Option Int :=
 (Q.szIntS a1.2 a2).bind fun x1 =>
 if (decide (x1 < 0)) then
  some (-1)
 else
  some x1

def Q.szChange (a1 : (Bool × (Int × (List Int)))) (a2 : Int) : Option Int :=
 (Q.szFact (a1.2.1, a1.2.2) a2).bind fun x1 =>
 if (decide (x1 < 0)) then
  some (-1)
 else
  some x1

def Q.szChangeS_l1 (a1 : (List (Bool × (Int × (List Int))))) : Nat → Int → Int → Option (Sum Int Int)
 | 0, _, _ => none
 | k + 1, x1, x2 =>
  if (decide (x2 < (List.length a1 : Int))) then
   (idx a1 x2).bind fun x4 =>
   (Q.szChange x4 x1).bind fun x5 =>
   if (decide (x5 < 0)) then
    some (.inr (-1))
   else
    Q.szChangeS_l1 a1 k x5 (w64 (x2 + 1))
  else
   some (.inl x1)

def Q.szChangeS (a1 : (List (Bool × (Int × (List Int))))) (a2 : Int) : Option Int :=
 if (decide ((w64 (a2 - (List.length a1 : Int))) < 0)) then
  some (-1)
 else
  (Q.szChangeS_l1 a1 FUEL (w64 (a2 - (List.length a1 : Int))) (0 : Int)).bind fun o => match o with
   | .inl x3 =>
    some x3
   | .inr r => some r

def S.l2One (a1 : Int) (a2 : (List Int)) : Option (Int × (List Int)) :=
 (app ([] : List Int) a2).bind fun x1 =>
 some (a1, x1)

def S.l2Copy_l1 (a1 : (List (Int × (List Int)))) : Nat → (List (Int × (List Int))) → Int → Option ((List (Int × (List Int))))
 | 0, _, _ => none
 | k + 1, x1, x2 =>
  if (decide (x2 < (List.length a1 : Int))) then
   (idx a1 x2).bind fun x4 =>
   (idx a1 x2).bind fun x5 =>
   (S.l2One x4.1 x5.2).bind fun x6 =>
   (app x1 ([(x6.1, x6.2)])).bind fun x7 =>
   S.l2Copy_l1 a1 k x7 (w64 (x2 + 1))
  else
   some x1

def S.l2Copy (a1 : (List (Int × (List Int)))) : Option (List (Int × (List Int))) :=
 (S.l2Copy_l1 a1 FUEL ([] : List (Int × (List Int))) (0 : Int)).bind fun x3 =>
 some x3

def S.l25Copy (a1 : ((List (Int × (List Int))) × Int)) : Option ((List (Int × (List Int))) × Int) :=
 (S.l2Copy a1.1).bind fun x1 =>
 some (x1, a1.2)

def S.l1In (a1 : Int) (a2 : Int) (a3 : Int) : Option Bool :=
 (if (decide (a2 ≤ a1)) then
  some (decide (a1 ≤ a3))
 else
  some false).bind fun x1 =>
 some x1

def S.IsSchema_l1 (a1 : (List Int)) : Nat → Int → Option (Sum Unit Bool)
 | 0, _ => none
 | k + 1, x1 =>
  if (decide (x1 < (List.length a1 : Int))) then
   (idx a1 x1).bind fun x2 =>
   (S.l1In x2 1 3).bind fun x3 =>
   if (!x3) then
    some (.inr false)
   else
    S.IsSchema_l1 a1 k (w64 (x1 + 1))
  else
   some (.inl ())

def S.IsSchema (a1 : (List Int)) : Option Bool :=
 (S.IsSchema_l1 a1 FUEL (0 : Int)).bind fun o => match o with
  | .inl () =>
   (S.l1In (List.length a1 : Int) 1 3).bind fun x4 =>
   some x4
  | .inr r => some r

def S.IsFact_l1 (a2 : (Int × (List Int))) : Nat → Int → Option (Sum Unit Bool)
 | 0, _ => none
 | k + 1, x5 =>
  if (decide (x5 < (List.length a2.2 : Int))) then
   (idx a2.2 x5).bind fun x6 =>
   (S.l1In x6 0 9).bind fun x7 =>
   if (!x7) then
    some (.inr false)
   else
    S.IsFact_l1 a2 k (w64 (x5 + 1))
  else
   some (.inl ())

def S.IsFact (a1 : (List Int)) (a2 : (Int × (List Int))) : Option Bool :=
 ((S.IsSchema a1).bind fun x2 =>
 if (!x2) then
  some true
 else
  (S.l1In a2.1 0 (w64 ((List.length a1 : Int) - 1))).bind fun x3 =>
  if (!x3) then
   some true
  else
   (idx a1 a2.1).bind fun x4 =>
   some (!decide ((List.length a2.2 : Int) = x4))).bind fun x1 =>
 if x1 then
  some false
 else
  (S.IsFact_l1 a2 FUEL (0 : Int)).bind fun o => match o with
   | .inl () =>
    some true
   | .inr r => some r

def S.CompareFacts_l1 (a1 : (Int × (List Int))) (a2 : (Int × (List Int))) : Nat → Int → Option (Sum Unit Int)
 | 0, _ => none
 | k + 1, x1 =>
  (if (decide (x1 < (List.length a1.2 : Int))) then
   some (decide (x1 < (List.length a2.2 : Int)))
  else
   some false).bind fun x2 =>
  if x2 then
   (idx a1.2 x1).bind fun x3 =>
   (idx a2.2 x1).bind fun x4 =>
   if (decide (x3 < x4)) then
    some (.inr (-1))
   else
    (idx a1.2 x1).bind fun x5 =>
    (idx a2.2 x1).bind fun x6 =>
    if (decide (x6 < x5)) then
     some (.inr 1)
    else
     S.CompareFacts_l1 a1 a2 k (w64 (x1 + 1))
  else
   some (.inl ())

def S.CompareFacts (a1 : (Int × (List Int))) (a2 : (Int × (List Int))) : Option Int :=
 if (!decide (a1.1 = a2.1)) then
  if (decide (a1.1 < a2.1)) then
   some (-1)
  else
   some 1
 else
  (S.CompareFacts_l1 a1 a2 FUEL (0 : Int)).bind fun o => match o with
   | .inl () =>
    if (decide ((List.length a1.2 : Int) < (List.length a2.2 : Int))) then
     some (-1)
    else
     if (decide ((List.length a2.2 : Int) < (List.length a1.2 : Int))) then
      some 1
     else
      some 0
   | .inr r => some r

def S.AreFacts_l1 (a2 : (List (Int × (List Int)))) (a1 : (List Int)) : Nat → Int → Option (Sum Unit Bool)
 | 0, _ => none
 | k + 1, x1 =>
  if (decide (x1 < (List.length a2 : Int))) then
   ((idx a2 x1).bind fun x3 =>
   (S.IsFact a1 x3).bind fun x4 =>
   if (!x4) then
    some true
   else
    if (decide (0 < x1)) then
     (idx a2 (w64 (x1 - 1))).bind fun x5 =>
     (idx a2 x1).bind fun x6 =>
     (S.CompareFacts x5 x6).bind fun x7 =>
     some (decide (0 ≤ x7))
    else
     some false).bind fun x2 =>
   if x2 then
    some (.inr false)
   else
    S.AreFacts_l1 a2 a1 k (w64 (x1 + 1))
  else
   some (.inl ())

def S.AreFacts (a1 : (List Int)) (a2 : (List (Int × (List Int)))) : Option Bool :=
 (S.AreFacts_l1 a2 a1 FUEL (0 : Int)).bind fun o => match o with
  | .inl () =>
   ((S.IsSchema a1).bind fun x9 =>
   if x9 then
    some (decide ((List.length a2 : Int) ≤ 24))
   else
    some false).bind fun x8 =>
   some x8
  | .inr r => some r

def S.IsSource (a1 : (List Int)) (a2 : ((List (Int × (List Int))) × Int)) : Option Bool :=
 ((S.AreFacts a1 a2.1).bind fun x2 =>
 if x2 then
  (S.l1In a2.2 0 1000).bind fun x3 =>
  some x3
 else
  some false).bind fun x1 =>
 some x1

def S.IsMethod_l1 (a2 : (Int × (List Int) × Int × Int × Int)) (a1 : (List Int)) : Nat → Int → Option (Sum Unit Bool)
 | 0, _ => none
 | k + 1, x7 =>
  if (decide (x7 < (List.length a2.2.1 : Int))) then
   ((idx a2.2.1 x7).bind fun x9 =>
   (idx a1 a2.1).bind fun x10 =>
   (S.l1In x9 0 (w64 (x10 - 1))).bind fun x11 =>
   if (!x11) then
    some true
   else
    if (decide (0 < x7)) then
     (idx a2.2.1 x7).bind fun x12 =>
     (idx a2.2.1 (w64 (x7 - 1))).bind fun x13 =>
     some (decide (x12 ≤ x13))
    else
     some false).bind fun x8 =>
   if x8 then
    some (.inr false)
   else
    S.IsMethod_l1 a2 a1 k (w64 (x7 + 1))
  else
   some (.inl ())

def S.IsMethod (a1 : (List Int)) (a2 : (Int × (List Int) × Int × Int × Int)) : Option Bool :=
 ((S.IsSchema a1).bind fun x2 =>
 if (!x2) then
  some true
 else
  (S.l1In a2.1 0 (w64 ((List.length a1 : Int) - 1))).bind fun x3 =>
  if (!x3) then
   some true
  else
   (S.l1In a2.2.2.1 0 9).bind fun x4 =>
   if (!x4) then
    some true
   else
    (S.l1In a2.2.2.2.1 0 99).bind fun x5 =>
    if (!x5) then
     some true
    else
     (S.l1In a2.2.2.2.2 1 99).bind fun x6 =>
     some (!x6)).bind fun x1 =>
 if x1 then
  some false
 else
  (S.IsMethod_l1 a2 a1 FUEL (0 : Int)).bind fun o => match o with
   | .inl () =>
    some true
   | .inr r => some r

def S.AreMethods_l1 (a2 : (List (Int × (List Int) × Int × Int × Int))) (a1 : (List Int)) : Nat → Int → Option (Sum Unit Bool)
 | 0, _ => none
 | k + 1, x1 =>
  if (decide (x1 < (List.length a2 : Int))) then
   (idx a2 x1).bind fun x2 =>
   (S.IsMethod a1 x2).bind fun x3 =>
   if (!x3) then
    some (.inr false)
   else
    S.AreMethods_l1 a2 a1 k (w64 (x1 + 1))
  else
   some (.inl ())

def S.AreMethods (a1 : (List Int)) (a2 : (List (Int × (List Int) × Int × Int × Int))) : Option Bool :=
 (S.AreMethods_l1 a2 a1 FUEL (0 : Int)).bind fun o => match o with
  | .inl () =>
   ((S.IsSchema a1).bind fun x5 =>
   if x5 then
    some (decide ((List.length a2 : Int) ≤ 5))
   else
    some false).bind fun x4 =>
   some x4
  | .inr r => some r

def S.IsAccess_l1 (a3 : (Int × (List Int))) : Nat → Int → Option (Sum Unit Bool)
 | 0, _ => none
 | k + 1, x5 =>
  if (decide (x5 < (List.length a3.2 : Int))) then
   (idx a3.2 x5).bind fun x6 =>
   (S.l1In x6 0 9).bind fun x7 =>
   if (!x7) then
    some (.inr false)
   else
    S.IsAccess_l1 a3 k (w64 (x5 + 1))
  else
   some (.inl ())

def S.IsAccess (a1 : (List Int)) (a2 : (List (Int × (List Int) × Int × Int × Int))) (a3 : (Int × (List Int))) : Option Bool :=
 ((S.AreMethods a1 a2).bind fun x2 =>
 if (!x2) then
  some true
 else
  (S.l1In a3.1 0 (w64 ((List.length a2 : Int) - 1))).bind fun x3 =>
  if (!x3) then
   some true
  else
   (idx a2 a3.1).bind fun x4 =>
   some (!decide ((List.length a3.2 : Int) = (List.length x4.2.1 : Int)))).bind fun x1 =>
 if x1 then
  some false
 else
  (S.IsAccess_l1 a3 FUEL (0 : Int)).bind fun o => match o with
   | .inl () =>
    some true
   | .inr r => some r

def S.l8Access (a1 : Int) (a2 : (List Int)) : Option (Int × (List Int)) :=
 (app ([] : List Int) a2).bind fun x1 =>
 some (a1, x1)

def S.OpenCursor (a1 : (List Int)) (a2 : (List (Int × (List Int) × Int × Int × Int))) (a3 : ((List (Int × (List Int))) × Int)) (a4 : (Int × (List Int))) : Option (((Int × (List Int)) × Int × Int) × Bool) :=
 ((S.IsSource a1 (a3.1, a3.2)).bind fun x2 =>
 if (!x2) then
  some true
 else
  (S.IsAccess a1 a2 (a4.1, a4.2)).bind fun x3 =>
  some (!x3)).bind fun x1 =>
 if x1 then
  some (((0, []), 0, 0), false)
 else
  (S.l8Access a4.1 a4.2).bind fun x4 =>
  some (((x4.1, x4.2), 0, a3.2), true)

def S.l25Cursor (a1 : ((Int × (List Int)) × Int × Int)) : Option ((Int × (List Int)) × Int × Int) :=
 (S.l8Access a1.1.1 a1.1.2).bind fun x1 =>
 some ((x1.1, x1.2), a1.2.1, a1.2.2)

def S.PageAt (a1 : (List (Int × (List Int)))) (a2 : Int) (a3 : Int) : Option ((List (Int × (List Int))) × Int × Bool) :=
 ((S.l1In a3 1 9).bind fun x2 =>
 if (!x2) then
  some true
 else
  (S.l1In a2 0 (List.length a1 : Int)).bind fun x3 =>
  some (!x3)).bind fun x1 =>
 if x1 then
  some (([] : List (Int × (List Int))), 0, false)
 else
  (sub a1 a2 (if (w64 (a2 + a3)) < (List.length a1 : Int) then w64 (a2 + a3) else (List.length a1 : Int))).bind fun x4 =>
  (S.l2Copy x4).bind fun x5 =>
  some (x5, if (w64 (a2 + a3)) < (List.length a1 : Int) then w64 (a2 + a3) else (List.length a1 : Int), true)

def S.l5Fits_l1 (a1 : (Int × (List Int) × Int × Int × Int)) (a2 : (List Int)) (a3 : (Int × (List Int))) : Nat → Int → Option (Sum Unit Bool)
 | 0, _ => none
 | k + 1, x1 =>
  if (decide (x1 < (List.length a1.2.1 : Int))) then
   (idx a2 x1).bind fun x2 =>
   (idx a1.2.1 x1).bind fun x3 =>
   (idx a3.2 x3).bind fun x4 =>
   if (!decide (x4 = x2)) then
    some (.inr false)
   else
    S.l5Fits_l1 a1 a2 a3 k (w64 (x1 + 1))
  else
   some (.inl ())

def S.l5Fits (a1 : (Int × (List Int) × Int × Int × Int)) (a2 : (List Int)) (a3 : (Int × (List Int))) : Option Bool :=
 if (!decide (a3.1 = a1.1)) then
  some false
 else
  (S.l5Fits_l1 a1 a2 a3 FUEL (0 : Int)).bind fun o => match o with
   | .inl () =>
    some true
   | .inr r => some r

def S.l5Matches_l1 (a3 : (List (Int × (List Int)))) (a1 : (Int × (List Int) × Int × Int × Int)) (a2 : (List Int)) : Nat → (List (Int × (List Int))) → Int → Option ((List (Int × (List Int))))
 | 0, _, _ => none
 | k + 1, x1, x2 =>
  if (decide (x2 < (List.length a3 : Int))) then
   (idx a3 x2).bind fun x4 =>
   (S.l5Fits (a1.1, a1.2.1, a1.2.2.1, a1.2.2.2.1, a1.2.2.2.2) a2 x4).bind fun x5 =>
   (if x5 then
    (idx a3 x2).bind fun x7 =>
    (idx a3 x2).bind fun x8 =>
    (S.l2One x7.1 x8.2).bind fun x9 =>
    (app x1 ([(x9.1, x9.2)])).bind fun x10 =>
    some x10
   else
    some x1).bind fun x6 =>
   S.l5Matches_l1 a3 a1 a2 k x6 (w64 (x2 + 1))
  else
   some x1

def S.l5Matches (a1 : (Int × (List Int) × Int × Int × Int)) (a2 : (List Int)) (a3 : (List (Int × (List Int)))) : Option (List (Int × (List Int))) :=
 (S.l5Matches_l1 a3 a1 a2 FUEL ([] : List (Int × (List Int))) (0 : Int)).bind fun x3 =>
 some x3

def S.NextPage (a1 : (List Int)) (a2 : (List (Int × (List Int) × Int × Int × Int))) (a3 : ((List (Int × (List Int))) × Int)) (a4 : ((Int × (List Int)) × Int × Int)) (a5 : Int) : Option ((List (Int × (List Int))) × ((Int × (List Int)) × Int × Int) × Int) :=
 (S.l25Cursor ((a4.1.1, a4.1.2), a4.2.1, a4.2.2)).bind fun x1 =>
 ((S.IsSource a1 (a3.1, a3.2)).bind fun x3 =>
 if (!x3) then
  some true
 else
  (S.IsAccess a1 a2 (a4.1.1, a4.1.2)).bind fun x4 =>
  if (!x4) then
   some true
  else
   (S.l1In a5 1 9).bind fun x5 =>
   if (!x5) then
    some true
   else
    (S.l1In a4.2.1 0 1000).bind fun x6 =>
    some (!x6)).bind fun x2 =>
 if x2 then
  some (([] : List (Int × (List Int))), ((x1.1.1, x1.1.2), x1.2.1, x1.2.2), 3)
 else
  if (!decide (a4.2.2 = a3.2)) then
   some (([] : List (Int × (List Int))), ((x1.1.1, x1.1.2), x1.2.1, x1.2.2), 2)
  else
   (idx a2 a4.1.1).bind fun x7 =>
   (S.l5Matches x7 a4.1.2 a3.1).bind fun x8 =>
   (S.PageAt x8 a4.2.1 a5).bind fun x9 =>
   if (!x9.2.2) then
    some (([] : List (Int × (List Int))), ((x1.1.1, x1.1.2), x1.2.1, x1.2.2), 3)
   else
    (idx a2 a4.1.1).bind fun x10 =>
    (S.l5Matches x10 a4.1.2 a3.1).bind fun x11 =>
    if (decide (x9.2.1 = (List.length x11 : Int))) then
     some (x9.1, ((x1.1.1, x1.1.2), x9.2.1, x1.2.2), 1)
    else
     some (x9.1, ((x1.1.1, x1.1.2), x9.2.1, x1.2.2), 0)

def S.HasFact_l1 (a1 : (List (Int × (List Int)))) (a2 : (Int × (List Int))) : Nat → Int → Option (Sum Unit Bool)
 | 0, _ => none
 | k + 1, x1 =>
  if (decide (x1 < (List.length a1 : Int))) then
   (idx a1 x1).bind fun x2 =>
   (S.CompareFacts x2 (a2.1, a2.2)).bind fun x3 =>
   if (decide (x3 = 0)) then
    some (.inr true)
   else
    S.HasFact_l1 a1 a2 k (w64 (x1 + 1))
  else
   some (.inl ())

def S.HasFact (a1 : (List (Int × (List Int)))) (a2 : (Int × (List Int))) : Option Bool :=
 (S.HasFact_l1 a1 a2 FUEL (0 : Int)).bind fun o => match o with
  | .inl () =>
   some false
  | .inr r => some r

def S.AddFact_l1 (a1 : (List (Int × (List Int)))) (a2 : (Int × (List Int))) : Nat → (List (Int × (List Int))) → Bool → Int → Option (((List (Int × (List Int))) × Bool))
 | 0, _, _, _ => none
 | k + 1, x2, x3, x4 =>
  if (decide (x4 < (List.length a1 : Int))) then
   (if (!x3) then
    (idx a1 x4).bind fun x8 =>
    (S.CompareFacts (a2.1, a2.2) x8).bind fun x9 =>
    some (decide (x9 < 0))
   else
    some false).bind fun x7 =>
   (if x7 then
    (S.l2One a2.1 a2.2).bind fun x12 =>
    (app x2 ([(x12.1, x12.2)])).bind fun x13 =>
    some (x13, true)
   else
    some (x2, x3)).bind fun (x10, x11) =>
   (idx a1 x4).bind fun x14 =>
   (idx a1 x4).bind fun x15 =>
   (S.l2One x14.1 x15.2).bind fun x16 =>
   (app x10 ([(x16.1, x16.2)])).bind fun x17 =>
   S.AddFact_l1 a1 a2 k x17 x11 (w64 (x4 + 1))
  else
   some (x2, x3)

def S.AddFact (a1 : (List (Int × (List Int)))) (a2 : (Int × (List Int))) : Option (List (Int × (List Int))) :=
 (S.HasFact a1 (a2.1, a2.2)).bind fun x1 =>
 (S.AddFact_l1 a1 a2 FUEL ([] : List (Int × (List Int))) x1 (0 : Int)).bind fun (x5, x6) =>
 (if (!x6) then
  (S.l2One a2.1 a2.2).bind fun x19 =>
  (app x5 ([(x19.1, x19.2)])).bind fun x20 =>
  some x20
 else
  some x5).bind fun x18 =>
 some x18

def S.ApplyChange_l1 (a2 : ((List (Int × (List Int))) × Int)) (a3 : (Bool × (Int × (List Int)))) : Nat → (List (Int × (List Int))) → Int → Int → Option (((List (Int × (List Int))) × Int))
 | 0, _, _, _ => none
 | k + 1, x7, x8, x9 =>
  if (decide (x9 < (List.length a2.1 : Int))) then
   (idx a2.1 x9).bind fun x12 =>
   (S.CompareFacts x12 (a3.2.1, a3.2.2)).bind fun x13 =>
   (if (!decide (x13 = 0)) then
    (idx a2.1 x9).bind fun x16 =>
    (idx a2.1 x9).bind fun x17 =>
    (S.l2One x16.1 x17.2).bind fun x18 =>
    (app x7 ([(x18.1, x18.2)])).bind fun x19 =>
    some (x19, x8)
   else
    some (x7, x8)).bind fun (x14, x15) =>
   S.ApplyChange_l1 a2 a3 k x14 x15 (w64 (x9 + 1))
  else
   some (x7, x8)

def S.ApplyChange (a1 : (List Int)) (a2 : ((List (Int × (List Int))) × Int)) (a3 : (Bool × (Int × (List Int)))) : Option (((List (Int × (List Int))) × Int) × Bool) :=
 (S.l25Copy (a2.1, a2.2)).bind fun x1 =>
 ((S.IsSource a1 (a2.1, a2.2)).bind fun x3 =>
 if (!x3) then
  some true
 else
  (S.IsFact a1 (a3.2.1, a3.2.2)).bind fun x4 =>
  if (!x4) then
   some true
  else
   if (decide (1000 ≤ a2.2)) then
    some true
   else
    (S.HasFact a2.1 (a3.2.1, a3.2.2)).bind fun x5 =>
    if (decide (x5 = a3.1)) then
     some true
    else
     if a3.1 then
      some (decide (24 ≤ (List.length a2.1 : Int)))
     else
      some false).bind fun x2 =>
 if x2 then
  some ((x1.1, x1.2), false)
 else
  if a3.1 then
   (S.AddFact a2.1 (a3.2.1, a3.2.2)).bind fun x6 =>
   some ((x6, w64 (a2.2 + 1)), true)
  else
   (S.ApplyChange_l1 a2 a3 FUEL ([] : List (Int × (List Int))) (w64 (a2.2 + 1)) (0 : Int)).bind fun (x10, x11) =>
   some ((x10, x11), true)

def S.ReadThrough_l1 (a1 : (List Int)) (a2 : (List (Int × (List Int) × Int × Int × Int))) (a5 : Int) (a7 : Int) (a4 : (Int × (List Int))) (a6 : (List (Bool × (Int × (List Int))))) : Nat → Int → (List Int) → Int → Int → (List (Int × (List Int))) → Int → (List (Int × (List Int))) → Int → Int → Int → Bool → (List (Int × (List Int))) → Int → (List (Int × (List Int))) → Int → Int → Int → Bool → Int → Option (Sum (Int × (List Int) × Int × Int × (List (Int × (List Int))) × Int × (List (Int × (List Int))) × Int × Int × Int × Bool × (List (Int × (List Int))) × Int × (List (Int × (List Int))) × Int × Int × Int × Bool) (((List (Int × (List Int))) × Int × Int × Int × Bool) × ((List (Int × (List Int))) × Int)))
 | 0, _, _, _, _, _, _, _, _, _, _, _, _, _, _, _, _, _, _, _ => none
 | k + 1, x13, x14, x15, x16, x17, x18, x19, x20, x21, x22, x23, x24, x25, x26, x27, x28, x29, x30, x31 =>
  (S.NextPage a1 a2 (x17, x18) ((x13, x14), x15, x16) a5).bind fun x50 =>
  if (decide (x50.2.2 = 2)) then
   if (decide (x22 = a7)) then
    (some (x17, x18, ([] : List (Int × (List Int))), x20, w64 (x21 + 1), x22, x23)).bind fun (x51, x52, x53, x54, x55, x56, x57) =>
    some (.inr ((x53, x54, x55, x56, x57), (x51, x52)))
   else
    (S.OpenCursor a1 a2 (x17, x18) (a4.1, a4.2)).bind fun x58 =>
    S.ReadThrough_l1 a1 a2 a5 a7 a4 a6 k x58.1.1.1 x58.1.1.2 x58.1.2.1 x58.1.2.2 x17 x18 ([] : List (Int × (List Int))) x20 (w64 (x21 + 1)) (w64 (x22 + 1)) x23 x24 x25 x26 x27 x28 x29 x30 x31
  else
   (app x19 x50.1).bind fun x59 =>
   if (decide (x50.2.2 = 1)) then
    (some (x17, x18, x59, x18, w64 (x21 + 1), x22, true)).bind fun (x60, x61, x62, x63, x64, x65, x66) =>
    some (.inr ((x62, x63, x64, x65, x66), (x60, x61)))
   else
    (if (decide (x31 < (List.length a6 : Int))) then
     ((idx a6 x31).bind fun x72 =>
     (S.ApplyChange a1 (x17, x18) x72).bind fun x73 =>
     some (x73.1.1, x73.1.2)).bind fun (x70, x71) =>
     some (x70, x71, w64 (x31 + 1))
    else
     some (x17, x18, x31)).bind fun (x67, x68, x69) =>
    S.ReadThrough_l1 a1 a2 a5 a7 a4 a6 k x50.2.1.1.1 x50.2.1.1.2 x50.2.1.2.1 x50.2.1.2.2 x67 x68 x59 x20 (w64 (x21 + 1)) x22 x23 x24 x25 x26 x27 x28 x29 x30 x69

def S.ReadThrough (a1 : (List Int)) (a2 : (List (Int × (List Int) × Int × Int × Int))) (a3 : ((List (Int × (List Int))) × Int)) (a4 : (Int × (List Int))) (a5 : Int) (a6 : (List (Bool × (Int × (List Int))))) (a7 : Int) : Option (((List (Int × (List Int))) × Int × Int × Int × Bool) × ((List (Int × (List Int))) × Int)) :=
 (S.l25Copy (a3.1, a3.2)).bind fun x1 =>
 (S.OpenCursor a1 a2 (a3.1, a3.2) (a4.1, a4.2)).bind fun x2 =>
 (if (!x2.2) then
  some true
 else
  (S.l1In a5 1 9).bind fun x4 =>
  if (!x4) then
   some true
  else
   (S.l1In a7 0 20).bind fun x5 =>
   some (!x5)).bind fun x3 =>
 if x3 then
  (some (x1.1, x1.2, [], (0 : Int), (0 : Int), (0 : Int), false)).bind fun (x6, x7, x8, x9, x10, x11, x12) =>
  some ((x8, x9, x10, x11, x12), (x6, x7))
 else
  (S.ReadThrough_l1 a1 a2 a5 a7 a4 a6 FUEL x2.1.1.1 x2.1.1.2 x2.1.2.1 x2.1.2.2 x1.1 x1.2 ([]) (0 : Int) (0 : Int) (0 : Int) false ([]) (0 : Int) ([]) (0 : Int) (0 : Int) (0 : Int) false (0 : Int)).bind fun o => match o with
   | .inl _ => none
   | .inr r => some r

def Q.toIntS_l1 (a1 : (List Int)) : Nat → (List Int) → Int → Option ((List Int))
 | 0, _, _ => none
 | k + 1, x2, x3 =>
  if (decide (x3 < (List.length a1 : Int))) then
   (idx a1 x3).bind fun x5 =>
   (idx x2 x3).bind fun x6 =>
   Q.toIntS_l1 a1 k (List.set x2 (Int.toNat x3) x5) (w64 (x3 + 1))
  else
   some x2

def Q.toIntS (a1 : (List Int)) : Option (List Int) :=
 (mk (List.length a1 : Int) (0 : Int)).bind fun x1 =>
 (Q.toIntS_l1 a1 FUEL x1 (0 : Int)).bind fun x4 =>
 some x4

def Q.toMethod (a1 : (Int × (List Int) × Int × Int × Int)) : Option (Int × (List Int) × Int × Int × Int) :=
 (Q.toIntS a1.2.1).bind fun x1 =>
 some (a1.1, x1, a1.2.2.1, a1.2.2.2.1, a1.2.2.2.2)

def Q.toMethodS_l1 (a1 : (List (Int × (List Int) × Int × Int × Int))) : Nat → (List (Int × (List Int) × Int × Int × Int)) → Int → Option ((List (Int × (List Int) × Int × Int × Int)))
 | 0, _, _ => none
 | k + 1, x2, x3 =>
  if (decide (x3 < (List.length a1 : Int))) then
   (idx a1 x3).bind fun x5 =>
   (Q.toMethod x5).bind fun x6 =>
   (idx x2 x3).bind fun x7 =>
   Q.toMethodS_l1 a1 k (List.set x2 (Int.toNat x3) (x6.1, x6.2.1, x6.2.2.1, x6.2.2.2.1, x6.2.2.2.2)) (w64 (x3 + 1))
  else
   some x2

def Q.toMethodS (a1 : (List (Int × (List Int) × Int × Int × Int))) : Option (List (Int × (List Int) × Int × Int × Int)) :=
 (mk (List.length a1 : Int) (0, [], 0, 0, 0)).bind fun x1 =>
 (Q.toMethodS_l1 a1 FUEL x1 (0 : Int)).bind fun x4 =>
 some x4

def Q.toFact (a1 : (Int × (List Int))) : Option (Int × (List Int)) :=
 (Q.toIntS a1.2).bind fun x1 =>
 some (a1.1, x1)

def Q.toFactS_l1 (a1 : (List (Int × (List Int)))) : Nat → (List (Int × (List Int))) → Int → Option ((List (Int × (List Int))))
 | 0, _, _ => none
 | k + 1, x2, x3 =>
  if (decide (x3 < (List.length a1 : Int))) then
   (idx a1 x3).bind fun x5 =>
   (Q.toFact x5).bind fun x6 =>
   (idx x2 x3).bind fun x7 =>
   Q.toFactS_l1 a1 k (List.set x2 (Int.toNat x3) (x6.1, x6.2)) (w64 (x3 + 1))
  else
   some x2

def Q.toFactS (a1 : (List (Int × (List Int)))) : Option (List (Int × (List Int))) :=
 (mk (List.length a1 : Int) (0, [])).bind fun x1 =>
 (Q.toFactS_l1 a1 FUEL x1 (0 : Int)).bind fun x4 =>
 some x4

def Q.toSource (a1 : ((List (Int × (List Int))) × Int)) : Option ((List (Int × (List Int))) × Int) :=
 (Q.toFactS a1.1).bind fun x1 =>
 some (x1, a1.2)

def Q.toAccess (a1 : (Int × (List Int))) : Option (Int × (List Int)) :=
 (Q.toIntS a1.2).bind fun x1 =>
 some (a1.1, x1)

def Q.toChange (a1 : (Bool × (Int × (List Int)))) : Option (Bool × (Int × (List Int))) :=
 (Q.toFact (a1.2.1, a1.2.2)).bind fun x1 =>
 some (a1.1, (x1.1, x1.2))

def Q.toChangeS_l1 (a1 : (List (Bool × (Int × (List Int))))) : Nat → (List (Bool × (Int × (List Int)))) → Int → Option ((List (Bool × (Int × (List Int)))))
 | 0, _, _ => none
 | k + 1, x2, x3 =>
  if (decide (x3 < (List.length a1 : Int))) then
   (idx a1 x3).bind fun x5 =>
   (Q.toChange x5).bind fun x6 =>
   (idx x2 x3).bind fun x7 =>
   Q.toChangeS_l1 a1 k (List.set x2 (Int.toNat x3) (x6.1, (x6.2.1, x6.2.2))) (w64 (x3 + 1))
  else
   some x2

def Q.toChangeS (a1 : (List (Bool × (Int × (List Int))))) : Option (List (Bool × (Int × (List Int)))) :=
 (mk (List.length a1 : Int) (false, (0, []))).bind fun x1 =>
 (Q.toChangeS_l1 a1 FUEL x1 (0 : Int)).bind fun x4 =>
 some x4

def Slices.Clone_Lint_int (a1 : (List Int)) : Option (List Int) :=
 (app ([] : List Int) a1).bind fun x1 =>
 some x1

def M.copyFact (a1 : (Int × (List Int))) : Option (Int × (List Int)) :=
 (Slices.Clone_Lint_int a1.2).bind fun x1 =>
 some (a1.1, x1)

def M.copyFacts_l1 (a1 : (List (Int × (List Int)))) : Nat → (List (Int × (List Int))) → Int → Option ((List (Int × (List Int))))
 | 0, _, _ => none
 | k + 1, x1, x2 =>
  if (decide (x2 < (List.length a1 : Int))) then
   (idx a1 x2).bind fun x4 =>
   (M.copyFact (x4.1, x4.2)).bind fun x5 =>
   (app x1 ([(x5.1, x5.2)])).bind fun x6 =>
   M.copyFacts_l1 a1 k x6 (w64 (x2 + 1))
  else
   some x1

def M.copyFacts (a1 : (List (Int × (List Int)))) : Option (List (Int × (List Int))) :=
 (M.copyFacts_l1 a1 FUEL ([] : List (Int × (List Int))) (0 : Int)).bind fun x3 =>
 some x3

def M.copySource (a1 : ((List (Int × (List Int))) × Int)) : Option ((List (Int × (List Int))) × Int) :=
 (M.copyFacts a1.1).bind fun x1 =>
 some (x1, a1.2)

def M.within (a1 : Int) (a2 : Int) (a3 : Int) : Option Bool :=
 (if (decide (a2 ≤ a1)) then
  some (decide (a1 ≤ a3))
 else
  some false).bind fun x1 =>
 some x1

def M.isValue (a1 : Int) : Option Bool :=
 (M.within a1 0 9).bind fun x1 =>
 some x1

def M.areValues_c1 (a1 : Int) : Option Bool :=
 (M.isValue a1).bind fun x1 =>
 some (!x1)

def Slices.IndexFunc_Lint_int_M_areValues_c1_l1 (a1 : (List Int)) : Nat → Int → Option (Sum Unit Int)
 | 0, _ => none
 | k + 1, x1 =>
  if (decide (x1 < (List.length a1 : Int))) then
   (idx a1 x1).bind fun x2 =>
   (M.areValues_c1 x2).bind fun x3 =>
   if x3 then
    some (.inr x1)
   else
    Slices.IndexFunc_Lint_int_M_areValues_c1_l1 a1 k (w64 (x1 + 1))
  else
   some (.inl ())

def Slices.IndexFunc_Lint_int_M_areValues_c1 (a1 : (List Int)) : Option Int :=
 (Slices.IndexFunc_Lint_int_M_areValues_c1_l1 a1 FUEL (0 : Int)).bind fun o => match o with
  | .inl () =>
   some (-1)
  | .inr r => some r

def Slices.ContainsFunc_Lint_int_M_areValues_c1 (a1 : (List Int)) : Option Bool :=
 (Slices.IndexFunc_Lint_int_M_areValues_c1 a1).bind fun x1 =>
 some (decide (0 ≤ x1))

def M.areValues (a1 : (List Int)) : Option Bool :=
 (Slices.ContainsFunc_Lint_int_M_areValues_c1 a1).bind fun x1 =>
 some (!x1)

def M.IsSchema_c1 (a1 : Int) : Option Bool :=
 (M.within a1 1 3).bind fun x1 =>
 some (!x1)

def Slices.IndexFunc_Lint_int_M_IsSchema_c1_l1 (a1 : (List Int)) : Nat → Int → Option (Sum Unit Int)
 | 0, _ => none
 | k + 1, x1 =>
  if (decide (x1 < (List.length a1 : Int))) then
   (idx a1 x1).bind fun x2 =>
   (M.IsSchema_c1 x2).bind fun x3 =>
   if x3 then
    some (.inr x1)
   else
    Slices.IndexFunc_Lint_int_M_IsSchema_c1_l1 a1 k (w64 (x1 + 1))
  else
   some (.inl ())

def Slices.IndexFunc_Lint_int_M_IsSchema_c1 (a1 : (List Int)) : Option Int :=
 (Slices.IndexFunc_Lint_int_M_IsSchema_c1_l1 a1 FUEL (0 : Int)).bind fun o => match o with
  | .inl () =>
   some (-1)
  | .inr r => some r

def Slices.ContainsFunc_Lint_int_M_IsSchema_c1 (a1 : (List Int)) : Option Bool :=
 (Slices.IndexFunc_Lint_int_M_IsSchema_c1 a1).bind fun x1 =>
 some (decide (0 ≤ x1))

def M.IsSchema (a1 : (List Int)) : Option Bool :=
 ((M.within (List.length a1 : Int) 1 3).bind fun x2 =>
 if x2 then
  (Slices.ContainsFunc_Lint_int_M_IsSchema_c1 a1).bind fun x3 =>
  some (!x3)
 else
  some false).bind fun x1 =>
 some x1

def M.hasRel (a1 : (List Int)) (a2 : Int) : Option Bool :=
 ((M.IsSchema a1).bind fun x2 =>
 if x2 then
  (M.within a2 0 (w64 ((List.length a1 : Int) - 1))).bind fun x3 =>
  some x3
 else
  some false).bind fun x1 =>
 some x1

def M.IsFact (a1 : (List Int)) (a2 : (Int × (List Int))) : Option Bool :=
 ((M.hasRel a1 a2.1).bind fun x2 =>
 if x2 then
  (idx a1 a2.1).bind fun x3 =>
  if (decide ((List.length a2.2 : Int) = x3)) then
   (M.areValues a2.2).bind fun x4 =>
   some x4
  else
   some false
 else
  some false).bind fun x1 =>
 some x1

def Cmp.Or_int_l1 (a1 : (List Int)) : Nat → Int → Option (Sum Unit Int)
 | 0, _ => none
 | k + 1, x1 =>
  if (decide (x1 < (List.length a1 : Int))) then
   (idx a1 x1).bind fun x2 =>
   if (!decide (x2 = 0)) then
    some (.inr x2)
   else
    Cmp.Or_int_l1 a1 k (w64 (x1 + 1))
  else
   some (.inl ())

def Cmp.Or_int (a1 : (List Int)) : Option Int :=
 (Cmp.Or_int_l1 a1 FUEL (0 : Int)).bind fun o => match o with
  | .inl () =>
   some 0
  | .inr r => some r

def Cmp.isNaN_int (a1 : Int) : Option Bool :=
 some (!decide (a1 = a1))

def Cmp.Compare_int (a1 : Int) (a2 : Int) : Option Int :=
 (Cmp.isNaN_int a1).bind fun x1 =>
 (Cmp.isNaN_int a2).bind fun x2 =>
 if x1 then
  if x2 then
   some 0
  else
   some (-1)
 else
  if x2 then
   some 1
  else
   if (decide (a1 < a2)) then
    some (-1)
   else
    if (decide (a2 < a1)) then
     some 1
    else
     some 0

def Slices.Compare_Lint_int_l1 (a1 : (List Int)) (a2 : (List Int)) : Nat → Int → Option (Sum Unit Int)
 | 0, _ => none
 | k + 1, x1 =>
  if (decide (x1 < (List.length a1 : Int))) then
   (idx a1 x1).bind fun x2 =>
   if (decide ((List.length a2 : Int) ≤ x1)) then
    some (.inr 1)
   else
    (idx a2 x1).bind fun x3 =>
    (Cmp.Compare_int x2 x3).bind fun x4 =>
    if (!decide (x4 = 0)) then
     some (.inr x4)
    else
     Slices.Compare_Lint_int_l1 a1 a2 k (w64 (x1 + 1))
  else
   some (.inl ())

def Slices.Compare_Lint_int (a1 : (List Int)) (a2 : (List Int)) : Option Int :=
 (Slices.Compare_Lint_int_l1 a1 a2 FUEL (0 : Int)).bind fun o => match o with
  | .inl () =>
   if (decide ((List.length a1 : Int) < (List.length a2 : Int))) then
    some (-1)
   else
    some 0
  | .inr r => some r

def M.CompareFacts (a1 : (Int × (List Int))) (a2 : (Int × (List Int))) : Option Int :=
 (Cmp.Compare_int a1.1 a2.1).bind fun x1 =>
 (Slices.Compare_Lint_int a1.2 a2.2).bind fun x2 =>
 (Cmp.Or_int ([x1, x2])).bind fun x3 =>
 some x3

def M.AreFacts_l1 (a2 : (List (Int × (List Int)))) (a1 : (List Int)) : Nat → Int → Option (Sum Unit Bool)
 | 0, _ => none
 | k + 1, x1 =>
  if (decide (x1 < (List.length a2 : Int))) then
   (idx a2 x1).bind fun x2 =>
   ((M.IsFact a1 (x2.1, x2.2)).bind fun x4 =>
   if (!x4) then
    some true
   else
    if (decide (0 < x1)) then
     (idx a2 (w64 (x1 - 1))).bind fun x5 =>
     (M.CompareFacts x5 (x2.1, x2.2)).bind fun x6 =>
     some (decide (0 ≤ x6))
    else
     some false).bind fun x3 =>
   if x3 then
    some (.inr false)
   else
    M.AreFacts_l1 a2 a1 k (w64 (x1 + 1))
  else
   some (.inl ())

def M.AreFacts (a1 : (List Int)) (a2 : (List (Int × (List Int)))) : Option Bool :=
 (M.AreFacts_l1 a2 a1 FUEL (0 : Int)).bind fun o => match o with
  | .inl () =>
   ((M.IsSchema a1).bind fun x8 =>
   if x8 then
    some (decide ((List.length a2 : Int) ≤ 24))
   else
    some false).bind fun x7 =>
   some x7
  | .inr r => some r

def M.IsSource (a1 : (List Int)) (a2 : ((List (Int × (List Int))) × Int)) : Option Bool :=
 ((M.AreFacts a1 a2.1).bind fun x2 =>
 if x2 then
  (M.within a2.2 0 1000).bind fun x3 =>
  some x3
 else
  some false).bind fun x1 =>
 some x1

def M.ascending_l1 (a1 : (List Int)) : Nat → Int → Option (Sum Unit Bool)
 | 0, _ => none
 | k + 1, x1 =>
  if (decide (x1 < (List.length a1 : Int))) then
   (if (decide (0 < x1)) then
    (idx a1 x1).bind fun x3 =>
    (idx a1 (w64 (x1 - 1))).bind fun x4 =>
    some (decide (x3 ≤ x4))
   else
    some false).bind fun x2 =>
   if x2 then
    some (.inr false)
   else
    M.ascending_l1 a1 k (w64 (x1 + 1))
  else
   some (.inl ())

def M.ascending (a1 : (List Int)) : Option Bool :=
 (M.ascending_l1 a1 FUEL (0 : Int)).bind fun o => match o with
  | .inl () =>
   some true
  | .inr r => some r

def M.Method_fits_c1 (a1 : Int) (ax1 : Int) : Option Bool :=
 (M.within a1 0 (w64 (ax1 - 1))).bind fun x1 =>
 some (!x1)

def M.isCost (a1 : Int) : Option Bool :=
 (M.within a1 0 99).bind fun x1 =>
 some x1

def Slices.IndexFunc_Lint_int_M_Method_fits_c1_l1 (a1 : (List Int)) (ax1 : Int) : Nat → Int → Option (Sum Unit Int)
 | 0, _ => none
 | k + 1, x1 =>
  if (decide (x1 < (List.length a1 : Int))) then
   (idx a1 x1).bind fun x2 =>
   (M.Method_fits_c1 x2 ax1).bind fun x3 =>
   if x3 then
    some (.inr x1)
   else
    Slices.IndexFunc_Lint_int_M_Method_fits_c1_l1 a1 ax1 k (w64 (x1 + 1))
  else
   some (.inl ())

def Slices.IndexFunc_Lint_int_M_Method_fits_c1 (a1 : (List Int)) (ax1 : Int) : Option Int :=
 (Slices.IndexFunc_Lint_int_M_Method_fits_c1_l1 a1 ax1 FUEL (0 : Int)).bind fun o => match o with
  | .inl () =>
   some (-1)
  | .inr r => some r

def Slices.ContainsFunc_Lint_int_M_Method_fits_c1 (a1 : (List Int)) (ax1 : Int) : Option Bool :=
 (Slices.IndexFunc_Lint_int_M_Method_fits_c1 a1 ax1).bind fun x1 =>
 some (decide (0 ≤ x1))

def M.Method_fits (a1 : (Int × (List Int) × Int × Int × Int)) (a2 : Int) : Option Bool :=
 ((M.ascending a1.2.1).bind fun x2 =>
 if x2 then
  (Slices.ContainsFunc_Lint_int_M_Method_fits_c1 a1.2.1 a2).bind fun x3 =>
  if (!x3) then
   (M.within a1.2.2.1 0 9).bind fun x4 =>
   if x4 then
    (M.isCost a1.2.2.2.1).bind fun x5 =>
    if x5 then
     (M.within a1.2.2.2.2 1 99).bind fun x6 =>
     some x6
    else
     some false
   else
    some false
  else
   some false
 else
  some false).bind fun x1 =>
 some x1

def M.IsMethod (a1 : (List Int)) (a2 : (Int × (List Int) × Int × Int × Int)) : Option Bool :=
 ((M.hasRel a1 a2.1).bind fun x2 =>
 if x2 then
  (idx a1 a2.1).bind fun x3 =>
  (M.Method_fits (a2.1, a2.2.1, a2.2.2.1, a2.2.2.2.1, a2.2.2.2.2) x3).bind fun x4 =>
  some x4
 else
  some false).bind fun x1 =>
 some x1

def M.AreMethods_c1 (a1 : (Int × (List Int) × Int × Int × Int)) (ax1 : (List Int)) : Option Bool :=
 (M.IsMethod ax1 (a1.1, a1.2.1, a1.2.2.1, a1.2.2.2.1, a1.2.2.2.2)).bind fun x1 =>
 some (!x1)

def Slices.IndexFunc_Limpl_Method_impl_Method_M_AreMethods_c1_l1 (a1 : (List (Int × (List Int) × Int × Int × Int))) (ax1 : (List Int)) : Nat → Int → Option (Sum Unit Int)
 | 0, _ => none
 | k + 1, x1 =>
  if (decide (x1 < (List.length a1 : Int))) then
   (idx a1 x1).bind fun x2 =>
   (M.AreMethods_c1 x2 ax1).bind fun x3 =>
   if x3 then
    some (.inr x1)
   else
    Slices.IndexFunc_Limpl_Method_impl_Method_M_AreMethods_c1_l1 a1 ax1 k (w64 (x1 + 1))
  else
   some (.inl ())

def Slices.IndexFunc_Limpl_Method_impl_Method_M_AreMethods_c1 (a1 : (List (Int × (List Int) × Int × Int × Int))) (ax1 : (List Int)) : Option Int :=
 (Slices.IndexFunc_Limpl_Method_impl_Method_M_AreMethods_c1_l1 a1 ax1 FUEL (0 : Int)).bind fun o => match o with
  | .inl () =>
   some (-1)
  | .inr r => some r

def Slices.ContainsFunc_Limpl_Method_impl_Method_M_AreMethods_c1 (a1 : (List (Int × (List Int) × Int × Int × Int))) (ax1 : (List Int)) : Option Bool :=
 (Slices.IndexFunc_Limpl_Method_impl_Method_M_AreMethods_c1 a1 ax1).bind fun x1 =>
 some (decide (0 ≤ x1))

def M.AreMethods (a1 : (List Int)) (a2 : (List (Int × (List Int) × Int × Int × Int))) : Option Bool :=
 ((M.IsSchema a1).bind fun x2 =>
 if x2 then
  if (decide ((List.length a2 : Int) ≤ 5)) then
   (Slices.ContainsFunc_Limpl_Method_impl_Method_M_AreMethods_c1 a2 a1).bind fun x3 =>
   some (!x3)
  else
   some false
 else
  some false).bind fun x1 =>
 some x1

def M.IsAccess (a1 : (List Int)) (a2 : (List (Int × (List Int) × Int × Int × Int))) (a3 : (Int × (List Int))) : Option Bool :=
 ((M.AreMethods a1 a2).bind fun x2 =>
 if x2 then
  (M.within a3.1 0 (w64 ((List.length a2 : Int) - 1))).bind fun x3 =>
  if x3 then
   (idx a2 a3.1).bind fun x4 =>
   if (decide ((List.length a3.2 : Int) = (List.length x4.2.1 : Int))) then
    (M.areValues a3.2).bind fun x5 =>
    some x5
   else
    some false
  else
   some false
 else
  some false).bind fun x1 =>
 some x1

def M.copyAccess (a1 : (Int × (List Int))) : Option (Int × (List Int)) :=
 (Slices.Clone_Lint_int a1.2).bind fun x1 =>
 some (a1.1, x1)

def M.OpenCursor (a1 : (List Int)) (a2 : (List (Int × (List Int) × Int × Int × Int))) (a3 : ((List (Int × (List Int))) × Int)) (a4 : (Int × (List Int))) : Option (((Int × (List Int)) × Int × Int) × Bool) :=
 ((M.IsSource a1 (a3.1, a3.2)).bind fun x2 =>
 if (!x2) then
  some true
 else
  (M.IsAccess a1 a2 (a4.1, a4.2)).bind fun x3 =>
  some (!x3)).bind fun x1 =>
 if x1 then
  some (((0, []), 0, 0), false)
 else
  (M.copyAccess (a4.1, a4.2)).bind fun x4 =>
  some (((x4.1, x4.2), 0, a3.2), true)

def M.isPage (a1 : Int) : Option Bool :=
 (M.within a1 1 9).bind fun x1 =>
 some x1

def M.copyCursor (a1 : ((Int × (List Int)) × Int × Int)) : Option ((Int × (List Int)) × Int × Int) :=
 (M.copyAccess (a1.1.1, a1.1.2)).bind fun x1 =>
 some ((x1.1, x1.2), a1.2.1, a1.2.2)

def M.matches_c1_l1 (ax1 : (Int × (List Int) × Int × Int × Int)) (a1 : (Int × (List Int))) (ax2 : (Int × (List Int))) : Nat → Int → Option (Sum Unit Bool)
 | 0, _ => none
 | k + 1, x1 =>
  if (decide (x1 < (List.length ax1.2.1 : Int))) then
   (idx ax1.2.1 x1).bind fun x2 =>
   (idx a1.2 x2).bind fun x3 =>
   (idx ax2.2 x1).bind fun x4 =>
   if (!decide (x3 = x4)) then
    some (.inr true)
   else
    M.matches_c1_l1 ax1 a1 ax2 k (w64 (x1 + 1))
  else
   some (.inl ())

def M.matches_c1 (a1 : (Int × (List Int))) (ax1 : (Int × (List Int) × Int × Int × Int)) (ax2 : (Int × (List Int))) : Option Bool :=
 if (!decide (a1.1 = ax1.1)) then
  some true
 else
  (M.matches_c1_l1 ax1 a1 ax2 FUEL (0 : Int)).bind fun o => match o with
   | .inl () =>
    some false
   | .inr r => some r

def Slices.IndexFunc_Limpl_Fact_impl_Fact_M_matches_c1_l1 (a1 : (List (Int × (List Int)))) (ax1 : (Int × (List Int) × Int × Int × Int)) (ax2 : (Int × (List Int))) : Nat → Int → Option (Sum Unit Int)
 | 0, _ => none
 | k + 1, x1 =>
  if (decide (x1 < (List.length a1 : Int))) then
   (idx a1 x1).bind fun x2 =>
   (M.matches_c1 x2 ax1 ax2).bind fun x3 =>
   if x3 then
    some (.inr x1)
   else
    Slices.IndexFunc_Limpl_Fact_impl_Fact_M_matches_c1_l1 a1 ax1 ax2 k (w64 (x1 + 1))
  else
   some (.inl ())

def Slices.IndexFunc_Limpl_Fact_impl_Fact_M_matches_c1 (a1 : (List (Int × (List Int)))) (ax1 : (Int × (List Int) × Int × Int × Int)) (ax2 : (Int × (List Int))) : Option Int :=
 (Slices.IndexFunc_Limpl_Fact_impl_Fact_M_matches_c1_l1 a1 ax1 ax2 FUEL (0 : Int)).bind fun o => match o with
  | .inl () =>
   some (-1)
  | .inr r => some r

def Slices.DeleteFunc_Limpl_Fact_impl_Fact_M_matches_c1 (a1 : (List (Int × (List Int)))) (ax1 : (Int × (List Int) × Int × Int × Int)) (ax2 : (Int × (List Int))) : Option (List (Int × (List Int))) :=
 (Slices.IndexFunc_Limpl_Fact_impl_Fact_M_matches_c1 a1 ax1 ax2).bind fun x =>
 if x = -1 then some a1 else if 0 ≤ x ∧ x < (a1.length : Int) then dfl (fun e => M.matches_c1 e ax1 ax2) (a1.take x.toNat) (a1.drop (x.toNat + 1)) else none

def M.matches (a1 : (List (Int × (List Int) × Int × Int × Int))) (a2 : (List (Int × (List Int)))) (a3 : (Int × (List Int))) : Option (List (Int × (List Int))) :=
 (idx a1 a3.1).bind fun x1 =>
 (M.copyFacts a2).bind fun x2 =>
 (Slices.DeleteFunc_Limpl_Fact_impl_Fact_M_matches_c1 x2 (x1.1, x1.2.1, x1.2.2.1, x1.2.2.2.1, x1.2.2.2.2) (a3.1, a3.2)).bind fun x3 =>
 some x3

def M.PageAt (a1 : (List (Int × (List Int)))) (a2 : Int) (a3 : Int) : Option ((List (Int × (List Int))) × Int × Bool) :=
 ((M.isPage a3).bind fun x2 =>
 if (!x2) then
  some true
 else
  (M.within a2 0 (List.length a1 : Int)).bind fun x3 =>
  some (!x3)).bind fun x1 =>
 if x1 then
  some ([], 0, false)
 else
  (sub a1 a2 (if (w64 (a2 + a3)) < (List.length a1 : Int) then w64 (a2 + a3) else (List.length a1 : Int))).bind fun x4 =>
  (M.copyFacts x4).bind fun x5 =>
  some (x5, if (w64 (a2 + a3)) < (List.length a1 : Int) then w64 (a2 + a3) else (List.length a1 : Int), true)

def M.NextPage (a1 : (List Int)) (a2 : (List (Int × (List Int) × Int × Int × Int))) (a3 : ((List (Int × (List Int))) × Int)) (a4 : ((Int × (List Int)) × Int × Int)) (a5 : Int) : Option ((List (Int × (List Int))) × ((Int × (List Int)) × Int × Int) × Int) :=
 (M.copyCursor ((a4.1.1, a4.1.2), a4.2.1, a4.2.2)).bind fun x1 =>
 ((M.IsSource a1 (a3.1, a3.2)).bind fun x3 =>
 if (!x3) then
  some true
 else
  (M.IsAccess a1 a2 (a4.1.1, a4.1.2)).bind fun x4 =>
  if (!x4) then
   some true
  else
   (M.isPage a5).bind fun x5 =>
   if (!x5) then
    some true
   else
    (M.within a4.2.1 0 1000).bind fun x6 =>
    some (!x6)).bind fun x2 =>
 if x2 then
  some ([], ((x1.1.1, x1.1.2), x1.2.1, x1.2.2), 3)
 else
  if (!decide (a4.2.2 = a3.2)) then
   some ([], ((x1.1.1, x1.1.2), x1.2.1, x1.2.2), 2)
  else
   (M.matches a2 a3.1 (a4.1.1, a4.1.2)).bind fun x7 =>
   (M.PageAt x7 a4.2.1 a5).bind fun x8 =>
   if (!x8.2.2) then
    some ([], ((x1.1.1, x1.1.2), x1.2.1, x1.2.2), 3)
   else
    if (decide (x8.2.1 = (List.length x7 : Int))) then
     some (x8.1, ((x1.1.1, x1.1.2), x8.2.1, x1.2.2), 1)
    else
     some (x8.1, ((x1.1.1, x1.1.2), x8.2.1, x1.2.2), 0)

def M.HasFact_c1 (a1 : (Int × (List Int))) (ax1 : (Int × (List Int))) : Option Bool :=
 (M.CompareFacts (a1.1, a1.2) ax1).bind fun x1 =>
 some (decide (x1 = 0))

def Slices.IndexFunc_Limpl_Fact_impl_Fact_M_HasFact_c1_l1 (a1 : (List (Int × (List Int)))) (ax1 : (Int × (List Int))) : Nat → Int → Option (Sum Unit Int)
 | 0, _ => none
 | k + 1, x1 =>
  if (decide (x1 < (List.length a1 : Int))) then
   (idx a1 x1).bind fun x2 =>
   (M.HasFact_c1 x2 ax1).bind fun x3 =>
   if x3 then
    some (.inr x1)
   else
    Slices.IndexFunc_Limpl_Fact_impl_Fact_M_HasFact_c1_l1 a1 ax1 k (w64 (x1 + 1))
  else
   some (.inl ())

def Slices.IndexFunc_Limpl_Fact_impl_Fact_M_HasFact_c1 (a1 : (List (Int × (List Int)))) (ax1 : (Int × (List Int))) : Option Int :=
 (Slices.IndexFunc_Limpl_Fact_impl_Fact_M_HasFact_c1_l1 a1 ax1 FUEL (0 : Int)).bind fun o => match o with
  | .inl () =>
   some (-1)
  | .inr r => some r

def Slices.ContainsFunc_Limpl_Fact_impl_Fact_M_HasFact_c1 (a1 : (List (Int × (List Int)))) (ax1 : (Int × (List Int))) : Option Bool :=
 (Slices.IndexFunc_Limpl_Fact_impl_Fact_M_HasFact_c1 a1 ax1).bind fun x1 =>
 some (decide (0 ≤ x1))

def M.HasFact (a1 : (List (Int × (List Int)))) (a2 : (Int × (List Int))) : Option Bool :=
 (Slices.ContainsFunc_Limpl_Fact_impl_Fact_M_HasFact_c1 a1 (a2.1, a2.2)).bind fun x1 =>
 some x1

def M.added_c1 (a1 : (Int × (List Int))) (ax1 : (Int × (List Int))) : Option Bool :=
 (M.CompareFacts (a1.1, a1.2) ax1).bind fun x1 =>
 some (decide (0 < x1))

def Slices.Insert_Limpl_Fact_impl_Fact (a1 : (List (Int × (List Int)))) (a2 : Int) (a3 : (List (Int × (List Int)))) : Option (List (Int × (List Int))) :=
 ins a1 a2 a3

def Slices.IndexFunc_Limpl_Fact_impl_Fact_M_added_c1_l1 (a1 : (List (Int × (List Int)))) (ax1 : (Int × (List Int))) : Nat → Int → Option (Sum Unit Int)
 | 0, _ => none
 | k + 1, x1 =>
  if (decide (x1 < (List.length a1 : Int))) then
   (idx a1 x1).bind fun x2 =>
   (M.added_c1 x2 ax1).bind fun x3 =>
   if x3 then
    some (.inr x1)
   else
    Slices.IndexFunc_Limpl_Fact_impl_Fact_M_added_c1_l1 a1 ax1 k (w64 (x1 + 1))
  else
   some (.inl ())

def Slices.IndexFunc_Limpl_Fact_impl_Fact_M_added_c1 (a1 : (List (Int × (List Int)))) (ax1 : (Int × (List Int))) : Option Int :=
 (Slices.IndexFunc_Limpl_Fact_impl_Fact_M_added_c1_l1 a1 ax1 FUEL (0 : Int)).bind fun o => match o with
  | .inl () =>
   some (-1)
  | .inr r => some r

def M.added (a1 : (List (Int × (List Int)))) (a2 : (Int × (List Int))) : Option (List (Int × (List Int))) :=
 (M.HasFact a1 (a2.1, a2.2)).bind fun x1 =>
 if x1 then
  some a1
 else
  (Slices.IndexFunc_Limpl_Fact_impl_Fact_M_added_c1 a1 (a2.1, a2.2)).bind fun x2 =>
  (if (decide (x2 < 0)) then
   some (List.length a1 : Int)
  else
   some x2).bind fun x3 =>
  (M.copyFact (a2.1, a2.2)).bind fun x4 =>
  (Slices.Insert_Limpl_Fact_impl_Fact a1 x3 ([(x4.1, x4.2)])).bind fun x5 =>
  some x5

def M.ApplyChange_c1 (a1 : (Int × (List Int))) (ax1 : (Bool × (Int × (List Int)))) : Option Bool :=
 (M.CompareFacts (a1.1, a1.2) ax1.2).bind fun x1 =>
 some (decide (x1 = 0))

def Slices.IndexFunc_Limpl_Fact_impl_Fact_M_ApplyChange_c1_l1 (a1 : (List (Int × (List Int)))) (ax1 : (Bool × (Int × (List Int)))) : Nat → Int → Option (Sum Unit Int)
 | 0, _ => none
 | k + 1, x1 =>
  if (decide (x1 < (List.length a1 : Int))) then
   (idx a1 x1).bind fun x2 =>
   (M.ApplyChange_c1 x2 ax1).bind fun x3 =>
   if x3 then
    some (.inr x1)
   else
    Slices.IndexFunc_Limpl_Fact_impl_Fact_M_ApplyChange_c1_l1 a1 ax1 k (w64 (x1 + 1))
  else
   some (.inl ())

def Slices.IndexFunc_Limpl_Fact_impl_Fact_M_ApplyChange_c1 (a1 : (List (Int × (List Int)))) (ax1 : (Bool × (Int × (List Int)))) : Option Int :=
 (Slices.IndexFunc_Limpl_Fact_impl_Fact_M_ApplyChange_c1_l1 a1 ax1 FUEL (0 : Int)).bind fun o => match o with
  | .inl () =>
   some (-1)
  | .inr r => some r

def Slices.DeleteFunc_Limpl_Fact_impl_Fact_M_ApplyChange_c1 (a1 : (List (Int × (List Int)))) (ax1 : (Bool × (Int × (List Int)))) : Option (List (Int × (List Int))) :=
 (Slices.IndexFunc_Limpl_Fact_impl_Fact_M_ApplyChange_c1 a1 ax1).bind fun x =>
 if x = -1 then some a1 else if 0 ≤ x ∧ x < (a1.length : Int) then dfl (fun e => M.ApplyChange_c1 e ax1) (a1.take x.toNat) (a1.drop (x.toNat + 1)) else none

def M.ApplyChange (a1 : (List Int)) (a2 : ((List (Int × (List Int))) × Int)) (a3 : (Bool × (Int × (List Int)))) : Option (((List (Int × (List Int))) × Int) × Bool) :=
 (M.copySource (a2.1, a2.2)).bind fun x1 =>
 (M.HasFact a2.1 (a3.2.1, a3.2.2)).bind fun x2 =>
 ((M.IsSource a1 (a2.1, a2.2)).bind fun x4 =>
 if (!x4) then
  some true
 else
  (M.IsFact a1 (a3.2.1, a3.2.2)).bind fun x5 =>
  if (!x5) then
   some true
  else
   if (decide (a2.2 = 1000)) then
    some true
   else
    if (decide (x2 = a3.1)) then
     some true
    else
     if a3.1 then
      some (decide (24 ≤ (List.length a2.1 : Int)))
     else
      some false).bind fun x3 =>
 if x3 then
  some ((x1.1, x1.2), false)
 else
  (if a3.1 then
   (M.added x1.1 (a3.2.1, a3.2.2)).bind fun x8 =>
   some (x8, x1.2)
  else
   (Slices.DeleteFunc_Limpl_Fact_impl_Fact_M_ApplyChange_c1 x1.1 (a3.1, (a3.2.1, a3.2.2))).bind fun x9 =>
   some (x9, x1.2)).bind fun (x6, x7) =>
  some ((x6, w64 (x7 + 1)), true)

def M.ReadThrough_l1 (a1 : (List Int)) (a2 : (List (Int × (List Int) × Int × Int × Int))) (a5 : Int) (a7 : Int) (a4 : (Int × (List Int))) : Nat → (List (Int × (List Int))) → Int → Int → Int → Bool → Int → (List Int) → Int → Int → (List (Int × (List Int))) → Int → (List (Int × (List Int))) → Int → (List (Int × (List Int))) → Int → Int → Int → Bool → (List (Bool × (Int × (List Int)))) → Option (Sum ((List (Int × (List Int))) × Int × Int × Int × Bool × Int × (List Int) × Int × Int × (List (Int × (List Int))) × Int × (List (Int × (List Int))) × Int × (List (Int × (List Int))) × Int × Int × Int × Bool) (((List (Int × (List Int))) × Int × Int × Int × Bool) × ((List (Int × (List Int))) × Int)))
 | 0, _, _, _, _, _, _, _, _, _, _, _, _, _, _, _, _, _, _, _ => none
 | k + 1, x13, x14, x15, x16, x17, x18, x19, x20, x21, x22, x23, x24, x25, x26, x27, x28, x29, x30, x31 =>
  (M.NextPage a1 a2 (x22, x23) ((x18, x19), x20, x21) a5).bind fun x50 =>
  if (decide (x50.2.2 = 2)) then
   if (decide (a7 ≤ x16)) then
    (some (x22, x23, [], x14, w64 (x15 + 1), x16, x17)).bind fun (x51, x52, x53, x54, x55, x56, x57) =>
    some (.inr ((x53, x54, x55, x56, x57), (x51, x52)))
   else
    (M.OpenCursor a1 a2 (x22, x23) (a4.1, a4.2)).bind fun x58 =>
    M.ReadThrough_l1 a1 a2 a5 a7 a4 k ([]) x14 (w64 (x15 + 1)) (w64 (x16 + 1)) x17 x58.1.1.1 x58.1.1.2 x58.1.2.1 x58.1.2.2 x22 x23 x24 x25 x26 x27 x28 x29 x30 x31
  else
   (app x13 x50.1).bind fun x59 =>
   if (decide (x50.2.2 = 1)) then
    (some (x59, x23, w64 (x15 + 1), x16, true)).bind fun (x60, x61, x62, x63, x64) =>
    (some (x22, x23, x60, x61, x62, x63, x64)).bind fun (x65, x66, x67, x68, x69, x70, x71) =>
    some (.inr ((x67, x68, x69, x70, x71), (x65, x66)))
   else
    (if (decide (0 < (List.length x31 : Int))) then
     (idx x31 0).bind fun x75 =>
     (M.ApplyChange a1 (x22, x23) x75).bind fun x76 =>
     (sub x31 1 (List.length x31 : Int)).bind fun x77 =>
     some (x76.1.1, x76.1.2, x77)
    else
     some (x22, x23, x31)).bind fun (x72, x73, x74) =>
    M.ReadThrough_l1 a1 a2 a5 a7 a4 k x59 x14 (w64 (x15 + 1)) x16 x17 x50.2.1.1.1 x50.2.1.1.2 x50.2.1.2.1 x50.2.1.2.2 x72 x73 x24 x25 x26 x27 x28 x29 x30 x74

def M.ReadThrough (a1 : (List Int)) (a2 : (List (Int × (List Int) × Int × Int × Int))) (a3 : ((List (Int × (List Int))) × Int)) (a4 : (Int × (List Int))) (a5 : Int) (a6 : (List (Bool × (Int × (List Int))))) (a7 : Int) : Option (((List (Int × (List Int))) × Int × Int × Int × Bool) × ((List (Int × (List Int))) × Int)) :=
 (M.copySource (a3.1, a3.2)).bind fun x1 =>
 (M.OpenCursor a1 a2 (a3.1, a3.2) (a4.1, a4.2)).bind fun x2 =>
 (if (!x2.2) then
  some true
 else
  (M.isPage a5).bind fun x4 =>
  if (!x4) then
   some true
  else
   (M.within a7 0 20).bind fun x5 =>
   some (!x5)).bind fun x3 =>
 if x3 then
  (some (x1.1, x1.2, [], (0 : Int), (0 : Int), (0 : Int), false)).bind fun (x6, x7, x8, x9, x10, x11, x12) =>
  some ((x8, x9, x10, x11, x12), (x6, x7))
 else
  (M.ReadThrough_l1 a1 a2 a5 a7 a4 FUEL ([]) (0 : Int) (0 : Int) (0 : Int) false x2.1.1.1 x2.1.1.2 x2.1.2.1 x2.1.2.2 x1.1 x1.2 ([]) (0 : Int) ([]) (0 : Int) (0 : Int) (0 : Int) false a6).bind fun o => match o with
   | .inl _ => none
   | .inr r => some r

def Q.eqIntS_l1 (a1 : (List Int)) (a2 : (List Int)) : Nat → Int → Option (Sum Unit Bool)
 | 0, _ => none
 | k + 1, x1 =>
  if (decide (x1 < (List.length a1 : Int))) then
   (idx a1 x1).bind fun x2 =>
   (idx a2 x1).bind fun x3 =>
   if (!decide (x2 = x3)) then
    some (.inr false)
   else
    Q.eqIntS_l1 a1 a2 k (w64 (x1 + 1))
  else
   some (.inl ())

def Q.eqIntS (a1 : (List Int)) (a2 : (List Int)) : Option Bool :=
 if (!decide ((List.length a1 : Int) = (List.length a2 : Int))) then
  some false
 else
  (Q.eqIntS_l1 a1 a2 FUEL (0 : Int)).bind fun o => match o with
   | .inl () =>
    some true
   | .inr r => some r

def Q.eqFact (a1 : (Int × (List Int))) (a2 : (Int × (List Int))) : Option Bool :=
 if (!decide (a1.1 = a2.1)) then
  some false
 else
  (Q.eqIntS a1.2 a2.2).bind fun x1 =>
  if (!x1) then
   some false
  else
   some true

def Q.eqFactS_l1 (a1 : (List (Int × (List Int)))) (a2 : (List (Int × (List Int)))) : Nat → Int → Option (Sum Unit Bool)
 | 0, _ => none
 | k + 1, x1 =>
  if (decide (x1 < (List.length a1 : Int))) then
   (idx a1 x1).bind fun x2 =>
   (idx a2 x1).bind fun x3 =>
   (Q.eqFact x2 x3).bind fun x4 =>
   if (!x4) then
    some (.inr false)
   else
    Q.eqFactS_l1 a1 a2 k (w64 (x1 + 1))
  else
   some (.inl ())

def Q.eqFactS (a1 : (List (Int × (List Int)))) (a2 : (List (Int × (List Int)))) : Option Bool :=
 if (!decide ((List.length a1 : Int) = (List.length a2 : Int))) then
  some false
 else
  (Q.eqFactS_l1 a1 a2 FUEL (0 : Int)).bind fun o => match o with
   | .inl () =>
    some true
   | .inr r => some r

def Q.eqReading (a1 : ((List (Int × (List Int))) × Int × Int × Int × Bool)) (a2 : ((List (Int × (List Int))) × Int × Int × Int × Bool)) : Option Bool :=
 (Q.eqFactS a1.1 a2.1).bind fun x1 =>
 if (!x1) then
  some false
 else
  if (!decide (a1.2.1 = a2.2.1)) then
   some false
  else
   if (!decide (a1.2.2.1 = a2.2.2.1)) then
    some false
   else
    if (!decide (a1.2.2.2.1 = a2.2.2.2.1)) then
     some false
    else
     if (!decide (a1.2.2.2.2 = a2.2.2.2.2)) then
      some false
     else
      some true

def Q.eqSource (a1 : ((List (Int × (List Int))) × Int)) (a2 : ((List (Int × (List Int))) × Int)) : Option Bool :=
 (Q.eqFactS a1.1 a2.1).bind fun x1 =>
 if (!x1) then
  some false
 else
  if (!decide (a1.2 = a2.2)) then
   some false
  else
   some true

def Q.eqMethod (a1 : (Int × (List Int) × Int × Int × Int)) (a2 : (Int × (List Int) × Int × Int × Int)) : Option Bool :=
 if (!decide (a1.1 = a2.1)) then
  some false
 else
  (Q.eqIntS a1.2.1 a2.2.1).bind fun x1 =>
  if (!x1) then
   some false
  else
   if (!decide (a1.2.2.1 = a2.2.2.1)) then
    some false
   else
    if (!decide (a1.2.2.2.1 = a2.2.2.2.1)) then
     some false
    else
     if (!decide (a1.2.2.2.2 = a2.2.2.2.2)) then
      some false
     else
      some true

def Q.eqMethodS_l1 (a1 : (List (Int × (List Int) × Int × Int × Int))) (a2 : (List (Int × (List Int) × Int × Int × Int))) : Nat → Int → Option (Sum Unit Bool)
 | 0, _ => none
 | k + 1, x1 =>
  if (decide (x1 < (List.length a1 : Int))) then
   (idx a1 x1).bind fun x2 =>
   (idx a2 x1).bind fun x3 =>
   (Q.eqMethod x2 x3).bind fun x4 =>
   if (!x4) then
    some (.inr false)
   else
    Q.eqMethodS_l1 a1 a2 k (w64 (x1 + 1))
  else
   some (.inl ())

def Q.eqMethodS (a1 : (List (Int × (List Int) × Int × Int × Int))) (a2 : (List (Int × (List Int) × Int × Int × Int))) : Option Bool :=
 if (!decide ((List.length a1 : Int) = (List.length a2 : Int))) then
  some false
 else
  (Q.eqMethodS_l1 a1 a2 FUEL (0 : Int)).bind fun o => match o with
   | .inl () =>
    some true
   | .inr r => some r

def Q.eqAccess (a1 : (Int × (List Int))) (a2 : (Int × (List Int))) : Option Bool :=
 if (!decide (a1.1 = a2.1)) then
  some false
 else
  (Q.eqIntS a1.2 a2.2).bind fun x1 =>
  if (!x1) then
   some false
  else
   some true

def Q.eqChange (a1 : (Bool × (Int × (List Int)))) (a2 : (Bool × (Int × (List Int)))) : Option Bool :=
 if (!decide (a1.1 = a2.1)) then
  some false
 else
  (Q.eqFact (a1.2.1, a1.2.2) (a2.2.1, a2.2.2)).bind fun x1 =>
  if (!x1) then
   some false
  else
   some true

def Q.eqChangeS_l1 (a1 : (List (Bool × (Int × (List Int))))) (a2 : (List (Bool × (Int × (List Int))))) : Nat → Int → Option (Sum Unit Bool)
 | 0, _ => none
 | k + 1, x1 =>
  if (decide (x1 < (List.length a1 : Int))) then
   (idx a1 x1).bind fun x2 =>
   (idx a2 x1).bind fun x3 =>
   (Q.eqChange x2 x3).bind fun x4 =>
   if (!x4) then
    some (.inr false)
   else
    Q.eqChangeS_l1 a1 a2 k (w64 (x1 + 1))
  else
   some (.inl ())

def Q.eqChangeS (a1 : (List (Bool × (Int × (List Int))))) (a2 : (List (Bool × (Int × (List Int))))) : Option Bool :=
 if (!decide ((List.length a1 : Int) = (List.length a2 : Int))) then
  some false
 else
  (Q.eqChangeS_l1 a1 a2 FUEL (0 : Int)).bind fun o => match o with
   | .inl () =>
    some true
   | .inr r => some r

def Q.markIntS_l1  : Nat → (List Int) → Int → Int → Option (((List Int) × Int))
 | 0, _, _, _ => none
 | k + 1, x1, x2, x3 =>
  if (decide (x3 < (List.length x1 : Int))) then
   (idx x1 x3).bind fun x6 =>
   Q.markIntS_l1 k (List.set x1 (Int.toNat x3) x2) (w64 (x2 + 1)) (w64 (x3 + 1))
  else
   some (x1, x2)

def Q.markIntS (a1 : (List Int)) (a2 : Int) : Option (Int × (List Int)) :=
 (Q.markIntS_l1 FUEL a1 a2 (0 : Int)).bind fun (x4, x5) =>
 some (x5, x4)

def Q.markMethodS_l1  : Nat → (List (Int × (List Int) × Int × Int × Int)) → Int → Int → Option (((List (Int × (List Int) × Int × Int × Int)) × Int))
 | 0, _, _, _ => none
 | k + 1, x1, x2, x3 =>
  if (decide (x3 < (List.length x1 : Int))) then
   (idx x1 x3).bind fun x6 =>
   (idx (List.set x1 (Int.toNat x3) (x2, x6.2.1, x6.2.2.1, x6.2.2.2.1, x6.2.2.2.2)) x3).bind fun x7 =>
   (Q.markIntS x7.2.1 (w64 (x2 + 1))).bind fun x8 =>
   (idx (List.set (List.set x1 (Int.toNat x3) (x2, x6.2.1, x6.2.2.1, x6.2.2.2.1, x6.2.2.2.2)) (Int.toNat x3) (x7.1, x8.2, x7.2.2.1, x7.2.2.2.1, x7.2.2.2.2)) x3).bind fun x9 =>
   (idx (List.set (List.set (List.set x1 (Int.toNat x3) (x2, x6.2.1, x6.2.2.1, x6.2.2.2.1, x6.2.2.2.2)) (Int.toNat x3) (x7.1, x8.2, x7.2.2.1, x7.2.2.2.1, x7.2.2.2.2)) (Int.toNat x3) (x9.1, x9.2.1, x8.1, x9.2.2.2.1, x9.2.2.2.2)) x3).bind fun x10 =>
   (idx (List.set (List.set (List.set (List.set x1 (Int.toNat x3) (x2, x6.2.1, x6.2.2.1, x6.2.2.2.1, x6.2.2.2.2)) (Int.toNat x3) (x7.1, x8.2, x7.2.2.1, x7.2.2.2.1, x7.2.2.2.2)) (Int.toNat x3) (x9.1, x9.2.1, x8.1, x9.2.2.2.1, x9.2.2.2.2)) (Int.toNat x3) (x10.1, x10.2.1, x10.2.2.1, w64 (x8.1 + 1), x10.2.2.2.2)) x3).bind fun x11 =>
   Q.markMethodS_l1 k (List.set (List.set (List.set (List.set (List.set x1 (Int.toNat x3) (x2, x6.2.1, x6.2.2.1, x6.2.2.2.1, x6.2.2.2.2)) (Int.toNat x3) (x7.1, x8.2, x7.2.2.1, x7.2.2.2.1, x7.2.2.2.2)) (Int.toNat x3) (x9.1, x9.2.1, x8.1, x9.2.2.2.1, x9.2.2.2.2)) (Int.toNat x3) (x10.1, x10.2.1, x10.2.2.1, w64 (x8.1 + 1), x10.2.2.2.2)) (Int.toNat x3) (x11.1, x11.2.1, x11.2.2.1, x11.2.2.2.1, w64 ((w64 (x8.1 + 1)) + 1))) (w64 ((w64 ((w64 (x8.1 + 1)) + 1)) + 1)) (w64 (x3 + 1))
  else
   some (x1, x2)

def Q.markMethodS (a1 : (List (Int × (List Int) × Int × Int × Int))) (a2 : Int) : Option (Int × (List (Int × (List Int) × Int × Int × Int))) :=
 (Q.markMethodS_l1 FUEL a1 a2 (0 : Int)).bind fun (x4, x5) =>
 some (x5, x4)

def Q.markFactS_l1  : Nat → (List (Int × (List Int))) → Int → Int → Option (((List (Int × (List Int))) × Int))
 | 0, _, _, _ => none
 | k + 1, x1, x2, x3 =>
  if (decide (x3 < (List.length x1 : Int))) then
   (idx x1 x3).bind fun x6 =>
   (idx (List.set x1 (Int.toNat x3) (x2, x6.2)) x3).bind fun x7 =>
   (Q.markIntS x7.2 (w64 (x2 + 1))).bind fun x8 =>
   Q.markFactS_l1 k (List.set (List.set x1 (Int.toNat x3) (x2, x6.2)) (Int.toNat x3) (x7.1, x8.2)) x8.1 (w64 (x3 + 1))
  else
   some (x1, x2)

def Q.markFactS (a1 : (List (Int × (List Int)))) (a2 : Int) : Option (Int × (List (Int × (List Int)))) :=
 (Q.markFactS_l1 FUEL a1 a2 (0 : Int)).bind fun (x4, x5) =>
 some (x5, x4)

def Q.markSource (a1 : ((List (Int × (List Int))) × Int)) (a2 : Int) : Option (Int × ((List (Int × (List Int))) × Int)) :=
 (Q.markFactS a1.1 a2).bind fun x1 =>
 some (x1.1, (x1.2, a1.2))

def Q.markAccess (a1 : (Int × (List Int))) (a2 : Int) : Option (Int × (Int × (List Int))) :=
 (Q.markIntS a1.2 a2).bind fun x1 =>
 some (x1.1, (a1.1, x1.2))

def Q.markChangeS_l1  : Nat → (List (Bool × (Int × (List Int)))) → Int → Int → Option (((List (Bool × (Int × (List Int)))) × Int))
 | 0, _, _, _ => none
 | k + 1, x1, x2, x3 =>
  if (decide (x3 < (List.length x1 : Int))) then
   (idx x1 x3).bind fun x6 =>
   (idx (List.set x1 (Int.toNat x3) ((decide ((x2.tmod 3) = 0)), (x6.2.1, x6.2.2))) x3).bind fun x7 =>
   (idx (List.set (List.set x1 (Int.toNat x3) ((decide ((x2.tmod 3) = 0)), (x6.2.1, x6.2.2))) (Int.toNat x3) (x7.1, (w64 (x2 + 1), x7.2.2))) x3).bind fun x8 =>
   (Q.markIntS x8.2.2 (w64 ((w64 (x2 + 1)) + 1))).bind fun x9 =>
   Q.markChangeS_l1 k (List.set (List.set (List.set x1 (Int.toNat x3) ((decide ((x2.tmod 3) = 0)), (x6.2.1, x6.2.2))) (Int.toNat x3) (x7.1, (w64 (x2 + 1), x7.2.2))) (Int.toNat x3) (x8.1, (x8.2.1, x9.2))) x9.1 (w64 (x3 + 1))
  else
   some (x1, x2)

def Q.markChangeS (a1 : (List (Bool × (Int × (List Int))))) (a2 : Int) : Option (Int × (List (Bool × (Int × (List Int))))) :=
 (Q.markChangeS_l1 FUEL a1 a2 (0 : Int)).bind fun (x4, x5) =>
 some (x5, x4)

def Q.markReading (a1 : ((List (Int × (List Int))) × Int × Int × Int × Bool)) (a2 : Int) : Option (Int × ((List (Int × (List Int))) × Int × Int × Int × Bool)) :=
 (Q.markFactS a1.1 a2).bind fun x1 =>
 some (x1.1, (x1.2, a1.2.1, a1.2.2.1, a1.2.2.2.1, a1.2.2.2.2))

def Q.heldIntS_l1 (a1 : (List Int)) : Nat → Int → Int → Option (Sum Int Int)
 | 0, _, _ => none
 | k + 1, x1, x2 =>
  if (decide (x2 < (List.length a1 : Int))) then
   (idx a1 x2).bind fun x4 =>
   if (!decide (x4 = x1)) then
    some (.inr (-1))
   else
    Q.heldIntS_l1 a1 k (w64 (x1 + 1)) (w64 (x2 + 1))
  else
   some (.inl x1)

def Q.heldIntS (a1 : (List Int)) (a2 : Int) : Option Int :=
 (Q.heldIntS_l1 a1 FUEL a2 (0 : Int)).bind fun o => match o with
  | .inl x3 =>
   some x3
  | .inr r => some r

def Q.heldFactS_l1 (a1 : (List (Int × (List Int)))) : Nat → Int → Int → Option (Sum Int Int)
 | 0, _, _ => none
 | k + 1, x1, x2 =>
  if (decide (x2 < (List.length a1 : Int))) then
   (idx a1 x2).bind fun x4 =>
   if (!decide (x4.1 = x1)) then
    some (.inr (-1))
   else
    (idx a1 x2).bind fun x5 =>
    (Q.heldIntS x5.2 (w64 (x1 + 1))).bind fun x6 =>
    if (decide (x6 < 0)) then
     some (.inr (-1))
    else
     Q.heldFactS_l1 a1 k x6 (w64 (x2 + 1))
  else
   some (.inl x1)

def Q.heldFactS (a1 : (List (Int × (List Int)))) (a2 : Int) : Option Int :=
 (Q.heldFactS_l1 a1 FUEL a2 (0 : Int)).bind fun o => match o with
  | .inl x3 =>
   some x3
  | .inr r => some r

def Q.heldReading (a1 : ((List (Int × (List Int))) × Int × Int × Int × Bool)) (a2 : Int) : Option Int :=
 (Q.heldFactS a1.1 a2).bind fun x1 =>
 if (decide (x1 < 0)) then
  some (-1)
 else
  some x1

def Q.heldSource (a1 : ((List (Int × (List Int))) × Int)) (a2 : Int) : Option Int :=
 (Q.heldFactS a1.1 a2).bind fun x1 =>
 if (decide (x1 < 0)) then
  some (-1)
 else
  some x1

def Q.FnExactReadThrough (a1 : (List Int)) (a2 : (List (Int × (List Int) × Int × Int × Int))) (a3 : ((List (Int × (List Int))) × Int)) (a4 : (Int × (List Int))) (a5 : Int) (a6 : (List (Bool × (Int × (List Int))))) (a7 : Int) : Option Bool :=
 if (decide (1048576 < (List.length a1 : Int))) then
  some true
 else
  (Q.szMethodS a2 1048576).bind fun x1 =>
  if (decide (x1 < 0)) then
   some true
  else
   (Q.szSource (a3.1, a3.2) x1).bind fun x2 =>
   if (decide (x2 < 0)) then
    some true
   else
    (Q.szAccess (a4.1, a4.2) x2).bind fun x3 =>
    if (decide (x3 < 0)) then
     some true
    else
     (Q.szChangeS a6 x3).bind fun x4 =>
     if (decide (x4 < 0)) then
      some true
     else
      ((Q.toIntS a1).bind fun x12 =>
      (Q.toMethodS a2).bind fun x13 =>
      (Q.toSource (a3.1, a3.2)).bind fun x14 =>
      (Q.toAccess (a4.1, a4.2)).bind fun x15 =>
      (Q.toChangeS a6).bind fun x16 =>
      (S.ReadThrough x12 x13 x14 x15 a5 x16 a7).bind fun x17 =>
      some (x17.1.1, x17.1.2.1, x17.1.2.2.1, x17.1.2.2.2.1, x17.1.2.2.2.2, x17.2.1, x17.2.2)).bind fun (x5, x6, x7, x8, x9, x10, x11) =>
      (Q.toIntS a1).bind fun x18 =>
      (Q.toMethodS a2).bind fun x19 =>
      (Q.toSource (a3.1, a3.2)).bind fun x20 =>
      (Q.toAccess (a4.1, a4.2)).bind fun x21 =>
      (Q.toChangeS a6).bind fun x22 =>
      (M.ReadThrough x18 x19 (x20.1, x20.2) (x21.1, x21.2) a5 x22 a7).bind fun x23 =>
      ((Q.eqReading (x23.1.1, x23.1.2.1, x23.1.2.2.1, x23.1.2.2.2.1, x23.1.2.2.2.2) (x5, x6, x7, x8, x9)).bind fun x25 =>
      if (!x25) then
       some true
      else
       (Q.eqSource (x23.2.1, x23.2.2) (x10, x11)).bind fun x26 =>
       some (!x26)).bind fun x24 =>
      if x24 then
       some false
      else
       (Q.toIntS a1).bind fun x27 =>
       (Q.eqIntS x18 x27).bind fun x28 =>
       if (!x28) then
        some false
       else
        (Q.toMethodS a2).bind fun x29 =>
        (Q.eqMethodS x19 x29).bind fun x30 =>
        if (!x30) then
         some false
        else
         (Q.toSource (a3.1, a3.2)).bind fun x31 =>
         (Q.eqSource (x20.1, x20.2) x31).bind fun x32 =>
         if (!x32) then
          some false
         else
          (Q.toAccess (a4.1, a4.2)).bind fun x33 =>
          (Q.eqAccess (x21.1, x21.2) x33).bind fun x34 =>
          if (!x34) then
           some false
          else
           (Q.toChangeS a6).bind fun x35 =>
           (Q.eqChangeS x22 x35).bind fun x36 =>
           if (!x36) then
            some false
           else
            (Q.markIntS x18 1).bind fun x37 =>
            (Q.markMethodS x19 x37.1).bind fun x38 =>
            (Q.markSource (x20.1, x20.2) x38.1).bind fun x39 =>
            (Q.markAccess (x21.1, x21.2) x39.1).bind fun x40 =>
            (Q.markChangeS x22 x40.1).bind fun x41 =>
            (if (decide (x41.1 < 0)) then
             some true
            else
             (Q.eqReading (x23.1.1, x23.1.2.1, x23.1.2.2.1, x23.1.2.2.2.1, x23.1.2.2.2.2) (x5, x6, x7, x8, x9)).bind fun x43 =>
             if (!x43) then
              some true
             else
              (Q.eqSource (x23.2.1, x23.2.2) (x10, x11)).bind fun x44 =>
              some (!x44)).bind fun x42 =>
            if x42 then
             some false
            else
             (Q.markReading (x23.1.1, x23.1.2.1, x23.1.2.2.1, x23.1.2.2.2.1, x23.1.2.2.2.2) 1).bind fun x45 =>
             (Q.markSource (x23.2.1, x23.2.2) x45.1).bind fun x46 =>
             (Q.heldReading (x45.2.1, x23.1.2.1, x23.1.2.2.1, x23.1.2.2.2.1, x23.1.2.2.2.2) 1).bind fun x47 =>
             if (decide (x47 < 0)) then
              some false
             else
              (Q.heldSource (x46.2.1, x23.2.2) x47).bind fun x48 =>
              if (decide (x48 < 0)) then
               some false
              else
               if (!decide (x48 = x46.1)) then
                some false
               else
                ((Q.toIntS a1).bind fun x56 =>
                (Q.toMethodS a2).bind fun x57 =>
                (Q.toSource (a3.1, a3.2)).bind fun x58 =>
                (Q.toAccess (a4.1, a4.2)).bind fun x59 =>
                (Q.toChangeS a6).bind fun x60 =>
                (M.ReadThrough x56 x57 x58 x59 a5 x60 a7).bind fun x61 =>
                some (x61.1.1, x61.1.2.1, x61.1.2.2.1, x61.1.2.2.2.1, x61.1.2.2.2.2, x61.2.1, x61.2.2)).bind fun (x49, x50, x51, x52, x53, x54, x55) =>
                ((Q.eqReading (x49, x50, x51, x52, x53) (x5, x6, x7, x8, x9)).bind fun x63 =>
                if (!x63) then
                 some true
                else
                 (Q.eqSource (x54, x55) (x10, x11)).bind fun x64 =>
                 some (!x64)).bind fun x62 =>
                if x62 then
                 some false
                else
                 (Q.heldReading (x45.2.1, x23.1.2.1, x23.1.2.2.1, x23.1.2.2.2.1, x23.1.2.2.2.2) 1).bind fun x65 =>
                 if (decide (x65 < 0)) then
                  some false
                 else
                  (Q.heldSource (x46.2.1, x23.2.2) x65).bind fun x66 =>
                  if (decide (x66 < 0)) then
                   some false
                  else
                   if (!decide (x66 = x46.1)) then
                    some false
                   else
                    some true

end Go.Gx.Px
