/- The Go functions as pure Lean functions, printed by program. Conditions: none. -/
import Derived.Test.YtnccdhglieidhaaGxU
set_option linter.unusedVariables false
namespace Go.Gx.Px

def Q.toWindow (a1 : (Int × Int)) : Option (Int × Int) :=
  some (a1.1, a1.2)

def Q.eqIntS_l1 (a1 : (List Int)) (a2 : (List Int)) : Nat → Int → Option (Sum Unit Bool)
  | 0, _ => none
  | k + 1, x1 =>
    if (decide (x1 < (List.length a1 : Int))) then
      (idx a1 x1).bind fun x2 =>
      (idx a2 x1).bind fun x3 =>
      if (!decide (x2 = x3)) then
        some (.inr false)
      else
        Q.eqIntS_l1 a1 a2 k (w64 (x1 + 1))
    else
      some (.inl ())

def Q.eqIntS (a1 : (List Int)) (a2 : (List Int)) : Option Bool :=
  if (!decide ((List.length a1 : Int) = (List.length a2 : Int))) then
    some false
  else
    (Q.eqIntS_l1 a1 a2 FUEL 0).bind fun o => match o with
      | .inl () =>
        some true
      | .inr r => some r

def S.CallsIn_l1 (a1 : (List Int)) (a2 : Int) (a3 : Int) : Nat → Int → Int → Option (Int)
  | 0, _, _ => none
  | k + 1, x1, x2 =>
    if (decide (x2 < (List.length a1 : Int))) then
      ((idx a1 x2).bind fun x5 =>
      if (decide (a2 ≤ x5)) then
        (idx a1 x2).bind fun x6 =>
        if (decide ((w64 (x6 - a2)) < a3)) then
          (idx a1 x2).bind fun x7 =>
          if (decide (0 ≤ x7)) then
            some (decide (0 ≤ a2))
          else
            some false
        else
          some false
      else
        some false).bind fun x4 =>
      (if x4 then
        some (w64 (x1 + 1))
      else
        some x1).bind fun x8 =>
      S.CallsIn_l1 a1 a2 a3 k x8 (w64 (x2 + 1))
    else
      some x1

def S.CallsIn (a1 : (List Int)) (a2 : Int) (a3 : Int) : Option Int :=
  (S.CallsIn_l1 a1 a2 a3 FUEL 0 0).bind fun x3 =>
  some x3

def S.l1In (a1 : Int) (a2 : Int) (a3 : Int) : Option Bool :=
  (if (decide (a2 ≤ a1)) then
    some (decide (a1 ≤ a3))
  else
    some false).bind fun x1 =>
  some x1

def S.IsWindow (a1 : (Int × Int)) : Option Bool :=
  ((S.l1In a1.1 1 100).bind fun x2 =>
  if x2 then
    (S.l1In a1.2 1 99).bind fun x3 =>
    some x3
  else
    some false).bind fun x1 =>
  some x1

def S.l18Times_l1 (a1 : (List Int)) : Nat → Int → Option (Sum Unit Bool)
  | 0, _ => none
  | k + 1, x1 =>
    if (decide (x1 < (List.length a1 : Int))) then
      ((idx a1 x1).bind fun x3 =>
      (S.l1In x3 0 10000).bind fun x4 =>
      if (!x4) then
        some true
      else
        if (decide (0 < x1)) then
          (idx a1 x1).bind fun x5 =>
          (idx a1 (w64 (x1 - 1))).bind fun x6 =>
          some (decide (x5 < x6))
        else
          some false).bind fun x2 =>
      if x2 then
        some (.inr false)
      else
        S.l18Times_l1 a1 k (w64 (x1 + 1))
    else
      some (.inl ())

def S.l18Times (a1 : (List Int)) : Option Bool :=
  (S.l18Times_l1 a1 FUEL 0).bind fun o => match o with
    | .inl () =>
      some (decide ((List.length a1 : Int) ≤ 1000))
    | .inr r => some r

def S.IsKept_l1 (a1 : (List Int)) (a2 : (Int × Int)) : Nat → Int → Option (Sum Unit Bool)
  | 0, _ => none
  | k + 1, x4 =>
    if (decide (x4 < (List.length a1 : Int))) then
      (idx a1 x4).bind fun x5 =>
      (S.CallsIn a1 x5 a2.1).bind fun x6 =>
      if (decide (a2.2 < x6)) then
        some (.inr false)
      else
        S.IsKept_l1 a1 a2 k (w64 (x4 + 1))
    else
      some (.inl ())

def S.IsKept (a1 : (List Int)) (a2 : (Int × Int)) : Option Bool :=
  ((S.l18Times a1).bind fun x2 =>
  if (!x2) then
    some true
  else
    (S.IsWindow (a2.1, a2.2)).bind fun x3 =>
    some (!x3)).bind fun x1 =>
  if x1 then
    some false
  else
    (S.IsKept_l1 a1 a2 FUEL 0).bind fun o => match o with
      | .inl () =>
        some true
      | .inr r => some r

def S.NextTime (a1 : (List Int)) (a2 : (Int × Int)) (a3 : Int) : Option (Int × Bool) :=
  ((S.IsKept a1 (a2.1, a2.2)).bind fun x2 =>
  if (!x2) then
    some true
  else
    (S.l1In a3 0 10000).bind fun x3 =>
    some (!x3)).bind fun x1 =>
  if x1 then
    some (0, false)
  else
    (if (decide (0 < (List.length a1 : Int))) then
      (idx a1 (w64 ((List.length a1 : Int) - 1))).bind fun x5 =>
      some (if x5 > a3 then x5 else a3)
    else
      some a3).bind fun x4 =>
    (if (decide (a2.2 ≤ (List.length a1 : Int))) then
      (idx a1 (w64 ((List.length a1 : Int) - a2.2))).bind fun x7 =>
      some (if (w64 (x7 + a2.1)) > x4 then w64 (x7 + a2.1) else x4)
    else
      some x4).bind fun x6 =>
    if (decide (10000 < x6)) then
      some (0, false)
    else
      some (x6, true)

def S.ScheduleCalls_l1 (a1 : Int) (a2 : (Int × Int)) (a3 : Int) : Nat → (List Int) → Int → Option (Sum (List Int) ((List Int) × Bool))
  | 0, _, _ => none
  | k + 1, x5, x6 =>
    if (decide (x6 < a1)) then
      (S.NextTime x5 (a2.1, a2.2) a3).bind fun x8 =>
      if (!x8.2) then
        some (.inr (([] : List Int), false))
      else
        (app x5 ([x8.1])).bind fun x9 =>
        S.ScheduleCalls_l1 a1 a2 a3 k x9 (w64 (x6 + 1))
    else
      some (.inl x5)

def S.ScheduleCalls (a1 : Int) (a2 : (Int × Int)) (a3 : Int) : Option ((List Int) × Bool) :=
  ((S.l1In a1 0 100).bind fun x2 =>
  if (!x2) then
    some true
  else
    (S.IsWindow (a2.1, a2.2)).bind fun x3 =>
    if (!x3) then
      some true
    else
      (S.l1In a3 0 10000).bind fun x4 =>
      some (!x4)).bind fun x1 =>
  if x1 then
    some (([] : List Int), false)
  else
    (S.ScheduleCalls_l1 a1 a2 a3 FUEL ([] : List Int) 0).bind fun o => match o with
      | .inl x7 =>
        some (x7, true)
      | .inr r => some r

def M.within (a1 : Int) (a2 : Int) (a3 : Int) : Option Bool :=
  (if (decide (a2 ≤ a1)) then
    some (decide (a1 ≤ a3))
  else
    some false).bind fun x1 =>
  some x1

def M.IsWindow (a1 : (Int × Int)) : Option Bool :=
  ((M.within a1.1 1 100).bind fun x2 =>
  if x2 then
    (M.within a1.2 1 99).bind fun x3 =>
    some x3
  else
    some false).bind fun x1 =>
  some x1

def M.isTime (a1 : Int) : Option Bool :=
  (M.within a1 0 10000).bind fun x1 =>
  some x1

def M.Window_next (a1 : (Int × Int)) (a2 : (List Int)) (a3 : Int) : Option (Int × Bool) :=
  (if (decide (0 < (List.length a2 : Int))) then
    (idx a2 (w64 ((List.length a2 : Int) - 1))).bind fun x2 =>
    some (if x2 > a3 then x2 else a3)
  else
    some a3).bind fun x1 =>
  (if (decide (a1.2 ≤ (List.length a2 : Int))) then
    (idx a2 (w64 ((List.length a2 : Int) - a1.2))).bind fun x4 =>
    some (if (w64 (x4 + a1.1)) > x1 then w64 (x4 + a1.1) else x1)
  else
    some x1).bind fun x3 =>
  if (decide (10000 < x3)) then
    some (0, false)
  else
    some (x3, true)

def M.ScheduleCalls_l1 (a1 : Int) (a2 : (Int × Int)) (a3 : Int) : Nat → (List Int) → Int → Option (Sum (List Int) ((List Int) × Bool))
  | 0, _, _ => none
  | k + 1, x5, x6 =>
    if (decide (x6 < a1)) then
      (M.Window_next (a2.1, a2.2) x5 a3).bind fun x8 =>
      if (!x8.2) then
        some (.inr ([], false))
      else
        (app x5 ([x8.1])).bind fun x9 =>
        M.ScheduleCalls_l1 a1 a2 a3 k x9 (w64 (x6 + 1))
    else
      some (.inl x5)

def M.ScheduleCalls (a1 : Int) (a2 : (Int × Int)) (a3 : Int) : Option ((List Int) × Bool) :=
  ((M.within a1 0 100).bind fun x2 =>
  if (!x2) then
    some true
  else
    (M.IsWindow (a2.1, a2.2)).bind fun x3 =>
    if (!x3) then
      some true
    else
      (M.isTime a3).bind fun x4 =>
      some (!x4)).bind fun x1 =>
  if x1 then
    some ([], false)
  else
    (M.ScheduleCalls_l1 a1 a2 a3 FUEL ([] : List Int) 0).bind fun o => match o with
      | .inl x7 =>
        some (x7, true)
      | .inr r => some r

def Q.markIntS_l1  : Nat → (List Int) → Int → Int → Option (((List Int) × Int))
  | 0, _, _, _ => none
  | k + 1, x1, x2, x3 =>
    if (decide (x3 < (List.length x1 : Int))) then
      (idx x1 x3).bind fun x6 =>
      Q.markIntS_l1 k (List.set x1 (Int.toNat x3) x2) (w64 (x2 + 1)) (w64 (x3 + 1))
    else
      some (x1, x2)

def Q.markIntS (a1 : (List Int)) (a2 : Int) : Option (Int × (List Int)) :=
  (Q.markIntS_l1 FUEL a1 a2 0).bind fun (x4, x5) =>
  some (x5, x4)

def Q.heldIntS_l1 (a1 : (List Int)) : Nat → Int → Int → Option (Sum Int Int)
  | 0, _, _ => none
  | k + 1, x1, x2 =>
    if (decide (x2 < (List.length a1 : Int))) then
      (idx a1 x2).bind fun x4 =>
      if (!decide (x4 = x1)) then
        some (.inr (-1))
      else
        Q.heldIntS_l1 a1 k (w64 (x1 + 1)) (w64 (x2 + 1))
    else
      some (.inl x1)

def Q.heldIntS (a1 : (List Int)) (a2 : Int) : Option Int :=
  (Q.heldIntS_l1 a1 FUEL a2 0).bind fun o => match o with
    | .inl x3 =>
      some x3
    | .inr r => some r

def Q.FnExactScheduleCalls (a1 : Int) (a2 : (Int × Int)) (a3 : Int) : Option Bool :=
  (Q.toWindow (a2.1, a2.2)).bind fun x1 =>
  (S.ScheduleCalls a1 x1 a3).bind fun x2 =>
  (Q.toWindow (a2.1, a2.2)).bind fun x3 =>
  (M.ScheduleCalls a1 x3 a3).bind fun x4 =>
  ((Q.eqIntS x4.1 x2.1).bind fun x6 =>
  if (!x6) then
    some true
  else
    some (!decide (x4.2 = x2.2))).bind fun x5 =>
  if x5 then
    some false
  else
    (Q.markIntS x4.1 1).bind fun x7 =>
    (Q.heldIntS x7.2 1).bind fun x8 =>
    if (decide (x8 < 0)) then
      some false
    else
      if (!decide (x8 = x7.1)) then
        some false
      else
        (Q.toWindow (a2.1, a2.2)).bind fun x9 =>
        (M.ScheduleCalls a1 x9 a3).bind fun x10 =>
        ((Q.eqIntS x10.1 x2.1).bind fun x12 =>
        if (!x12) then
          some true
        else
          some (!decide (x10.2 = x2.2))).bind fun x11 =>
        if x11 then
          some false
        else
          (Q.heldIntS x7.2 1).bind fun x13 =>
          if (decide (x13 < 0)) then
            some false
          else
            if (!decide (x13 = x7.1)) then
              some false
            else
              some true

def Q.toIntS_l1 (a1 : (List Int)) : Nat → (List Int) → Int → Option ((List Int))
  | 0, _, _ => none
  | k + 1, x2, x3 =>
    if (decide (x3 < (List.length a1 : Int))) then
      (idx a1 x3).bind fun x5 =>
      (idx x2 x3).bind fun x6 =>
      Q.toIntS_l1 a1 k (List.set x2 (Int.toNat x3) x5) (w64 (x3 + 1))
    else
      some x2

def Q.toIntS (a1 : (List Int)) : Option (List Int) :=
  (mk (List.length a1 : Int) (0 : Int)).bind fun x1 =>
  (Q.toIntS_l1 a1 FUEL x1 0).bind fun x4 =>
  some x4

def M.bit (a1 : Bool) : Option Int :=
  if a1 then
    some 1
  else
    some 0

def M.CallsIn_l1 (a1 : (List Int)) (a2 : Int) (a3 : Int) : Nat → Int → Int → Option (Int)
  | 0, _, _ => none
  | k + 1, x1, x2 =>
    if (decide (x2 < (List.length a1 : Int))) then
      (idx a1 x2).bind fun x4 =>
      (if (decide (0 ≤ a2)) then
        if (decide (a2 ≤ x4)) then
          (M.bit (decide ((w64 (x4 - a2)) < a3))).bind fun x6 =>
          some (w64 (x1 + x6))
        else
          (M.bit false).bind fun x7 =>
          some (w64 (x1 + x7))
      else
        (M.bit false).bind fun x8 =>
        some (w64 (x1 + x8))).bind fun x5 =>
      M.CallsIn_l1 a1 a2 a3 k x5 (w64 (x2 + 1))
    else
      some x1

def M.CallsIn (a1 : (List Int)) (a2 : Int) (a3 : Int) : Option Int :=
  (M.CallsIn_l1 a1 a2 a3 FUEL 0 0).bind fun x3 =>
  some x3

def M.IsKept_l1 (a1 : (List Int)) (a2 : (Int × Int)) : Nat → Int → Option (Sum Unit Bool)
  | 0, _ => none
  | k + 1, x3 =>
    if (decide (x3 < (List.length a1 : Int))) then
      (idx a1 x3).bind fun x4 =>
      ((M.isTime x4).bind fun x6 =>
      if (!x6) then
        some true
      else
        if (decide (0 < x3)) then
          (idx a1 (w64 (x3 - 1))).bind fun x7 =>
          if (decide (x4 < x7)) then
            some true
          else
            (M.CallsIn a1 x4 a2.1).bind fun x8 =>
            some (decide (a2.2 < x8))
        else
          (M.CallsIn a1 x4 a2.1).bind fun x9 =>
          some (decide (a2.2 < x9))).bind fun x5 =>
      if x5 then
        some (.inr false)
      else
        M.IsKept_l1 a1 a2 k (w64 (x3 + 1))
    else
      some (.inl ())

def M.IsKept (a1 : (List Int)) (a2 : (Int × Int)) : Option Bool :=
  (if (decide (1000 < (List.length a1 : Int))) then
    some true
  else
    (M.IsWindow (a2.1, a2.2)).bind fun x2 =>
    some (!x2)).bind fun x1 =>
  if x1 then
    some false
  else
    (M.IsKept_l1 a1 a2 FUEL 0).bind fun o => match o with
      | .inl () =>
        some true
      | .inr r => some r

def M.NextTime (a1 : (List Int)) (a2 : (Int × Int)) (a3 : Int) : Option (Int × Bool) :=
  ((M.IsKept a1 (a2.1, a2.2)).bind fun x2 =>
  if (!x2) then
    some true
  else
    (M.isTime a3).bind fun x3 =>
    some (!x3)).bind fun x1 =>
  if x1 then
    some (0, false)
  else
    (M.Window_next (a2.1, a2.2) a1 a3).bind fun x4 =>
    some (x4.1, x4.2)

def Q.FnExactNextTime (a1 : (List Int)) (a2 : (Int × Int)) (a3 : Int) : Option Bool :=
  if (decide (1048576 < (List.length a1 : Int))) then
    some true
  else
    (Q.toIntS a1).bind fun x1 =>
    (Q.toWindow (a2.1, a2.2)).bind fun x2 =>
    (S.NextTime x1 x2 a3).bind fun x3 =>
    (Q.toIntS a1).bind fun x4 =>
    (Q.toWindow (a2.1, a2.2)).bind fun x5 =>
    (M.NextTime x4 x5 a3).bind fun x6 =>
    (if (!decide (x6.1 = x3.1)) then
      some true
    else
      some (!decide (x6.2 = x3.2))).bind fun x7 =>
    if x7 then
      some false
    else
      (Q.toIntS a1).bind fun x8 =>
      (Q.eqIntS x4 x8).bind fun x9 =>
      if (!x9) then
        some false
      else
        some true

def Q.szIntS (a1 : (List Int)) (a2 : Int) : Option Int :=
  if (decide ((w64 (a2 - (List.length a1 : Int))) < 0)) then
    some (-1)
  else
    some (w64 (a2 - (List.length a1 : Int)))

def Q.szFact (a1 : (Int × (List Int))) (a2 : Int) : Option Int :=
  (Q.szIntS a1.2 a2).bind fun x1 =>
  if (decide (x1 < 0)) then
    some (-1)
  else
    some x1

def Q.szFactS_l1 (a1 : (List (Int × (List Int)))) : Nat → Int → Int → Option (Sum Int Int)
  | 0, _, _ => none
  | k + 1, x1, x2 =>
    if (decide (x2 < (List.length a1 : Int))) then
      (idx a1 x2).bind fun x4 =>
      (Q.szFact x4 x1).bind fun x5 =>
      if (decide (x5 < 0)) then
        some (.inr (-1))
      else
        Q.szFactS_l1 a1 k x5 (w64 (x2 + 1))
    else
      some (.inl x1)

def Q.szFactS (a1 : (List (Int × (List Int)))) (a2 : Int) : Option Int :=
  if (decide ((w64 (a2 - (List.length a1 : Int))) < 0)) then
    some (-1)
  else
    (Q.szFactS_l1 a1 FUEL (w64 (a2 - (List.length a1 : Int))) 0).bind fun o => match o with
      | .inl x3 =>
        some x3
      | .inr r => some r

def S.l2One (a1 : Int) (a2 : (List Int)) : Option (Int × (List Int)) :=
  (app ([] : List Int) a2).bind fun x1 =>
  some (a1, x1)

def S.l2Copy_l1 (a1 : (List (Int × (List Int)))) : Nat → (List (Int × (List Int))) → Int → Option ((List (Int × (List Int))))
  | 0, _, _ => none
  | k + 1, x1, x2 =>
    if (decide (x2 < (List.length a1 : Int))) then
      (idx a1 x2).bind fun x4 =>
      (idx a1 x2).bind fun x5 =>
      (S.l2One x4.1 x5.2).bind fun x6 =>
      (app x1 ([(x6.1, x6.2)])).bind fun x7 =>
      S.l2Copy_l1 a1 k x7 (w64 (x2 + 1))
    else
      some x1

def S.l2Copy (a1 : (List (Int × (List Int)))) : Option (List (Int × (List Int))) :=
  (S.l2Copy_l1 a1 FUEL ([] : List (Int × (List Int))) 0).bind fun x3 =>
  some x3

def S.PageAt (a1 : (List (Int × (List Int)))) (a2 : Int) (a3 : Int) : Option ((List (Int × (List Int))) × Int × Bool) :=
  ((S.l1In a3 1 9).bind fun x2 =>
  if (!x2) then
    some true
  else
    (S.l1In a2 0 (List.length a1 : Int)).bind fun x3 =>
    some (!x3)).bind fun x1 =>
  if x1 then
    some (([] : List (Int × (List Int))), 0, false)
  else
    (sub a1 a2 (if (w64 (a2 + a3)) < (List.length a1 : Int) then w64 (a2 + a3) else (List.length a1 : Int))).bind fun x4 =>
    (S.l2Copy x4).bind fun x5 =>
    some (x5, if (w64 (a2 + a3)) < (List.length a1 : Int) then w64 (a2 + a3) else (List.length a1 : Int), true)

def Q.toFact (a1 : (Int × (List Int))) : Option (Int × (List Int)) :=
  (Q.toIntS a1.2).bind fun x1 =>
  some (a1.1, x1)

def Q.toFactS_l1 (a1 : (List (Int × (List Int)))) : Nat → (List (Int × (List Int))) → Int → Option ((List (Int × (List Int))))
  | 0, _, _ => none
  | k + 1, x2, x3 =>
    if (decide (x3 < (List.length a1 : Int))) then
      (idx a1 x3).bind fun x5 =>
      (Q.toFact x5).bind fun x6 =>
      (idx x2 x3).bind fun x7 =>
      Q.toFactS_l1 a1 k (List.set x2 (Int.toNat x3) (x6.1, x6.2)) (w64 (x3 + 1))
    else
      some x2

def Q.toFactS (a1 : (List (Int × (List Int)))) : Option (List (Int × (List Int))) :=
  (mk (List.length a1 : Int) (0, [])).bind fun x1 =>
  (Q.toFactS_l1 a1 FUEL x1 0).bind fun x4 =>
  some x4

def M.isPage (a1 : Int) : Option Bool :=
  (M.within a1 1 9).bind fun x1 =>
  some x1

def Slices.Clone_Lint_int (a1 : (List Int)) : Option (List Int) :=
  (app ([] : List Int) a1).bind fun x1 =>
  some x1

def M.copyFact (a1 : (Int × (List Int))) : Option (Int × (List Int)) :=
  (Slices.Clone_Lint_int a1.2).bind fun x1 =>
  some (a1.1, x1)

def M.copyFacts_l1 (a1 : (List (Int × (List Int)))) : Nat → (List (Int × (List Int))) → Int → Option ((List (Int × (List Int))))
  | 0, _, _ => none
  | k + 1, x1, x2 =>
    if (decide (x2 < (List.length a1 : Int))) then
      (idx a1 x2).bind fun x4 =>
      (M.copyFact (x4.1, x4.2)).bind fun x5 =>
      (app x1 ([(x5.1, x5.2)])).bind fun x6 =>
      M.copyFacts_l1 a1 k x6 (w64 (x2 + 1))
    else
      some x1

def M.copyFacts (a1 : (List (Int × (List Int)))) : Option (List (Int × (List Int))) :=
  (M.copyFacts_l1 a1 FUEL ([] : List (Int × (List Int))) 0).bind fun x3 =>
  some x3

def M.PageAt (a1 : (List (Int × (List Int)))) (a2 : Int) (a3 : Int) : Option ((List (Int × (List Int))) × Int × Bool) :=
  ((M.isPage a3).bind fun x2 =>
  if (!x2) then
    some true
  else
    (M.within a2 0 (List.length a1 : Int)).bind fun x3 =>
    some (!x3)).bind fun x1 =>
  if x1 then
    some ([], 0, false)
  else
    (sub a1 a2 (if (w64 (a2 + a3)) < (List.length a1 : Int) then w64 (a2 + a3) else (List.length a1 : Int))).bind fun x4 =>
    (M.copyFacts x4).bind fun x5 =>
    some (x5, if (w64 (a2 + a3)) < (List.length a1 : Int) then w64 (a2 + a3) else (List.length a1 : Int), true)

def Q.eqFact (a1 : (Int × (List Int))) (a2 : (Int × (List Int))) : Option Bool :=
  if (!decide (a1.1 = a2.1)) then
    some false
  else
    (Q.eqIntS a1.2 a2.2).bind fun x1 =>
    if (!x1) then
      some false
    else
      some true

def Q.eqFactS_l1 (a1 : (List (Int × (List Int)))) (a2 : (List (Int × (List Int)))) : Nat → Int → Option (Sum Unit Bool)
  | 0, _ => none
  | k + 1, x1 =>
    if (decide (x1 < (List.length a1 : Int))) then
      (idx a1 x1).bind fun x2 =>
      (idx a2 x1).bind fun x3 =>
      (Q.eqFact x2 x3).bind fun x4 =>
      if (!x4) then
        some (.inr false)
      else
        Q.eqFactS_l1 a1 a2 k (w64 (x1 + 1))
    else
      some (.inl ())

def Q.eqFactS (a1 : (List (Int × (List Int)))) (a2 : (List (Int × (List Int)))) : Option Bool :=
  if (!decide ((List.length a1 : Int) = (List.length a2 : Int))) then
    some false
  else
    (Q.eqFactS_l1 a1 a2 FUEL 0).bind fun o => match o with
      | .inl () =>
        some true
      | .inr r => some r

def Q.markFactS_l1  : Nat → (List (Int × (List Int))) → Int → Int → Option (((List (Int × (List Int))) × Int))
  | 0, _, _, _ => none
  | k + 1, x1, x2, x3 =>
    if (decide (x3 < (List.length x1 : Int))) then
      (idx x1 x3).bind fun x6 =>
      (idx (List.set x1 (Int.toNat x3) (x2, x6.2)) x3).bind fun x7 =>
      (Q.markIntS x7.2 (w64 (x2 + 1))).bind fun x8 =>
      Q.markFactS_l1 k (List.set (List.set x1 (Int.toNat x3) (x2, x6.2)) (Int.toNat x3) (x7.1, x8.2)) x8.1 (w64 (x3 + 1))
    else
      some (x1, x2)

def Q.markFactS (a1 : (List (Int × (List Int)))) (a2 : Int) : Option (Int × (List (Int × (List Int)))) :=
  (Q.markFactS_l1 FUEL a1 a2 0).bind fun (x4, x5) =>
  some (x5, x4)

def Q.heldFactS_l1 (a1 : (List (Int × (List Int)))) : Nat → Int → Int → Option (Sum Int Int)
  | 0, _, _ => none
  | k + 1, x1, x2 =>
    if (decide (x2 < (List.length a1 : Int))) then
      (idx a1 x2).bind fun x4 =>
      if (!decide (x4.1 = x1)) then
        some (.inr (-1))
      else
        (idx a1 x2).bind fun x5 =>
        (Q.heldIntS x5.2 (w64 (x1 + 1))).bind fun x6 =>
        if (decide (x6 < 0)) then
          some (.inr (-1))
        else
          Q.heldFactS_l1 a1 k x6 (w64 (x2 + 1))
    else
      some (.inl x1)

def Q.heldFactS (a1 : (List (Int × (List Int)))) (a2 : Int) : Option Int :=
  (Q.heldFactS_l1 a1 FUEL a2 0).bind fun o => match o with
    | .inl x3 =>
      some x3
    | .inr r => some r

def Q.FnExactPageAt (a1 : (List (Int × (List Int)))) (a2 : Int) (a3 : Int) : Option Bool :=
  (Q.szFactS a1 1048576).bind fun x1 =>
  if (decide (x1 < 0)) then
    some true
  else
    (Q.toFactS a1).bind fun x2 =>
    (S.PageAt x2 a2 a3).bind fun x3 =>
    (Q.toFactS a1).bind fun x4 =>
    (M.PageAt x4 a2 a3).bind fun x5 =>
    ((Q.eqFactS x5.1 x3.1).bind fun x7 =>
    if (!x7) then
      some true
    else
      if (!decide (x5.2.1 = x3.2.1)) then
        some true
      else
        some (!decide (x5.2.2 = x3.2.2))).bind fun x6 =>
    if x6 then
      some false
    else
      (Q.toFactS a1).bind fun x8 =>
      (Q.eqFactS x4 x8).bind fun x9 =>
      if (!x9) then
        some false
      else
        (Q.markFactS x4 1).bind fun x10 =>
        (if (decide (x10.1 < 0)) then
          some true
        else
          (Q.eqFactS x5.1 x3.1).bind fun x12 =>
          if (!x12) then
            some true
          else
            if (!decide (x5.2.1 = x3.2.1)) then
              some true
            else
              some (!decide (x5.2.2 = x3.2.2))).bind fun x11 =>
        if x11 then
          some false
        else
          (Q.markFactS x5.1 1).bind fun x13 =>
          (Q.heldFactS x13.2 1).bind fun x14 =>
          if (decide (x14 < 0)) then
            some false
          else
            if (!decide (x14 = x13.1)) then
              some false
            else
              (Q.toFactS a1).bind fun x15 =>
              (M.PageAt x15 a2 a3).bind fun x16 =>
              ((Q.eqFactS x16.1 x3.1).bind fun x18 =>
              if (!x18) then
                some true
              else
                if (!decide (x16.2.1 = x3.2.1)) then
                  some true
                else
                  some (!decide (x16.2.2 = x3.2.2))).bind fun x17 =>
              if x17 then
                some false
              else
                (Q.heldFactS x13.2 1).bind fun x19 =>
                if (decide (x19 < 0)) then
                  some false
                else
                  if (!decide (x19 = x13.1)) then
                    some false
                  else
                    some true

end Go.Gx.Px
