/- The Go functions as pure Lean functions, printed by program. Conditions: none. -/
import Derived.Test.YtnjjpmilcajmkaaGxW
set_option linter.unusedVariables false
namespace Go.Gx.Px

def Q.toIntS_l1 (a1 : (List Int)) : Nat → (List Int) → Int → Option ((List Int))
  | 0, _, _ => none
  | k + 1, x2, x3 =>
    if (decide (x3 < (List.length a1 : Int))) then
      (idx a1 x3).bind fun x5 =>
      (idx x2 x3).bind fun x6 =>
      Q.toIntS_l1 a1 k (List.set x2 (Int.toNat x3) x5) (w64 (x3 + 1))
    else
      some x2

def Q.toIntS (a1 : (List Int)) : Option (List Int) :=
  (mk (List.length a1 : Int) (0 : Int)).bind fun x1 =>
  (Q.toIntS_l1 a1 FUEL x1 (0 : Int)).bind fun x4 =>
  some x4

def Q.eqIntS_l1 (a1 : (List Int)) (a2 : (List Int)) : Nat → Int → Option (Sum Unit Bool)
  | 0, _ => none
  | k + 1, x1 =>
    if (decide (x1 < (List.length a1 : Int))) then
      (idx a1 x1).bind fun x2 =>
      (idx a2 x1).bind fun x3 =>
      if (!decide (x2 = x3)) then
        some (.inr false)
      else
        Q.eqIntS_l1 a1 a2 k (w64 (x1 + 1))
    else
      some (.inl ())

def Q.eqIntS (a1 : (List Int)) (a2 : (List Int)) : Option Bool :=
  if (!decide ((List.length a1 : Int) = (List.length a2 : Int))) then
    some false
  else
    (Q.eqIntS_l1 a1 a2 FUEL (0 : Int)).bind fun o => match o with
      | .inl () =>
        some true
      | .inr r => some r

def Q.markIntS_l1  : Nat → (List Int) → Int → Int → Option (((List Int) × Int))
  | 0, _, _, _ => none
  | k + 1, x1, x2, x3 =>
    if (decide (x3 < (List.length x1 : Int))) then
      (idx x1 x3).bind fun x6 =>
      Q.markIntS_l1 k (List.set x1 (Int.toNat x3) x2) (w64 (x2 + 1)) (w64 (x3 + 1))
    else
      some (x1, x2)

def Q.markIntS (a1 : (List Int)) (a2 : Int) : Option (Int × (List Int)) :=
  (Q.markIntS_l1 FUEL a1 a2 (0 : Int)).bind fun (x4, x5) =>
  some (x5, x4)

def Q.szIntS (a1 : (List Int)) (a2 : Int) : Option Int :=
  if (decide ((w64 (a2 - (List.length a1 : Int))) < 0)) then
    some (-1)
  else
    some (w64 (a2 - (List.length a1 : Int)))

def Q.szFact (a1 : (Int × (List Int))) (a2 : Int) : Option Int :=
  (Q.szIntS a1.2 a2).bind fun x1 =>
  if (decide (x1 < 0)) then
    some (-1)
  else
    some x1

def Q.szFactS_l1 (a1 : (List (Int × (List Int)))) : Nat → Int → Int → Option (Sum Int Int)
  | 0, _, _ => none
  | k + 1, x1, x2 =>
    if (decide (x2 < (List.length a1 : Int))) then
      (idx a1 x2).bind fun x4 =>
      (Q.szFact x4 x1).bind fun x5 =>
      if (decide (x5 < 0)) then
        some (.inr (-1))
      else
        Q.szFactS_l1 a1 k x5 (w64 (x2 + 1))
    else
      some (.inl x1)

def Q.szFactS (a1 : (List (Int × (List Int)))) (a2 : Int) : Option Int :=
  if (decide ((w64 (a2 - (List.length a1 : Int))) < 0)) then
    some (-1)
  else
    (Q.szFactS_l1 a1 FUEL (w64 (a2 - (List.length a1 : Int))) (0 : Int)).bind fun o => match o with
      | .inl x3 =>
        some x3
      | .inr r => some r

def Q.szAccess (a1 : (Int × (List Int))) (a2 : Int) : Option Int :=
  (Q.szIntS a1.2 a2).bind fun x1 =>
  if (decide (x1 < 0)) then
    some (-1)
  else
    some x1

def Q.szTold (a1 : ((Int × (List Int)) × (List (Int × (List Int))))) (a2 : Int) : Option Int :=
  (Q.szAccess (a1.1.1, a1.1.2) a2).bind fun x1 =>
  if (decide (x1 < 0)) then
    some (-1)
  else
    (Q.szFactS a1.2 x1).bind fun x2 =>
    if (decide (x2 < 0)) then
      some (-1)
    else
      some x2

def Q.szToldS_l1 (a1 : (List ((Int × (List Int)) × (List (Int × (List Int)))))) : Nat → Int → Int → Option (Sum Int Int)
  | 0, _, _ => none
  | k + 1, x1, x2 =>
    if (decide (x2 < (List.length a1 : Int))) then
      (idx a1 x2).bind fun x4 =>
      (Q.szTold x4 x1).bind fun x5 =>
      if (decide (x5 < 0)) then
        some (.inr (-1))
      else
        Q.szToldS_l1 a1 k x5 (w64 (x2 + 1))
    else
      some (.inl x1)

def Q.szToldS (a1 : (List ((Int × (List Int)) × (List (Int × (List Int)))))) (a2 : Int) : Option Int :=
  if (decide ((w64 (a2 - (List.length a1 : Int))) < 0)) then
    some (-1)
  else
    (Q.szToldS_l1 a1 FUEL (w64 (a2 - (List.length a1 : Int))) (0 : Int)).bind fun o => match o with
      | .inl x3 =>
        some x3
      | .inr r => some r

def S.l2Has_l1 (a1 : (List Int)) (a2 : Int) : Nat → Int → Option (Sum Unit Bool)
  | 0, _ => none
  | k + 1, x1 =>
    if (decide (x1 < (List.length a1 : Int))) then
      (idx a1 x1).bind fun x2 =>
      if (decide (x2 = a2)) then
        some (.inr true)
      else
        S.l2Has_l1 a1 a2 k (w64 (x1 + 1))
    else
      some (.inl ())

def S.l2Has (a1 : (List Int)) (a2 : Int) : Option Bool :=
  (S.l2Has_l1 a1 a2 FUEL (0 : Int)).bind fun o => match o with
    | .inl () =>
      some false
    | .inr r => some r

def S.l8Access (a1 : Int) (a2 : (List Int)) : Option (Int × (List Int)) :=
  (app ([] : List Int) a2).bind fun x1 =>
  some (a1, x1)

def S.l2One (a1 : Int) (a2 : (List Int)) : Option (Int × (List Int)) :=
  (app ([] : List Int) a2).bind fun x1 =>
  some (a1, x1)

def S.l2Copy_l1 (a1 : (List (Int × (List Int)))) : Nat → (List (Int × (List Int))) → Int → Option ((List (Int × (List Int))))
  | 0, _, _ => none
  | k + 1, x1, x2 =>
    if (decide (x2 < (List.length a1 : Int))) then
      (idx a1 x2).bind fun x4 =>
      (idx a1 x2).bind fun x5 =>
      (S.l2One x4.1 x5.2).bind fun x6 =>
      (app x1 ([(x6.1, x6.2)])).bind fun x7 =>
      S.l2Copy_l1 a1 k x7 (w64 (x2 + 1))
    else
      some x1

def S.l2Copy (a1 : (List (Int × (List Int)))) : Option (List (Int × (List Int))) :=
  (S.l2Copy_l1 a1 FUEL ([] : List (Int × (List Int))) (0 : Int)).bind fun x3 =>
  some x3

def S.l29Told (a1 : ((Int × (List Int)) × (List (Int × (List Int))))) : Option ((Int × (List Int)) × (List (Int × (List Int)))) :=
  (S.l8Access a1.1.1 a1.1.2).bind fun x1 =>
  (S.l2Copy a1.2).bind fun x2 =>
  some ((x1.1, x1.2), x2)

def S.Without_l1 (a1 : (List ((Int × (List Int)) × (List (Int × (List Int)))))) (a2 : (List Int)) : Nat → (List ((Int × (List Int)) × (List (Int × (List Int))))) → Int → Option ((List ((Int × (List Int)) × (List (Int × (List Int))))))
  | 0, _, _ => none
  | k + 1, x1, x2 =>
    if (decide (x2 < (List.length a1 : Int))) then
      (S.l2Has a2 x2).bind fun x4 =>
      (if (!x4) then
        (idx a1 x2).bind fun x6 =>
        (S.l29Told x6).bind fun x7 =>
        (app x1 ([((x7.1.1, x7.1.2), x7.2)])).bind fun x8 =>
        some x8
      else
        some x1).bind fun x5 =>
      S.Without_l1 a1 a2 k x5 (w64 (x2 + 1))
    else
      some x1

def S.Without (a1 : (List ((Int × (List Int)) × (List (Int × (List Int)))))) (a2 : (List Int)) : Option (List ((Int × (List Int)) × (List (Int × (List Int))))) :=
  (S.Without_l1 a1 a2 FUEL ([] : List ((Int × (List Int)) × (List (Int × (List Int))))) (0 : Int)).bind fun x3 =>
  some x3

def Q.toFact (a1 : (Int × (List Int))) : Option (Int × (List Int)) :=
  (Q.toIntS a1.2).bind fun x1 =>
  some (a1.1, x1)

def Q.toFactS_l1 (a1 : (List (Int × (List Int)))) : Nat → (List (Int × (List Int))) → Int → Option ((List (Int × (List Int))))
  | 0, _, _ => none
  | k + 1, x2, x3 =>
    if (decide (x3 < (List.length a1 : Int))) then
      (idx a1 x3).bind fun x5 =>
      (Q.toFact x5).bind fun x6 =>
      (idx x2 x3).bind fun x7 =>
      Q.toFactS_l1 a1 k (List.set x2 (Int.toNat x3) (x6.1, x6.2)) (w64 (x3 + 1))
    else
      some x2

def Q.toFactS (a1 : (List (Int × (List Int)))) : Option (List (Int × (List Int))) :=
  (mk (List.length a1 : Int) (0, [])).bind fun x1 =>
  (Q.toFactS_l1 a1 FUEL x1 (0 : Int)).bind fun x4 =>
  some x4

def Q.toAccess (a1 : (Int × (List Int))) : Option (Int × (List Int)) :=
  (Q.toIntS a1.2).bind fun x1 =>
  some (a1.1, x1)

def Q.toTold (a1 : ((Int × (List Int)) × (List (Int × (List Int))))) : Option ((Int × (List Int)) × (List (Int × (List Int)))) :=
  (Q.toAccess (a1.1.1, a1.1.2)).bind fun x1 =>
  (Q.toFactS a1.2).bind fun x2 =>
  some ((x1.1, x1.2), x2)

def Q.toToldS_l1 (a1 : (List ((Int × (List Int)) × (List (Int × (List Int)))))) : Nat → (List ((Int × (List Int)) × (List (Int × (List Int))))) → Int → Option ((List ((Int × (List Int)) × (List (Int × (List Int))))))
  | 0, _, _ => none
  | k + 1, x2, x3 =>
    if (decide (x3 < (List.length a1 : Int))) then
      (idx a1 x3).bind fun x5 =>
      (Q.toTold x5).bind fun x6 =>
      (idx x2 x3).bind fun x7 =>
      Q.toToldS_l1 a1 k (List.set x2 (Int.toNat x3) ((x6.1.1, x6.1.2), x6.2)) (w64 (x3 + 1))
    else
      some x2

def Q.toToldS (a1 : (List ((Int × (List Int)) × (List (Int × (List Int)))))) : Option (List ((Int × (List Int)) × (List (Int × (List Int))))) :=
  (mk (List.length a1 : Int) ((0, []), [])).bind fun x1 =>
  (Q.toToldS_l1 a1 FUEL x1 (0 : Int)).bind fun x4 =>
  some x4

def Slices.Index_Lint_int_l1 (a1 : (List Int)) (a2 : Int) : Nat → Int → Option (Sum Unit Int)
  | 0, _ => none
  | k + 1, x1 =>
    if (decide (x1 < (List.length a1 : Int))) then
      (idx a1 x1).bind fun x2 =>
      if (decide (a2 = x2)) then
        some (.inr x1)
      else
        Slices.Index_Lint_int_l1 a1 a2 k (w64 (x1 + 1))
    else
      some (.inl ())

def Slices.Index_Lint_int (a1 : (List Int)) (a2 : Int) : Option Int :=
  (Slices.Index_Lint_int_l1 a1 a2 FUEL (0 : Int)).bind fun o => match o with
    | .inl () =>
      some (-1)
    | .inr r => some r

def Slices.Contains_Lint_int (a1 : (List Int)) (a2 : Int) : Option Bool :=
  (Slices.Index_Lint_int a1 a2).bind fun x1 =>
  some (decide (0 ≤ x1))

def Slices.Clone_Lint_int (a1 : (List Int)) : Option (List Int) :=
  (app ([] : List Int) a1).bind fun x1 =>
  some x1

def M.copyAccess (a1 : (Int × (List Int))) : Option (Int × (List Int)) :=
  (Slices.Clone_Lint_int a1.2).bind fun x1 =>
  some (a1.1, x1)

def M.copyFact (a1 : (Int × (List Int))) : Option (Int × (List Int)) :=
  (Slices.Clone_Lint_int a1.2).bind fun x1 =>
  some (a1.1, x1)

def M.copyFacts_l1 (a1 : (List (Int × (List Int)))) : Nat → (List (Int × (List Int))) → Int → Option ((List (Int × (List Int))))
  | 0, _, _ => none
  | k + 1, x1, x2 =>
    if (decide (x2 < (List.length a1 : Int))) then
      (idx a1 x2).bind fun x4 =>
      (M.copyFact (x4.1, x4.2)).bind fun x5 =>
      (app x1 ([(x5.1, x5.2)])).bind fun x6 =>
      M.copyFacts_l1 a1 k x6 (w64 (x2 + 1))
    else
      some x1

def M.copyFacts (a1 : (List (Int × (List Int)))) : Option (List (Int × (List Int))) :=
  (M.copyFacts_l1 a1 FUEL ([] : List (Int × (List Int))) (0 : Int)).bind fun x3 =>
  some x3

def M.copyTold (a1 : ((Int × (List Int)) × (List (Int × (List Int))))) : Option ((Int × (List Int)) × (List (Int × (List Int)))) :=
  (M.copyAccess (a1.1.1, a1.1.2)).bind fun x1 =>
  (M.copyFacts a1.2).bind fun x2 =>
  some ((x1.1, x1.2), x2)

def M.Without_l1 (a1 : (List ((Int × (List Int)) × (List (Int × (List Int)))))) (a2 : (List Int)) : Nat → (List ((Int × (List Int)) × (List (Int × (List Int))))) → Int → Option ((List ((Int × (List Int)) × (List (Int × (List Int))))))
  | 0, _, _ => none
  | k + 1, x1, x2 =>
    if (decide (x2 < (List.length a1 : Int))) then
      (idx a1 x2).bind fun x4 =>
      (Slices.Contains_Lint_int a2 x2).bind fun x5 =>
      (if (!x5) then
        (M.copyTold ((x4.1.1, x4.1.2), x4.2)).bind fun x7 =>
        (app x1 ([((x7.1.1, x7.1.2), x7.2)])).bind fun x8 =>
        some x8
      else
        some x1).bind fun x6 =>
      M.Without_l1 a1 a2 k x6 (w64 (x2 + 1))
    else
      some x1

def M.Without (a1 : (List ((Int × (List Int)) × (List (Int × (List Int)))))) (a2 : (List Int)) : Option (List ((Int × (List Int)) × (List (Int × (List Int))))) :=
  (M.Without_l1 a1 a2 FUEL ([] : List ((Int × (List Int)) × (List (Int × (List Int))))) (0 : Int)).bind fun x3 =>
  some x3

def Q.eqFact (a1 : (Int × (List Int))) (a2 : (Int × (List Int))) : Option Bool :=
  if (!decide (a1.1 = a2.1)) then
    some false
  else
    (Q.eqIntS a1.2 a2.2).bind fun x1 =>
    if (!x1) then
      some false
    else
      some true

def Q.eqFactS_l1 (a1 : (List (Int × (List Int)))) (a2 : (List (Int × (List Int)))) : Nat → Int → Option (Sum Unit Bool)
  | 0, _ => none
  | k + 1, x1 =>
    if (decide (x1 < (List.length a1 : Int))) then
      (idx a1 x1).bind fun x2 =>
      (idx a2 x1).bind fun x3 =>
      (Q.eqFact x2 x3).bind fun x4 =>
      if (!x4) then
        some (.inr false)
      else
        Q.eqFactS_l1 a1 a2 k (w64 (x1 + 1))
    else
      some (.inl ())

def Q.eqFactS (a1 : (List (Int × (List Int)))) (a2 : (List (Int × (List Int)))) : Option Bool :=
  if (!decide ((List.length a1 : Int) = (List.length a2 : Int))) then
    some false
  else
    (Q.eqFactS_l1 a1 a2 FUEL (0 : Int)).bind fun o => match o with
      | .inl () =>
        some true
      | .inr r => some r

def Q.eqAccess (a1 : (Int × (List Int))) (a2 : (Int × (List Int))) : Option Bool :=
  if (!decide (a1.1 = a2.1)) then
    some false
  else
    (Q.eqIntS a1.2 a2.2).bind fun x1 =>
    if (!x1) then
      some false
    else
      some true

def Q.eqTold (a1 : ((Int × (List Int)) × (List (Int × (List Int))))) (a2 : ((Int × (List Int)) × (List (Int × (List Int))))) : Option Bool :=
  (Q.eqAccess (a1.1.1, a1.1.2) (a2.1.1, a2.1.2)).bind fun x1 =>
  if (!x1) then
    some false
  else
    (Q.eqFactS a1.2 a2.2).bind fun x2 =>
    if (!x2) then
      some false
    else
      some true

def Q.eqToldS_l1 (a1 : (List ((Int × (List Int)) × (List (Int × (List Int)))))) (a2 : (List ((Int × (List Int)) × (List (Int × (List Int)))))) : Nat → Int → Option (Sum Unit Bool)
  | 0, _ => none
  | k + 1, x1 =>
    if (decide (x1 < (List.length a1 : Int))) then
      (idx a1 x1).bind fun x2 =>
      (idx a2 x1).bind fun x3 =>
      (Q.eqTold x2 x3).bind fun x4 =>
      if (!x4) then
        some (.inr false)
      else
        Q.eqToldS_l1 a1 a2 k (w64 (x1 + 1))
    else
      some (.inl ())

def Q.eqToldS (a1 : (List ((Int × (List Int)) × (List (Int × (List Int)))))) (a2 : (List ((Int × (List Int)) × (List (Int × (List Int)))))) : Option Bool :=
  if (!decide ((List.length a1 : Int) = (List.length a2 : Int))) then
    some false
  else
    (Q.eqToldS_l1 a1 a2 FUEL (0 : Int)).bind fun o => match o with
      | .inl () =>
        some true
      | .inr r => some r

def Q.markFactS_l1  : Nat → (List (Int × (List Int))) → Int → Int → Option (((List (Int × (List Int))) × Int))
  | 0, _, _, _ => none
  | k + 1, x1, x2, x3 =>
    if (decide (x3 < (List.length x1 : Int))) then
      (idx x1 x3).bind fun x6 =>
      (idx (List.set x1 (Int.toNat x3) (x2, x6.2)) x3).bind fun x7 =>
      (Q.markIntS x7.2 (w64 (x2 + 1))).bind fun x8 =>
      Q.markFactS_l1 k (List.set (List.set x1 (Int.toNat x3) (x2, x6.2)) (Int.toNat x3) (x7.1, x8.2)) x8.1 (w64 (x3 + 1))
    else
      some (x1, x2)

def Q.markFactS (a1 : (List (Int × (List Int)))) (a2 : Int) : Option (Int × (List (Int × (List Int)))) :=
  (Q.markFactS_l1 FUEL a1 a2 (0 : Int)).bind fun (x4, x5) =>
  some (x5, x4)

def Q.markToldS_l1  : Nat → (List ((Int × (List Int)) × (List (Int × (List Int))))) → Int → Int → Option (((List ((Int × (List Int)) × (List (Int × (List Int))))) × Int))
  | 0, _, _, _ => none
  | k + 1, x1, x2, x3 =>
    if (decide (x3 < (List.length x1 : Int))) then
      (idx x1 x3).bind fun x6 =>
      (idx (List.set x1 (Int.toNat x3) ((x2, x6.1.2), x6.2)) x3).bind fun x7 =>
      (Q.markIntS x7.1.2 (w64 (x2 + 1))).bind fun x8 =>
      (idx (List.set (List.set x1 (Int.toNat x3) ((x2, x6.1.2), x6.2)) (Int.toNat x3) ((x7.1.1, x8.2), x7.2)) x3).bind fun x9 =>
      (Q.markFactS x9.2 x8.1).bind fun x10 =>
      Q.markToldS_l1 k (List.set (List.set (List.set x1 (Int.toNat x3) ((x2, x6.1.2), x6.2)) (Int.toNat x3) ((x7.1.1, x8.2), x7.2)) (Int.toNat x3) ((x9.1.1, x9.1.2), x10.2)) x10.1 (w64 (x3 + 1))
    else
      some (x1, x2)

def Q.markToldS (a1 : (List ((Int × (List Int)) × (List (Int × (List Int)))))) (a2 : Int) : Option (Int × (List ((Int × (List Int)) × (List (Int × (List Int)))))) :=
  (Q.markToldS_l1 FUEL a1 a2 (0 : Int)).bind fun (x4, x5) =>
  some (x5, x4)

def Q.heldIntS_l1 (a1 : (List Int)) : Nat → Int → Int → Option (Sum Int Int)
  | 0, _, _ => none
  | k + 1, x1, x2 =>
    if (decide (x2 < (List.length a1 : Int))) then
      (idx a1 x2).bind fun x4 =>
      if (!decide (x4 = x1)) then
        some (.inr (-1))
      else
        Q.heldIntS_l1 a1 k (w64 (x1 + 1)) (w64 (x2 + 1))
    else
      some (.inl x1)

def Q.heldIntS (a1 : (List Int)) (a2 : Int) : Option Int :=
  (Q.heldIntS_l1 a1 FUEL a2 (0 : Int)).bind fun o => match o with
    | .inl x3 =>
      some x3
    | .inr r => some r

def Q.heldFactS_l1 (a1 : (List (Int × (List Int)))) : Nat → Int → Int → Option (Sum Int Int)
  | 0, _, _ => none
  | k + 1, x1, x2 =>
    if (decide (x2 < (List.length a1 : Int))) then
      (idx a1 x2).bind fun x4 =>
      if (!decide (x4.1 = x1)) then
        some (.inr (-1))
      else
        (idx a1 x2).bind fun x5 =>
        (Q.heldIntS x5.2 (w64 (x1 + 1))).bind fun x6 =>
        if (decide (x6 < 0)) then
          some (.inr (-1))
        else
          Q.heldFactS_l1 a1 k x6 (w64 (x2 + 1))
    else
      some (.inl x1)

def Q.heldFactS (a1 : (List (Int × (List Int)))) (a2 : Int) : Option Int :=
  (Q.heldFactS_l1 a1 FUEL a2 (0 : Int)).bind fun o => match o with
    | .inl x3 =>
      some x3
    | .inr r => some r

def Q.heldToldS_l1 (a1 : (List ((Int × (List Int)) × (List (Int × (List Int)))))) : Nat → Int → Int → Option (Sum Int Int)
  | 0, _, _ => none
  | k + 1, x1, x2 =>
    if (decide (x2 < (List.length a1 : Int))) then
      (idx a1 x2).bind fun x4 =>
      if (!decide (x4.1.1 = x1)) then
        some (.inr (-1))
      else
        (idx a1 x2).bind fun x5 =>
        (Q.heldIntS x5.1.2 (w64 (x1 + 1))).bind fun x6 =>
        if (decide (x6 < 0)) then
          some (.inr (-1))
        else
          (idx a1 x2).bind fun x7 =>
          (Q.heldFactS x7.2 x6).bind fun x8 =>
          if (decide (x8 < 0)) then
            some (.inr (-1))
          else
            Q.heldToldS_l1 a1 k x8 (w64 (x2 + 1))
    else
      some (.inl x1)

def Q.heldToldS (a1 : (List ((Int × (List Int)) × (List (Int × (List Int)))))) (a2 : Int) : Option Int :=
  (Q.heldToldS_l1 a1 FUEL a2 (0 : Int)).bind fun o => match o with
    | .inl x3 =>
      some x3
    | .inr r => some r

def Q.FnExactWithout (a1 : (List ((Int × (List Int)) × (List (Int × (List Int)))))) (a2 : (List Int)) : Option Bool :=
  if (decide (1048576 < (List.length a2 : Int))) then
    some true
  else
    (Q.szToldS a1 1048576).bind fun x1 =>
    if (decide (x1 < 0)) then
      some true
    else
      (Q.toToldS a1).bind fun x2 =>
      (Q.toIntS a2).bind fun x3 =>
      (S.Without x2 x3).bind fun x4 =>
      (Q.toToldS a1).bind fun x5 =>
      (Q.toIntS a2).bind fun x6 =>
      (M.Without x5 x6).bind fun x7 =>
      (Q.eqToldS x7 x4).bind fun x8 =>
      if (!x8) then
        some false
      else
        (Q.toToldS a1).bind fun x9 =>
        (Q.eqToldS x5 x9).bind fun x10 =>
        if (!x10) then
          some false
        else
          (Q.toIntS a2).bind fun x11 =>
          (Q.eqIntS x6 x11).bind fun x12 =>
          if (!x12) then
            some false
          else
            (Q.markToldS x5 1).bind fun x13 =>
            (Q.markIntS x6 x13.1).bind fun x14 =>
            (if (decide (x14.1 < 0)) then
              some true
            else
              (Q.eqToldS x7 x4).bind fun x16 =>
              some (!x16)).bind fun x15 =>
            if x15 then
              some false
            else
              (Q.markToldS x7 1).bind fun x17 =>
              (Q.heldToldS x17.2 1).bind fun x18 =>
              if (decide (x18 < 0)) then
                some false
              else
                if (!decide (x18 = x17.1)) then
                  some false
                else
                  (Q.toToldS a1).bind fun x19 =>
                  (Q.toIntS a2).bind fun x20 =>
                  (M.Without x19 x20).bind fun x21 =>
                  (Q.eqToldS x21 x4).bind fun x22 =>
                  if (!x22) then
                    some false
                  else
                    (Q.heldToldS x17.2 1).bind fun x23 =>
                    if (decide (x23 < 0)) then
                      some false
                    else
                      if (!decide (x23 = x17.1)) then
                        some false
                      else
                        some true

def Q.szSource (a1 : ((List (Int × (List Int))) × Int)) (a2 : Int) : Option Int :=
  (Q.szFactS a1.1 a2).bind fun x1 =>
  if (decide (x1 < 0)) then
    some (-1)
  else
    some x1

def S.l1In (a1 : Int) (a2 : Int) (a3 : Int) : Option Bool :=
  (if (decide (a2 ≤ a1)) then
    some (decide (a1 ≤ a3))
  else
    some false).bind fun x1 =>
  some x1

def S.IsSchema_l1 (a1 : (List Int)) : Nat → Int → Option (Sum Unit Bool)
  | 0, _ => none
  | k + 1, x1 =>
    if (decide (x1 < (List.length a1 : Int))) then
      (idx a1 x1).bind fun x2 =>
      (S.l1In x2 1 3).bind fun x3 =>
      if (!x3) then
        some (.inr false)
      else
        S.IsSchema_l1 a1 k (w64 (x1 + 1))
    else
      some (.inl ())

def S.IsSchema (a1 : (List Int)) : Option Bool :=
  (S.IsSchema_l1 a1 FUEL (0 : Int)).bind fun o => match o with
    | .inl () =>
      (S.l1In (List.length a1 : Int) 1 3).bind fun x4 =>
      some x4
    | .inr r => some r

def S.IsFact_l1 (a2 : (Int × (List Int))) : Nat → Int → Option (Sum Unit Bool)
  | 0, _ => none
  | k + 1, x5 =>
    if (decide (x5 < (List.length a2.2 : Int))) then
      (idx a2.2 x5).bind fun x6 =>
      (S.l1In x6 0 9).bind fun x7 =>
      if (!x7) then
        some (.inr false)
      else
        S.IsFact_l1 a2 k (w64 (x5 + 1))
    else
      some (.inl ())

def S.IsFact (a1 : (List Int)) (a2 : (Int × (List Int))) : Option Bool :=
  ((S.IsSchema a1).bind fun x2 =>
  if (!x2) then
    some true
  else
    (S.l1In a2.1 0 (w64 ((List.length a1 : Int) - 1))).bind fun x3 =>
    if (!x3) then
      some true
    else
      (idx a1 a2.1).bind fun x4 =>
      some (!decide ((List.length a2.2 : Int) = x4))).bind fun x1 =>
  if x1 then
    some false
  else
    (S.IsFact_l1 a2 FUEL (0 : Int)).bind fun o => match o with
      | .inl () =>
        some true
      | .inr r => some r

def S.CompareFacts_l1 (a1 : (Int × (List Int))) (a2 : (Int × (List Int))) : Nat → Int → Option (Sum Unit Int)
  | 0, _ => none
  | k + 1, x1 =>
    (if (decide (x1 < (List.length a1.2 : Int))) then
      some (decide (x1 < (List.length a2.2 : Int)))
    else
      some false).bind fun x2 =>
    if x2 then
      (idx a1.2 x1).bind fun x3 =>
      (idx a2.2 x1).bind fun x4 =>
      if (decide (x3 < x4)) then
        some (.inr (-1))
      else
        (idx a1.2 x1).bind fun x5 =>
        (idx a2.2 x1).bind fun x6 =>
        if (decide (x6 < x5)) then
          some (.inr 1)
        else
          S.CompareFacts_l1 a1 a2 k (w64 (x1 + 1))
    else
      some (.inl ())

def S.CompareFacts (a1 : (Int × (List Int))) (a2 : (Int × (List Int))) : Option Int :=
  if (!decide (a1.1 = a2.1)) then
    if (decide (a1.1 < a2.1)) then
      some (-1)
    else
      some 1
  else
    (S.CompareFacts_l1 a1 a2 FUEL (0 : Int)).bind fun o => match o with
      | .inl () =>
        if (decide ((List.length a1.2 : Int) < (List.length a2.2 : Int))) then
          some (-1)
        else
          if (decide ((List.length a2.2 : Int) < (List.length a1.2 : Int))) then
            some 1
          else
            some 0
      | .inr r => some r

def S.AreFacts_l1 (a2 : (List (Int × (List Int)))) (a1 : (List Int)) : Nat → Int → Option (Sum Unit Bool)
  | 0, _ => none
  | k + 1, x1 =>
    if (decide (x1 < (List.length a2 : Int))) then
      ((idx a2 x1).bind fun x3 =>
      (S.IsFact a1 x3).bind fun x4 =>
      if (!x4) then
        some true
      else
        if (decide (0 < x1)) then
          (idx a2 (w64 (x1 - 1))).bind fun x5 =>
          (idx a2 x1).bind fun x6 =>
          (S.CompareFacts x5 x6).bind fun x7 =>
          some (decide (0 ≤ x7))
        else
          some false).bind fun x2 =>
      if x2 then
        some (.inr false)
      else
        S.AreFacts_l1 a2 a1 k (w64 (x1 + 1))
    else
      some (.inl ())

def S.AreFacts (a1 : (List Int)) (a2 : (List (Int × (List Int)))) : Option Bool :=
  (S.AreFacts_l1 a2 a1 FUEL (0 : Int)).bind fun o => match o with
    | .inl () =>
      ((S.IsSchema a1).bind fun x9 =>
      if x9 then
        some (decide ((List.length a2 : Int) ≤ 24))
      else
        some false).bind fun x8 =>
      some x8
    | .inr r => some r

def S.IsSource (a1 : (List Int)) (a2 : ((List (Int × (List Int))) × Int)) : Option Bool :=
  ((S.AreFacts a1 a2.1).bind fun x2 =>
  if x2 then
    (S.l1In a2.2 0 1000).bind fun x3 =>
    some x3
  else
    some false).bind fun x1 =>
  some x1

def Q.toSource (a1 : ((List (Int × (List Int))) × Int)) : Option ((List (Int × (List Int))) × Int) :=
  (Q.toFactS a1.1).bind fun x1 =>
  some (x1, a1.2)

def M.within (a1 : Int) (a2 : Int) (a3 : Int) : Option Bool :=
  (if (decide (a2 ≤ a1)) then
    some (decide (a1 ≤ a3))
  else
    some false).bind fun x1 =>
  some x1

def M.isValue (a1 : Int) : Option Bool :=
  (M.within a1 0 9).bind fun x1 =>
  some x1

def M.areValues_c1 (a1 : Int) : Option Bool :=
  (M.isValue a1).bind fun x1 =>
  some (!x1)

def Slices.IndexFunc_Lint_int_M_areValues_c1_l1 (a1 : (List Int)) : Nat → Int → Option (Sum Unit Int)
  | 0, _ => none
  | k + 1, x1 =>
    if (decide (x1 < (List.length a1 : Int))) then
      (idx a1 x1).bind fun x2 =>
      (M.areValues_c1 x2).bind fun x3 =>
      if x3 then
        some (.inr x1)
      else
        Slices.IndexFunc_Lint_int_M_areValues_c1_l1 a1 k (w64 (x1 + 1))
    else
      some (.inl ())

def Slices.IndexFunc_Lint_int_M_areValues_c1 (a1 : (List Int)) : Option Int :=
  (Slices.IndexFunc_Lint_int_M_areValues_c1_l1 a1 FUEL (0 : Int)).bind fun o => match o with
    | .inl () =>
      some (-1)
    | .inr r => some r

def Slices.ContainsFunc_Lint_int_M_areValues_c1 (a1 : (List Int)) : Option Bool :=
  (Slices.IndexFunc_Lint_int_M_areValues_c1 a1).bind fun x1 =>
  some (decide (0 ≤ x1))

def M.areValues (a1 : (List Int)) : Option Bool :=
  (Slices.ContainsFunc_Lint_int_M_areValues_c1 a1).bind fun x1 =>
  some (!x1)

def M.IsSchema_c1 (a1 : Int) : Option Bool :=
  (M.within a1 1 3).bind fun x1 =>
  some (!x1)

def Slices.IndexFunc_Lint_int_M_IsSchema_c1_l1 (a1 : (List Int)) : Nat → Int → Option (Sum Unit Int)
  | 0, _ => none
  | k + 1, x1 =>
    if (decide (x1 < (List.length a1 : Int))) then
      (idx a1 x1).bind fun x2 =>
      (M.IsSchema_c1 x2).bind fun x3 =>
      if x3 then
        some (.inr x1)
      else
        Slices.IndexFunc_Lint_int_M_IsSchema_c1_l1 a1 k (w64 (x1 + 1))
    else
      some (.inl ())

def Slices.IndexFunc_Lint_int_M_IsSchema_c1 (a1 : (List Int)) : Option Int :=
  (Slices.IndexFunc_Lint_int_M_IsSchema_c1_l1 a1 FUEL (0 : Int)).bind fun o => match o with
    | .inl () =>
      some (-1)
    | .inr r => some r

def Slices.ContainsFunc_Lint_int_M_IsSchema_c1 (a1 : (List Int)) : Option Bool :=
  (Slices.IndexFunc_Lint_int_M_IsSchema_c1 a1).bind fun x1 =>
  some (decide (0 ≤ x1))

def M.IsSchema (a1 : (List Int)) : Option Bool :=
  ((M.within (List.length a1 : Int) 1 3).bind fun x2 =>
  if x2 then
    (Slices.ContainsFunc_Lint_int_M_IsSchema_c1 a1).bind fun x3 =>
    some (!x3)
  else
    some false).bind fun x1 =>
  some x1

def M.hasRel (a1 : (List Int)) (a2 : Int) : Option Bool :=
  ((M.IsSchema a1).bind fun x2 =>
  if x2 then
    (M.within a2 0 (w64 ((List.length a1 : Int) - 1))).bind fun x3 =>
    some x3
  else
    some false).bind fun x1 =>
  some x1

def M.IsFact (a1 : (List Int)) (a2 : (Int × (List Int))) : Option Bool :=
  ((M.hasRel a1 a2.1).bind fun x2 =>
  if x2 then
    (idx a1 a2.1).bind fun x3 =>
    if (decide ((List.length a2.2 : Int) = x3)) then
      (M.areValues a2.2).bind fun x4 =>
      some x4
    else
      some false
  else
    some false).bind fun x1 =>
  some x1

def Cmp.Or_int_l1 (a1 : (List Int)) : Nat → Int → Option (Sum Unit Int)
  | 0, _ => none
  | k + 1, x1 =>
    if (decide (x1 < (List.length a1 : Int))) then
      (idx a1 x1).bind fun x2 =>
      if (!decide (x2 = 0)) then
        some (.inr x2)
      else
        Cmp.Or_int_l1 a1 k (w64 (x1 + 1))
    else
      some (.inl ())

def Cmp.Or_int (a1 : (List Int)) : Option Int :=
  (Cmp.Or_int_l1 a1 FUEL (0 : Int)).bind fun o => match o with
    | .inl () =>
      some 0
    | .inr r => some r

def Cmp.isNaN_int (a1 : Int) : Option Bool :=
  some (!decide (a1 = a1))

def Cmp.Compare_int (a1 : Int) (a2 : Int) : Option Int :=
  (Cmp.isNaN_int a1).bind fun x1 =>
  (Cmp.isNaN_int a2).bind fun x2 =>
  if x1 then
    if x2 then
      some 0
    else
      some (-1)
  else
    if x2 then
      some 1
    else
      if (decide (a1 < a2)) then
        some (-1)
      else
        if (decide (a2 < a1)) then
          some 1
        else
          some 0

def Slices.Compare_Lint_int_l1 (a1 : (List Int)) (a2 : (List Int)) : Nat → Int → Option (Sum Unit Int)
  | 0, _ => none
  | k + 1, x1 =>
    if (decide (x1 < (List.length a1 : Int))) then
      (idx a1 x1).bind fun x2 =>
      if (decide ((List.length a2 : Int) ≤ x1)) then
        some (.inr 1)
      else
        (idx a2 x1).bind fun x3 =>
        (Cmp.Compare_int x2 x3).bind fun x4 =>
        if (!decide (x4 = 0)) then
          some (.inr x4)
        else
          Slices.Compare_Lint_int_l1 a1 a2 k (w64 (x1 + 1))
    else
      some (.inl ())

def Slices.Compare_Lint_int (a1 : (List Int)) (a2 : (List Int)) : Option Int :=
  (Slices.Compare_Lint_int_l1 a1 a2 FUEL (0 : Int)).bind fun o => match o with
    | .inl () =>
      if (decide ((List.length a1 : Int) < (List.length a2 : Int))) then
        some (-1)
      else
        some 0
    | .inr r => some r

def M.CompareFacts (a1 : (Int × (List Int))) (a2 : (Int × (List Int))) : Option Int :=
  (Cmp.Compare_int a1.1 a2.1).bind fun x1 =>
  (Slices.Compare_Lint_int a1.2 a2.2).bind fun x2 =>
  (Cmp.Or_int ([x1, x2])).bind fun x3 =>
  some x3

def M.AreFacts_l1 (a2 : (List (Int × (List Int)))) (a1 : (List Int)) : Nat → Int → Option (Sum Unit Bool)
  | 0, _ => none
  | k + 1, x1 =>
    if (decide (x1 < (List.length a2 : Int))) then
      (idx a2 x1).bind fun x2 =>
      ((M.IsFact a1 (x2.1, x2.2)).bind fun x4 =>
      if (!x4) then
        some true
      else
        if (decide (0 < x1)) then
          (idx a2 (w64 (x1 - 1))).bind fun x5 =>
          (M.CompareFacts x5 (x2.1, x2.2)).bind fun x6 =>
          some (decide (0 ≤ x6))
        else
          some false).bind fun x3 =>
      if x3 then
        some (.inr false)
      else
        M.AreFacts_l1 a2 a1 k (w64 (x1 + 1))
    else
      some (.inl ())

def M.AreFacts (a1 : (List Int)) (a2 : (List (Int × (List Int)))) : Option Bool :=
  (M.AreFacts_l1 a2 a1 FUEL (0 : Int)).bind fun o => match o with
    | .inl () =>
      ((M.IsSchema a1).bind fun x8 =>
      if x8 then
        some (decide ((List.length a2 : Int) ≤ 24))
      else
        some false).bind fun x7 =>
      some x7
    | .inr r => some r

def M.IsSource (a1 : (List Int)) (a2 : ((List (Int × (List Int))) × Int)) : Option Bool :=
  ((M.AreFacts a1 a2.1).bind fun x2 =>
  if x2 then
    (M.within a2.2 0 1000).bind fun x3 =>
    some x3
  else
    some false).bind fun x1 =>
  some x1

def Q.eqSource (a1 : ((List (Int × (List Int))) × Int)) (a2 : ((List (Int × (List Int))) × Int)) : Option Bool :=
  (Q.eqFactS a1.1 a2.1).bind fun x1 =>
  if (!x1) then
    some false
  else
    if (!decide (a1.2 = a2.2)) then
      some false
    else
      some true

def Q.FnExactIsSource (a1 : (List Int)) (a2 : ((List (Int × (List Int))) × Int)) : Option Bool :=
  if (decide (1048576 < (List.length a1 : Int))) then
    some true
  else
    (Q.szSource (a2.1, a2.2) 1048576).bind fun x1 =>
    if (decide (x1 < 0)) then
      some true
    else
      (Q.toIntS a1).bind fun x2 =>
      (Q.toSource (a2.1, a2.2)).bind fun x3 =>
      (S.IsSource x2 x3).bind fun x4 =>
      (Q.toIntS a1).bind fun x5 =>
      (Q.toSource (a2.1, a2.2)).bind fun x6 =>
      (M.IsSource x5 (x6.1, x6.2)).bind fun x7 =>
      if (!decide (x7 = x4)) then
        some false
      else
        (Q.toIntS a1).bind fun x8 =>
        (Q.eqIntS x5 x8).bind fun x9 =>
        if (!x9) then
          some false
        else
          (Q.toSource (a2.1, a2.2)).bind fun x10 =>
          (Q.eqSource (x6.1, x6.2) x10).bind fun x11 =>
          if (!x11) then
            some false
          else
            some true

end Go.Gx.Px
