/- The Go functions as pure Lean functions, printed by program. Conditions: none. -/
import Derived.Test.YtdkfiadoiapnbaaGreatGxHo
import Derived.Test.YtdkfiadoiapnbaaGreatGxSq
set_option linter.unusedVariables false
namespace Go.Gx.Px

def Q.szIntS (a1 : (List Int)) (a2 : Int) : Option Int :=
 if (decide ((w64 (a2 - (List.length a1 : Int))) < 0)) then
  some (-1)
 else
  some (w64 (a2 - (List.length a1 : Int)))

def Q.szMethod (a1 : (Int × (List Int) × Int × Int × Int)) (a2 : Int) : Option Int :=
 (Q.szIntS a1.2.1 a2).bind fun x1 =>
 if (decide (x1 < 0)) then
  some (-1)
 else
  some x1

def Q.szMethodS_l1 (a1 : (List (Int × (List Int) × Int × Int × Int))) : Nat → Int → Int → Option (Sum Int Int)
 | 0, _, _ => none
 | k + 1, x1, x2 =>
  if (decide (x2 < (List.length a1 : Int))) then
   (idx a1 x2).bind fun x4 =>
   (Q.szMethod x4 x1).bind fun x5 =>
   if (decide (x5 < 0)) then
    some (.inr (-1))
   else
    Q.szMethodS_l1 a1 k x5 (w64 (x2 + 1))
  else
   some (.inl x1)

def Q.szMethodS (a1 : (List (Int × (List Int) × Int × Int × Int))) (a2 : Int) : Option Int :=
 if (decide ((w64 (a2 - (List.length a1 : Int))) < 0)) then
  some (-1)
 else
  (Q.szMethodS_l1 a1 FUEL (w64 (a2 - (List.length a1 : Int))) (0 : Int)).bind fun o => match o with
   | .inl x3 =>
    some x3
   | .inr r => some r

def Q.szAtom (a1 : (Int × (List Int))) (a2 : Int) : Option Int :=
 (Q.szIntS a1.2 a2).bind fun x1 =>
 if (decide (x1 < 0)) then
  some (-1)
 else
  some x1

def Q.szAtomS_l1 (a1 : (List (Int × (List Int)))) : Nat → Int → Int → Option (Sum Int Int)
 | 0, _, _ => none
 | k + 1, x1, x2 =>
  if (decide (x2 < (List.length a1 : Int))) then
   (idx a1 x2).bind fun x4 =>
   (Q.szAtom x4 x1).bind fun x5 =>
   if (decide (x5 < 0)) then
    some (.inr (-1))
   else
    Q.szAtomS_l1 a1 k x5 (w64 (x2 + 1))
  else
   some (.inl x1)

def Q.szAtomS (a1 : (List (Int × (List Int)))) (a2 : Int) : Option Int :=
 if (decide ((w64 (a2 - (List.length a1 : Int))) < 0)) then
  some (-1)
 else
  (Q.szAtomS_l1 a1 FUEL (w64 (a2 - (List.length a1 : Int))) (0 : Int)).bind fun o => match o with
   | .inl x3 =>
    some x3
   | .inr r => some r

def Q.szQuery (a1 : ((List Int) × (List (Int × (List Int))))) (a2 : Int) : Option Int :=
 (Q.szIntS a1.1 a2).bind fun x1 =>
 if (decide (x1 < 0)) then
  some (-1)
 else
  (Q.szAtomS a1.2 x1).bind fun x2 =>
  if (decide (x2 < 0)) then
   some (-1)
  else
   some x2

def Q.toIntS_l1 (a1 : (List Int)) : Nat → (List Int) → Int → Option ((List Int))
 | 0, _, _ => none
 | k + 1, x2, x3 =>
  if (decide (x3 < (List.length a1 : Int))) then
   (idx a1 x3).bind fun x5 =>
   (idx x2 x3).bind fun x6 =>
   Q.toIntS_l1 a1 k (List.set x2 (Int.toNat x3) x5) (w64 (x3 + 1))
  else
   some x2

def Q.toIntS (a1 : (List Int)) : Option (List Int) :=
 (mk (List.length a1 : Int) (0 : Int)).bind fun x1 =>
 (Q.toIntS_l1 a1 FUEL x1 (0 : Int)).bind fun x4 =>
 some x4

def Q.toMethod (a1 : (Int × (List Int) × Int × Int × Int)) : Option (Int × (List Int) × Int × Int × Int) :=
 (Q.toIntS a1.2.1).bind fun x1 =>
 some (a1.1, x1, a1.2.2.1, a1.2.2.2.1, a1.2.2.2.2)

def Q.toMethodS_l1 (a1 : (List (Int × (List Int) × Int × Int × Int))) : Nat → (List (Int × (List Int) × Int × Int × Int)) → Int → Option ((List (Int × (List Int) × Int × Int × Int)))
 | 0, _, _ => none
 | k + 1, x2, x3 =>
  if (decide (x3 < (List.length a1 : Int))) then
   (idx a1 x3).bind fun x5 =>
   (Q.toMethod x5).bind fun x6 =>
   (idx x2 x3).bind fun x7 =>
   Q.toMethodS_l1 a1 k (List.set x2 (Int.toNat x3) (x6.1, x6.2.1, x6.2.2.1, x6.2.2.2.1, x6.2.2.2.2)) (w64 (x3 + 1))
  else
   some x2

def Q.toMethodS (a1 : (List (Int × (List Int) × Int × Int × Int))) : Option (List (Int × (List Int) × Int × Int × Int)) :=
 (mk (List.length a1 : Int) (0, [], 0, 0, 0)).bind fun x1 =>
 (Q.toMethodS_l1 a1 FUEL x1 (0 : Int)).bind fun x4 =>
 some x4

def Q.toAtom (a1 : (Int × (List Int))) : Option (Int × (List Int)) :=
 (Q.toIntS a1.2).bind fun x1 =>
 some (a1.1, x1)

def Q.toAtomS_l1 (a1 : (List (Int × (List Int)))) : Nat → (List (Int × (List Int))) → Int → Option ((List (Int × (List Int))))
 | 0, _, _ => none
 | k + 1, x2, x3 =>
  if (decide (x3 < (List.length a1 : Int))) then
   (idx a1 x3).bind fun x5 =>
   (Q.toAtom x5).bind fun x6 =>
   (idx x2 x3).bind fun x7 =>
   Q.toAtomS_l1 a1 k (List.set x2 (Int.toNat x3) (x6.1, x6.2)) (w64 (x3 + 1))
  else
   some x2

def Q.toAtomS (a1 : (List (Int × (List Int)))) : Option (List (Int × (List Int))) :=
 (mk (List.length a1 : Int) (0, [])).bind fun x1 =>
 (Q.toAtomS_l1 a1 FUEL x1 (0 : Int)).bind fun x4 =>
 some x4

def Q.toQuery (a1 : ((List Int) × (List (Int × (List Int))))) : Option ((List Int) × (List (Int × (List Int)))) :=
 (Q.toIntS a1.1).bind fun x1 =>
 (Q.toAtomS a1.2).bind fun x2 =>
 some (x1, x2)

def Q.eqIntS_l1 (a1 : (List Int)) (a2 : (List Int)) : Nat → Int → Option (Sum Unit Bool)
 | 0, _ => none
 | k + 1, x1 =>
  if (decide (x1 < (List.length a1 : Int))) then
   (idx a1 x1).bind fun x2 =>
   (idx a2 x1).bind fun x3 =>
   if (!decide (x2 = x3)) then
    some (.inr false)
   else
    Q.eqIntS_l1 a1 a2 k (w64 (x1 + 1))
  else
   some (.inl ())

def Q.eqIntS (a1 : (List Int)) (a2 : (List Int)) : Option Bool :=
 if (!decide ((List.length a1 : Int) = (List.length a2 : Int))) then
  some false
 else
  (Q.eqIntS_l1 a1 a2 FUEL (0 : Int)).bind fun o => match o with
   | .inl () =>
    some true
   | .inr r => some r

def Q.eqMethod (a1 : (Int × (List Int) × Int × Int × Int)) (a2 : (Int × (List Int) × Int × Int × Int)) : Option Bool :=
 if (!decide (a1.1 = a2.1)) then
  some false
 else
  (Q.eqIntS a1.2.1 a2.2.1).bind fun x1 =>
  if (!x1) then
   some false
  else
   if (!decide (a1.2.2.1 = a2.2.2.1)) then
    some false
   else
    if (!decide (a1.2.2.2.1 = a2.2.2.2.1)) then
     some false
    else
     if (!decide (a1.2.2.2.2 = a2.2.2.2.2)) then
      some false
     else
      some true

def Q.eqMethodS_l1 (a1 : (List (Int × (List Int) × Int × Int × Int))) (a2 : (List (Int × (List Int) × Int × Int × Int))) : Nat → Int → Option (Sum Unit Bool)
 | 0, _ => none
 | k + 1, x1 =>
  if (decide (x1 < (List.length a1 : Int))) then
   (idx a1 x1).bind fun x2 =>
   (idx a2 x1).bind fun x3 =>
   (Q.eqMethod x2 x3).bind fun x4 =>
   if (!x4) then
    some (.inr false)
   else
    Q.eqMethodS_l1 a1 a2 k (w64 (x1 + 1))
  else
   some (.inl ())

def Q.eqMethodS (a1 : (List (Int × (List Int) × Int × Int × Int))) (a2 : (List (Int × (List Int) × Int × Int × Int))) : Option Bool :=
 if (!decide ((List.length a1 : Int) = (List.length a2 : Int))) then
  some false
 else
  (Q.eqMethodS_l1 a1 a2 FUEL (0 : Int)).bind fun o => match o with
   | .inl () =>
    some true
   | .inr r => some r

def Q.eqAtom (a1 : (Int × (List Int))) (a2 : (Int × (List Int))) : Option Bool :=
 if (!decide (a1.1 = a2.1)) then
  some false
 else
  (Q.eqIntS a1.2 a2.2).bind fun x1 =>
  if (!x1) then
   some false
  else
   some true

def Q.eqAtomS_l1 (a1 : (List (Int × (List Int)))) (a2 : (List (Int × (List Int)))) : Nat → Int → Option (Sum Unit Bool)
 | 0, _ => none
 | k + 1, x1 =>
  if (decide (x1 < (List.length a1 : Int))) then
   (idx a1 x1).bind fun x2 =>
   (idx a2 x1).bind fun x3 =>
   (Q.eqAtom x2 x3).bind fun x4 =>
   if (!x4) then
    some (.inr false)
   else
    Q.eqAtomS_l1 a1 a2 k (w64 (x1 + 1))
  else
   some (.inl ())

def Q.eqAtomS (a1 : (List (Int × (List Int)))) (a2 : (List (Int × (List Int)))) : Option Bool :=
 if (!decide ((List.length a1 : Int) = (List.length a2 : Int))) then
  some false
 else
  (Q.eqAtomS_l1 a1 a2 FUEL (0 : Int)).bind fun o => match o with
   | .inl () =>
    some true
   | .inr r => some r

def Q.eqQuery (a1 : ((List Int) × (List (Int × (List Int))))) (a2 : ((List Int) × (List (Int × (List Int))))) : Option Bool :=
 (Q.eqIntS a1.1 a2.1).bind fun x1 =>
 if (!x1) then
  some false
 else
  (Q.eqAtomS a1.2 a2.2).bind fun x2 =>
  if (!x2) then
   some false
  else
   some true

def Q.markIntS_l1  : Nat → (List Int) → Int → Int → Option (((List Int) × Int))
 | 0, _, _, _ => none
 | k + 1, x1, x2, x3 =>
  if (decide (x3 < (List.length x1 : Int))) then
   (idx x1 x3).bind fun x6 =>
   Q.markIntS_l1 k (List.set x1 (Int.toNat x3) x2) (w64 (x2 + 1)) (w64 (x3 + 1))
  else
   some (x1, x2)

def Q.markIntS (a1 : (List Int)) (a2 : Int) : Option (Int × (List Int)) :=
 (Q.markIntS_l1 FUEL a1 a2 (0 : Int)).bind fun (x4, x5) =>
 some (x5, x4)

def Q.markMethodS_l1  : Nat → (List (Int × (List Int) × Int × Int × Int)) → Int → Int → Option (((List (Int × (List Int) × Int × Int × Int)) × Int))
 | 0, _, _, _ => none
 | k + 1, x1, x2, x3 =>
  if (decide (x3 < (List.length x1 : Int))) then
   (idx x1 x3).bind fun x6 =>
   (idx (List.set x1 (Int.toNat x3) (x2, x6.2.1, x6.2.2.1, x6.2.2.2.1, x6.2.2.2.2)) x3).bind fun x7 =>
   (Q.markIntS x7.2.1 (w64 (x2 + 1))).bind fun x8 =>
   (idx (List.set (List.set x1 (Int.toNat x3) (x2, x6.2.1, x6.2.2.1, x6.2.2.2.1, x6.2.2.2.2)) (Int.toNat x3) (x7.1, x8.2, x7.2.2.1, x7.2.2.2.1, x7.2.2.2.2)) x3).bind fun x9 =>
   (idx (List.set (List.set (List.set x1 (Int.toNat x3) (x2, x6.2.1, x6.2.2.1, x6.2.2.2.1, x6.2.2.2.2)) (Int.toNat x3) (x7.1, x8.2, x7.2.2.1, x7.2.2.2.1, x7.2.2.2.2)) (Int.toNat x3) (x9.1, x9.2.1, x8.1, x9.2.2.2.1, x9.2.2.2.2)) x3).bind fun x10 =>
   (idx (List.set (List.set (List.set (List.set x1 (Int.toNat x3) (x2, x6.2.1, x6.2.2.1, x6.2.2.2.1, x6.2.2.2.2)) (Int.toNat x3) (x7.1, x8.2, x7.2.2.1, x7.2.2.2.1, x7.2.2.2.2)) (Int.toNat x3) (x9.1, x9.2.1, x8.1, x9.2.2.2.1, x9.2.2.2.2)) (Int.toNat x3) (x10.1, x10.2.1, x10.2.2.1, w64 (x8.1 + 1), x10.2.2.2.2)) x3).bind fun x11 =>
   Q.markMethodS_l1 k (List.set (List.set (List.set (List.set (List.set x1 (Int.toNat x3) (x2, x6.2.1, x6.2.2.1, x6.2.2.2.1, x6.2.2.2.2)) (Int.toNat x3) (x7.1, x8.2, x7.2.2.1, x7.2.2.2.1, x7.2.2.2.2)) (Int.toNat x3) (x9.1, x9.2.1, x8.1, x9.2.2.2.1, x9.2.2.2.2)) (Int.toNat x3) (x10.1, x10.2.1, x10.2.2.1, w64 (x8.1 + 1), x10.2.2.2.2)) (Int.toNat x3) (x11.1, x11.2.1, x11.2.2.1, x11.2.2.2.1, w64 ((w64 (x8.1 + 1)) + 1))) (w64 ((w64 ((w64 (x8.1 + 1)) + 1)) + 1)) (w64 (x3 + 1))
  else
   some (x1, x2)

def Q.markMethodS (a1 : (List (Int × (List Int) × Int × Int × Int))) (a2 : Int) : Option (Int × (List (Int × (List Int) × Int × Int × Int))) :=
 (Q.markMethodS_l1 FUEL a1 a2 (0 : Int)).bind fun (x4, x5) =>
 some (x5, x4)

def Q.markAtomS_l1  : Nat → (List (Int × (List Int))) → Int → Int → Option (((List (Int × (List Int))) × Int))
 | 0, _, _, _ => none
 | k + 1, x1, x2, x3 =>
  if (decide (x3 < (List.length x1 : Int))) then
   (idx x1 x3).bind fun x6 =>
   (idx (List.set x1 (Int.toNat x3) (x2, x6.2)) x3).bind fun x7 =>
   (Q.markIntS x7.2 (w64 (x2 + 1))).bind fun x8 =>
   Q.markAtomS_l1 k (List.set (List.set x1 (Int.toNat x3) (x2, x6.2)) (Int.toNat x3) (x7.1, x8.2)) x8.1 (w64 (x3 + 1))
  else
   some (x1, x2)

def Q.markAtomS (a1 : (List (Int × (List Int)))) (a2 : Int) : Option (Int × (List (Int × (List Int)))) :=
 (Q.markAtomS_l1 FUEL a1 a2 (0 : Int)).bind fun (x4, x5) =>
 some (x5, x4)

def Q.markQuery (a1 : ((List Int) × (List (Int × (List Int))))) (a2 : Int) : Option (Int × ((List Int) × (List (Int × (List Int))))) :=
 (Q.markIntS a1.1 a2).bind fun x1 =>
 (Q.markAtomS a1.2 x1.1).bind fun x2 =>
 some (x2.1, (x1.2, x2.2))

def S.l2Has_l1 (a1 : (List Int)) (a2 : Int) : Nat → Int → Option (Sum Unit Bool)
 | 0, _ => none
 | k + 1, x1 =>
  if (decide (x1 < (List.length a1 : Int))) then
   (idx a1 x1).bind fun x2 =>
   if (decide (x2 = a2)) then
    some (.inr true)
   else
    S.l2Has_l1 a1 a2 k (w64 (x1 + 1))
  else
   some (.inl ())

def S.l2Has (a1 : (List Int)) (a2 : Int) : Option Bool :=
 (S.l2Has_l1 a1 a2 FUEL (0 : Int)).bind fun o => match o with
  | .inl () =>
   some false
  | .inr r => some r

def S.l30Meets_l1 (a1 : (List Int)) (a2 : (List Int)) : Nat → Int → Option (Sum Unit Bool)
 | 0, _ => none
 | k + 1, x1 =>
  if (decide (x1 < (List.length a1 : Int))) then
   (idx a1 x1).bind fun x2 =>
   (S.l2Has a2 x2).bind fun x3 =>
   if x3 then
    some (.inr true)
   else
    S.l30Meets_l1 a1 a2 k (w64 (x1 + 1))
  else
   some (.inl ())

def S.l30Meets (a1 : (List Int)) (a2 : (List Int)) : Option Bool :=
 (S.l30Meets_l1 a1 a2 FUEL (0 : Int)).bind fun o => match o with
  | .inl () =>
   some false
  | .inr r => some r

def S.l1In (a1 : Int) (a2 : Int) (a3 : Int) : Option Bool :=
 (if (decide (a2 ≤ a1)) then
  some (decide (a1 ≤ a3))
 else
  some false).bind fun x1 =>
 some x1

def S.IsSchema_l1 (a1 : (List Int)) : Nat → Int → Option (Sum Unit Bool)
 | 0, _ => none
 | k + 1, x1 =>
  if (decide (x1 < (List.length a1 : Int))) then
   (idx a1 x1).bind fun x2 =>
   (S.l1In x2 1 3).bind fun x3 =>
   if (!x3) then
    some (.inr false)
   else
    S.IsSchema_l1 a1 k (w64 (x1 + 1))
  else
   some (.inl ())

def S.IsSchema (a1 : (List Int)) : Option Bool :=
 (S.IsSchema_l1 a1 FUEL (0 : Int)).bind fun o => match o with
  | .inl () =>
   (S.l1In (List.length a1 : Int) 1 3).bind fun x4 =>
   some x4
  | .inr r => some r

def S.IsMethod_l1 (a2 : (Int × (List Int) × Int × Int × Int)) (a1 : (List Int)) : Nat → Int → Option (Sum Unit Bool)
 | 0, _ => none
 | k + 1, x7 =>
  if (decide (x7 < (List.length a2.2.1 : Int))) then
   ((idx a2.2.1 x7).bind fun x9 =>
   (idx a1 a2.1).bind fun x10 =>
   (S.l1In x9 0 (w64 (x10 - 1))).bind fun x11 =>
   if (!x11) then
    some true
   else
    if (decide (0 < x7)) then
     (idx a2.2.1 x7).bind fun x12 =>
     (idx a2.2.1 (w64 (x7 - 1))).bind fun x13 =>
     some (decide (x12 ≤ x13))
    else
     some false).bind fun x8 =>
   if x8 then
    some (.inr false)
   else
    S.IsMethod_l1 a2 a1 k (w64 (x7 + 1))
  else
   some (.inl ())

def S.IsMethod (a1 : (List Int)) (a2 : (Int × (List Int) × Int × Int × Int)) : Option Bool :=
 ((S.IsSchema a1).bind fun x2 =>
 if (!x2) then
  some true
 else
  (S.l1In a2.1 0 (w64 ((List.length a1 : Int) - 1))).bind fun x3 =>
  if (!x3) then
   some true
  else
   (S.l1In a2.2.2.1 0 9).bind fun x4 =>
   if (!x4) then
    some true
   else
    (S.l1In a2.2.2.2.1 0 99).bind fun x5 =>
    if (!x5) then
     some true
    else
     (S.l1In a2.2.2.2.2 1 99).bind fun x6 =>
     some (!x6)).bind fun x1 =>
 if x1 then
  some false
 else
  (S.IsMethod_l1 a2 a1 FUEL (0 : Int)).bind fun o => match o with
   | .inl () =>
    some true
   | .inr r => some r

def S.AreMethods_l1 (a2 : (List (Int × (List Int) × Int × Int × Int))) (a1 : (List Int)) : Nat → Int → Option (Sum Unit Bool)
 | 0, _ => none
 | k + 1, x1 =>
  if (decide (x1 < (List.length a2 : Int))) then
   (idx a2 x1).bind fun x2 =>
   (S.IsMethod a1 x2).bind fun x3 =>
   if (!x3) then
    some (.inr false)
   else
    S.AreMethods_l1 a2 a1 k (w64 (x1 + 1))
  else
   some (.inl ())

def S.AreMethods (a1 : (List Int)) (a2 : (List (Int × (List Int) × Int × Int × Int))) : Option Bool :=
 (S.AreMethods_l1 a2 a1 FUEL (0 : Int)).bind fun o => match o with
  | .inl () =>
   ((S.IsSchema a1).bind fun x5 =>
   if x5 then
    some (decide ((List.length a2 : Int) ≤ 5))
   else
    some false).bind fun x4 =>
   some x4
  | .inr r => some r

def S.IsVar (a1 : Int) : Option Bool :=
 (S.l1In a1 10 17).bind fun x1 =>
 some x1

def S.IsTerm (a1 : Int) : Option Bool :=
 ((S.l1In a1 0 9).bind fun x2 =>
 if x2 then
  some true
 else
  (S.IsVar a1).bind fun x3 =>
  some x3).bind fun x1 =>
 some x1

def S.IsAtom_l1 (a2 : (Int × (List Int))) : Nat → Int → Option (Sum Unit Bool)
 | 0, _ => none
 | k + 1, x5 =>
  if (decide (x5 < (List.length a2.2 : Int))) then
   (idx a2.2 x5).bind fun x6 =>
   (S.IsTerm x6).bind fun x7 =>
   if (!x7) then
    some (.inr false)
   else
    S.IsAtom_l1 a2 k (w64 (x5 + 1))
  else
   some (.inl ())

def S.IsAtom (a1 : (List Int)) (a2 : (Int × (List Int))) : Option Bool :=
 ((S.IsSchema a1).bind fun x2 =>
 if (!x2) then
  some true
 else
  (S.l1In a2.1 0 (w64 ((List.length a1 : Int) - 1))).bind fun x3 =>
  if (!x3) then
   some true
  else
   (idx a1 a2.1).bind fun x4 =>
   some (!decide ((List.length a2.2 : Int) = x4))).bind fun x1 =>
 if x1 then
  some false
 else
  (S.IsAtom_l1 a2 FUEL (0 : Int)).bind fun o => match o with
   | .inl () =>
    some true
   | .inr r => some r

def S.l3Put_l1 (a1 : (List Int)) (a2 : Int) : Nat → (List Int) → Bool → Int → Option (((List Int) × Bool))
 | 0, _, _, _ => none
 | k + 1, x2, x3, x4 =>
  if (decide (x4 < (List.length a1 : Int))) then
   (if (!x3) then
    (idx a1 x4).bind fun x8 =>
    some (decide (a2 < x8))
   else
    some false).bind fun x7 =>
   (if x7 then
    (app x2 ([a2])).bind fun x11 =>
    some (x11, true)
   else
    some (x2, x3)).bind fun (x9, x10) =>
   (idx a1 x4).bind fun x12 =>
   (app x9 ([x12])).bind fun x13 =>
   S.l3Put_l1 a1 a2 k x13 x10 (w64 (x4 + 1))
  else
   some (x2, x3)

def S.l3Put (a1 : (List Int)) (a2 : Int) : Option (List Int) :=
 (S.l2Has a1 a2).bind fun x1 =>
 if x1 then
  some a1
 else
  (S.l3Put_l1 a1 a2 FUEL ([] : List Int) false (0 : Int)).bind fun (x5, x6) =>
  (if (!x6) then
   (app x5 ([a2])).bind fun x15 =>
   some x15
  else
   some x5).bind fun x14 =>
  some x14

def S.VarsOf_l2 (a1 : ((List Int) × (List (Int × (List Int))))) (x2 : Int) : Nat → (List Int) → Int → Option ((List Int))
 | 0, _, _ => none
 | k + 1, x4, x5 =>
  (idx a1.2 x2).bind fun x7 =>
  if (decide (x5 < (List.length x7.2 : Int))) then
   (idx a1.2 x2).bind fun x8 =>
   (idx x8.2 x5).bind fun x9 =>
   (S.IsVar x9).bind fun x10 =>
   (if x10 then
    (idx a1.2 x2).bind fun x12 =>
    (idx x12.2 x5).bind fun x13 =>
    (S.l3Put x4 x13).bind fun x14 =>
    some x14
   else
    some x4).bind fun x11 =>
   S.VarsOf_l2 a1 x2 k x11 (w64 (x5 + 1))
  else
   some x4

def S.VarsOf_l1 (a1 : ((List Int) × (List (Int × (List Int))))) : Nat → (List Int) → Int → Option ((List Int))
 | 0, _, _ => none
 | k + 1, x1, x2 =>
  if (decide (x2 < (List.length a1.2 : Int))) then
   (S.VarsOf_l2 a1 x2 FUEL x1 (0 : Int)).bind fun x6 =>
   S.VarsOf_l1 a1 k x6 (w64 (x2 + 1))
  else
   some x1

def S.VarsOf (a1 : ((List Int) × (List (Int × (List Int))))) : Option (List Int) :=
 (S.VarsOf_l1 a1 FUEL ([] : List Int) (0 : Int)).bind fun x3 =>
 some x3

def S.IsQuery_l2 (a2 : ((List Int) × (List (Int × (List Int))))) (x4 : (List Int)) : Nat → Int → Option (Sum Unit Bool)
 | 0, _ => none
 | k + 1, x5 =>
  if (decide (x5 < (List.length a2.1 : Int))) then
   (idx a2.1 x5).bind fun x6 =>
   (S.l2Has x4 x6).bind fun x7 =>
   if (!x7) then
    some (.inr false)
   else
    S.IsQuery_l2 a2 x4 k (w64 (x5 + 1))
  else
   some (.inl ())

def S.IsQuery_l1 (a2 : ((List Int) × (List (Int × (List Int))))) (a1 : (List Int)) : Nat → Int → Option (Sum Unit Bool)
 | 0, _ => none
 | k + 1, x1 =>
  if (decide (x1 < (List.length a2.2 : Int))) then
   (idx a2.2 x1).bind fun x2 =>
   (S.IsAtom a1 x2).bind fun x3 =>
   if (!x3) then
    some (.inr false)
   else
    S.IsQuery_l1 a2 a1 k (w64 (x1 + 1))
  else
   some (.inl ())

def S.IsQuery (a1 : (List Int)) (a2 : ((List Int) × (List (Int × (List Int))))) : Option Bool :=
 (S.IsQuery_l1 a2 a1 FUEL (0 : Int)).bind fun o => match o with
  | .inl () =>
   (S.VarsOf (a2.1, a2.2)).bind fun x4 =>
   (S.IsQuery_l2 a2 x4 FUEL (0 : Int)).bind fun o => match o with
    | .inl () =>
     ((S.IsSchema a1).bind fun x9 =>
     if x9 then
      (S.l1In (List.length a2.2 : Int) 1 4).bind fun x10 =>
      if x10 then
       some (decide ((List.length a2.1 : Int) ≤ 3))
      else
       some false
     else
      some false).bind fun x8 =>
     some x8
    | .inr r => some r
  | .inr r => some r

def S.l6Fine (a1 : (List Int)) (a2 : (List (Int × (List Int) × Int × Int × Int))) (a3 : ((List Int) × (List (Int × (List Int))))) : Option Bool :=
 ((S.AreMethods a1 a2).bind fun x2 =>
 if x2 then
  (S.IsQuery a1 (a3.1, a3.2)).bind fun x3 =>
  some x3
 else
  some false).bind fun x1 =>
 some x1

def S.CanCall_l1 (a1 : (Int × (List Int) × Int × Int × Int)) (a2 : (Int × (List Int))) (a3 : (List Int)) : Nat → Int → Option (Sum Unit Bool)
 | 0, _ => none
 | k + 1, x1 =>
  if (decide (x1 < (List.length a1.2.1 : Int))) then
   (idx a1.2.1 x1).bind fun x2 =>
   (S.l1In x2 0 (w64 ((List.length a2.2 : Int) - 1))).bind fun x3 =>
   if (!x3) then
    some (.inr false)
   else
    (idx a1.2.1 x1).bind fun x4 =>
    (idx a2.2 x4).bind fun x5 =>
    ((S.IsVar x5).bind fun x7 =>
    if x7 then
     (S.l2Has a3 x5).bind fun x8 =>
     some (!x8)
    else
     some false).bind fun x6 =>
    if x6 then
     some (.inr false)
    else
     S.CanCall_l1 a1 a2 a3 k (w64 (x1 + 1))
  else
   some (.inl ())

def S.CanCall (a1 : (Int × (List Int) × Int × Int × Int)) (a2 : (Int × (List Int))) (a3 : (List Int)) : Option Bool :=
 if (!decide (a1.1 = a2.1)) then
  some false
 else
  (S.CanCall_l1 a1 a2 a3 FUEL (0 : Int)).bind fun o => match o with
   | .inl () =>
    some true
   | .inr r => some r

def S.l30Passed_l1 (a1 : (Int × (List Int) × Int × Int × Int)) (a2 : (Int × (List Int))) : Nat → (List Int) → Int → Option ((List Int))
 | 0, _, _ => none
 | k + 1, x1, x2 =>
  if (decide (x2 < (List.length a1.2.1 : Int))) then
   ((idx a1.2.1 x2).bind fun x5 =>
   (S.l1In x5 0 (w64 ((List.length a2.2 : Int) - 1))).bind fun x6 =>
   if x6 then
    (idx a1.2.1 x2).bind fun x7 =>
    (idx a2.2 x7).bind fun x8 =>
    (S.l1In x8 0 9).bind fun x9 =>
    some x9
   else
    some false).bind fun x4 =>
   (if x4 then
    (idx a1.2.1 x2).bind fun x11 =>
    (idx a2.2 x11).bind fun x12 =>
    (S.l3Put x1 x12).bind fun x13 =>
    some x13
   else
    some x1).bind fun x10 =>
   S.l30Passed_l1 a1 a2 k x10 (w64 (x2 + 1))
  else
   some x1

def S.l30Passed (a1 : (Int × (List Int) × Int × Int × Int)) (a2 : (Int × (List Int))) : Option (List Int) :=
 (S.l30Passed_l1 a1 a2 FUEL ([] : List Int) (0 : Int)).bind fun x3 =>
 some x3

def S.l6Bind_l1 (a2 : (Int × (List Int))) : Nat → (List Int) → Int → Option ((List Int))
 | 0, _, _ => none
 | k + 1, x2, x3 =>
  if (decide (x3 < (List.length a2.2 : Int))) then
   (idx a2.2 x3).bind fun x5 =>
   (S.IsVar x5).bind fun x6 =>
   (if x6 then
    (idx a2.2 x3).bind fun x8 =>
    (S.l3Put x2 x8).bind fun x9 =>
    some x9
   else
    some x2).bind fun x7 =>
   S.l6Bind_l1 a2 k x7 (w64 (x3 + 1))
  else
   some x2

def S.l6Bind (a1 : (List Int)) (a2 : (Int × (List Int))) : Option (List Int) :=
 (app ([] : List Int) a1).bind fun x1 =>
 (S.l6Bind_l1 a2 FUEL x1 (0 : Int)).bind fun x4 =>
 some x4

def S.FindPrivateOrder_l3 (a2 : (List (Int × (List Int) × Int × Int × Int))) (x11 : Int) (a3 : ((List Int) × (List (Int × (List Int))))) (a4 : (List Int)) : Nat → (List (Int × Int)) → (List Int) → (List Int) → Bool → Int → Option (((List (Int × Int)) × (List Int) × (List Int) × Bool))
 | 0, _, _, _, _, _ => none
 | k + 1, x17, x18, x19, x20, x21 =>
  (if (decide (x21 < (List.length a2 : Int))) then
   if (!x20) then
    (S.l2Has x19 x11).bind fun x27 =>
    some (!x27)
   else
    some false
  else
   some false).bind fun x26 =>
  if x26 then
   ((idx a2 x21).bind fun x29 =>
   (idx a3.2 x11).bind fun x30 =>
   (S.CanCall x29 x30 x18).bind fun x31 =>
   if x31 then
    (idx a2 x21).bind fun x32 =>
    (idx a3.2 x11).bind fun x33 =>
    (S.l30Passed x32 x33).bind fun x34 =>
    (S.l30Meets x34 a4).bind fun x35 =>
    some (!x35)
   else
    some false).bind fun x28 =>
   (if x28 then
    (app x17 ([(x11, x21)])).bind fun x40 =>
    (app x19 ([x11])).bind fun x41 =>
    (idx a3.2 x11).bind fun x42 =>
    (S.l6Bind x18 x42).bind fun x43 =>
    some (x40, x43, x41, true)
   else
    some (x17, x18, x19, x20)).bind fun (x36, x37, x38, x39) =>
   S.FindPrivateOrder_l3 a2 x11 a3 a4 k x36 x37 x38 x39 (w64 (x21 + 1))
  else
   some (x17, x18, x19, x20)

def S.FindPrivateOrder_l2 (a3 : ((List Int) × (List (Int × (List Int))))) (a2 : (List (Int × (List Int) × Int × Int × Int))) (a4 : (List Int)) : Nat → (List (Int × Int)) → (List Int) → (List Int) → Bool → Int → Option (((List (Int × Int)) × (List Int) × (List Int) × Bool))
 | 0, _, _, _, _, _ => none
 | k + 1, x7, x8, x9, x10, x11 =>
  (if (decide (x11 < (List.length a3.2 : Int))) then
   some (!x10)
  else
   some false).bind fun x16 =>
  if x16 then
   (S.FindPrivateOrder_l3 a2 x11 a3 a4 FUEL x7 x8 x9 x10 (0 : Int)).bind fun (x22, x23, x24, x25) =>
   S.FindPrivateOrder_l2 a3 a2 a4 k x22 x23 x24 x25 (w64 (x11 + 1))
  else
   some (x7, x8, x9, x10)

def S.FindPrivateOrder_l1 (a3 : ((List Int) × (List (Int × (List Int))))) (a2 : (List (Int × (List Int) × Int × Int × Int))) (a4 : (List Int)) : Nat → (List (Int × Int)) → (List Int) → (List Int) → Int → Option (Sum (List (Int × Int)) ((List (Int × Int)) × Bool))
 | 0, _, _, _, _ => none
 | k + 1, x2, x3, x4, x5 =>
  if (decide (x5 < (List.length a3.2 : Int))) then
   (S.FindPrivateOrder_l2 a3 a2 a4 FUEL x2 x3 x4 false (0 : Int)).bind fun (x12, x13, x14, x15) =>
   if (!x15) then
    some (.inr (([] : List (Int × Int)), false))
   else
    S.FindPrivateOrder_l1 a3 a2 a4 k x12 x13 x14 (w64 (x5 + 1))
  else
   some (.inl x2)

def S.FindPrivateOrder (a1 : (List Int)) (a2 : (List (Int × (List Int) × Int × Int × Int))) (a3 : ((List Int) × (List (Int × (List Int))))) (a4 : (List Int)) : Option ((List (Int × Int)) × Bool) :=
 (S.l6Fine a1 a2 (a3.1, a3.2)).bind fun x1 =>
 if (!x1) then
  some (([] : List (Int × Int)), false)
 else
  (S.FindPrivateOrder_l1 a3 a2 a4 FUEL ([] : List (Int × Int)) ([] : List Int) ([] : List Int) (0 : Int)).bind fun o => match o with
   | .inl x6 =>
    some (x6, true)
   | .inr r => some r

def S.ConstantsOf_l2 (a1 : ((List Int) × (List (Int × (List Int))))) (x2 : Int) : Nat → (List Int) → Int → Option ((List Int))
 | 0, _, _ => none
 | k + 1, x4, x5 =>
  (idx a1.2 x2).bind fun x7 =>
  if (decide (x5 < (List.length x7.2 : Int))) then
   (idx a1.2 x2).bind fun x8 =>
   (idx x8.2 x5).bind fun x9 =>
   (S.l1In x9 0 9).bind fun x10 =>
   (if x10 then
    (idx a1.2 x2).bind fun x12 =>
    (idx x12.2 x5).bind fun x13 =>
    (S.l3Put x4 x13).bind fun x14 =>
    some x14
   else
    some x4).bind fun x11 =>
   S.ConstantsOf_l2 a1 x2 k x11 (w64 (x5 + 1))
  else
   some x4

def S.ConstantsOf_l1 (a1 : ((List Int) × (List (Int × (List Int))))) : Nat → (List Int) → Int → Option ((List Int))
 | 0, _, _ => none
 | k + 1, x1, x2 =>
  if (decide (x2 < (List.length a1.2 : Int))) then
   (S.ConstantsOf_l2 a1 x2 FUEL x1 (0 : Int)).bind fun x6 =>
   S.ConstantsOf_l1 a1 k x6 (w64 (x2 + 1))
  else
   some x1

def S.ConstantsOf (a1 : ((List Int) × (List (Int × (List Int))))) : Option (List Int) :=
 (S.ConstantsOf_l1 a1 FUEL ([] : List Int) (0 : Int)).bind fun x3 =>
 some x3

def S.l4Less_l1 (a1 : (List Int)) (a2 : (List Int)) : Nat → Int → Option (Sum Unit Bool)
 | 0, _ => none
 | k + 1, x1 =>
  (if (decide (x1 < (List.length a1 : Int))) then
   some (decide (x1 < (List.length a2 : Int)))
  else
   some false).bind fun x2 =>
  if x2 then
   (idx a1 x1).bind fun x3 =>
   (idx a2 x1).bind fun x4 =>
   if (!decide (x3 = x4)) then
    (idx a1 x1).bind fun x5 =>
    (idx a2 x1).bind fun x6 =>
    some (.inr (decide (x5 < x6)))
   else
    S.l4Less_l1 a1 a2 k (w64 (x1 + 1))
  else
   some (.inl ())

def S.l4Less (a1 : (List Int)) (a2 : (List Int)) : Option Bool :=
 (S.l4Less_l1 a1 a2 FUEL (0 : Int)).bind fun o => match o with
  | .inl () =>
   some (decide ((List.length a1 : Int) < (List.length a2 : Int)))
  | .inr r => some r

def S.l15Less (a1 : (List Int)) (a2 : (List Int)) : Option Bool :=
 if (!decide ((List.length a1 : Int) = (List.length a2 : Int))) then
  some (decide ((List.length a1 : Int) < (List.length a2 : Int)))
 else
  (S.l4Less a1 a2).bind fun x1 =>
  some x1

def S.LeastDisclosure_l2 (x1 : (List Int)) (a4 : (List Int)) (x6 : Int) : Nat → (List Int) → (List Int) → Int → Option (((List Int) × (List Int)))
 | 0, _, _, _ => none
 | k + 1, x9, x10, x11 =>
  if (decide (x11 < (List.length x1 : Int))) then
   (idx x1 x11).bind fun x14 =>
   (S.l2Has a4 x14).bind fun x15 =>
   if (!x15) then
    S.LeastDisclosure_l2 x1 a4 x6 k x9 x10 (w64 (x11 + 1))
   else
    (nn x11).bind fun _ =>
    (if (decide ((band (shr x6 x11) 1) = 1)) then
     (idx x1 x11).bind fun x18 =>
     (app x9 ([x18])).bind fun x19 =>
     some (x19, x10)
    else
     (idx x1 x11).bind fun x20 =>
     (app x10 ([x20])).bind fun x21 =>
     some (x9, x21)).bind fun (x16, x17) =>
    S.LeastDisclosure_l2 x1 a4 x6 k x16 x17 (w64 (x11 + 1))
  else
   some (x9, x10)

def S.LeastDisclosure_l1 (x1 : (List Int)) (a4 : (List Int)) (a1 : (List Int)) (a2 : (List (Int × (List Int) × Int × Int × Int))) (a3 : ((List Int) × (List (Int × (List Int))))) : Nat → (List Int) → Bool → Int → Option (((List Int) × Bool))
 | 0, _, _, _ => none
 | k + 1, x4, x5, x6 =>
  (nn (List.length x1 : Int)).bind fun _ =>
  if (decide (x6 < (shl 1 (List.length x1 : Int)))) then
   (S.LeastDisclosure_l2 x1 a4 x6 FUEL ([] : List Int) ([] : List Int) (0 : Int)).bind fun (x12, x13) =>
   (if x5 then
    (S.l15Less x12 x4).bind fun x23 =>
    some (!x23)
   else
    some false).bind fun x22 =>
   if x22 then
    S.LeastDisclosure_l1 x1 a4 a1 a2 a3 k x4 x5 (w64 (x6 + 1))
   else
    (S.FindPrivateOrder a1 a2 (a3.1, a3.2) x13).bind fun x24 =>
    (if x24.2 then
     some (x12, true)
    else
     some (x4, x5)).bind fun (x25, x26) =>
    S.LeastDisclosure_l1 x1 a4 a1 a2 a3 k x25 x26 (w64 (x6 + 1))
  else
   some (x4, x5)

def S.LeastDisclosure (a1 : (List Int)) (a2 : (List (Int × (List Int) × Int × Int × Int))) (a3 : ((List Int) × (List (Int × (List Int))))) (a4 : (List Int)) : Option ((List Int) × Bool) :=
 (S.ConstantsOf (a3.1, a3.2)).bind fun x1 =>
 ((S.l6Fine a1 a2 (a3.1, a3.2)).bind fun x3 =>
 if (!x3) then
  some true
 else
  some (decide (8 < (List.length x1 : Int)))).bind fun x2 =>
 if x2 then
  some (([] : List Int), false)
 else
  (S.LeastDisclosure_l1 x1 a4 a1 a2 a3 FUEL ([] : List Int) false (0 : Int)).bind fun (x7, x8) =>
  some (x7, x8)

def M.within (a1 : Int) (a2 : Int) (a3 : Int) : Option Bool :=
 (if (decide (a2 ≤ a1)) then
  some (decide (a1 ≤ a3))
 else
  some false).bind fun x1 =>
 some x1

def M.IsSchema_c1 (a1 : Int) : Option Bool :=
 (M.within a1 1 3).bind fun x1 =>
 some (!x1)

def Slices.IndexFunc_Lint_int_M_IsSchema_c1_l1 (a1 : (List Int)) : Nat → Int → Option (Sum Unit Int)
 | 0, _ => none
 | k + 1, x1 =>
  if (decide (x1 < (List.length a1 : Int))) then
   (idx a1 x1).bind fun x2 =>
   (M.IsSchema_c1 x2).bind fun x3 =>
   if x3 then
    some (.inr x1)
   else
    Slices.IndexFunc_Lint_int_M_IsSchema_c1_l1 a1 k (w64 (x1 + 1))
  else
   some (.inl ())

def Slices.IndexFunc_Lint_int_M_IsSchema_c1 (a1 : (List Int)) : Option Int :=
 (Slices.IndexFunc_Lint_int_M_IsSchema_c1_l1 a1 FUEL (0 : Int)).bind fun o => match o with
  | .inl () =>
   some (-1)
  | .inr r => some r

def Slices.ContainsFunc_Lint_int_M_IsSchema_c1 (a1 : (List Int)) : Option Bool :=
 (Slices.IndexFunc_Lint_int_M_IsSchema_c1 a1).bind fun x1 =>
 some (decide (0 ≤ x1))

def M.IsSchema (a1 : (List Int)) : Option Bool :=
 ((M.within (List.length a1 : Int) 1 3).bind fun x2 =>
 if x2 then
  (Slices.ContainsFunc_Lint_int_M_IsSchema_c1 a1).bind fun x3 =>
  some (!x3)
 else
  some false).bind fun x1 =>
 some x1

def M.hasRel (a1 : (List Int)) (a2 : Int) : Option Bool :=
 ((M.IsSchema a1).bind fun x2 =>
 if x2 then
  (M.within a2 0 (w64 ((List.length a1 : Int) - 1))).bind fun x3 =>
  some x3
 else
  some false).bind fun x1 =>
 some x1

def M.ascending_l1 (a1 : (List Int)) : Nat → Int → Option (Sum Unit Bool)
 | 0, _ => none
 | k + 1, x1 =>
  if (decide (x1 < (List.length a1 : Int))) then
   (if (decide (0 < x1)) then
    (idx a1 x1).bind fun x3 =>
    (idx a1 (w64 (x1 - 1))).bind fun x4 =>
    some (decide (x3 ≤ x4))
   else
    some false).bind fun x2 =>
   if x2 then
    some (.inr false)
   else
    M.ascending_l1 a1 k (w64 (x1 + 1))
  else
   some (.inl ())

def M.ascending (a1 : (List Int)) : Option Bool :=
 (M.ascending_l1 a1 FUEL (0 : Int)).bind fun o => match o with
  | .inl () =>
   some true
  | .inr r => some r

def M.Method_fits_c1 (a1 : Int) (ax1 : Int) : Option Bool :=
 (M.within a1 0 (w64 (ax1 - 1))).bind fun x1 =>
 some (!x1)

def M.isCost (a1 : Int) : Option Bool :=
 (M.within a1 0 99).bind fun x1 =>
 some x1

def Slices.IndexFunc_Lint_int_M_Method_fits_c1_l1 (a1 : (List Int)) (ax1 : Int) : Nat → Int → Option (Sum Unit Int)
 | 0, _ => none
 | k + 1, x1 =>
  if (decide (x1 < (List.length a1 : Int))) then
   (idx a1 x1).bind fun x2 =>
   (M.Method_fits_c1 x2 ax1).bind fun x3 =>
   if x3 then
    some (.inr x1)
   else
    Slices.IndexFunc_Lint_int_M_Method_fits_c1_l1 a1 ax1 k (w64 (x1 + 1))
  else
   some (.inl ())

def Slices.IndexFunc_Lint_int_M_Method_fits_c1 (a1 : (List Int)) (ax1 : Int) : Option Int :=
 (Slices.IndexFunc_Lint_int_M_Method_fits_c1_l1 a1 ax1 FUEL (0 : Int)).bind fun o => match o with
  | .inl () =>
   some (-1)
  | .inr r => some r

def Slices.ContainsFunc_Lint_int_M_Method_fits_c1 (a1 : (List Int)) (ax1 : Int) : Option Bool :=
 (Slices.IndexFunc_Lint_int_M_Method_fits_c1 a1 ax1).bind fun x1 =>
 some (decide (0 ≤ x1))

def M.Method_fits (a1 : (Int × (List Int) × Int × Int × Int)) (a2 : Int) : Option Bool :=
 ((M.ascending a1.2.1).bind fun x2 =>
 if x2 then
  (Slices.ContainsFunc_Lint_int_M_Method_fits_c1 a1.2.1 a2).bind fun x3 =>
  if (!x3) then
   (M.within a1.2.2.1 0 9).bind fun x4 =>
   if x4 then
    (M.isCost a1.2.2.2.1).bind fun x5 =>
    if x5 then
     (M.within a1.2.2.2.2 1 99).bind fun x6 =>
     some x6
    else
     some false
   else
    some false
  else
   some false
 else
  some false).bind fun x1 =>
 some x1

def M.IsMethod (a1 : (List Int)) (a2 : (Int × (List Int) × Int × Int × Int)) : Option Bool :=
 ((M.hasRel a1 a2.1).bind fun x2 =>
 if x2 then
  (idx a1 a2.1).bind fun x3 =>
  (M.Method_fits (a2.1, a2.2.1, a2.2.2.1, a2.2.2.2.1, a2.2.2.2.2) x3).bind fun x4 =>
  some x4
 else
  some false).bind fun x1 =>
 some x1

def M.AreMethods_c1 (a1 : (Int × (List Int) × Int × Int × Int)) (ax1 : (List Int)) : Option Bool :=
 (M.IsMethod ax1 (a1.1, a1.2.1, a1.2.2.1, a1.2.2.2.1, a1.2.2.2.2)).bind fun x1 =>
 some (!x1)

def Slices.IndexFunc_Limpl_Method_impl_Method_M_AreMethods_c1_l1 (a1 : (List (Int × (List Int) × Int × Int × Int))) (ax1 : (List Int)) : Nat → Int → Option (Sum Unit Int)
 | 0, _ => none
 | k + 1, x1 =>
  if (decide (x1 < (List.length a1 : Int))) then
   (idx a1 x1).bind fun x2 =>
   (M.AreMethods_c1 x2 ax1).bind fun x3 =>
   if x3 then
    some (.inr x1)
   else
    Slices.IndexFunc_Limpl_Method_impl_Method_M_AreMethods_c1_l1 a1 ax1 k (w64 (x1 + 1))
  else
   some (.inl ())

def Slices.IndexFunc_Limpl_Method_impl_Method_M_AreMethods_c1 (a1 : (List (Int × (List Int) × Int × Int × Int))) (ax1 : (List Int)) : Option Int :=
 (Slices.IndexFunc_Limpl_Method_impl_Method_M_AreMethods_c1_l1 a1 ax1 FUEL (0 : Int)).bind fun o => match o with
  | .inl () =>
   some (-1)
  | .inr r => some r

def Slices.ContainsFunc_Limpl_Method_impl_Method_M_AreMethods_c1 (a1 : (List (Int × (List Int) × Int × Int × Int))) (ax1 : (List Int)) : Option Bool :=
 (Slices.IndexFunc_Limpl_Method_impl_Method_M_AreMethods_c1 a1 ax1).bind fun x1 =>
 some (decide (0 ≤ x1))

def M.AreMethods (a1 : (List Int)) (a2 : (List (Int × (List Int) × Int × Int × Int))) : Option Bool :=
 ((M.IsSchema a1).bind fun x2 =>
 if x2 then
  if (decide ((List.length a2 : Int) ≤ 5)) then
   (Slices.ContainsFunc_Limpl_Method_impl_Method_M_AreMethods_c1 a2 a1).bind fun x3 =>
   some (!x3)
  else
   some false
 else
  some false).bind fun x1 =>
 some x1

def M.isValue (a1 : Int) : Option Bool :=
 (M.within a1 0 9).bind fun x1 =>
 some x1

def M.IsVar (a1 : Int) : Option Bool :=
 (M.within a1 10 17).bind fun x1 =>
 some x1

def M.IsTerm (a1 : Int) : Option Bool :=
 ((M.isValue a1).bind fun x2 =>
 if x2 then
  some true
 else
  (M.IsVar a1).bind fun x3 =>
  some x3).bind fun x1 =>
 some x1

def M.areTerms_c1 (a1 : Int) : Option Bool :=
 (M.IsTerm a1).bind fun x1 =>
 some (!x1)

def Slices.IndexFunc_Lint_int_M_areTerms_c1_l1 (a1 : (List Int)) : Nat → Int → Option (Sum Unit Int)
 | 0, _ => none
 | k + 1, x1 =>
  if (decide (x1 < (List.length a1 : Int))) then
   (idx a1 x1).bind fun x2 =>
   (M.areTerms_c1 x2).bind fun x3 =>
   if x3 then
    some (.inr x1)
   else
    Slices.IndexFunc_Lint_int_M_areTerms_c1_l1 a1 k (w64 (x1 + 1))
  else
   some (.inl ())

def Slices.IndexFunc_Lint_int_M_areTerms_c1 (a1 : (List Int)) : Option Int :=
 (Slices.IndexFunc_Lint_int_M_areTerms_c1_l1 a1 FUEL (0 : Int)).bind fun o => match o with
  | .inl () =>
   some (-1)
  | .inr r => some r

def Slices.ContainsFunc_Lint_int_M_areTerms_c1 (a1 : (List Int)) : Option Bool :=
 (Slices.IndexFunc_Lint_int_M_areTerms_c1 a1).bind fun x1 =>
 some (decide (0 ≤ x1))

def M.areTerms (a1 : (List Int)) : Option Bool :=
 (Slices.ContainsFunc_Lint_int_M_areTerms_c1 a1).bind fun x1 =>
 some (!x1)

def M.IsAtom (a1 : (List Int)) (a2 : (Int × (List Int))) : Option Bool :=
 ((M.hasRel a1 a2.1).bind fun x2 =>
 if x2 then
  (idx a1 a2.1).bind fun x3 =>
  if (decide ((List.length a2.2 : Int) = x3)) then
   (M.areTerms a2.2).bind fun x4 =>
   some x4
  else
   some false
 else
  some false).bind fun x1 =>
 some x1

def M.IsQuery_c1 (a1 : (Int × (List Int))) (ax1 : (List Int)) : Option Bool :=
 (M.IsAtom ax1 (a1.1, a1.2)).bind fun x1 =>
 some (!x1)

def Slices.Sort_Lint_int (a1 : (List Int)) : Option (List Int) :=
 sortI a1

def Slices.Compact_Lint_int (a1 : (List Int)) : Option (List Int) :=
 compactI a1

def M.termsOf_M_IsVar_l2 (x4 : (Int × (List Int))) : Nat → (List Int) → Int → Option ((List Int))
 | 0, _, _ => none
 | k + 1, x5, x6 =>
  if (decide (x6 < (List.length x4.2 : Int))) then
   (idx x4.2 x6).bind fun x8 =>
   (M.IsVar x8).bind fun x9 =>
   (if x9 then
    (app x5 ([x8])).bind fun x11 =>
    some x11
   else
    some x5).bind fun x10 =>
   M.termsOf_M_IsVar_l2 x4 k x10 (w64 (x6 + 1))
  else
   some x5

def M.termsOf_M_IsVar_l1 (a1 : (List (Int × (List Int)))) : Nat → (List Int) → Int → Option ((List Int))
 | 0, _, _ => none
 | k + 1, x1, x2 =>
  if (decide (x2 < (List.length a1 : Int))) then
   (idx a1 x2).bind fun x4 =>
   (M.termsOf_M_IsVar_l2 x4 FUEL x1 (0 : Int)).bind fun x7 =>
   M.termsOf_M_IsVar_l1 a1 k x7 (w64 (x2 + 1))
  else
   some x1

def M.termsOf_M_IsVar (a1 : (List (Int × (List Int)))) : Option (List Int) :=
 (M.termsOf_M_IsVar_l1 a1 FUEL ([] : List Int) (0 : Int)).bind fun x3 =>
 (Slices.Sort_Lint_int x3).bind fun x12 =>
 (Slices.Compact_Lint_int x12).bind fun x13 =>
 some x13

def M.VarsOf (a1 : ((List Int) × (List (Int × (List Int))))) : Option (List Int) :=
 (M.termsOf_M_IsVar a1.2).bind fun x1 =>
 some x1

def Slices.Index_Lint_int_l1 (a1 : (List Int)) (a2 : Int) : Nat → Int → Option (Sum Unit Int)
 | 0, _ => none
 | k + 1, x1 =>
  if (decide (x1 < (List.length a1 : Int))) then
   (idx a1 x1).bind fun x2 =>
   if (decide (a2 = x2)) then
    some (.inr x1)
   else
    Slices.Index_Lint_int_l1 a1 a2 k (w64 (x1 + 1))
  else
   some (.inl ())

def Slices.Index_Lint_int (a1 : (List Int)) (a2 : Int) : Option Int :=
 (Slices.Index_Lint_int_l1 a1 a2 FUEL (0 : Int)).bind fun o => match o with
  | .inl () =>
   some (-1)
  | .inr r => some r

def Slices.Contains_Lint_int (a1 : (List Int)) (a2 : Int) : Option Bool :=
 (Slices.Index_Lint_int a1 a2).bind fun x1 =>
 some (decide (0 ≤ x1))

def M.hasHead_c1 (a1 : Int) (ax1 : (List Int)) : Option Bool :=
 (Slices.Contains_Lint_int ax1 a1).bind fun x1 =>
 some (!x1)

def Slices.IndexFunc_Lint_int_M_hasHead_c1_l1 (a1 : (List Int)) (ax1 : (List Int)) : Nat → Int → Option (Sum Unit Int)
 | 0, _ => none
 | k + 1, x1 =>
  if (decide (x1 < (List.length a1 : Int))) then
   (idx a1 x1).bind fun x2 =>
   (M.hasHead_c1 x2 ax1).bind fun x3 =>
   if x3 then
    some (.inr x1)
   else
    Slices.IndexFunc_Lint_int_M_hasHead_c1_l1 a1 ax1 k (w64 (x1 + 1))
  else
   some (.inl ())

def Slices.IndexFunc_Lint_int_M_hasHead_c1 (a1 : (List Int)) (ax1 : (List Int)) : Option Int :=
 (Slices.IndexFunc_Lint_int_M_hasHead_c1_l1 a1 ax1 FUEL (0 : Int)).bind fun o => match o with
  | .inl () =>
   some (-1)
  | .inr r => some r

def Slices.ContainsFunc_Lint_int_M_hasHead_c1 (a1 : (List Int)) (ax1 : (List Int)) : Option Bool :=
 (Slices.IndexFunc_Lint_int_M_hasHead_c1 a1 ax1).bind fun x1 =>
 some (decide (0 ≤ x1))

def M.hasHead (a1 : ((List Int) × (List (Int × (List Int))))) : Option Bool :=
 (M.VarsOf (a1.1, a1.2)).bind fun x1 =>
 (if (decide ((List.length a1.1 : Int) ≤ 3)) then
  (Slices.ContainsFunc_Lint_int_M_hasHead_c1 a1.1 x1).bind fun x3 =>
  some (!x3)
 else
  some false).bind fun x2 =>
 some x2

def Slices.IndexFunc_Limpl_Atom_impl_Atom_M_IsQuery_c1_l1 (a1 : (List (Int × (List Int)))) (ax1 : (List Int)) : Nat → Int → Option (Sum Unit Int)
 | 0, _ => none
 | k + 1, x1 =>
  if (decide (x1 < (List.length a1 : Int))) then
   (idx a1 x1).bind fun x2 =>
   (M.IsQuery_c1 x2 ax1).bind fun x3 =>
   if x3 then
    some (.inr x1)
   else
    Slices.IndexFunc_Limpl_Atom_impl_Atom_M_IsQuery_c1_l1 a1 ax1 k (w64 (x1 + 1))
  else
   some (.inl ())

def Slices.IndexFunc_Limpl_Atom_impl_Atom_M_IsQuery_c1 (a1 : (List (Int × (List Int)))) (ax1 : (List Int)) : Option Int :=
 (Slices.IndexFunc_Limpl_Atom_impl_Atom_M_IsQuery_c1_l1 a1 ax1 FUEL (0 : Int)).bind fun o => match o with
  | .inl () =>
   some (-1)
  | .inr r => some r

def Slices.ContainsFunc_Limpl_Atom_impl_Atom_M_IsQuery_c1 (a1 : (List (Int × (List Int)))) (ax1 : (List Int)) : Option Bool :=
 (Slices.IndexFunc_Limpl_Atom_impl_Atom_M_IsQuery_c1 a1 ax1).bind fun x1 =>
 some (decide (0 ≤ x1))

def M.IsQuery (a1 : (List Int)) (a2 : ((List Int) × (List (Int × (List Int))))) : Option Bool :=
 ((M.IsSchema a1).bind fun x2 =>
 if x2 then
  (M.within (List.length a2.2 : Int) 1 4).bind fun x3 =>
  if x3 then
   (Slices.ContainsFunc_Limpl_Atom_impl_Atom_M_IsQuery_c1 a2.2 a1).bind fun x4 =>
   if (!x4) then
    (M.hasHead (a2.1, a2.2)).bind fun x5 =>
    some x5
   else
    some false
  else
   some false
 else
  some false).bind fun x1 =>
 some x1

def M.areAsked (a1 : (List Int)) (a2 : (List (Int × (List Int) × Int × Int × Int))) (a3 : ((List Int) × (List (Int × (List Int))))) : Option Bool :=
 ((M.AreMethods a1 a2).bind fun x2 =>
 if x2 then
  (M.IsQuery a1 (a3.1, a3.2)).bind fun x3 =>
  some x3
 else
  some false).bind fun x1 =>
 some x1

def M.termsOf_M_isValue_l2 (x4 : (Int × (List Int))) : Nat → (List Int) → Int → Option ((List Int))
 | 0, _, _ => none
 | k + 1, x5, x6 =>
  if (decide (x6 < (List.length x4.2 : Int))) then
   (idx x4.2 x6).bind fun x8 =>
   (M.isValue x8).bind fun x9 =>
   (if x9 then
    (app x5 ([x8])).bind fun x11 =>
    some x11
   else
    some x5).bind fun x10 =>
   M.termsOf_M_isValue_l2 x4 k x10 (w64 (x6 + 1))
  else
   some x5

def M.termsOf_M_isValue_l1 (a1 : (List (Int × (List Int)))) : Nat → (List Int) → Int → Option ((List Int))
 | 0, _, _ => none
 | k + 1, x1, x2 =>
  if (decide (x2 < (List.length a1 : Int))) then
   (idx a1 x2).bind fun x4 =>
   (M.termsOf_M_isValue_l2 x4 FUEL x1 (0 : Int)).bind fun x7 =>
   M.termsOf_M_isValue_l1 a1 k x7 (w64 (x2 + 1))
  else
   some x1

def M.termsOf_M_isValue (a1 : (List (Int × (List Int)))) : Option (List Int) :=
 (M.termsOf_M_isValue_l1 a1 FUEL ([] : List Int) (0 : Int)).bind fun x3 =>
 (Slices.Sort_Lint_int x3).bind fun x12 =>
 (Slices.Compact_Lint_int x12).bind fun x13 =>
 some x13

def M.ConstantsOf (a1 : ((List Int) × (List (Int × (List Int))))) : Option (List Int) :=
 (M.termsOf_M_isValue a1.2).bind fun x1 =>
 some x1

def M.LeastDisclosure_c1 (a1 : Int) (ax1 : (List Int)) : Option Bool :=
 (Slices.Contains_Lint_int ax1 a1).bind fun x1 =>
 some (!x1)

def Cmp.isNaN_int (a1 : Int) : Option Bool :=
 some (!decide (a1 = a1))

def Cmp.Compare_int (a1 : Int) (a2 : Int) : Option Int :=
 (Cmp.isNaN_int a1).bind fun x1 =>
 (Cmp.isNaN_int a2).bind fun x2 =>
 if x1 then
  if x2 then
   some 0
  else
   some (-1)
 else
  if x2 then
   some 1
  else
   if (decide (a1 < a2)) then
    some (-1)
   else
    if (decide (a2 < a1)) then
     some 1
    else
     some 0

def Slices.Compare_Lint_int_l1 (a1 : (List Int)) (a2 : (List Int)) : Nat → Int → Option (Sum Unit Int)
 | 0, _ => none
 | k + 1, x1 =>
  if (decide (x1 < (List.length a1 : Int))) then
   (idx a1 x1).bind fun x2 =>
   if (decide ((List.length a2 : Int) ≤ x1)) then
    some (.inr 1)
   else
    (idx a2 x1).bind fun x3 =>
    (Cmp.Compare_int x2 x3).bind fun x4 =>
    if (!decide (x4 = 0)) then
     some (.inr x4)
    else
     Slices.Compare_Lint_int_l1 a1 a2 k (w64 (x1 + 1))
  else
   some (.inl ())

def Slices.Compare_Lint_int (a1 : (List Int)) (a2 : (List Int)) : Option Int :=
 (Slices.Compare_Lint_int_l1 a1 a2 FUEL (0 : Int)).bind fun o => match o with
  | .inl () =>
   if (decide ((List.length a1 : Int) < (List.length a2 : Int))) then
    some (-1)
   else
    some 0
  | .inr r => some r

def M.CanCall_c1 (a1 : Int) (ax1 : (Int × (List Int))) (ax2 : (List Int)) : Option Bool :=
 ((M.within a1 0 (w64 ((List.length ax1.2 : Int) - 1))).bind fun x2 =>
 if (!x2) then
  some true
 else
  (idx ax1.2 a1).bind fun x3 =>
  (M.IsVar x3).bind fun x4 =>
  if x4 then
   (idx ax1.2 a1).bind fun x5 =>
   (Slices.Contains_Lint_int ax2 x5).bind fun x6 =>
   some (!x6)
  else
   some false).bind fun x1 =>
 some x1

def Slices.IndexFunc_Lint_int_M_CanCall_c1_l1 (a1 : (List Int)) (ax1 : (Int × (List Int))) (ax2 : (List Int)) : Nat → Int → Option (Sum Unit Int)
 | 0, _ => none
 | k + 1, x1 =>
  if (decide (x1 < (List.length a1 : Int))) then
   (idx a1 x1).bind fun x2 =>
   (M.CanCall_c1 x2 ax1 ax2).bind fun x3 =>
   if x3 then
    some (.inr x1)
   else
    Slices.IndexFunc_Lint_int_M_CanCall_c1_l1 a1 ax1 ax2 k (w64 (x1 + 1))
  else
   some (.inl ())

def Slices.IndexFunc_Lint_int_M_CanCall_c1 (a1 : (List Int)) (ax1 : (Int × (List Int))) (ax2 : (List Int)) : Option Int :=
 (Slices.IndexFunc_Lint_int_M_CanCall_c1_l1 a1 ax1 ax2 FUEL (0 : Int)).bind fun o => match o with
  | .inl () =>
   some (-1)
  | .inr r => some r

def Slices.ContainsFunc_Lint_int_M_CanCall_c1 (a1 : (List Int)) (ax1 : (Int × (List Int))) (ax2 : (List Int)) : Option Bool :=
 (Slices.IndexFunc_Lint_int_M_CanCall_c1 a1 ax1 ax2).bind fun x1 =>
 some (decide (0 ≤ x1))

def M.CanCall (a1 : (Int × (List Int) × Int × Int × Int)) (a2 : (Int × (List Int))) (a3 : (List Int)) : Option Bool :=
 (if (decide (a1.1 = a2.1)) then
  (Slices.ContainsFunc_Lint_int_M_CanCall_c1 a1.2.1 (a2.1, a2.2) a3).bind fun x2 =>
  some (!x2)
 else
  some false).bind fun x1 =>
 some x1

def M.meets_c1 (a1 : Int) (ax1 : (List Int)) : Option Bool :=
 (Slices.Contains_Lint_int ax1 a1).bind fun x1 =>
 some x1

def Slices.IndexFunc_Lint_int_M_meets_c1_l1 (a1 : (List Int)) (ax1 : (List Int)) : Nat → Int → Option (Sum Unit Int)
 | 0, _ => none
 | k + 1, x1 =>
  if (decide (x1 < (List.length a1 : Int))) then
   (idx a1 x1).bind fun x2 =>
   (M.meets_c1 x2 ax1).bind fun x3 =>
   if x3 then
    some (.inr x1)
   else
    Slices.IndexFunc_Lint_int_M_meets_c1_l1 a1 ax1 k (w64 (x1 + 1))
  else
   some (.inl ())

def Slices.IndexFunc_Lint_int_M_meets_c1 (a1 : (List Int)) (ax1 : (List Int)) : Option Int :=
 (Slices.IndexFunc_Lint_int_M_meets_c1_l1 a1 ax1 FUEL (0 : Int)).bind fun o => match o with
  | .inl () =>
   some (-1)
  | .inr r => some r

def Slices.ContainsFunc_Lint_int_M_meets_c1 (a1 : (List Int)) (ax1 : (List Int)) : Option Bool :=
 (Slices.IndexFunc_Lint_int_M_meets_c1 a1 ax1).bind fun x1 =>
 some (decide (0 ≤ x1))

def M.meets (a1 : (List Int)) (a2 : (List Int)) : Option Bool :=
 (Slices.ContainsFunc_Lint_int_M_meets_c1 a1 a2).bind fun x1 =>
 some x1

def M.passed_l1 (a1 : (Int × (List Int) × Int × Int × Int)) (a2 : (Int × (List Int))) : Nat → (List Int) → Int → Option ((List Int))
 | 0, _, _ => none
 | k + 1, x1, x2 =>
  if (decide (x2 < (List.length a1.2.1 : Int))) then
   (idx a1.2.1 x2).bind fun x4 =>
   ((M.within x4 0 (w64 ((List.length a2.2 : Int) - 1))).bind fun x6 =>
   if x6 then
    (idx a2.2 x4).bind fun x7 =>
    (M.isValue x7).bind fun x8 =>
    some x8
   else
    some false).bind fun x5 =>
   (if x5 then
    (idx a2.2 x4).bind fun x10 =>
    (app x1 ([x10])).bind fun x11 =>
    some x11
   else
    some x1).bind fun x9 =>
   M.passed_l1 a1 a2 k x9 (w64 (x2 + 1))
  else
   some x1

def M.passed (a1 : (Int × (List Int) × Int × Int × Int)) (a2 : (Int × (List Int))) : Option (List Int) :=
 (M.passed_l1 a1 a2 FUEL ([] : List Int) (0 : Int)).bind fun x3 =>
 some x3

def M.privateOrder_c1 (a1 : (Int × (List Int) × Int × Int × Int)) (a2 : (Int × (List Int))) (ax1 : (List Int)) : Option Bool :=
 (M.passed (a1.1, a1.2.1, a1.2.2.1, a1.2.2.2.1, a1.2.2.2.2) (a2.1, a2.2)).bind fun x1 =>
 (M.meets x1 ax1).bind fun x2 =>
 some (!x2)

def M.greedyWhere_c1_c1_M_privateOrder_c1 (a1 : (Int × (List Int) × Int × Int × Int)) (ax1 : (Int × (List Int))) (ax2 : (List Int)) (ax3 : (List Int)) : Option Bool :=
 ((M.CanCall (a1.1, a1.2.1, a1.2.2.1, a1.2.2.2.1, a1.2.2.2.2) ax1 ax2).bind fun x2 =>
 if x2 then
  (M.privateOrder_c1 (a1.1, a1.2.1, a1.2.2.1, a1.2.2.2.1, a1.2.2.2.2) ax1 ax3).bind fun x3 =>
  some x3
 else
  some false).bind fun x1 =>
 some x1

def Slices.IndexFunc_Limpl_Method_impl_Method_M_greedyWhere_c1_c1_M_privateOrder_c1_l1 (a1 : (List (Int × (List Int) × Int × Int × Int))) (ax1 : (Int × (List Int))) (ax2 : (List Int)) (ax3 : (List Int)) : Nat → Int → Option (Sum Unit Int)
 | 0, _ => none
 | k + 1, x1 =>
  if (decide (x1 < (List.length a1 : Int))) then
   (idx a1 x1).bind fun x2 =>
   (M.greedyWhere_c1_c1_M_privateOrder_c1 x2 ax1 ax2 ax3).bind fun x3 =>
   if x3 then
    some (.inr x1)
   else
    Slices.IndexFunc_Limpl_Method_impl_Method_M_greedyWhere_c1_c1_M_privateOrder_c1_l1 a1 ax1 ax2 ax3 k (w64 (x1 + 1))
  else
   some (.inl ())

def Slices.IndexFunc_Limpl_Method_impl_Method_M_greedyWhere_c1_c1_M_privateOrder_c1 (a1 : (List (Int × (List Int) × Int × Int × Int))) (ax1 : (Int × (List Int))) (ax2 : (List Int)) (ax3 : (List Int)) : Option Int :=
 (Slices.IndexFunc_Limpl_Method_impl_Method_M_greedyWhere_c1_c1_M_privateOrder_c1_l1 a1 ax1 ax2 ax3 FUEL (0 : Int)).bind fun o => match o with
  | .inl () =>
   some (-1)
  | .inr r => some r

def M.greedyWhere_c1_M_privateOrder_c1_l1 (ax1 : (List (Int × (List Int)))) (ax2 : (List (Int × (List Int) × Int × Int × Int))) (ax3 : (List Int)) (ax4 : (List Int)) (ax5 : (List Bool)) : Nat → Int → Int → Int → Option (Sum (Int × Int) ((Int × Int) × Bool))
 | 0, _, _, _ => none
 | k + 1, x1, x2, x3 =>
  if (decide (x3 < (List.length ax1 : Int))) then
   (idx ax1 x3).bind fun x6 =>
   (Slices.IndexFunc_Limpl_Method_impl_Method_M_greedyWhere_c1_c1_M_privateOrder_c1 ax2 (x6.1, x6.2) ax3 ax4).bind fun x7 =>
   ((idx ax5 x3).bind fun x9 =>
   if (!x9) then
    some (decide (0 ≤ x7))
   else
    some false).bind fun x8 =>
   if x8 then
    some (.inr ((x3, x7), true))
   else
    M.greedyWhere_c1_M_privateOrder_c1_l1 ax1 ax2 ax3 ax4 ax5 k x1 x2 (w64 (x3 + 1))
  else
   some (.inl (x1, x2))

def M.greedyWhere_c1_M_privateOrder_c1 (ax1 : (List (Int × (List Int)))) (ax2 : (List (Int × (List Int) × Int × Int × Int))) (ax3 : (List Int)) (ax4 : (List Int)) (ax5 : (List Bool)) : Option ((Int × Int) × Bool) :=
 (M.greedyWhere_c1_M_privateOrder_c1_l1 ax1 ax2 ax3 ax4 ax5 FUEL (0 : Int) (0 : Int) (0 : Int)).bind fun o => match o with
  | .inl (x4, x5) =>
   some ((0, 0), false)
  | .inr r => some r

def M.greedyWhere_M_privateOrder_c1_l1 (a2 : (List (Int × (List Int)))) (a1 : (List (Int × (List Int) × Int × Int × Int))) (ax1 : (List Int)) : Nat → (List Bool) → (List Int) → (List (Int × Int)) → Int → Int → Bool → Option (((List Bool) × (List Int) × (List (Int × Int))))
 | 0, _, _, _, _, _, _ => none
 | k + 1, x3, x4, x5, x6, x7, x8 =>
  if x8 then
   (idx x3 x6).bind fun x12 =>
   (idx a2 x6).bind fun x13 =>
   (app x4 x13.2).bind fun x14 =>
   (app x5 ([(x6, x7)])).bind fun x15 =>
   (M.greedyWhere_c1_M_privateOrder_c1 a2 a1 x14 ax1 (List.set x3 (Int.toNat x6) true)).bind fun x16 =>
   M.greedyWhere_M_privateOrder_c1_l1 a2 a1 ax1 k (List.set x3 (Int.toNat x6) true) x14 x15 x16.1.1 x16.1.2 x16.2
  else
   some (x3, x4, x5)

def M.greedyWhere_M_privateOrder_c1 (a1 : (List (Int × (List Int) × Int × Int × Int))) (a2 : (List (Int × (List Int)))) (ax1 : (List Int)) : Option ((List (Int × Int)) × (List Bool)) :=
 (mk (List.length a2 : Int) (false : Bool)).bind fun x1 =>
 (M.greedyWhere_c1_M_privateOrder_c1 a2 a1 ([] : List Int) ax1 x1).bind fun x2 =>
 (M.greedyWhere_M_privateOrder_c1_l1 a2 a1 ax1 FUEL x1 ([] : List Int) ([] : List (Int × Int)) x2.1.1 x2.1.2 x2.2).bind fun (x9, x10, x11) =>
 some (x11, x9)

def M.privateOrder (a1 : (List (Int × (List Int) × Int × Int × Int))) (a2 : ((List Int) × (List (Int × (List Int))))) (a3 : (List Int)) : Option ((List (Int × Int)) × Bool) :=
 (M.greedyWhere_M_privateOrder_c1 a1 a2.2 a3).bind fun x1 =>
 some (x1.1, (decide ((List.length x1.1 : Int) = (List.length a2.2 : Int))))

def Slices.Clone_Lint_int (a1 : (List Int)) : Option (List Int) :=
 (app ([] : List Int) a1).bind fun x1 =>
 some x1

def M.LeastDisclosure_c2_c1_c1 (a1 : Int) (ax1 : (List Int)) (ax2 : Int) : Option Bool :=
 (idx ax1 a1).bind fun x1 =>
 some (decide (x1 = ax2))

def Slices.IndexFunc_Lint_int_M_LeastDisclosure_c2_c1_c1_l1 (a1 : (List Int)) (ax1 : (List Int)) (ax2 : Int) : Nat → Int → Option (Sum Unit Int)
 | 0, _ => none
 | k + 1, x1 =>
  if (decide (x1 < (List.length a1 : Int))) then
   (idx a1 x1).bind fun x2 =>
   (M.LeastDisclosure_c2_c1_c1 x2 ax1 ax2).bind fun x3 =>
   if x3 then
    some (.inr x1)
   else
    Slices.IndexFunc_Lint_int_M_LeastDisclosure_c2_c1_c1_l1 a1 ax1 ax2 k (w64 (x1 + 1))
  else
   some (.inl ())

def Slices.IndexFunc_Lint_int_M_LeastDisclosure_c2_c1_c1 (a1 : (List Int)) (ax1 : (List Int)) (ax2 : Int) : Option Int :=
 (Slices.IndexFunc_Lint_int_M_LeastDisclosure_c2_c1_c1_l1 a1 ax1 ax2 FUEL (0 : Int)).bind fun o => match o with
  | .inl () =>
   some (-1)
  | .inr r => some r

def Slices.ContainsFunc_Lint_int_M_LeastDisclosure_c2_c1_c1 (a1 : (List Int)) (ax1 : (List Int)) (ax2 : Int) : Option Bool :=
 (Slices.IndexFunc_Lint_int_M_LeastDisclosure_c2_c1_c1 a1 ax1 ax2).bind fun x1 =>
 some (decide (0 ≤ x1))

def M.LeastDisclosure_c2_c1 (a1 : Int) (ax1 : (List Int)) (ax2 : (List Int)) : Option Bool :=
 (Slices.ContainsFunc_Lint_int_M_LeastDisclosure_c2_c1_c1 ax1 ax2 a1).bind fun x1 =>
 some x1

def Slices.IndexFunc_Lint_int_M_LeastDisclosure_c2_c1_l1 (a1 : (List Int)) (ax1 : (List Int)) (ax2 : (List Int)) : Nat → Int → Option (Sum Unit Int)
 | 0, _ => none
 | k + 1, x1 =>
  if (decide (x1 < (List.length a1 : Int))) then
   (idx a1 x1).bind fun x2 =>
   (M.LeastDisclosure_c2_c1 x2 ax1 ax2).bind fun x3 =>
   if x3 then
    some (.inr x1)
   else
    Slices.IndexFunc_Lint_int_M_LeastDisclosure_c2_c1_l1 a1 ax1 ax2 k (w64 (x1 + 1))
  else
   some (.inl ())

def Slices.IndexFunc_Lint_int_M_LeastDisclosure_c2_c1 (a1 : (List Int)) (ax1 : (List Int)) (ax2 : (List Int)) : Option Int :=
 (Slices.IndexFunc_Lint_int_M_LeastDisclosure_c2_c1_l1 a1 ax1 ax2 FUEL (0 : Int)).bind fun o => match o with
  | .inl () =>
   some (-1)
  | .inr r => some r

def Slices.DeleteFunc_Lint_int_M_LeastDisclosure_c2_c1 (a1 : (List Int)) (ax1 : (List Int)) (ax2 : (List Int)) : Option (List Int) :=
 (Slices.IndexFunc_Lint_int_M_LeastDisclosure_c2_c1 a1 ax1 ax2).bind fun x =>
 if x = -1 then some a1 else if 0 ≤ x ∧ x < (a1.length : Int) then dfl (fun e => M.LeastDisclosure_c2_c1 e ax1 ax2) (a1.take x.toNat) (a1.drop (x.toNat + 1)) else none

def M.LeastDisclosure_c2 (a1 : (List Int)) (ax1 : (List (Int × (List Int) × Int × Int × Int))) (ax2 : ((List Int) × (List (Int × (List Int))))) (ax3 : (List Int)) : Option Bool :=
 ((Slices.Clone_Lint_int ax3).bind fun x2 =>
 (Slices.DeleteFunc_Lint_int_M_LeastDisclosure_c2_c1 x2 a1 ax3).bind fun x3 =>
 (M.privateOrder ax1 ax2 x3).bind fun x4 =>
 some x4.2).bind fun x1 =>
 some x1

def Slices.IndexFunc_Lint_int_M_LeastDisclosure_c1_l1 (a1 : (List Int)) (ax1 : (List Int)) : Nat → Int → Option (Sum Unit Int)
 | 0, _ => none
 | k + 1, x1 =>
  if (decide (x1 < (List.length a1 : Int))) then
   (idx a1 x1).bind fun x2 =>
   (M.LeastDisclosure_c1 x2 ax1).bind fun x3 =>
   if x3 then
    some (.inr x1)
   else
    Slices.IndexFunc_Lint_int_M_LeastDisclosure_c1_l1 a1 ax1 k (w64 (x1 + 1))
  else
   some (.inl ())

def Slices.IndexFunc_Lint_int_M_LeastDisclosure_c1 (a1 : (List Int)) (ax1 : (List Int)) : Option Int :=
 (Slices.IndexFunc_Lint_int_M_LeastDisclosure_c1_l1 a1 ax1 FUEL (0 : Int)).bind fun o => match o with
  | .inl () =>
   some (-1)
  | .inr r => some r

def Slices.DeleteFunc_Lint_int_M_LeastDisclosure_c1 (a1 : (List Int)) (ax1 : (List Int)) : Option (List Int) :=
 (Slices.IndexFunc_Lint_int_M_LeastDisclosure_c1 a1 ax1).bind fun x =>
 if x = -1 then some a1 else if 0 ≤ x ∧ x < (a1.length : Int) then dfl (fun e => M.LeastDisclosure_c1 e ax1) (a1.take x.toNat) (a1.drop (x.toNat + 1)) else none

def M.smallest_M_LeastDisclosure_c2_l2 (a1 : Int) (x3 : Int) : Nat → (List Int) → Bool → Int → Option (((List Int) × Bool))
 | 0, _, _, _ => none
 | k + 1, x6, x7, x8 =>
  if (decide (x8 < a1)) then
   (nn x8).bind fun _ =>
   (if (decide ((band (shr x3 x8) 1) = 1)) then
    (app x6 ([x8])).bind fun x13 =>
    some (x13, false)
   else
    some (x6, x7)).bind fun (x11, x12) =>
   M.smallest_M_LeastDisclosure_c2_l2 a1 x3 k x11 x12 (w64 (x8 + 1))
  else
   some (x6, x7)

def M.smallest_M_LeastDisclosure_c2_l1 (a1 : Int) (ax1 : (List (Int × (List Int) × Int × Int × Int))) (ax2 : ((List Int) × (List (Int × (List Int))))) (ax3 : (List Int)) : Nat → (List Int) → Bool → Int → Option (((List Int) × Bool))
 | 0, _, _, _ => none
 | k + 1, x1, x2, x3 =>
  if (decide (x3 < (shl 1 a1))) then
   (M.smallest_M_LeastDisclosure_c2_l2 a1 x3 FUEL ([] : List Int) false (0 : Int)).bind fun (x9, x10) =>
   (if x2 then
    (M.LeastDisclosure_c2 x9 ax1 ax2 ax3).bind fun x15 =>
    some x15
   else
    if (decide ((List.length x9 : Int) < (List.length x1 : Int))) then
     (M.LeastDisclosure_c2 x9 ax1 ax2 ax3).bind fun x16 =>
     some x16
    else
     if (decide ((List.length x9 : Int) = (List.length x1 : Int))) then
      (Slices.Compare_Lint_int x9 x1).bind fun x17 =>
      if (decide (x17 < 0)) then
       (M.LeastDisclosure_c2 x9 ax1 ax2 ax3).bind fun x18 =>
       some x18
      else
       some false
     else
      some false).bind fun x14 =>
   (if x14 then
    some (x9, x10)
   else
    some (x1, x2)).bind fun (x19, x20) =>
   M.smallest_M_LeastDisclosure_c2_l1 a1 ax1 ax2 ax3 k x19 x20 (w64 (x3 + 1))
  else
   some (x1, x2)

def M.smallest_M_LeastDisclosure_c2 (a1 : Int) (ax1 : (List (Int × (List Int) × Int × Int × Int))) (ax2 : ((List Int) × (List (Int × (List Int))))) (ax3 : (List Int)) : Option ((List Int) × Bool) :=
 (nn a1).bind fun _ =>
 (M.smallest_M_LeastDisclosure_c2_l1 a1 ax1 ax2 ax3 FUEL ([]) true (0 : Int)).bind fun (x4, x5) =>
 some (x4, (!x5))

def M.LeastDisclosure_l1 (x5 : ((List Int) × Bool)) (x4 : (List Int)) : Nat → (List Int) → Int → Option ((List Int))
 | 0, _, _ => none
 | k + 1, x6, x7 =>
  if (decide (x7 < (List.length x5.1 : Int))) then
   (idx x5.1 x7).bind fun x9 =>
   (idx x4 x9).bind fun x10 =>
   (app x6 ([x10])).bind fun x11 =>
   M.LeastDisclosure_l1 x5 x4 k x11 (w64 (x7 + 1))
  else
   some x6

def M.LeastDisclosure (a1 : (List Int)) (a2 : (List (Int × (List Int) × Int × Int × Int))) (a3 : ((List Int) × (List (Int × (List Int))))) (a4 : (List Int)) : Option ((List Int) × Bool) :=
 (M.ConstantsOf (a3.1, a3.2)).bind fun x1 =>
 ((M.areAsked a1 a2 (a3.1, a3.2)).bind fun x3 =>
 if (!x3) then
  some true
 else
  some (decide (8 < (List.length x1 : Int)))).bind fun x2 =>
 if x2 then
  some ([], false)
 else
  (Slices.DeleteFunc_Lint_int_M_LeastDisclosure_c1 x1 a4).bind fun x4 =>
  (M.smallest_M_LeastDisclosure_c2 (List.length x4 : Int) a2 (a3.1, a3.2) x4).bind fun x5 =>
  if (!x5.2) then
   some ([], false)
  else
   (M.LeastDisclosure_l1 x5 x4 FUEL ([] : List Int) (0 : Int)).bind fun x8 =>
   some (x8, true)

def Q.heldIntS_l1 (a1 : (List Int)) : Nat → Int → Int → Option (Sum Int Int)
 | 0, _, _ => none
 | k + 1, x1, x2 =>
  if (decide (x2 < (List.length a1 : Int))) then
   (idx a1 x2).bind fun x4 =>
   if (!decide (x4 = x1)) then
    some (.inr (-1))
   else
    Q.heldIntS_l1 a1 k (w64 (x1 + 1)) (w64 (x2 + 1))
  else
   some (.inl x1)

def Q.heldIntS (a1 : (List Int)) (a2 : Int) : Option Int :=
 (Q.heldIntS_l1 a1 FUEL a2 (0 : Int)).bind fun o => match o with
  | .inl x3 =>
   some x3
  | .inr r => some r

def Q.FnExactLeastDisclosure (a1 : (List Int)) (a2 : (List (Int × (List Int) × Int × Int × Int))) (a3 : ((List Int) × (List (Int × (List Int))))) (a4 : (List Int)) : Option Bool :=
 if (decide (1048576 < (List.length a1 : Int))) then
  some true
 else
  if (decide (1048576 < (List.length a4 : Int))) then
   some true
  else
   (Q.szMethodS a2 1048576).bind fun x1 =>
   if (decide (x1 < 0)) then
    some true
   else
    (Q.szQuery (a3.1, a3.2) x1).bind fun x2 =>
    if (decide (x2 < 0)) then
     some true
    else
     (Q.toIntS a1).bind fun x3 =>
     (Q.toMethodS a2).bind fun x4 =>
     (Q.toQuery (a3.1, a3.2)).bind fun x5 =>
     (Q.toIntS a4).bind fun x6 =>
     (S.LeastDisclosure x3 x4 x5 x6).bind fun x7 =>
     (Q.toIntS a1).bind fun x8 =>
     (Q.toMethodS a2).bind fun x9 =>
     (Q.toQuery (a3.1, a3.2)).bind fun x10 =>
     (Q.toIntS a4).bind fun x11 =>
     (M.LeastDisclosure x8 x9 (x10.1, x10.2) x11).bind fun x12 =>
     ((Q.eqIntS x12.1 x7.1).bind fun x14 =>
     if (!x14) then
      some true
     else
      some (!decide (x12.2 = x7.2))).bind fun x13 =>
     if x13 then
      some false
     else
      (Q.toIntS a1).bind fun x15 =>
      (Q.eqIntS x8 x15).bind fun x16 =>
      if (!x16) then
       some false
      else
       (Q.toMethodS a2).bind fun x17 =>
       (Q.eqMethodS x9 x17).bind fun x18 =>
       if (!x18) then
        some false
       else
        (Q.toQuery (a3.1, a3.2)).bind fun x19 =>
        (Q.eqQuery (x10.1, x10.2) x19).bind fun x20 =>
        if (!x20) then
         some false
        else
         (Q.toIntS a4).bind fun x21 =>
         (Q.eqIntS x11 x21).bind fun x22 =>
         if (!x22) then
          some false
         else
          (Q.markIntS x8 1).bind fun x23 =>
          (Q.markMethodS x9 x23.1).bind fun x24 =>
          (Q.markQuery (x10.1, x10.2) x24.1).bind fun x25 =>
          (Q.markIntS x11 x25.1).bind fun x26 =>
          (if (decide (x26.1 < 0)) then
           some true
          else
           (Q.eqIntS x12.1 x7.1).bind fun x28 =>
           if (!x28) then
            some true
           else
            some (!decide (x12.2 = x7.2))).bind fun x27 =>
          if x27 then
           some false
          else
           (Q.markIntS x12.1 1).bind fun x29 =>
           (Q.heldIntS x29.2 1).bind fun x30 =>
           if (decide (x30 < 0)) then
            some false
           else
            if (!decide (x30 = x29.1)) then
             some false
            else
             (Q.toIntS a1).bind fun x31 =>
             (Q.toMethodS a2).bind fun x32 =>
             (Q.toQuery (a3.1, a3.2)).bind fun x33 =>
             (Q.toIntS a4).bind fun x34 =>
             (M.LeastDisclosure x31 x32 x33 x34).bind fun x35 =>
             ((Q.eqIntS x35.1 x7.1).bind fun x37 =>
             if (!x37) then
              some true
             else
              some (!decide (x35.2 = x7.2))).bind fun x36 =>
             if x36 then
              some false
             else
              (Q.heldIntS x29.2 1).bind fun x38 =>
              if (decide (x38 < 0)) then
               some false
              else
               if (!decide (x38 = x29.1)) then
                some false
               else
                some true

end Go.Gx.Px
