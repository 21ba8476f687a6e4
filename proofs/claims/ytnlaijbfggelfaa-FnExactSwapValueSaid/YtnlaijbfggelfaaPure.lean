/- The Go functions as pure Lean functions, printed by program. Conditions: none. -/
import Derived.Test.YtnlaijbfggelfaaGxHo
set_option linter.unusedVariables false
namespace Go.Gx.Px

def Q.szIntS (a1 : (List Int)) (a2 : Int) : Option Int :=
 if (decide ((w64 (a2 - (List.length a1 : Int))) < 0)) then
  some (-1)
 else
  some (w64 (a2 - (List.length a1 : Int)))

def Q.szAtom (a1 : (Int × (List Int))) (a2 : Int) : Option Int :=
 (Q.szIntS a1.2 a2).bind fun x1 =>
 if (decide (x1 < 0)) then
  some (-1)
 else
  some x1

def Q.szAtomS_l1 (a1 : (List (Int × (List Int)))) : Nat → Int → Int → Option (Sum Int Int)
 | 0, _, _ => none
 | k + 1, x1, x2 =>
  if (decide (x2 < (List.length a1 : Int))) then
   (idx a1 x2).bind fun x4 =>
   (Q.szAtom x4 x1).bind fun x5 =>
   if (decide (x5 < 0)) then
    some (.inr (-1))
   else
    Q.szAtomS_l1 a1 k x5 (w64 (x2 + 1))
  else
   some (.inl x1)

def Q.szAtomS (a1 : (List (Int × (List Int)))) (a2 : Int) : Option Int :=
 if (decide ((w64 (a2 - (List.length a1 : Int))) < 0)) then
  some (-1)
 else
  (Q.szAtomS_l1 a1 FUEL (w64 (a2 - (List.length a1 : Int))) (0 : Int)).bind fun o => match o with
   | .inl x3 =>
    some x3
   | .inr r => some r

def Q.szQuery (a1 : ((List Int) × (List (Int × (List Int))))) (a2 : Int) : Option Int :=
 (Q.szIntS a1.1 a2).bind fun x1 =>
 if (decide (x1 < 0)) then
  some (-1)
 else
  (Q.szAtomS a1.2 x1).bind fun x2 =>
  if (decide (x2 < 0)) then
   some (-1)
  else
   some x2

def S.l1In (a1 : Int) (a2 : Int) (a3 : Int) : Option Bool :=
 (if (decide (a2 ≤ a1)) then
  some (decide (a1 ≤ a3))
 else
  some false).bind fun x1 =>
 some x1

def S.l3Atom (a1 : Int) (a2 : (List Int)) : Option (Int × (List Int)) :=
 (app ([] : List Int) a2).bind fun x1 =>
 some (a1, x1)

def S.l3Copy_l1 (a1 : ((List Int) × (List (Int × (List Int))))) : Nat → (List Int) → (List (Int × (List Int))) → Int → Option (((List Int) × (List (Int × (List Int)))))
 | 0, _, _, _ => none
 | k + 1, x2, x3, x4 =>
  if (decide (x4 < (List.length a1.2 : Int))) then
   (idx a1.2 x4).bind fun x7 =>
   (idx a1.2 x4).bind fun x8 =>
   (S.l3Atom x7.1 x8.2).bind fun x9 =>
   (app x3 ([(x9.1, x9.2)])).bind fun x10 =>
   S.l3Copy_l1 a1 k x2 x10 (w64 (x4 + 1))
  else
   some (x2, x3)

def S.l3Copy (a1 : ((List Int) × (List (Int × (List Int))))) : Option ((List Int) × (List (Int × (List Int)))) :=
 (app ([] : List Int) a1.1).bind fun x1 =>
 (S.l3Copy_l1 a1 FUEL x1 ([]) (0 : Int)).bind fun (x5, x6) =>
 some (x5, x6)

def S.l30Swap (a1 : Int) (a2 : Int) (a3 : Int) : Option Int :=
 if (decide (a1 = a2)) then
  some a3
 else
  if (decide (a1 = a3)) then
   some a2
  else
   some a1

def S.SwapValue_l2 (x3 : Int) (a2 : Int) (a3 : Int) : Nat → (List (Int × (List Int))) → Int → Option ((List (Int × (List Int))))
 | 0, _, _ => none
 | k + 1, x8, x9 =>
  (idx x8 x3).bind fun x11 =>
  if (decide (x9 < (List.length x11.2 : Int))) then
   (idx x8 x3).bind fun x12 =>
   (idx x12.2 x9).bind fun x13 =>
   (S.l30Swap x13 a2 a3).bind fun x14 =>
   (idx x12.2 x9).bind fun x15 =>
   S.SwapValue_l2 x3 a2 a3 k (List.set x8 (Int.toNat x3) (x12.1, (List.set x12.2 (Int.toNat x9) x14))) (w64 (x9 + 1))
  else
   some x8

def S.SwapValue_l1 (a2 : Int) (a3 : Int) : Nat → (List (Int × (List Int))) → Int → Option ((List (Int × (List Int))))
 | 0, _, _ => none
 | k + 1, x2, x3 =>
  (if (decide (x3 < (List.length x2 : Int))) then
   (S.l1In a2 0 9).bind fun x6 =>
   if x6 then
    (S.l1In a3 0 9).bind fun x7 =>
    some x7
   else
    some false
  else
   some false).bind fun x5 =>
  if x5 then
   (S.SwapValue_l2 x3 a2 a3 FUEL x2 (0 : Int)).bind fun x10 =>
   S.SwapValue_l1 a2 a3 k x10 (w64 (x3 + 1))
  else
   some x2

def S.SwapValue (a1 : ((List Int) × (List (Int × (List Int))))) (a2 : Int) (a3 : Int) : Option ((List Int) × (List (Int × (List Int)))) :=
 (S.l3Copy (a1.1, a1.2)).bind fun x1 =>
 (S.SwapValue_l1 a2 a3 FUEL x1.2 (0 : Int)).bind fun x4 =>
 some (x1.1, x4)

def Q.toIntS_l1 (a1 : (List Int)) : Nat → (List Int) → Int → Option ((List Int))
 | 0, _, _ => none
 | k + 1, x2, x3 =>
  if (decide (x3 < (List.length a1 : Int))) then
   (idx a1 x3).bind fun x5 =>
   (idx x2 x3).bind fun x6 =>
   Q.toIntS_l1 a1 k (List.set x2 (Int.toNat x3) x5) (w64 (x3 + 1))
  else
   some x2

def Q.toIntS (a1 : (List Int)) : Option (List Int) :=
 (mk (List.length a1 : Int) (0 : Int)).bind fun x1 =>
 (Q.toIntS_l1 a1 FUEL x1 (0 : Int)).bind fun x4 =>
 some x4

def Q.toAtom (a1 : (Int × (List Int))) : Option (Int × (List Int)) :=
 (Q.toIntS a1.2).bind fun x1 =>
 some (a1.1, x1)

def Q.toAtomS_l1 (a1 : (List (Int × (List Int)))) : Nat → (List (Int × (List Int))) → Int → Option ((List (Int × (List Int))))
 | 0, _, _ => none
 | k + 1, x2, x3 =>
  if (decide (x3 < (List.length a1 : Int))) then
   (idx a1 x3).bind fun x5 =>
   (Q.toAtom x5).bind fun x6 =>
   (idx x2 x3).bind fun x7 =>
   Q.toAtomS_l1 a1 k (List.set x2 (Int.toNat x3) (x6.1, x6.2)) (w64 (x3 + 1))
  else
   some x2

def Q.toAtomS (a1 : (List (Int × (List Int)))) : Option (List (Int × (List Int))) :=
 (mk (List.length a1 : Int) (0, [])).bind fun x1 =>
 (Q.toAtomS_l1 a1 FUEL x1 (0 : Int)).bind fun x4 =>
 some x4

def Q.toQuery (a1 : ((List Int) × (List (Int × (List Int))))) : Option ((List Int) × (List (Int × (List Int)))) :=
 (Q.toIntS a1.1).bind fun x1 =>
 (Q.toAtomS a1.2).bind fun x2 =>
 some (x1, x2)

def Slices.Clone_Lint_int (a1 : (List Int)) : Option (List Int) :=
 (app ([] : List Int) a1).bind fun x1 =>
 some x1

def M.copyAtom (a1 : (Int × (List Int))) : Option (Int × (List Int)) :=
 (Slices.Clone_Lint_int a1.2).bind fun x1 =>
 some (a1.1, x1)

def M.copyAtoms_l1 (a1 : (List (Int × (List Int)))) : Nat → (List (Int × (List Int))) → Int → Option ((List (Int × (List Int))))
 | 0, _, _ => none
 | k + 1, x1, x2 =>
  if (decide (x2 < (List.length a1 : Int))) then
   (idx a1 x2).bind fun x4 =>
   (M.copyAtom (x4.1, x4.2)).bind fun x5 =>
   (app x1 ([(x5.1, x5.2)])).bind fun x6 =>
   M.copyAtoms_l1 a1 k x6 (w64 (x2 + 1))
  else
   some x1

def M.copyAtoms (a1 : (List (Int × (List Int)))) : Option (List (Int × (List Int))) :=
 (M.copyAtoms_l1 a1 FUEL ([] : List (Int × (List Int))) (0 : Int)).bind fun x3 =>
 some x3

def M.copyQuery (a1 : ((List Int) × (List (Int × (List Int))))) : Option ((List Int) × (List (Int × (List Int)))) :=
 (Slices.Clone_Lint_int a1.1).bind fun x1 =>
 (M.copyAtoms a1.2).bind fun x2 =>
 some (x1, x2)

def M.within (a1 : Int) (a2 : Int) (a3 : Int) : Option Bool :=
 (if (decide (a2 ≤ a1)) then
  some (decide (a1 ≤ a3))
 else
  some false).bind fun x1 =>
 some x1

def M.isValue (a1 : Int) : Option Bool :=
 (M.within a1 0 9).bind fun x1 =>
 some x1

def M.swapped_l1 (a1 : (List Int)) (a2 : Int) (a3 : Int) : Nat → (List Int) → Int → Option ((List Int))
 | 0, _, _ => none
 | k + 1, x2, x3 =>
  if (decide (x3 < (List.length a1 : Int))) then
   (idx a1 x3).bind fun x5 =>
   (if (decide (x5 = a2)) then
    (idx x2 x3).bind fun x7 =>
    some (List.set x2 (Int.toNat x3) a3)
   else
    (if (decide (x5 = a3)) then
     (idx x2 x3).bind fun x9 =>
     some (List.set x2 (Int.toNat x3) a2)
    else
     some x2).bind fun x8 =>
    some x8).bind fun x6 =>
   M.swapped_l1 a1 a2 a3 k x6 (w64 (x3 + 1))
  else
   some x2

def M.swapped (a1 : (List Int)) (a2 : Int) (a3 : Int) : Option (List Int) :=
 (Slices.Clone_Lint_int a1).bind fun x1 =>
 (M.swapped_l1 a1 a2 a3 FUEL x1 (0 : Int)).bind fun x4 =>
 some x4

def M.SwapValue_l1 (x1 : ((List Int) × (List (Int × (List Int))))) (a2 : Int) (a3 : Int) : Nat → (List (Int × (List Int))) → Int → Option ((List (Int × (List Int))))
 | 0, _, _ => none
 | k + 1, x5, x6 =>
  if (decide (x6 < (List.length x1.2 : Int))) then
   (idx x5 x6).bind fun x8 =>
   (M.swapped x8.2 a2 a3).bind fun x9 =>
   (idx x5 x6).bind fun x10 =>
   M.SwapValue_l1 x1 a2 a3 k (List.set x5 (Int.toNat x6) (x10.1, x9)) (w64 (x6 + 1))
  else
   some x5

def M.SwapValue (a1 : ((List Int) × (List (Int × (List Int))))) (a2 : Int) (a3 : Int) : Option ((List Int) × (List (Int × (List Int)))) :=
 (M.copyQuery (a1.1, a1.2)).bind fun x1 =>
 ((M.isValue a2).bind fun x3 =>
 if x3 then
  (M.isValue a3).bind fun x4 =>
  some x4
 else
  some false).bind fun x2 =>
 if x2 then
  (M.SwapValue_l1 x1 a2 a3 FUEL x1.2 (0 : Int)).bind fun x7 =>
  some (x1.1, x7)
 else
  some (x1.1, x1.2)

def Q.eqIntS_l1 (a1 : (List Int)) (a2 : (List Int)) : Nat → Int → Option (Sum Unit Bool)
 | 0, _ => none
 | k + 1, x1 =>
  if (decide (x1 < (List.length a1 : Int))) then
   (idx a1 x1).bind fun x2 =>
   (idx a2 x1).bind fun x3 =>
   if (!decide (x2 = x3)) then
    some (.inr false)
   else
    Q.eqIntS_l1 a1 a2 k (w64 (x1 + 1))
  else
   some (.inl ())

def Q.eqIntS (a1 : (List Int)) (a2 : (List Int)) : Option Bool :=
 if (!decide ((List.length a1 : Int) = (List.length a2 : Int))) then
  some false
 else
  (Q.eqIntS_l1 a1 a2 FUEL (0 : Int)).bind fun o => match o with
   | .inl () =>
    some true
   | .inr r => some r

def Q.eqAtom (a1 : (Int × (List Int))) (a2 : (Int × (List Int))) : Option Bool :=
 if (!decide (a1.1 = a2.1)) then
  some false
 else
  (Q.eqIntS a1.2 a2.2).bind fun x1 =>
  if (!x1) then
   some false
  else
   some true

def Q.eqAtomS_l1 (a1 : (List (Int × (List Int)))) (a2 : (List (Int × (List Int)))) : Nat → Int → Option (Sum Unit Bool)
 | 0, _ => none
 | k + 1, x1 =>
  if (decide (x1 < (List.length a1 : Int))) then
   (idx a1 x1).bind fun x2 =>
   (idx a2 x1).bind fun x3 =>
   (Q.eqAtom x2 x3).bind fun x4 =>
   if (!x4) then
    some (.inr false)
   else
    Q.eqAtomS_l1 a1 a2 k (w64 (x1 + 1))
  else
   some (.inl ())

def Q.eqAtomS (a1 : (List (Int × (List Int)))) (a2 : (List (Int × (List Int)))) : Option Bool :=
 if (!decide ((List.length a1 : Int) = (List.length a2 : Int))) then
  some false
 else
  (Q.eqAtomS_l1 a1 a2 FUEL (0 : Int)).bind fun o => match o with
   | .inl () =>
    some true
   | .inr r => some r

def Q.eqQuery (a1 : ((List Int) × (List (Int × (List Int))))) (a2 : ((List Int) × (List (Int × (List Int))))) : Option Bool :=
 (Q.eqIntS a1.1 a2.1).bind fun x1 =>
 if (!x1) then
  some false
 else
  (Q.eqAtomS a1.2 a2.2).bind fun x2 =>
  if (!x2) then
   some false
  else
   some true

def Q.markIntS_l1  : Nat → (List Int) → Int → Int → Option (((List Int) × Int))
 | 0, _, _, _ => none
 | k + 1, x1, x2, x3 =>
  if (decide (x3 < (List.length x1 : Int))) then
   (idx x1 x3).bind fun x6 =>
   Q.markIntS_l1 k (List.set x1 (Int.toNat x3) x2) (w64 (x2 + 1)) (w64 (x3 + 1))
  else
   some (x1, x2)

def Q.markIntS (a1 : (List Int)) (a2 : Int) : Option (Int × (List Int)) :=
 (Q.markIntS_l1 FUEL a1 a2 (0 : Int)).bind fun (x4, x5) =>
 some (x5, x4)

def Q.markAtomS_l1  : Nat → (List (Int × (List Int))) → Int → Int → Option (((List (Int × (List Int))) × Int))
 | 0, _, _, _ => none
 | k + 1, x1, x2, x3 =>
  if (decide (x3 < (List.length x1 : Int))) then
   (idx x1 x3).bind fun x6 =>
   (idx (List.set x1 (Int.toNat x3) (x2, x6.2)) x3).bind fun x7 =>
   (Q.markIntS x7.2 (w64 (x2 + 1))).bind fun x8 =>
   Q.markAtomS_l1 k (List.set (List.set x1 (Int.toNat x3) (x2, x6.2)) (Int.toNat x3) (x7.1, x8.2)) x8.1 (w64 (x3 + 1))
  else
   some (x1, x2)

def Q.markAtomS (a1 : (List (Int × (List Int)))) (a2 : Int) : Option (Int × (List (Int × (List Int)))) :=
 (Q.markAtomS_l1 FUEL a1 a2 (0 : Int)).bind fun (x4, x5) =>
 some (x5, x4)

def Q.markQuery (a1 : ((List Int) × (List (Int × (List Int))))) (a2 : Int) : Option (Int × ((List Int) × (List (Int × (List Int))))) :=
 (Q.markIntS a1.1 a2).bind fun x1 =>
 (Q.markAtomS a1.2 x1.1).bind fun x2 =>
 some (x2.1, (x1.2, x2.2))

def Q.heldIntS_l1 (a1 : (List Int)) : Nat → Int → Int → Option (Sum Int Int)
 | 0, _, _ => none
 | k + 1, x1, x2 =>
  if (decide (x2 < (List.length a1 : Int))) then
   (idx a1 x2).bind fun x4 =>
   if (!decide (x4 = x1)) then
    some (.inr (-1))
   else
    Q.heldIntS_l1 a1 k (w64 (x1 + 1)) (w64 (x2 + 1))
  else
   some (.inl x1)

def Q.heldIntS (a1 : (List Int)) (a2 : Int) : Option Int :=
 (Q.heldIntS_l1 a1 FUEL a2 (0 : Int)).bind fun o => match o with
  | .inl x3 =>
   some x3
  | .inr r => some r

def Q.heldAtomS_l1 (a1 : (List (Int × (List Int)))) : Nat → Int → Int → Option (Sum Int Int)
 | 0, _, _ => none
 | k + 1, x1, x2 =>
  if (decide (x2 < (List.length a1 : Int))) then
   (idx a1 x2).bind fun x4 =>
   if (!decide (x4.1 = x1)) then
    some (.inr (-1))
   else
    (idx a1 x2).bind fun x5 =>
    (Q.heldIntS x5.2 (w64 (x1 + 1))).bind fun x6 =>
    if (decide (x6 < 0)) then
     some (.inr (-1))
    else
     Q.heldAtomS_l1 a1 k x6 (w64 (x2 + 1))
  else
   some (.inl x1)

def Q.heldAtomS (a1 : (List (Int × (List Int)))) (a2 : Int) : Option Int :=
 (Q.heldAtomS_l1 a1 FUEL a2 (0 : Int)).bind fun o => match o with
  | .inl x3 =>
   some x3
  | .inr r => some r

def Q.heldQuery (a1 : ((List Int) × (List (Int × (List Int))))) (a2 : Int) : Option Int :=
 (Q.heldIntS a1.1 a2).bind fun x1 =>
 if (decide (x1 < 0)) then
  some (-1)
 else
  (Q.heldAtomS a1.2 x1).bind fun x2 =>
  if (decide (x2 < 0)) then
   some (-1)
  else
   some x2

def Q.FnExactSwapValue (a1 : ((List Int) × (List (Int × (List Int))))) (a2 : Int) (a3 : Int) : Option Bool :=
 (Q.szQuery (a1.1, a1.2) 1048576).bind fun x1 =>
 if (decide (x1 < 0)) then
  some true
 else
  (Q.toQuery (a1.1, a1.2)).bind fun x2 =>
  (S.SwapValue x2 a2 a3).bind fun x3 =>
  (Q.toQuery (a1.1, a1.2)).bind fun x4 =>
  (M.SwapValue (x4.1, x4.2) a2 a3).bind fun x5 =>
  (Q.eqQuery (x5.1, x5.2) (x3.1, x3.2)).bind fun x6 =>
  if (!x6) then
   some false
  else
   (Q.toQuery (a1.1, a1.2)).bind fun x7 =>
   (Q.eqQuery (x4.1, x4.2) x7).bind fun x8 =>
   if (!x8) then
    some false
   else
    (Q.markQuery (x4.1, x4.2) 1).bind fun x9 =>
    (if (decide (x9.1 < 0)) then
     some true
    else
     (Q.eqQuery (x5.1, x5.2) (x3.1, x3.2)).bind fun x11 =>
     some (!x11)).bind fun x10 =>
    if x10 then
     some false
    else
     (Q.markQuery (x5.1, x5.2) 1).bind fun x12 =>
     (Q.heldQuery (x12.2.1, x12.2.2) 1).bind fun x13 =>
     if (decide (x13 < 0)) then
      some false
     else
      if (!decide (x13 = x12.1)) then
       some false
      else
       (Q.toQuery (a1.1, a1.2)).bind fun x14 =>
       (M.SwapValue x14 a2 a3).bind fun x15 =>
       (Q.eqQuery (x15.1, x15.2) (x3.1, x3.2)).bind fun x16 =>
       if (!x16) then
        some false
       else
        (Q.heldQuery (x12.2.1, x12.2.2) 1).bind fun x17 =>
        if (decide (x17 < 0)) then
         some false
        else
         if (!decide (x17 = x12.1)) then
          some false
         else
          some true

end Go.Gx.Px
