/- The Go functions as pure Lean functions, printed by program. Conditions: none. -/
import Derived.Test.YtdkfiadoiapnbaaGxHo
import Derived.Test.YtdkfiadoiapnbaaGxAb
import Derived.Test.YtdkfiadoiapnbaaGxSq
set_option linter.unusedVariables false
namespace Go.Gx.Px

def Q.szIntS (a1 : (List Int)) (a2 : Int) : Option Int :=
 if (decide ((w64 (a2 - (List.length a1 : Int))) < 0)) then
  some (-1)
 else
  some (w64 (a2 - (List.length a1 : Int)))

def Q.szMethod (a1 : (Int × (List Int) × Int × Int × Int)) (a2 : Int) : Option Int :=
 (Q.szIntS a1.2.1 a2).bind fun x1 =>
 if (decide (x1 < 0)) then
  some (-1)
 else
  some x1

def Q.szMethodS_l1 (a1 : (List (Int × (List Int) × Int × Int × Int))) : Nat → Int → Int → Option (Sum Int Int)
 | 0, _, _ => none
 | k + 1, x1, x2 =>
  if (decide (x2 < (List.length a1 : Int))) then
   (idx a1 x2).bind fun x4 =>
   (Q.szMethod x4 x1).bind fun x5 =>
   if (decide (x5 < 0)) then
    some (.inr (-1))
   else
    Q.szMethodS_l1 a1 k x5 (w64 (x2 + 1))
  else
   some (.inl x1)

def Q.szMethodS (a1 : (List (Int × (List Int) × Int × Int × Int))) (a2 : Int) : Option Int :=
 if (decide ((w64 (a2 - (List.length a1 : Int))) < 0)) then
  some (-1)
 else
  (Q.szMethodS_l1 a1 FUEL (w64 (a2 - (List.length a1 : Int))) (0 : Int)).bind fun o => match o with
   | .inl x3 =>
    some x3
   | .inr r => some r

def Q.szAtom (a1 : (Int × (List Int))) (a2 : Int) : Option Int :=
 (Q.szIntS a1.2 a2).bind fun x1 =>
 if (decide (x1 < 0)) then
  some (-1)
 else
  some x1

def Q.szAtomS_l1 (a1 : (List (Int × (List Int)))) : Nat → Int → Int → Option (Sum Int Int)
 | 0, _, _ => none
 | k + 1, x1, x2 =>
  if (decide (x2 < (List.length a1 : Int))) then
   (idx a1 x2).bind fun x4 =>
   (Q.szAtom x4 x1).bind fun x5 =>
   if (decide (x5 < 0)) then
    some (.inr (-1))
   else
    Q.szAtomS_l1 a1 k x5 (w64 (x2 + 1))
  else
   some (.inl x1)

def Q.szAtomS (a1 : (List (Int × (List Int)))) (a2 : Int) : Option Int :=
 if (decide ((w64 (a2 - (List.length a1 : Int))) < 0)) then
  some (-1)
 else
  (Q.szAtomS_l1 a1 FUEL (w64 (a2 - (List.length a1 : Int))) (0 : Int)).bind fun o => match o with
   | .inl x3 =>
    some x3
   | .inr r => some r

def Q.szQuery (a1 : ((List Int) × (List (Int × (List Int))))) (a2 : Int) : Option Int :=
 (Q.szIntS a1.1 a2).bind fun x1 =>
 if (decide (x1 < 0)) then
  some (-1)
 else
  (Q.szAtomS a1.2 x1).bind fun x2 =>
  if (decide (x2 < 0)) then
   some (-1)
  else
   some x2

def Q.szStepS (a1 : (List (Int × Int))) (a2 : Int) : Option Int :=
 if (decide ((w64 (a2 - (List.length a1 : Int))) < 0)) then
  some (-1)
 else
  some (w64 (a2 - (List.length a1 : Int)))

def S.l1In (a1 : Int) (a2 : Int) (a3 : Int) : Option Bool :=
 (if (decide (a2 ≤ a1)) then
  some (decide (a1 ≤ a3))
 else
  some false).bind fun x1 =>
 some x1

def S.l2Has_l1 (a1 : (List Int)) (a2 : Int) : Nat → Int → Option (Sum Unit Bool)
 | 0, _ => none
 | k + 1, x1 =>
  if (decide (x1 < (List.length a1 : Int))) then
   (idx a1 x1).bind fun x2 =>
   if (decide (x2 = a2)) then
    some (.inr true)
   else
    S.l2Has_l1 a1 a2 k (w64 (x1 + 1))
  else
   some (.inl ())

def S.l2Has (a1 : (List Int)) (a2 : Int) : Option Bool :=
 (S.l2Has_l1 a1 a2 FUEL (0 : Int)).bind fun o => match o with
  | .inl () =>
   some false
  | .inr r => some r

def S.l3Put_l1 (a1 : (List Int)) (a2 : Int) : Nat → (List Int) → Bool → Int → Option (((List Int) × Bool))
 | 0, _, _, _ => none
 | k + 1, x2, x3, x4 =>
  if (decide (x4 < (List.length a1 : Int))) then
   (if (!x3) then
    (idx a1 x4).bind fun x8 =>
    some (decide (a2 < x8))
   else
    some false).bind fun x7 =>
   (if x7 then
    (app x2 ([a2])).bind fun x11 =>
    some (x11, true)
   else
    some (x2, x3)).bind fun (x9, x10) =>
   (idx a1 x4).bind fun x12 =>
   (app x9 ([x12])).bind fun x13 =>
   S.l3Put_l1 a1 a2 k x13 x10 (w64 (x4 + 1))
  else
   some (x2, x3)

def S.l3Put (a1 : (List Int)) (a2 : Int) : Option (List Int) :=
 (S.l2Has a1 a2).bind fun x1 =>
 if x1 then
  some a1
 else
  (S.l3Put_l1 a1 a2 FUEL ([] : List Int) false (0 : Int)).bind fun (x5, x6) =>
  (if (!x6) then
   (app x5 ([a2])).bind fun x15 =>
   some x15
  else
   some x5).bind fun x14 =>
  some x14

def S.l30Passed_l1 (a1 : (Int × (List Int) × Int × Int × Int)) (a2 : (Int × (List Int))) : Nat → (List Int) → Int → Option ((List Int))
 | 0, _, _ => none
 | k + 1, x1, x2 =>
  if (decide (x2 < (List.length a1.2.1 : Int))) then
   ((idx a1.2.1 x2).bind fun x5 =>
   (S.l1In x5 0 (w64 ((List.length a2.2 : Int) - 1))).bind fun x6 =>
   if x6 then
    (idx a1.2.1 x2).bind fun x7 =>
    (idx a2.2 x7).bind fun x8 =>
    (S.l1In x8 0 9).bind fun x9 =>
    some x9
   else
    some false).bind fun x4 =>
   (if x4 then
    (idx a1.2.1 x2).bind fun x11 =>
    (idx a2.2 x11).bind fun x12 =>
    (S.l3Put x1 x12).bind fun x13 =>
    some x13
   else
    some x1).bind fun x10 =>
   S.l30Passed_l1 a1 a2 k x10 (w64 (x2 + 1))
  else
   some x1

def S.l30Passed (a1 : (Int × (List Int) × Int × Int × Int)) (a2 : (Int × (List Int))) : Option (List Int) :=
 (S.l30Passed_l1 a1 a2 FUEL ([] : List Int) (0 : Int)).bind fun x3 =>
 some x3

def S.Disclosed_l2 (x13 : (List Int)) : Nat → (List Int) → Int → Option ((List Int))
 | 0, _, _ => none
 | k + 1, x14, x15 =>
  if (decide (x15 < (List.length x13 : Int))) then
   (idx x13 x15).bind fun x17 =>
   (S.l3Put x14 x17).bind fun x18 =>
   S.Disclosed_l2 x13 k x18 (w64 (x15 + 1))
  else
   some x14

def S.Disclosed_l1 (a3 : (List (Int × Int))) (a2 : ((List Int) × (List (Int × (List Int))))) (a1 : (List (Int × (List Int) × Int × Int × Int))) : Nat → (List Int) → Int → Option ((List Int))
 | 0, _, _ => none
 | k + 1, x1, x2 =>
  if (decide (x2 < (List.length a3 : Int))) then
   ((idx a3 x2).bind fun x5 =>
   (S.l1In x5.1 0 (w64 ((List.length a2.2 : Int) - 1))).bind fun x6 =>
   if (!x6) then
    some true
   else
    (idx a3 x2).bind fun x7 =>
    (S.l1In x7.2 0 (w64 ((List.length a1 : Int) - 1))).bind fun x8 =>
    some (!x8)).bind fun x4 =>
   if x4 then
    S.Disclosed_l1 a3 a2 a1 k x1 (w64 (x2 + 1))
   else
    (idx a3 x2).bind fun x9 =>
    (idx a3 x2).bind fun x10 =>
    (idx a1 x9.2).bind fun x11 =>
    (idx a2.2 x10.1).bind fun x12 =>
    (S.l30Passed x11 x12).bind fun x13 =>
    (S.Disclosed_l2 x13 FUEL x1 (0 : Int)).bind fun x16 =>
    S.Disclosed_l1 a3 a2 a1 k x16 (w64 (x2 + 1))
  else
   some x1

def S.Disclosed (a1 : (List (Int × (List Int) × Int × Int × Int))) (a2 : ((List Int) × (List (Int × (List Int))))) (a3 : (List (Int × Int))) : Option (List Int) :=
 (S.Disclosed_l1 a3 a2 a1 FUEL ([] : List Int) (0 : Int)).bind fun x3 =>
 some x3

def Q.toIntS_l1 (a1 : (List Int)) : Nat → (List Int) → Int → Option ((List Int))
 | 0, _, _ => none
 | k + 1, x2, x3 =>
  if (decide (x3 < (List.length a1 : Int))) then
   (idx a1 x3).bind fun x5 =>
   (idx x2 x3).bind fun x6 =>
   Q.toIntS_l1 a1 k (List.set x2 (Int.toNat x3) x5) (w64 (x3 + 1))
  else
   some x2

def Q.toIntS (a1 : (List Int)) : Option (List Int) :=
 (mk (List.length a1 : Int) (0 : Int)).bind fun x1 =>
 (Q.toIntS_l1 a1 FUEL x1 (0 : Int)).bind fun x4 =>
 some x4

def Q.toMethod (a1 : (Int × (List Int) × Int × Int × Int)) : Option (Int × (List Int) × Int × Int × Int) :=
 (Q.toIntS a1.2.1).bind fun x1 =>
 some (a1.1, x1, a1.2.2.1, a1.2.2.2.1, a1.2.2.2.2)

def Q.toMethodS_l1 (a1 : (List (Int × (List Int) × Int × Int × Int))) : Nat → (List (Int × (List Int) × Int × Int × Int)) → Int → Option ((List (Int × (List Int) × Int × Int × Int)))
 | 0, _, _ => none
 | k + 1, x2, x3 =>
  if (decide (x3 < (List.length a1 : Int))) then
   (idx a1 x3).bind fun x5 =>
   (Q.toMethod x5).bind fun x6 =>
   (idx x2 x3).bind fun x7 =>
   Q.toMethodS_l1 a1 k (List.set x2 (Int.toNat x3) (x6.1, x6.2.1, x6.2.2.1, x6.2.2.2.1, x6.2.2.2.2)) (w64 (x3 + 1))
  else
   some x2

def Q.toMethodS (a1 : (List (Int × (List Int) × Int × Int × Int))) : Option (List (Int × (List Int) × Int × Int × Int)) :=
 (mk (List.length a1 : Int) (0, [], 0, 0, 0)).bind fun x1 =>
 (Q.toMethodS_l1 a1 FUEL x1 (0 : Int)).bind fun x4 =>
 some x4

def Q.toAtom (a1 : (Int × (List Int))) : Option (Int × (List Int)) :=
 (Q.toIntS a1.2).bind fun x1 =>
 some (a1.1, x1)

def Q.toAtomS_l1 (a1 : (List (Int × (List Int)))) : Nat → (List (Int × (List Int))) → Int → Option ((List (Int × (List Int))))
 | 0, _, _ => none
 | k + 1, x2, x3 =>
  if (decide (x3 < (List.length a1 : Int))) then
   (idx a1 x3).bind fun x5 =>
   (Q.toAtom x5).bind fun x6 =>
   (idx x2 x3).bind fun x7 =>
   Q.toAtomS_l1 a1 k (List.set x2 (Int.toNat x3) (x6.1, x6.2)) (w64 (x3 + 1))
  else
   some x2

def Q.toAtomS (a1 : (List (Int × (List Int)))) : Option (List (Int × (List Int))) :=
 (mk (List.length a1 : Int) (0, [])).bind fun x1 =>
 (Q.toAtomS_l1 a1 FUEL x1 (0 : Int)).bind fun x4 =>
 some x4

def Q.toQuery (a1 : ((List Int) × (List (Int × (List Int))))) : Option ((List Int) × (List (Int × (List Int)))) :=
 (Q.toIntS a1.1).bind fun x1 =>
 (Q.toAtomS a1.2).bind fun x2 =>
 some (x1, x2)

def Q.toStep (a1 : (Int × Int)) : Option (Int × Int) :=
 some (a1.1, a1.2)

def Q.toStepS_l1 (a1 : (List (Int × Int))) : Nat → (List (Int × Int)) → Int → Option ((List (Int × Int)))
 | 0, _, _ => none
 | k + 1, x2, x3 =>
  if (decide (x3 < (List.length a1 : Int))) then
   (idx a1 x3).bind fun x5 =>
   (Q.toStep x5).bind fun x6 =>
   (idx x2 x3).bind fun x7 =>
   Q.toStepS_l1 a1 k (List.set x2 (Int.toNat x3) (x6.1, x6.2)) (w64 (x3 + 1))
  else
   some x2

def Q.toStepS (a1 : (List (Int × Int))) : Option (List (Int × Int)) :=
 (mk (List.length a1 : Int) (0, 0)).bind fun x1 =>
 (Q.toStepS_l1 a1 FUEL x1 (0 : Int)).bind fun x4 =>
 some x4

def M.within (a1 : Int) (a2 : Int) (a3 : Int) : Option Bool :=
 (if (decide (a2 ≤ a1)) then
  some (decide (a1 ≤ a3))
 else
  some false).bind fun x1 =>
 some x1

def M.isValue (a1 : Int) : Option Bool :=
 (M.within a1 0 9).bind fun x1 =>
 some x1

def M.passed_l1 (a1 : (Int × (List Int) × Int × Int × Int)) (a2 : (Int × (List Int))) : Nat → (List Int) → Int → Option ((List Int))
 | 0, _, _ => none
 | k + 1, x1, x2 =>
  if (decide (x2 < (List.length a1.2.1 : Int))) then
   (idx a1.2.1 x2).bind fun x4 =>
   ((M.within x4 0 (w64 ((List.length a2.2 : Int) - 1))).bind fun x6 =>
   if x6 then
    (idx a2.2 x4).bind fun x7 =>
    (M.isValue x7).bind fun x8 =>
    some x8
   else
    some false).bind fun x5 =>
   (if x5 then
    (idx a2.2 x4).bind fun x10 =>
    (app x1 ([x10])).bind fun x11 =>
    some x11
   else
    some x1).bind fun x9 =>
   M.passed_l1 a1 a2 k x9 (w64 (x2 + 1))
  else
   some x1

def M.passed (a1 : (Int × (List Int) × Int × Int × Int)) (a2 : (Int × (List Int))) : Option (List Int) :=
 (M.passed_l1 a1 a2 FUEL ([] : List Int) (0 : Int)).bind fun x3 =>
 some x3

def Slices.Sort_Lint_int (a1 : (List Int)) : Option (List Int) :=
 sortI a1

def Slices.Compact_Lint_int (a1 : (List Int)) : Option (List Int) :=
 compactI a1

def M.Disclosed_l1 (a3 : (List (Int × Int))) (a2 : ((List Int) × (List (Int × (List Int))))) (a1 : (List (Int × (List Int) × Int × Int × Int))) : Nat → (List Int) → Int → Option ((List Int))
 | 0, _, _ => none
 | k + 1, x1, x2 =>
  if (decide (x2 < (List.length a3 : Int))) then
   (idx a3 x2).bind fun x4 =>
   ((M.within x4.1 0 (w64 ((List.length a2.2 : Int) - 1))).bind fun x6 =>
   if x6 then
    (M.within x4.2 0 (w64 ((List.length a1 : Int) - 1))).bind fun x7 =>
    some x7
   else
    some false).bind fun x5 =>
   (if x5 then
    (idx a1 x4.2).bind fun x9 =>
    (idx a2.2 x4.1).bind fun x10 =>
    (M.passed x9 x10).bind fun x11 =>
    (appB x1 x11).bind fun x12 =>
    some x12
   else
    some x1).bind fun x8 =>
   M.Disclosed_l1 a3 a2 a1 k x8 (w64 (x2 + 1))
  else
   some x1

def M.Disclosed (a1 : (List (Int × (List Int) × Int × Int × Int))) (a2 : ((List Int) × (List (Int × (List Int))))) (a3 : (List (Int × Int))) : Option (List Int) :=
 (M.Disclosed_l1 a3 a2 a1 FUEL ([] : List Int) (0 : Int)).bind fun x3 =>
 (Slices.Sort_Lint_int x3).bind fun x13 =>
 (Slices.Compact_Lint_int x13).bind fun x14 =>
 some x14

def Q.eqIntS_l1 (a1 : (List Int)) (a2 : (List Int)) : Nat → Int → Option (Sum Unit Bool)
 | 0, _ => none
 | k + 1, x1 =>
  if (decide (x1 < (List.length a1 : Int))) then
   (idx a1 x1).bind fun x2 =>
   (idx a2 x1).bind fun x3 =>
   if (!decide (x2 = x3)) then
    some (.inr false)
   else
    Q.eqIntS_l1 a1 a2 k (w64 (x1 + 1))
  else
   some (.inl ())

def Q.eqIntS (a1 : (List Int)) (a2 : (List Int)) : Option Bool :=
 if (!decide ((List.length a1 : Int) = (List.length a2 : Int))) then
  some false
 else
  (Q.eqIntS_l1 a1 a2 FUEL (0 : Int)).bind fun o => match o with
   | .inl () =>
    some true
   | .inr r => some r

def Q.eqMethod (a1 : (Int × (List Int) × Int × Int × Int)) (a2 : (Int × (List Int) × Int × Int × Int)) : Option Bool :=
 if (!decide (a1.1 = a2.1)) then
  some false
 else
  (Q.eqIntS a1.2.1 a2.2.1).bind fun x1 =>
  if (!x1) then
   some false
  else
   if (!decide (a1.2.2.1 = a2.2.2.1)) then
    some false
   else
    if (!decide (a1.2.2.2.1 = a2.2.2.2.1)) then
     some false
    else
     if (!decide (a1.2.2.2.2 = a2.2.2.2.2)) then
      some false
     else
      some true

def Q.eqMethodS_l1 (a1 : (List (Int × (List Int) × Int × Int × Int))) (a2 : (List (Int × (List Int) × Int × Int × Int))) : Nat → Int → Option (Sum Unit Bool)
 | 0, _ => none
 | k + 1, x1 =>
  if (decide (x1 < (List.length a1 : Int))) then
   (idx a1 x1).bind fun x2 =>
   (idx a2 x1).bind fun x3 =>
   (Q.eqMethod x2 x3).bind fun x4 =>
   if (!x4) then
    some (.inr false)
   else
    Q.eqMethodS_l1 a1 a2 k (w64 (x1 + 1))
  else
   some (.inl ())

def Q.eqMethodS (a1 : (List (Int × (List Int) × Int × Int × Int))) (a2 : (List (Int × (List Int) × Int × Int × Int))) : Option Bool :=
 if (!decide ((List.length a1 : Int) = (List.length a2 : Int))) then
  some false
 else
  (Q.eqMethodS_l1 a1 a2 FUEL (0 : Int)).bind fun o => match o with
   | .inl () =>
    some true
   | .inr r => some r

def Q.eqAtom (a1 : (Int × (List Int))) (a2 : (Int × (List Int))) : Option Bool :=
 if (!decide (a1.1 = a2.1)) then
  some false
 else
  (Q.eqIntS a1.2 a2.2).bind fun x1 =>
  if (!x1) then
   some false
  else
   some true

def Q.eqAtomS_l1 (a1 : (List (Int × (List Int)))) (a2 : (List (Int × (List Int)))) : Nat → Int → Option (Sum Unit Bool)
 | 0, _ => none
 | k + 1, x1 =>
  if (decide (x1 < (List.length a1 : Int))) then
   (idx a1 x1).bind fun x2 =>
   (idx a2 x1).bind fun x3 =>
   (Q.eqAtom x2 x3).bind fun x4 =>
   if (!x4) then
    some (.inr false)
   else
    Q.eqAtomS_l1 a1 a2 k (w64 (x1 + 1))
  else
   some (.inl ())

def Q.eqAtomS (a1 : (List (Int × (List Int)))) (a2 : (List (Int × (List Int)))) : Option Bool :=
 if (!decide ((List.length a1 : Int) = (List.length a2 : Int))) then
  some false
 else
  (Q.eqAtomS_l1 a1 a2 FUEL (0 : Int)).bind fun o => match o with
   | .inl () =>
    some true
   | .inr r => some r

def Q.eqQuery (a1 : ((List Int) × (List (Int × (List Int))))) (a2 : ((List Int) × (List (Int × (List Int))))) : Option Bool :=
 (Q.eqIntS a1.1 a2.1).bind fun x1 =>
 if (!x1) then
  some false
 else
  (Q.eqAtomS a1.2 a2.2).bind fun x2 =>
  if (!x2) then
   some false
  else
   some true

def Q.eqStep (a1 : (Int × Int)) (a2 : (Int × Int)) : Option Bool :=
 if (!decide (a1.1 = a2.1)) then
  some false
 else
  if (!decide (a1.2 = a2.2)) then
   some false
  else
   some true

def Q.eqStepS_l1 (a1 : (List (Int × Int))) (a2 : (List (Int × Int))) : Nat → Int → Option (Sum Unit Bool)
 | 0, _ => none
 | k + 1, x1 =>
  if (decide (x1 < (List.length a1 : Int))) then
   (idx a1 x1).bind fun x2 =>
   (idx a2 x1).bind fun x3 =>
   (Q.eqStep x2 x3).bind fun x4 =>
   if (!x4) then
    some (.inr false)
   else
    Q.eqStepS_l1 a1 a2 k (w64 (x1 + 1))
  else
   some (.inl ())

def Q.eqStepS (a1 : (List (Int × Int))) (a2 : (List (Int × Int))) : Option Bool :=
 if (!decide ((List.length a1 : Int) = (List.length a2 : Int))) then
  some false
 else
  (Q.eqStepS_l1 a1 a2 FUEL (0 : Int)).bind fun o => match o with
   | .inl () =>
    some true
   | .inr r => some r

def Q.markIntS_l1  : Nat → (List Int) → Int → Int → Option (((List Int) × Int))
 | 0, _, _, _ => none
 | k + 1, x1, x2, x3 =>
  if (decide (x3 < (List.length x1 : Int))) then
   (idx x1 x3).bind fun x6 =>
   Q.markIntS_l1 k (List.set x1 (Int.toNat x3) x2) (w64 (x2 + 1)) (w64 (x3 + 1))
  else
   some (x1, x2)

def Q.markIntS (a1 : (List Int)) (a2 : Int) : Option (Int × (List Int)) :=
 (Q.markIntS_l1 FUEL a1 a2 (0 : Int)).bind fun (x4, x5) =>
 some (x5, x4)

def Q.markMethodS_l1  : Nat → (List (Int × (List Int) × Int × Int × Int)) → Int → Int → Option (((List (Int × (List Int) × Int × Int × Int)) × Int))
 | 0, _, _, _ => none
 | k + 1, x1, x2, x3 =>
  if (decide (x3 < (List.length x1 : Int))) then
   (idx x1 x3).bind fun x6 =>
   (idx (List.set x1 (Int.toNat x3) (x2, x6.2.1, x6.2.2.1, x6.2.2.2.1, x6.2.2.2.2)) x3).bind fun x7 =>
   (Q.markIntS x7.2.1 (w64 (x2 + 1))).bind fun x8 =>
   (idx (List.set (List.set x1 (Int.toNat x3) (x2, x6.2.1, x6.2.2.1, x6.2.2.2.1, x6.2.2.2.2)) (Int.toNat x3) (x7.1, x8.2, x7.2.2.1, x7.2.2.2.1, x7.2.2.2.2)) x3).bind fun x9 =>
   (idx (List.set (List.set (List.set x1 (Int.toNat x3) (x2, x6.2.1, x6.2.2.1, x6.2.2.2.1, x6.2.2.2.2)) (Int.toNat x3) (x7.1, x8.2, x7.2.2.1, x7.2.2.2.1, x7.2.2.2.2)) (Int.toNat x3) (x9.1, x9.2.1, x8.1, x9.2.2.2.1, x9.2.2.2.2)) x3).bind fun x10 =>
   (idx (List.set (List.set (List.set (List.set x1 (Int.toNat x3) (x2, x6.2.1, x6.2.2.1, x6.2.2.2.1, x6.2.2.2.2)) (Int.toNat x3) (x7.1, x8.2, x7.2.2.1, x7.2.2.2.1, x7.2.2.2.2)) (Int.toNat x3) (x9.1, x9.2.1, x8.1, x9.2.2.2.1, x9.2.2.2.2)) (Int.toNat x3) (x10.1, x10.2.1, x10.2.2.1, w64 (x8.1 + 1), x10.2.2.2.2)) x3).bind fun x11 =>
   Q.markMethodS_l1 k (List.set (List.set (List.set (List.set (List.set x1 (Int.toNat x3) (x2, x6.2.1, x6.2.2.1, x6.2.2.2.1, x6.2.2.2.2)) (Int.toNat x3) (x7.1, x8.2, x7.2.2.1, x7.2.2.2.1, x7.2.2.2.2)) (Int.toNat x3) (x9.1, x9.2.1, x8.1, x9.2.2.2.1, x9.2.2.2.2)) (Int.toNat x3) (x10.1, x10.2.1, x10.2.2.1, w64 (x8.1 + 1), x10.2.2.2.2)) (Int.toNat x3) (x11.1, x11.2.1, x11.2.2.1, x11.2.2.2.1, w64 ((w64 (x8.1 + 1)) + 1))) (w64 ((w64 ((w64 (x8.1 + 1)) + 1)) + 1)) (w64 (x3 + 1))
  else
   some (x1, x2)

def Q.markMethodS (a1 : (List (Int × (List Int) × Int × Int × Int))) (a2 : Int) : Option (Int × (List (Int × (List Int) × Int × Int × Int))) :=
 (Q.markMethodS_l1 FUEL a1 a2 (0 : Int)).bind fun (x4, x5) =>
 some (x5, x4)

def Q.markAtomS_l1  : Nat → (List (Int × (List Int))) → Int → Int → Option (((List (Int × (List Int))) × Int))
 | 0, _, _, _ => none
 | k + 1, x1, x2, x3 =>
  if (decide (x3 < (List.length x1 : Int))) then
   (idx x1 x3).bind fun x6 =>
   (idx (List.set x1 (Int.toNat x3) (x2, x6.2)) x3).bind fun x7 =>
   (Q.markIntS x7.2 (w64 (x2 + 1))).bind fun x8 =>
   Q.markAtomS_l1 k (List.set (List.set x1 (Int.toNat x3) (x2, x6.2)) (Int.toNat x3) (x7.1, x8.2)) x8.1 (w64 (x3 + 1))
  else
   some (x1, x2)

def Q.markAtomS (a1 : (List (Int × (List Int)))) (a2 : Int) : Option (Int × (List (Int × (List Int)))) :=
 (Q.markAtomS_l1 FUEL a1 a2 (0 : Int)).bind fun (x4, x5) =>
 some (x5, x4)

def Q.markQuery (a1 : ((List Int) × (List (Int × (List Int))))) (a2 : Int) : Option (Int × ((List Int) × (List (Int × (List Int))))) :=
 (Q.markIntS a1.1 a2).bind fun x1 =>
 (Q.markAtomS a1.2 x1.1).bind fun x2 =>
 some (x2.1, (x1.2, x2.2))

def Q.markStepS_l1  : Nat → (List (Int × Int)) → Int → Int → Option (((List (Int × Int)) × Int))
 | 0, _, _, _ => none
 | k + 1, x1, x2, x3 =>
  if (decide (x3 < (List.length x1 : Int))) then
   (idx x1 x3).bind fun x6 =>
   (idx (List.set x1 (Int.toNat x3) (x2, x6.2)) x3).bind fun x7 =>
   Q.markStepS_l1 k (List.set (List.set x1 (Int.toNat x3) (x2, x6.2)) (Int.toNat x3) (x7.1, w64 (x2 + 1))) (w64 ((w64 (x2 + 1)) + 1)) (w64 (x3 + 1))
  else
   some (x1, x2)

def Q.markStepS (a1 : (List (Int × Int))) (a2 : Int) : Option (Int × (List (Int × Int))) :=
 (Q.markStepS_l1 FUEL a1 a2 (0 : Int)).bind fun (x4, x5) =>
 some (x5, x4)

def Q.heldIntS_l1 (a1 : (List Int)) : Nat → Int → Int → Option (Sum Int Int)
 | 0, _, _ => none
 | k + 1, x1, x2 =>
  if (decide (x2 < (List.length a1 : Int))) then
   (idx a1 x2).bind fun x4 =>
   if (!decide (x4 = x1)) then
    some (.inr (-1))
   else
    Q.heldIntS_l1 a1 k (w64 (x1 + 1)) (w64 (x2 + 1))
  else
   some (.inl x1)

def Q.heldIntS (a1 : (List Int)) (a2 : Int) : Option Int :=
 (Q.heldIntS_l1 a1 FUEL a2 (0 : Int)).bind fun o => match o with
  | .inl x3 =>
   some x3
  | .inr r => some r

def Q.FnExactDisclosed (a1 : (List (Int × (List Int) × Int × Int × Int))) (a2 : ((List Int) × (List (Int × (List Int))))) (a3 : (List (Int × Int))) : Option Bool :=
 (Q.szMethodS a1 1048576).bind fun x1 =>
 if (decide (x1 < 0)) then
  some true
 else
  (Q.szQuery (a2.1, a2.2) x1).bind fun x2 =>
  if (decide (x2 < 0)) then
   some true
  else
   (Q.szStepS a3 x2).bind fun x3 =>
   if (decide (x3 < 0)) then
    some true
   else
    (Q.toMethodS a1).bind fun x4 =>
    (Q.toQuery (a2.1, a2.2)).bind fun x5 =>
    (Q.toStepS a3).bind fun x6 =>
    (S.Disclosed x4 x5 x6).bind fun x7 =>
    (Q.toMethodS a1).bind fun x8 =>
    (Q.toQuery (a2.1, a2.2)).bind fun x9 =>
    (Q.toStepS a3).bind fun x10 =>
    (M.Disclosed x8 (x9.1, x9.2) x10).bind fun x11 =>
    (Q.eqIntS x11 x7).bind fun x12 =>
    if (!x12) then
     some false
    else
     (Q.toMethodS a1).bind fun x13 =>
     (Q.eqMethodS x8 x13).bind fun x14 =>
     if (!x14) then
      some false
     else
      (Q.toQuery (a2.1, a2.2)).bind fun x15 =>
      (Q.eqQuery (x9.1, x9.2) x15).bind fun x16 =>
      if (!x16) then
       some false
      else
       (Q.toStepS a3).bind fun x17 =>
       (Q.eqStepS x10 x17).bind fun x18 =>
       if (!x18) then
        some false
       else
        (Q.markMethodS x8 1).bind fun x19 =>
        (Q.markQuery (x9.1, x9.2) x19.1).bind fun x20 =>
        (Q.markStepS x10 x20.1).bind fun x21 =>
        (if (decide (x21.1 < 0)) then
         some true
        else
         (Q.eqIntS x11 x7).bind fun x23 =>
         some (!x23)).bind fun x22 =>
        if x22 then
         some false
        else
         (Q.markIntS x11 1).bind fun x24 =>
         (Q.heldIntS x24.2 1).bind fun x25 =>
         if (decide (x25 < 0)) then
          some false
         else
          if (!decide (x25 = x24.1)) then
           some false
          else
           (Q.toMethodS a1).bind fun x26 =>
           (Q.toQuery (a2.1, a2.2)).bind fun x27 =>
           (Q.toStepS a3).bind fun x28 =>
           (M.Disclosed x26 x27 x28).bind fun x29 =>
           (Q.eqIntS x29 x7).bind fun x30 =>
           if (!x30) then
            some false
           else
            (Q.heldIntS x24.2 1).bind fun x31 =>
            if (decide (x31 < 0)) then
             some false
            else
             if (!decide (x31 = x24.1)) then
              some false
             else
              some true

end Go.Gx.Px
