/- The Go functions as pure Lean functions, printed by program. Conditions: none. -/
import Derived.Test.YtdkfiadoiapnbaaGreatGxHo
import Derived.Test.YtdkfiadoiapnbaaGreatGxAb
import Derived.Test.YtdkfiadoiapnbaaGreatGxSq
set_option linter.unusedVariables false
namespace Go.Gx.Px

def S.l1In (a1 : Int) (a2 : Int) (a3 : Int) : Option Bool :=
 (if (decide (a2 ≤ a1)) then
  some (decide (a1 ≤ a3))
 else
  some false).bind fun x1 =>
 some x1

def S.l2Has_l1 (a1 : (List Int)) (a2 : Int) : Nat → Int → Option (Sum Unit Bool)
 | 0, _ => none
 | k + 1, x1 =>
  if (decide (x1 < (List.length a1 : Int))) then
   (idx a1 x1).bind fun x2 =>
   if (decide (x2 = a2)) then
    some (.inr true)
   else
    S.l2Has_l1 a1 a2 k (w64 (x1 + 1))
  else
   some (.inl ())

def S.l2Has (a1 : (List Int)) (a2 : Int) : Option Bool :=
 (S.l2Has_l1 a1 a2 FUEL (0 : Int)).bind fun o => match o with
  | .inl () =>
   some false
  | .inr r => some r

def S.l3Put_l1 (a1 : (List Int)) (a2 : Int) : Nat → (List Int) → Bool → Int → Option (((List Int) × Bool))
 | 0, _, _, _ => none
 | k + 1, x2, x3, x4 =>
  if (decide (x4 < (List.length a1 : Int))) then
   (if (!x3) then
    (idx a1 x4).bind fun x8 =>
    some (decide (a2 < x8))
   else
    some false).bind fun x7 =>
   (if x7 then
    (app x2 ([a2])).bind fun x11 =>
    some (x11, true)
   else
    some (x2, x3)).bind fun (x9, x10) =>
   (idx a1 x4).bind fun x12 =>
   (app x9 ([x12])).bind fun x13 =>
   S.l3Put_l1 a1 a2 k x13 x10 (w64 (x4 + 1))
  else
   some (x2, x3)

def S.l3Put (a1 : (List Int)) (a2 : Int) : Option (List Int) :=
 (S.l2Has a1 a2).bind fun x1 =>
 if x1 then
  some a1
 else
  (S.l3Put_l1 a1 a2 FUEL ([] : List Int) false (0 : Int)).bind fun (x5, x6) =>
  (if (!x6) then
   (app x5 ([a2])).bind fun x15 =>
   some x15
  else
   some x5).bind fun x14 =>
  some x14

def S.l30Passed_l1 (a1 : (Int × (List Int) × Int × Int × Int)) (a2 : (Int × (List Int))) : Nat → (List Int) → Int → Option ((List Int))
 | 0, _, _ => none
 | k + 1, x1, x2 =>
  if (decide (x2 < (List.length a1.2.1 : Int))) then
   ((idx a1.2.1 x2).bind fun x5 =>
   (S.l1In x5 0 (w64 ((List.length a2.2 : Int) - 1))).bind fun x6 =>
   if x6 then
    (idx a1.2.1 x2).bind fun x7 =>
    (idx a2.2 x7).bind fun x8 =>
    (S.l1In x8 0 9).bind fun x9 =>
    some x9
   else
    some false).bind fun x4 =>
   (if x4 then
    (idx a1.2.1 x2).bind fun x11 =>
    (idx a2.2 x11).bind fun x12 =>
    (S.l3Put x1 x12).bind fun x13 =>
    some x13
   else
    some x1).bind fun x10 =>
   S.l30Passed_l1 a1 a2 k x10 (w64 (x2 + 1))
  else
   some x1

def S.l30Passed (a1 : (Int × (List Int) × Int × Int × Int)) (a2 : (Int × (List Int))) : Option (List Int) :=
 (S.l30Passed_l1 a1 a2 FUEL ([] : List Int) (0 : Int)).bind fun x3 =>
 some x3

def S.Disclosed_l2 (x13 : (List Int)) : Nat → (List Int) → Int → Option ((List Int))
 | 0, _, _ => none
 | k + 1, x14, x15 =>
  if (decide (x15 < (List.length x13 : Int))) then
   (idx x13 x15).bind fun x17 =>
   (S.l3Put x14 x17).bind fun x18 =>
   S.Disclosed_l2 x13 k x18 (w64 (x15 + 1))
  else
   some x14

def S.Disclosed_l1 (a3 : (List (Int × Int))) (a2 : ((List Int) × (List (Int × (List Int))))) (a1 : (List (Int × (List Int) × Int × Int × Int))) : Nat → (List Int) → Int → Option ((List Int))
 | 0, _, _ => none
 | k + 1, x1, x2 =>
  if (decide (x2 < (List.length a3 : Int))) then
   ((idx a3 x2).bind fun x5 =>
   (S.l1In x5.1 0 (w64 ((List.length a2.2 : Int) - 1))).bind fun x6 =>
   if (!x6) then
    some true
   else
    (idx a3 x2).bind fun x7 =>
    (S.l1In x7.2 0 (w64 ((List.length a1 : Int) - 1))).bind fun x8 =>
    some (!x8)).bind fun x4 =>
   if x4 then
    S.Disclosed_l1 a3 a2 a1 k x1 (w64 (x2 + 1))
   else
    (idx a3 x2).bind fun x9 =>
    (idx a3 x2).bind fun x10 =>
    (idx a1 x9.2).bind fun x11 =>
    (idx a2.2 x10.1).bind fun x12 =>
    (S.l30Passed x11 x12).bind fun x13 =>
    (S.Disclosed_l2 x13 FUEL x1 (0 : Int)).bind fun x16 =>
    S.Disclosed_l1 a3 a2 a1 k x16 (w64 (x2 + 1))
  else
   some x1

def S.Disclosed (a1 : (List (Int × (List Int) × Int × Int × Int))) (a2 : ((List Int) × (List (Int × (List Int))))) (a3 : (List (Int × Int))) : Option (List Int) :=
 (S.Disclosed_l1 a3 a2 a1 FUEL ([] : List Int) (0 : Int)).bind fun x3 =>
 some x3

def S.IsSchema_l1 (a1 : (List Int)) : Nat → Int → Option (Sum Unit Bool)
 | 0, _ => none
 | k + 1, x1 =>
  if (decide (x1 < (List.length a1 : Int))) then
   (idx a1 x1).bind fun x2 =>
   (S.l1In x2 1 3).bind fun x3 =>
   if (!x3) then
    some (.inr false)
   else
    S.IsSchema_l1 a1 k (w64 (x1 + 1))
  else
   some (.inl ())

def S.IsSchema (a1 : (List Int)) : Option Bool :=
 (S.IsSchema_l1 a1 FUEL (0 : Int)).bind fun o => match o with
  | .inl () =>
   (S.l1In (List.length a1 : Int) 1 3).bind fun x4 =>
   some x4
  | .inr r => some r

def S.IsMethod_l1 (a2 : (Int × (List Int) × Int × Int × Int)) (a1 : (List Int)) : Nat → Int → Option (Sum Unit Bool)
 | 0, _ => none
 | k + 1, x7 =>
  if (decide (x7 < (List.length a2.2.1 : Int))) then
   ((idx a2.2.1 x7).bind fun x9 =>
   (idx a1 a2.1).bind fun x10 =>
   (S.l1In x9 0 (w64 (x10 - 1))).bind fun x11 =>
   if (!x11) then
    some true
   else
    if (decide (0 < x7)) then
     (idx a2.2.1 x7).bind fun x12 =>
     (idx a2.2.1 (w64 (x7 - 1))).bind fun x13 =>
     some (decide (x12 ≤ x13))
    else
     some false).bind fun x8 =>
   if x8 then
    some (.inr false)
   else
    S.IsMethod_l1 a2 a1 k (w64 (x7 + 1))
  else
   some (.inl ())

def S.IsMethod (a1 : (List Int)) (a2 : (Int × (List Int) × Int × Int × Int)) : Option Bool :=
 ((S.IsSchema a1).bind fun x2 =>
 if (!x2) then
  some true
 else
  (S.l1In a2.1 0 (w64 ((List.length a1 : Int) - 1))).bind fun x3 =>
  if (!x3) then
   some true
  else
   (S.l1In a2.2.2.1 0 9).bind fun x4 =>
   if (!x4) then
    some true
   else
    (S.l1In a2.2.2.2.1 0 99).bind fun x5 =>
    if (!x5) then
     some true
    else
     (S.l1In a2.2.2.2.2 1 99).bind fun x6 =>
     some (!x6)).bind fun x1 =>
 if x1 then
  some false
 else
  (S.IsMethod_l1 a2 a1 FUEL (0 : Int)).bind fun o => match o with
   | .inl () =>
    some true
   | .inr r => some r

def S.AreMethods_l1 (a2 : (List (Int × (List Int) × Int × Int × Int))) (a1 : (List Int)) : Nat → Int → Option (Sum Unit Bool)
 | 0, _ => none
 | k + 1, x1 =>
  if (decide (x1 < (List.length a2 : Int))) then
   (idx a2 x1).bind fun x2 =>
   (S.IsMethod a1 x2).bind fun x3 =>
   if (!x3) then
    some (.inr false)
   else
    S.AreMethods_l1 a2 a1 k (w64 (x1 + 1))
  else
   some (.inl ())

def S.AreMethods (a1 : (List Int)) (a2 : (List (Int × (List Int) × Int × Int × Int))) : Option Bool :=
 (S.AreMethods_l1 a2 a1 FUEL (0 : Int)).bind fun o => match o with
  | .inl () =>
   ((S.IsSchema a1).bind fun x5 =>
   if x5 then
    some (decide ((List.length a2 : Int) ≤ 5))
   else
    some false).bind fun x4 =>
   some x4
  | .inr r => some r

def S.IsVar (a1 : Int) : Option Bool :=
 (S.l1In a1 10 17).bind fun x1 =>
 some x1

def S.IsTerm (a1 : Int) : Option Bool :=
 ((S.l1In a1 0 9).bind fun x2 =>
 if x2 then
  some true
 else
  (S.IsVar a1).bind fun x3 =>
  some x3).bind fun x1 =>
 some x1

def S.IsAtom_l1 (a2 : (Int × (List Int))) : Nat → Int → Option (Sum Unit Bool)
 | 0, _ => none
 | k + 1, x5 =>
  if (decide (x5 < (List.length a2.2 : Int))) then
   (idx a2.2 x5).bind fun x6 =>
   (S.IsTerm x6).bind fun x7 =>
   if (!x7) then
    some (.inr false)
   else
    S.IsAtom_l1 a2 k (w64 (x5 + 1))
  else
   some (.inl ())

def S.IsAtom (a1 : (List Int)) (a2 : (Int × (List Int))) : Option Bool :=
 ((S.IsSchema a1).bind fun x2 =>
 if (!x2) then
  some true
 else
  (S.l1In a2.1 0 (w64 ((List.length a1 : Int) - 1))).bind fun x3 =>
  if (!x3) then
   some true
  else
   (idx a1 a2.1).bind fun x4 =>
   some (!decide ((List.length a2.2 : Int) = x4))).bind fun x1 =>
 if x1 then
  some false
 else
  (S.IsAtom_l1 a2 FUEL (0 : Int)).bind fun o => match o with
   | .inl () =>
    some true
   | .inr r => some r

def S.VarsOf_l2 (a1 : ((List Int) × (List (Int × (List Int))))) (x2 : Int) : Nat → (List Int) → Int → Option ((List Int))
 | 0, _, _ => none
 | k + 1, x4, x5 =>
  (idx a1.2 x2).bind fun x7 =>
  if (decide (x5 < (List.length x7.2 : Int))) then
   (idx a1.2 x2).bind fun x8 =>
   (idx x8.2 x5).bind fun x9 =>
   (S.IsVar x9).bind fun x10 =>
   (if x10 then
    (idx a1.2 x2).bind fun x12 =>
    (idx x12.2 x5).bind fun x13 =>
    (S.l3Put x4 x13).bind fun x14 =>
    some x14
   else
    some x4).bind fun x11 =>
   S.VarsOf_l2 a1 x2 k x11 (w64 (x5 + 1))
  else
   some x4

def S.VarsOf_l1 (a1 : ((List Int) × (List (Int × (List Int))))) : Nat → (List Int) → Int → Option ((List Int))
 | 0, _, _ => none
 | k + 1, x1, x2 =>
  if (decide (x2 < (List.length a1.2 : Int))) then
   (S.VarsOf_l2 a1 x2 FUEL x1 (0 : Int)).bind fun x6 =>
   S.VarsOf_l1 a1 k x6 (w64 (x2 + 1))
  else
   some x1

def S.VarsOf (a1 : ((List Int) × (List (Int × (List Int))))) : Option (List Int) :=
 (S.VarsOf_l1 a1 FUEL ([] : List Int) (0 : Int)).bind fun x3 =>
 some x3

def S.IsQuery_l2 (a2 : ((List Int) × (List (Int × (List Int))))) (x4 : (List Int)) : Nat → Int → Option (Sum Unit Bool)
 | 0, _ => none
 | k + 1, x5 =>
  if (decide (x5 < (List.length a2.1 : Int))) then
   (idx a2.1 x5).bind fun x6 =>
   (S.l2Has x4 x6).bind fun x7 =>
   if (!x7) then
    some (.inr false)
   else
    S.IsQuery_l2 a2 x4 k (w64 (x5 + 1))
  else
   some (.inl ())

def S.IsQuery_l1 (a2 : ((List Int) × (List (Int × (List Int))))) (a1 : (List Int)) : Nat → Int → Option (Sum Unit Bool)
 | 0, _ => none
 | k + 1, x1 =>
  if (decide (x1 < (List.length a2.2 : Int))) then
   (idx a2.2 x1).bind fun x2 =>
   (S.IsAtom a1 x2).bind fun x3 =>
   if (!x3) then
    some (.inr false)
   else
    S.IsQuery_l1 a2 a1 k (w64 (x1 + 1))
  else
   some (.inl ())

def S.IsQuery (a1 : (List Int)) (a2 : ((List Int) × (List (Int × (List Int))))) : Option Bool :=
 (S.IsQuery_l1 a2 a1 FUEL (0 : Int)).bind fun o => match o with
  | .inl () =>
   (S.VarsOf (a2.1, a2.2)).bind fun x4 =>
   (S.IsQuery_l2 a2 x4 FUEL (0 : Int)).bind fun o => match o with
    | .inl () =>
     ((S.IsSchema a1).bind fun x9 =>
     if x9 then
      (S.l1In (List.length a2.2 : Int) 1 4).bind fun x10 =>
      if x10 then
       some (decide ((List.length a2.1 : Int) ≤ 3))
      else
       some false
     else
      some false).bind fun x8 =>
     some x8
    | .inr r => some r
  | .inr r => some r

def S.l6Fine (a1 : (List Int)) (a2 : (List (Int × (List Int) × Int × Int × Int))) (a3 : ((List Int) × (List (Int × (List Int))))) : Option Bool :=
 ((S.AreMethods a1 a2).bind fun x2 =>
 if x2 then
  (S.IsQuery a1 (a3.1, a3.2)).bind fun x3 =>
  some x3
 else
  some false).bind fun x1 =>
 some x1

def S.CanCall_l1 (a1 : (Int × (List Int) × Int × Int × Int)) (a2 : (Int × (List Int))) (a3 : (List Int)) : Nat → Int → Option (Sum Unit Bool)
 | 0, _ => none
 | k + 1, x1 =>
  if (decide (x1 < (List.length a1.2.1 : Int))) then
   (idx a1.2.1 x1).bind fun x2 =>
   (S.l1In x2 0 (w64 ((List.length a2.2 : Int) - 1))).bind fun x3 =>
   if (!x3) then
    some (.inr false)
   else
    (idx a1.2.1 x1).bind fun x4 =>
    (idx a2.2 x4).bind fun x5 =>
    ((S.IsVar x5).bind fun x7 =>
    if x7 then
     (S.l2Has a3 x5).bind fun x8 =>
     some (!x8)
    else
     some false).bind fun x6 =>
    if x6 then
     some (.inr false)
    else
     S.CanCall_l1 a1 a2 a3 k (w64 (x1 + 1))
  else
   some (.inl ())

def S.CanCall (a1 : (Int × (List Int) × Int × Int × Int)) (a2 : (Int × (List Int))) (a3 : (List Int)) : Option Bool :=
 if (!decide (a1.1 = a2.1)) then
  some false
 else
  (S.CanCall_l1 a1 a2 a3 FUEL (0 : Int)).bind fun o => match o with
   | .inl () =>
    some true
   | .inr r => some r

def S.l6Bind_l1 (a2 : (Int × (List Int))) : Nat → (List Int) → Int → Option ((List Int))
 | 0, _, _ => none
 | k + 1, x2, x3 =>
  if (decide (x3 < (List.length a2.2 : Int))) then
   (idx a2.2 x3).bind fun x5 =>
   (S.IsVar x5).bind fun x6 =>
   (if x6 then
    (idx a2.2 x3).bind fun x8 =>
    (S.l3Put x2 x8).bind fun x9 =>
    some x9
   else
    some x2).bind fun x7 =>
   S.l6Bind_l1 a2 k x7 (w64 (x3 + 1))
  else
   some x2

def S.l6Bind (a1 : (List Int)) (a2 : (Int × (List Int))) : Option (List Int) :=
 (app ([] : List Int) a1).bind fun x1 =>
 (S.l6Bind_l1 a2 FUEL x1 (0 : Int)).bind fun x4 =>
 some x4

def S.IsOrder_l1 (a4 : (List (Int × Int))) (a3 : ((List Int) × (List (Int × (List Int))))) (a2 : (List (Int × (List Int) × Int × Int × Int))) : Nat → (List Int) → (List Int) → Int → Option (Sum Unit Bool)
 | 0, _, _, _ => none
 | k + 1, x3, x4, x5 =>
  if (decide (x5 < (List.length a4 : Int))) then
   ((idx a4 x5).bind fun x7 =>
   (S.l1In x7.1 0 (w64 ((List.length a3.2 : Int) - 1))).bind fun x8 =>
   if (!x8) then
    some true
   else
    (idx a4 x5).bind fun x9 =>
    (S.l2Has x4 x9.1).bind fun x10 =>
    if x10 then
     some true
    else
     (idx a4 x5).bind fun x11 =>
     (S.l1In x11.2 0 (w64 ((List.length a2 : Int) - 1))).bind fun x12 =>
     if (!x12) then
      some true
     else
      (idx a4 x5).bind fun x13 =>
      (idx a4 x5).bind fun x14 =>
      (idx a2 x13.2).bind fun x15 =>
      (idx a3.2 x14.1).bind fun x16 =>
      (S.CanCall x15 x16 x3).bind fun x17 =>
      some (!x17)).bind fun x6 =>
   if x6 then
    some (.inr false)
   else
    (idx a4 x5).bind fun x18 =>
    (app x4 ([x18.1])).bind fun x19 =>
    (idx a4 x5).bind fun x20 =>
    (idx a3.2 x20.1).bind fun x21 =>
    (S.l6Bind x3 x21).bind fun x22 =>
    S.IsOrder_l1 a4 a3 a2 k x22 x19 (w64 (x5 + 1))
  else
   some (.inl ())

def S.IsOrder (a1 : (List Int)) (a2 : (List (Int × (List Int) × Int × Int × Int))) (a3 : ((List Int) × (List (Int × (List Int))))) (a4 : (List (Int × Int))) : Option Bool :=
 ((S.l6Fine a1 a2 (a3.1, a3.2)).bind fun x2 =>
 if (!x2) then
  some true
 else
  some (!decide ((List.length a4 : Int) = (List.length a3.2 : Int)))).bind fun x1 =>
 if x1 then
  some false
 else
  (S.IsOrder_l1 a4 a3 a2 FUEL ([] : List Int) ([] : List Int) (0 : Int)).bind fun o => match o with
   | .inl () =>
    some true
   | .inr r => some r

def S.l30Meets_l1 (a1 : (List Int)) (a2 : (List Int)) : Nat → Int → Option (Sum Unit Bool)
 | 0, _ => none
 | k + 1, x1 =>
  if (decide (x1 < (List.length a1 : Int))) then
   (idx a1 x1).bind fun x2 =>
   (S.l2Has a2 x2).bind fun x3 =>
   if x3 then
    some (.inr true)
   else
    S.l30Meets_l1 a1 a2 k (w64 (x1 + 1))
  else
   some (.inl ())

def S.l30Meets (a1 : (List Int)) (a2 : (List Int)) : Option Bool :=
 (S.l30Meets_l1 a1 a2 FUEL (0 : Int)).bind fun o => match o with
  | .inl () =>
   some false
  | .inr r => some r

def S.IsPrivateOrder (a1 : (List Int)) (a2 : (List (Int × (List Int) × Int × Int × Int))) (a3 : ((List Int) × (List (Int × (List Int))))) (a4 : (List (Int × Int))) (a5 : (List Int)) : Option Bool :=
 ((S.IsOrder a1 a2 (a3.1, a3.2) a4).bind fun x2 =>
 if x2 then
  (S.Disclosed a2 (a3.1, a3.2) a4).bind fun x3 =>
  (S.l30Meets x3 a5).bind fun x4 =>
  some (!x4)
 else
  some false).bind fun x1 =>
 some x1

def M.within (a1 : Int) (a2 : Int) (a3 : Int) : Option Bool :=
 (if (decide (a2 ≤ a1)) then
  some (decide (a1 ≤ a3))
 else
  some false).bind fun x1 =>
 some x1

def M.isValue (a1 : Int) : Option Bool :=
 (M.within a1 0 9).bind fun x1 =>
 some x1

def M.passed_l1 (a1 : (Int × (List Int) × Int × Int × Int)) (a2 : (Int × (List Int))) : Nat → (List Int) → Int → Option ((List Int))
 | 0, _, _ => none
 | k + 1, x1, x2 =>
  if (decide (x2 < (List.length a1.2.1 : Int))) then
   (idx a1.2.1 x2).bind fun x4 =>
   ((M.within x4 0 (w64 ((List.length a2.2 : Int) - 1))).bind fun x6 =>
   if x6 then
    (idx a2.2 x4).bind fun x7 =>
    (M.isValue x7).bind fun x8 =>
    some x8
   else
    some false).bind fun x5 =>
   (if x5 then
    (idx a2.2 x4).bind fun x10 =>
    (app x1 ([x10])).bind fun x11 =>
    some x11
   else
    some x1).bind fun x9 =>
   M.passed_l1 a1 a2 k x9 (w64 (x2 + 1))
  else
   some x1

def M.passed (a1 : (Int × (List Int) × Int × Int × Int)) (a2 : (Int × (List Int))) : Option (List Int) :=
 (M.passed_l1 a1 a2 FUEL ([] : List Int) (0 : Int)).bind fun x3 =>
 some x3

def Slices.Sort_Lint_int (a1 : (List Int)) : Option (List Int) :=
 sortI a1

def Slices.Compact_Lint_int (a1 : (List Int)) : Option (List Int) :=
 compactI a1

def M.Disclosed_l1 (a3 : (List (Int × Int))) (a2 : ((List Int) × (List (Int × (List Int))))) (a1 : (List (Int × (List Int) × Int × Int × Int))) : Nat → (List Int) → Int → Option ((List Int))
 | 0, _, _ => none
 | k + 1, x1, x2 =>
  if (decide (x2 < (List.length a3 : Int))) then
   (idx a3 x2).bind fun x4 =>
   ((M.within x4.1 0 (w64 ((List.length a2.2 : Int) - 1))).bind fun x6 =>
   if x6 then
    (M.within x4.2 0 (w64 ((List.length a1 : Int) - 1))).bind fun x7 =>
    some x7
   else
    some false).bind fun x5 =>
   (if x5 then
    (idx a1 x4.2).bind fun x9 =>
    (idx a2.2 x4.1).bind fun x10 =>
    (M.passed x9 x10).bind fun x11 =>
    (appB x1 x11).bind fun x12 =>
    some x12
   else
    some x1).bind fun x8 =>
   M.Disclosed_l1 a3 a2 a1 k x8 (w64 (x2 + 1))
  else
   some x1

def M.Disclosed (a1 : (List (Int × (List Int) × Int × Int × Int))) (a2 : ((List Int) × (List (Int × (List Int))))) (a3 : (List (Int × Int))) : Option (List Int) :=
 (M.Disclosed_l1 a3 a2 a1 FUEL ([] : List Int) (0 : Int)).bind fun x3 =>
 (Slices.Sort_Lint_int x3).bind fun x13 =>
 (Slices.Compact_Lint_int x13).bind fun x14 =>
 some x14

def M.IsSchema_c1 (a1 : Int) : Option Bool :=
 (M.within a1 1 3).bind fun x1 =>
 some (!x1)

def Slices.IndexFunc_Lint_int_M_IsSchema_c1_l1 (a1 : (List Int)) : Nat → Int → Option (Sum Unit Int)
 | 0, _ => none
 | k + 1, x1 =>
  if (decide (x1 < (List.length a1 : Int))) then
   (idx a1 x1).bind fun x2 =>
   (M.IsSchema_c1 x2).bind fun x3 =>
   if x3 then
    some (.inr x1)
   else
    Slices.IndexFunc_Lint_int_M_IsSchema_c1_l1 a1 k (w64 (x1 + 1))
  else
   some (.inl ())

def Slices.IndexFunc_Lint_int_M_IsSchema_c1 (a1 : (List Int)) : Option Int :=
 (Slices.IndexFunc_Lint_int_M_IsSchema_c1_l1 a1 FUEL (0 : Int)).bind fun o => match o with
  | .inl () =>
   some (-1)
  | .inr r => some r

def Slices.ContainsFunc_Lint_int_M_IsSchema_c1 (a1 : (List Int)) : Option Bool :=
 (Slices.IndexFunc_Lint_int_M_IsSchema_c1 a1).bind fun x1 =>
 some (decide (0 ≤ x1))

def M.IsSchema (a1 : (List Int)) : Option Bool :=
 ((M.within (List.length a1 : Int) 1 3).bind fun x2 =>
 if x2 then
  (Slices.ContainsFunc_Lint_int_M_IsSchema_c1 a1).bind fun x3 =>
  some (!x3)
 else
  some false).bind fun x1 =>
 some x1

def M.hasRel (a1 : (List Int)) (a2 : Int) : Option Bool :=
 ((M.IsSchema a1).bind fun x2 =>
 if x2 then
  (M.within a2 0 (w64 ((List.length a1 : Int) - 1))).bind fun x3 =>
  some x3
 else
  some false).bind fun x1 =>
 some x1

def M.ascending_l1 (a1 : (List Int)) : Nat → Int → Option (Sum Unit Bool)
 | 0, _ => none
 | k + 1, x1 =>
  if (decide (x1 < (List.length a1 : Int))) then
   (if (decide (0 < x1)) then
    (idx a1 x1).bind fun x3 =>
    (idx a1 (w64 (x1 - 1))).bind fun x4 =>
    some (decide (x3 ≤ x4))
   else
    some false).bind fun x2 =>
   if x2 then
    some (.inr false)
   else
    M.ascending_l1 a1 k (w64 (x1 + 1))
  else
   some (.inl ())

def M.ascending (a1 : (List Int)) : Option Bool :=
 (M.ascending_l1 a1 FUEL (0 : Int)).bind fun o => match o with
  | .inl () =>
   some true
  | .inr r => some r

def M.Method_fits_c1 (a1 : Int) (ax1 : Int) : Option Bool :=
 (M.within a1 0 (w64 (ax1 - 1))).bind fun x1 =>
 some (!x1)

def M.isCost (a1 : Int) : Option Bool :=
 (M.within a1 0 99).bind fun x1 =>
 some x1

def Slices.IndexFunc_Lint_int_M_Method_fits_c1_l1 (a1 : (List Int)) (ax1 : Int) : Nat → Int → Option (Sum Unit Int)
 | 0, _ => none
 | k + 1, x1 =>
  if (decide (x1 < (List.length a1 : Int))) then
   (idx a1 x1).bind fun x2 =>
   (M.Method_fits_c1 x2 ax1).bind fun x3 =>
   if x3 then
    some (.inr x1)
   else
    Slices.IndexFunc_Lint_int_M_Method_fits_c1_l1 a1 ax1 k (w64 (x1 + 1))
  else
   some (.inl ())

def Slices.IndexFunc_Lint_int_M_Method_fits_c1 (a1 : (List Int)) (ax1 : Int) : Option Int :=
 (Slices.IndexFunc_Lint_int_M_Method_fits_c1_l1 a1 ax1 FUEL (0 : Int)).bind fun o => match o with
  | .inl () =>
   some (-1)
  | .inr r => some r

def Slices.ContainsFunc_Lint_int_M_Method_fits_c1 (a1 : (List Int)) (ax1 : Int) : Option Bool :=
 (Slices.IndexFunc_Lint_int_M_Method_fits_c1 a1 ax1).bind fun x1 =>
 some (decide (0 ≤ x1))

def M.Method_fits (a1 : (Int × (List Int) × Int × Int × Int)) (a2 : Int) : Option Bool :=
 ((M.ascending a1.2.1).bind fun x2 =>
 if x2 then
  (Slices.ContainsFunc_Lint_int_M_Method_fits_c1 a1.2.1 a2).bind fun x3 =>
  if (!x3) then
   (M.within a1.2.2.1 0 9).bind fun x4 =>
   if x4 then
    (M.isCost a1.2.2.2.1).bind fun x5 =>
    if x5 then
     (M.within a1.2.2.2.2 1 99).bind fun x6 =>
     some x6
    else
     some false
   else
    some false
  else
   some false
 else
  some false).bind fun x1 =>
 some x1

def M.IsMethod (a1 : (List Int)) (a2 : (Int × (List Int) × Int × Int × Int)) : Option Bool :=
 ((M.hasRel a1 a2.1).bind fun x2 =>
 if x2 then
  (idx a1 a2.1).bind fun x3 =>
  (M.Method_fits (a2.1, a2.2.1, a2.2.2.1, a2.2.2.2.1, a2.2.2.2.2) x3).bind fun x4 =>
  some x4
 else
  some false).bind fun x1 =>
 some x1

def M.AreMethods_c1 (a1 : (Int × (List Int) × Int × Int × Int)) (ax1 : (List Int)) : Option Bool :=
 (M.IsMethod ax1 (a1.1, a1.2.1, a1.2.2.1, a1.2.2.2.1, a1.2.2.2.2)).bind fun x1 =>
 some (!x1)

def Slices.IndexFunc_Limpl_Method_impl_Method_M_AreMethods_c1_l1 (a1 : (List (Int × (List Int) × Int × Int × Int))) (ax1 : (List Int)) : Nat → Int → Option (Sum Unit Int)
 | 0, _ => none
 | k + 1, x1 =>
  if (decide (x1 < (List.length a1 : Int))) then
   (idx a1 x1).bind fun x2 =>
   (M.AreMethods_c1 x2 ax1).bind fun x3 =>
   if x3 then
    some (.inr x1)
   else
    Slices.IndexFunc_Limpl_Method_impl_Method_M_AreMethods_c1_l1 a1 ax1 k (w64 (x1 + 1))
  else
   some (.inl ())

def Slices.IndexFunc_Limpl_Method_impl_Method_M_AreMethods_c1 (a1 : (List (Int × (List Int) × Int × Int × Int))) (ax1 : (List Int)) : Option Int :=
 (Slices.IndexFunc_Limpl_Method_impl_Method_M_AreMethods_c1_l1 a1 ax1 FUEL (0 : Int)).bind fun o => match o with
  | .inl () =>
   some (-1)
  | .inr r => some r

def Slices.ContainsFunc_Limpl_Method_impl_Method_M_AreMethods_c1 (a1 : (List (Int × (List Int) × Int × Int × Int))) (ax1 : (List Int)) : Option Bool :=
 (Slices.IndexFunc_Limpl_Method_impl_Method_M_AreMethods_c1 a1 ax1).bind fun x1 =>
 some (decide (0 ≤ x1))

def M.AreMethods (a1 : (List Int)) (a2 : (List (Int × (List Int) × Int × Int × Int))) : Option Bool :=
 ((M.IsSchema a1).bind fun x2 =>
 if x2 then
  if (decide ((List.length a2 : Int) ≤ 5)) then
   (Slices.ContainsFunc_Limpl_Method_impl_Method_M_AreMethods_c1 a2 a1).bind fun x3 =>
   some (!x3)
  else
   some false
 else
  some false).bind fun x1 =>
 some x1

def M.IsVar (a1 : Int) : Option Bool :=
 (M.within a1 10 17).bind fun x1 =>
 some x1

def M.IsTerm (a1 : Int) : Option Bool :=
 ((M.isValue a1).bind fun x2 =>
 if x2 then
  some true
 else
  (M.IsVar a1).bind fun x3 =>
  some x3).bind fun x1 =>
 some x1

def M.areTerms_c1 (a1 : Int) : Option Bool :=
 (M.IsTerm a1).bind fun x1 =>
 some (!x1)

def Slices.IndexFunc_Lint_int_M_areTerms_c1_l1 (a1 : (List Int)) : Nat → Int → Option (Sum Unit Int)
 | 0, _ => none
 | k + 1, x1 =>
  if (decide (x1 < (List.length a1 : Int))) then
   (idx a1 x1).bind fun x2 =>
   (M.areTerms_c1 x2).bind fun x3 =>
   if x3 then
    some (.inr x1)
   else
    Slices.IndexFunc_Lint_int_M_areTerms_c1_l1 a1 k (w64 (x1 + 1))
  else
   some (.inl ())

def Slices.IndexFunc_Lint_int_M_areTerms_c1 (a1 : (List Int)) : Option Int :=
 (Slices.IndexFunc_Lint_int_M_areTerms_c1_l1 a1 FUEL (0 : Int)).bind fun o => match o with
  | .inl () =>
   some (-1)
  | .inr r => some r

def Slices.ContainsFunc_Lint_int_M_areTerms_c1 (a1 : (List Int)) : Option Bool :=
 (Slices.IndexFunc_Lint_int_M_areTerms_c1 a1).bind fun x1 =>
 some (decide (0 ≤ x1))

def M.areTerms (a1 : (List Int)) : Option Bool :=
 (Slices.ContainsFunc_Lint_int_M_areTerms_c1 a1).bind fun x1 =>
 some (!x1)

def M.IsAtom (a1 : (List Int)) (a2 : (Int × (List Int))) : Option Bool :=
 ((M.hasRel a1 a2.1).bind fun x2 =>
 if x2 then
  (idx a1 a2.1).bind fun x3 =>
  if (decide ((List.length a2.2 : Int) = x3)) then
   (M.areTerms a2.2).bind fun x4 =>
   some x4
  else
   some false
 else
  some false).bind fun x1 =>
 some x1

def M.IsQuery_c1 (a1 : (Int × (List Int))) (ax1 : (List Int)) : Option Bool :=
 (M.IsAtom ax1 (a1.1, a1.2)).bind fun x1 =>
 some (!x1)

def M.termsOf_M_IsVar_l2 (x4 : (Int × (List Int))) : Nat → (List Int) → Int → Option ((List Int))
 | 0, _, _ => none
 | k + 1, x5, x6 =>
  if (decide (x6 < (List.length x4.2 : Int))) then
   (idx x4.2 x6).bind fun x8 =>
   (M.IsVar x8).bind fun x9 =>
   (if x9 then
    (app x5 ([x8])).bind fun x11 =>
    some x11
   else
    some x5).bind fun x10 =>
   M.termsOf_M_IsVar_l2 x4 k x10 (w64 (x6 + 1))
  else
   some x5

def M.termsOf_M_IsVar_l1 (a1 : (List (Int × (List Int)))) : Nat → (List Int) → Int → Option ((List Int))
 | 0, _, _ => none
 | k + 1, x1, x2 =>
  if (decide (x2 < (List.length a1 : Int))) then
   (idx a1 x2).bind fun x4 =>
   (M.termsOf_M_IsVar_l2 x4 FUEL x1 (0 : Int)).bind fun x7 =>
   M.termsOf_M_IsVar_l1 a1 k x7 (w64 (x2 + 1))
  else
   some x1

def M.termsOf_M_IsVar (a1 : (List (Int × (List Int)))) : Option (List Int) :=
 (M.termsOf_M_IsVar_l1 a1 FUEL ([] : List Int) (0 : Int)).bind fun x3 =>
 (Slices.Sort_Lint_int x3).bind fun x12 =>
 (Slices.Compact_Lint_int x12).bind fun x13 =>
 some x13

def M.VarsOf (a1 : ((List Int) × (List (Int × (List Int))))) : Option (List Int) :=
 (M.termsOf_M_IsVar a1.2).bind fun x1 =>
 some x1

def Slices.Index_Lint_int_l1 (a1 : (List Int)) (a2 : Int) : Nat → Int → Option (Sum Unit Int)
 | 0, _ => none
 | k + 1, x1 =>
  if (decide (x1 < (List.length a1 : Int))) then
   (idx a1 x1).bind fun x2 =>
   if (decide (a2 = x2)) then
    some (.inr x1)
   else
    Slices.Index_Lint_int_l1 a1 a2 k (w64 (x1 + 1))
  else
   some (.inl ())

def Slices.Index_Lint_int (a1 : (List Int)) (a2 : Int) : Option Int :=
 (Slices.Index_Lint_int_l1 a1 a2 FUEL (0 : Int)).bind fun o => match o with
  | .inl () =>
   some (-1)
  | .inr r => some r

def Slices.Contains_Lint_int (a1 : (List Int)) (a2 : Int) : Option Bool :=
 (Slices.Index_Lint_int a1 a2).bind fun x1 =>
 some (decide (0 ≤ x1))

def M.hasHead_c1 (a1 : Int) (ax1 : (List Int)) : Option Bool :=
 (Slices.Contains_Lint_int ax1 a1).bind fun x1 =>
 some (!x1)

def Slices.IndexFunc_Lint_int_M_hasHead_c1_l1 (a1 : (List Int)) (ax1 : (List Int)) : Nat → Int → Option (Sum Unit Int)
 | 0, _ => none
 | k + 1, x1 =>
  if (decide (x1 < (List.length a1 : Int))) then
   (idx a1 x1).bind fun x2 =>
   (M.hasHead_c1 x2 ax1).bind fun x3 =>
   if x3 then
    some (.inr x1)
   else
    Slices.IndexFunc_Lint_int_M_hasHead_c1_l1 a1 ax1 k (w64 (x1 + 1))
  else
   some (.inl ())

def Slices.IndexFunc_Lint_int_M_hasHead_c1 (a1 : (List Int)) (ax1 : (List Int)) : Option Int :=
 (Slices.IndexFunc_Lint_int_M_hasHead_c1_l1 a1 ax1 FUEL (0 : Int)).bind fun o => match o with
  | .inl () =>
   some (-1)
  | .inr r => some r

def Slices.ContainsFunc_Lint_int_M_hasHead_c1 (a1 : (List Int)) (ax1 : (List Int)) : Option Bool :=
 (Slices.IndexFunc_Lint_int_M_hasHead_c1 a1 ax1).bind fun x1 =>
 some (decide (0 ≤ x1))

def M.hasHead (a1 : ((List Int) × (List (Int × (List Int))))) : Option Bool :=
 (M.VarsOf (a1.1, a1.2)).bind fun x1 =>
 (if (decide ((List.length a1.1 : Int) ≤ 3)) then
  (Slices.ContainsFunc_Lint_int_M_hasHead_c1 a1.1 x1).bind fun x3 =>
  some (!x3)
 else
  some false).bind fun x2 =>
 some x2

def Slices.IndexFunc_Limpl_Atom_impl_Atom_M_IsQuery_c1_l1 (a1 : (List (Int × (List Int)))) (ax1 : (List Int)) : Nat → Int → Option (Sum Unit Int)
 | 0, _ => none
 | k + 1, x1 =>
  if (decide (x1 < (List.length a1 : Int))) then
   (idx a1 x1).bind fun x2 =>
   (M.IsQuery_c1 x2 ax1).bind fun x3 =>
   if x3 then
    some (.inr x1)
   else
    Slices.IndexFunc_Limpl_Atom_impl_Atom_M_IsQuery_c1_l1 a1 ax1 k (w64 (x1 + 1))
  else
   some (.inl ())

def Slices.IndexFunc_Limpl_Atom_impl_Atom_M_IsQuery_c1 (a1 : (List (Int × (List Int)))) (ax1 : (List Int)) : Option Int :=
 (Slices.IndexFunc_Limpl_Atom_impl_Atom_M_IsQuery_c1_l1 a1 ax1 FUEL (0 : Int)).bind fun o => match o with
  | .inl () =>
   some (-1)
  | .inr r => some r

def Slices.ContainsFunc_Limpl_Atom_impl_Atom_M_IsQuery_c1 (a1 : (List (Int × (List Int)))) (ax1 : (List Int)) : Option Bool :=
 (Slices.IndexFunc_Limpl_Atom_impl_Atom_M_IsQuery_c1 a1 ax1).bind fun x1 =>
 some (decide (0 ≤ x1))

def M.IsQuery (a1 : (List Int)) (a2 : ((List Int) × (List (Int × (List Int))))) : Option Bool :=
 ((M.IsSchema a1).bind fun x2 =>
 if x2 then
  (M.within (List.length a2.2 : Int) 1 4).bind fun x3 =>
  if x3 then
   (Slices.ContainsFunc_Limpl_Atom_impl_Atom_M_IsQuery_c1 a2.2 a1).bind fun x4 =>
   if (!x4) then
    (M.hasHead (a2.1, a2.2)).bind fun x5 =>
    some x5
   else
    some false
  else
   some false
 else
  some false).bind fun x1 =>
 some x1

def M.areAsked (a1 : (List Int)) (a2 : (List (Int × (List Int) × Int × Int × Int))) (a3 : ((List Int) × (List (Int × (List Int))))) : Option Bool :=
 ((M.AreMethods a1 a2).bind fun x2 =>
 if x2 then
  (M.IsQuery a1 (a3.1, a3.2)).bind fun x3 =>
  some x3
 else
  some false).bind fun x1 =>
 some x1

def M.CanCall_c1 (a1 : Int) (ax1 : (Int × (List Int))) (ax2 : (List Int)) : Option Bool :=
 ((M.within a1 0 (w64 ((List.length ax1.2 : Int) - 1))).bind fun x2 =>
 if (!x2) then
  some true
 else
  (idx ax1.2 a1).bind fun x3 =>
  (M.IsVar x3).bind fun x4 =>
  if x4 then
   (idx ax1.2 a1).bind fun x5 =>
   (Slices.Contains_Lint_int ax2 x5).bind fun x6 =>
   some (!x6)
  else
   some false).bind fun x1 =>
 some x1

def Slices.IndexFunc_Lint_int_M_CanCall_c1_l1 (a1 : (List Int)) (ax1 : (Int × (List Int))) (ax2 : (List Int)) : Nat → Int → Option (Sum Unit Int)
 | 0, _ => none
 | k + 1, x1 =>
  if (decide (x1 < (List.length a1 : Int))) then
   (idx a1 x1).bind fun x2 =>
   (M.CanCall_c1 x2 ax1 ax2).bind fun x3 =>
   if x3 then
    some (.inr x1)
   else
    Slices.IndexFunc_Lint_int_M_CanCall_c1_l1 a1 ax1 ax2 k (w64 (x1 + 1))
  else
   some (.inl ())

def Slices.IndexFunc_Lint_int_M_CanCall_c1 (a1 : (List Int)) (ax1 : (Int × (List Int))) (ax2 : (List Int)) : Option Int :=
 (Slices.IndexFunc_Lint_int_M_CanCall_c1_l1 a1 ax1 ax2 FUEL (0 : Int)).bind fun o => match o with
  | .inl () =>
   some (-1)
  | .inr r => some r

def Slices.ContainsFunc_Lint_int_M_CanCall_c1 (a1 : (List Int)) (ax1 : (Int × (List Int))) (ax2 : (List Int)) : Option Bool :=
 (Slices.IndexFunc_Lint_int_M_CanCall_c1 a1 ax1 ax2).bind fun x1 =>
 some (decide (0 ≤ x1))

def M.CanCall (a1 : (Int × (List Int) × Int × Int × Int)) (a2 : (Int × (List Int))) (a3 : (List Int)) : Option Bool :=
 (if (decide (a1.1 = a2.1)) then
  (Slices.ContainsFunc_Lint_int_M_CanCall_c1 a1.2.1 (a2.1, a2.2) a3).bind fun x2 =>
  some (!x2)
 else
  some false).bind fun x1 =>
 some x1

def M.IsOrder_l1 (a4 : (List (Int × Int))) (a3 : ((List Int) × (List (Int × (List Int))))) (a2 : (List (Int × (List Int) × Int × Int × Int))) : Nat → (List Bool) → (List Int) → Int → Option (Sum Unit Bool)
 | 0, _, _, _ => none
 | k + 1, x4, x5, x6 =>
  if (decide (x6 < (List.length a4 : Int))) then
   (idx a4 x6).bind fun x7 =>
   ((M.within x7.1 0 (w64 ((List.length a3.2 : Int) - 1))).bind fun x9 =>
   if (!x9) then
    some true
   else
    (idx x4 x7.1).bind fun x10 =>
    if x10 then
     some true
    else
     (M.within x7.2 0 (w64 ((List.length a2 : Int) - 1))).bind fun x11 =>
     if (!x11) then
      some true
     else
      (idx a2 x7.2).bind fun x12 =>
      (idx a3.2 x7.1).bind fun x13 =>
      (M.CanCall x12 x13 x5).bind fun x14 =>
      some (!x14)).bind fun x8 =>
   if x8 then
    some (.inr false)
   else
    (idx x4 x7.1).bind fun x15 =>
    (idx a3.2 x7.1).bind fun x16 =>
    (app x5 x16.2).bind fun x17 =>
    M.IsOrder_l1 a4 a3 a2 k (List.set x4 (Int.toNat x7.1) true) x17 (w64 (x6 + 1))
  else
   some (.inl ())

def M.IsOrder (a1 : (List Int)) (a2 : (List (Int × (List Int) × Int × Int × Int))) (a3 : ((List Int) × (List (Int × (List Int))))) (a4 : (List (Int × Int))) : Option Bool :=
 ((M.areAsked a1 a2 (a3.1, a3.2)).bind fun x2 =>
 if (!x2) then
  some true
 else
  some (!decide ((List.length a4 : Int) = (List.length a3.2 : Int)))).bind fun x1 =>
 if x1 then
  some false
 else
  (mk (List.length a3.2 : Int) (false : Bool)).bind fun x3 =>
  (M.IsOrder_l1 a4 a3 a2 FUEL x3 ([] : List Int) (0 : Int)).bind fun o => match o with
   | .inl () =>
    some true
   | .inr r => some r

def M.meets_c1 (a1 : Int) (ax1 : (List Int)) : Option Bool :=
 (Slices.Contains_Lint_int ax1 a1).bind fun x1 =>
 some x1

def Slices.IndexFunc_Lint_int_M_meets_c1_l1 (a1 : (List Int)) (ax1 : (List Int)) : Nat → Int → Option (Sum Unit Int)
 | 0, _ => none
 | k + 1, x1 =>
  if (decide (x1 < (List.length a1 : Int))) then
   (idx a1 x1).bind fun x2 =>
   (M.meets_c1 x2 ax1).bind fun x3 =>
   if x3 then
    some (.inr x1)
   else
    Slices.IndexFunc_Lint_int_M_meets_c1_l1 a1 ax1 k (w64 (x1 + 1))
  else
   some (.inl ())

def Slices.IndexFunc_Lint_int_M_meets_c1 (a1 : (List Int)) (ax1 : (List Int)) : Option Int :=
 (Slices.IndexFunc_Lint_int_M_meets_c1_l1 a1 ax1 FUEL (0 : Int)).bind fun o => match o with
  | .inl () =>
   some (-1)
  | .inr r => some r

def Slices.ContainsFunc_Lint_int_M_meets_c1 (a1 : (List Int)) (ax1 : (List Int)) : Option Bool :=
 (Slices.IndexFunc_Lint_int_M_meets_c1 a1 ax1).bind fun x1 =>
 some (decide (0 ≤ x1))

def M.meets (a1 : (List Int)) (a2 : (List Int)) : Option Bool :=
 (Slices.ContainsFunc_Lint_int_M_meets_c1 a1 a2).bind fun x1 =>
 some x1

def M.IsPrivateOrder (a1 : (List Int)) (a2 : (List (Int × (List Int) × Int × Int × Int))) (a3 : ((List Int) × (List (Int × (List Int))))) (a4 : (List (Int × Int))) (a5 : (List Int)) : Option Bool :=
 ((M.IsOrder a1 a2 (a3.1, a3.2) a4).bind fun x2 =>
 if x2 then
  (M.Disclosed a2 (a3.1, a3.2) a4).bind fun x3 =>
  (M.meets x3 a5).bind fun x4 =>
  some (!x4)
 else
  some false).bind fun x1 =>
 some x1

def S.FindPrivateOrder_l3 (a2 : (List (Int × (List Int) × Int × Int × Int))) (x11 : Int) (a3 : ((List Int) × (List (Int × (List Int))))) (a4 : (List Int)) : Nat → (List (Int × Int)) → (List Int) → (List Int) → Bool → Int → Option (((List (Int × Int)) × (List Int) × (List Int) × Bool))
 | 0, _, _, _, _, _ => none
 | k + 1, x17, x18, x19, x20, x21 =>
  (if (decide (x21 < (List.length a2 : Int))) then
   if (!x20) then
    (S.l2Has x19 x11).bind fun x27 =>
    some (!x27)
   else
    some false
  else
   some false).bind fun x26 =>
  if x26 then
   ((idx a2 x21).bind fun x29 =>
   (idx a3.2 x11).bind fun x30 =>
   (S.CanCall x29 x30 x18).bind fun x31 =>
   if x31 then
    (idx a2 x21).bind fun x32 =>
    (idx a3.2 x11).bind fun x33 =>
    (S.l30Passed x32 x33).bind fun x34 =>
    (S.l30Meets x34 a4).bind fun x35 =>
    some (!x35)
   else
    some false).bind fun x28 =>
   (if x28 then
    (app x17 ([(x11, x21)])).bind fun x40 =>
    (app x19 ([x11])).bind fun x41 =>
    (idx a3.2 x11).bind fun x42 =>
    (S.l6Bind x18 x42).bind fun x43 =>
    some (x40, x43, x41, true)
   else
    some (x17, x18, x19, x20)).bind fun (x36, x37, x38, x39) =>
   S.FindPrivateOrder_l3 a2 x11 a3 a4 k x36 x37 x38 x39 (w64 (x21 + 1))
  else
   some (x17, x18, x19, x20)

def S.FindPrivateOrder_l2 (a3 : ((List Int) × (List (Int × (List Int))))) (a2 : (List (Int × (List Int) × Int × Int × Int))) (a4 : (List Int)) : Nat → (List (Int × Int)) → (List Int) → (List Int) → Bool → Int → Option (((List (Int × Int)) × (List Int) × (List Int) × Bool))
 | 0, _, _, _, _, _ => none
 | k + 1, x7, x8, x9, x10, x11 =>
  (if (decide (x11 < (List.length a3.2 : Int))) then
   some (!x10)
  else
   some false).bind fun x16 =>
  if x16 then
   (S.FindPrivateOrder_l3 a2 x11 a3 a4 FUEL x7 x8 x9 x10 (0 : Int)).bind fun (x22, x23, x24, x25) =>
   S.FindPrivateOrder_l2 a3 a2 a4 k x22 x23 x24 x25 (w64 (x11 + 1))
  else
   some (x7, x8, x9, x10)

def S.FindPrivateOrder_l1 (a3 : ((List Int) × (List (Int × (List Int))))) (a2 : (List (Int × (List Int) × Int × Int × Int))) (a4 : (List Int)) : Nat → (List (Int × Int)) → (List Int) → (List Int) → Int → Option (Sum (List (Int × Int)) ((List (Int × Int)) × Bool))
 | 0, _, _, _, _ => none
 | k + 1, x2, x3, x4, x5 =>
  if (decide (x5 < (List.length a3.2 : Int))) then
   (S.FindPrivateOrder_l2 a3 a2 a4 FUEL x2 x3 x4 false (0 : Int)).bind fun (x12, x13, x14, x15) =>
   if (!x15) then
    some (.inr (([] : List (Int × Int)), false))
   else
    S.FindPrivateOrder_l1 a3 a2 a4 k x12 x13 x14 (w64 (x5 + 1))
  else
   some (.inl x2)

def S.FindPrivateOrder (a1 : (List Int)) (a2 : (List (Int × (List Int) × Int × Int × Int))) (a3 : ((List Int) × (List (Int × (List Int))))) (a4 : (List Int)) : Option ((List (Int × Int)) × Bool) :=
 (S.l6Fine a1 a2 (a3.1, a3.2)).bind fun x1 =>
 if (!x1) then
  some (([] : List (Int × Int)), false)
 else
  (S.FindPrivateOrder_l1 a3 a2 a4 FUEL ([] : List (Int × Int)) ([] : List Int) ([] : List Int) (0 : Int)).bind fun o => match o with
   | .inl x6 =>
    some (x6, true)
   | .inr r => some r

def M.privateOrder_c1 (a1 : (Int × (List Int) × Int × Int × Int)) (a2 : (Int × (List Int))) (ax1 : (List Int)) : Option Bool :=
 (M.passed (a1.1, a1.2.1, a1.2.2.1, a1.2.2.2.1, a1.2.2.2.2) (a2.1, a2.2)).bind fun x1 =>
 (M.meets x1 ax1).bind fun x2 =>
 some (!x2)

def M.greedyWhere_c1_c1_M_privateOrder_c1 (a1 : (Int × (List Int) × Int × Int × Int)) (ax1 : (Int × (List Int))) (ax2 : (List Int)) (ax3 : (List Int)) : Option Bool :=
 ((M.CanCall (a1.1, a1.2.1, a1.2.2.1, a1.2.2.2.1, a1.2.2.2.2) ax1 ax2).bind fun x2 =>
 if x2 then
  (M.privateOrder_c1 (a1.1, a1.2.1, a1.2.2.1, a1.2.2.2.1, a1.2.2.2.2) ax1 ax3).bind fun x3 =>
  some x3
 else
  some false).bind fun x1 =>
 some x1

def Slices.IndexFunc_Limpl_Method_impl_Method_M_greedyWhere_c1_c1_M_privateOrder_c1_l1 (a1 : (List (Int × (List Int) × Int × Int × Int))) (ax1 : (Int × (List Int))) (ax2 : (List Int)) (ax3 : (List Int)) : Nat → Int → Option (Sum Unit Int)
 | 0, _ => none
 | k + 1, x1 =>
  if (decide (x1 < (List.length a1 : Int))) then
   (idx a1 x1).bind fun x2 =>
   (M.greedyWhere_c1_c1_M_privateOrder_c1 x2 ax1 ax2 ax3).bind fun x3 =>
   if x3 then
    some (.inr x1)
   else
    Slices.IndexFunc_Limpl_Method_impl_Method_M_greedyWhere_c1_c1_M_privateOrder_c1_l1 a1 ax1 ax2 ax3 k (w64 (x1 + 1))
  else
   some (.inl ())

def Slices.IndexFunc_Limpl_Method_impl_Method_M_greedyWhere_c1_c1_M_privateOrder_c1 (a1 : (List (Int × (List Int) × Int × Int × Int))) (ax1 : (Int × (List Int))) (ax2 : (List Int)) (ax3 : (List Int)) : Option Int :=
 (Slices.IndexFunc_Limpl_Method_impl_Method_M_greedyWhere_c1_c1_M_privateOrder_c1_l1 a1 ax1 ax2 ax3 FUEL (0 : Int)).bind fun o => match o with
  | .inl () =>
   some (-1)
  | .inr r => some r

def M.greedyWhere_c1_M_privateOrder_c1_l1 (ax1 : (List (Int × (List Int)))) (ax2 : (List (Int × (List Int) × Int × Int × Int))) (ax3 : (List Int)) (ax4 : (List Int)) (ax5 : (List Bool)) : Nat → Int → Int → Int → Option (Sum (Int × Int) ((Int × Int) × Bool))
 | 0, _, _, _ => none
 | k + 1, x1, x2, x3 =>
  if (decide (x3 < (List.length ax1 : Int))) then
   (idx ax1 x3).bind fun x6 =>
   (Slices.IndexFunc_Limpl_Method_impl_Method_M_greedyWhere_c1_c1_M_privateOrder_c1 ax2 (x6.1, x6.2) ax3 ax4).bind fun x7 =>
   ((idx ax5 x3).bind fun x9 =>
   if (!x9) then
    some (decide (0 ≤ x7))
   else
    some false).bind fun x8 =>
   if x8 then
    some (.inr ((x3, x7), true))
   else
    M.greedyWhere_c1_M_privateOrder_c1_l1 ax1 ax2 ax3 ax4 ax5 k x1 x2 (w64 (x3 + 1))
  else
   some (.inl (x1, x2))

def M.greedyWhere_c1_M_privateOrder_c1 (ax1 : (List (Int × (List Int)))) (ax2 : (List (Int × (List Int) × Int × Int × Int))) (ax3 : (List Int)) (ax4 : (List Int)) (ax5 : (List Bool)) : Option ((Int × Int) × Bool) :=
 (M.greedyWhere_c1_M_privateOrder_c1_l1 ax1 ax2 ax3 ax4 ax5 FUEL (0 : Int) (0 : Int) (0 : Int)).bind fun o => match o with
  | .inl (x4, x5) =>
   some ((0, 0), false)
  | .inr r => some r

def M.greedyWhere_M_privateOrder_c1_l1 (a2 : (List (Int × (List Int)))) (a1 : (List (Int × (List Int) × Int × Int × Int))) (ax1 : (List Int)) : Nat → (List Bool) → (List Int) → (List (Int × Int)) → Int → Int → Bool → Option (((List Bool) × (List Int) × (List (Int × Int))))
 | 0, _, _, _, _, _, _ => none
 | k + 1, x3, x4, x5, x6, x7, x8 =>
  if x8 then
   (idx x3 x6).bind fun x12 =>
   (idx a2 x6).bind fun x13 =>
   (app x4 x13.2).bind fun x14 =>
   (app x5 ([(x6, x7)])).bind fun x15 =>
   (M.greedyWhere_c1_M_privateOrder_c1 a2 a1 x14 ax1 (List.set x3 (Int.toNat x6) true)).bind fun x16 =>
   M.greedyWhere_M_privateOrder_c1_l1 a2 a1 ax1 k (List.set x3 (Int.toNat x6) true) x14 x15 x16.1.1 x16.1.2 x16.2
  else
   some (x3, x4, x5)

def M.greedyWhere_M_privateOrder_c1 (a1 : (List (Int × (List Int) × Int × Int × Int))) (a2 : (List (Int × (List Int)))) (ax1 : (List Int)) : Option ((List (Int × Int)) × (List Bool)) :=
 (mk (List.length a2 : Int) (false : Bool)).bind fun x1 =>
 (M.greedyWhere_c1_M_privateOrder_c1 a2 a1 ([] : List Int) ax1 x1).bind fun x2 =>
 (M.greedyWhere_M_privateOrder_c1_l1 a2 a1 ax1 FUEL x1 ([] : List Int) ([] : List (Int × Int)) x2.1.1 x2.1.2 x2.2).bind fun (x9, x10, x11) =>
 some (x11, x9)

def M.privateOrder (a1 : (List (Int × (List Int) × Int × Int × Int))) (a2 : ((List Int) × (List (Int × (List Int))))) (a3 : (List Int)) : Option ((List (Int × Int)) × Bool) :=
 (M.greedyWhere_M_privateOrder_c1 a1 a2.2 a3).bind fun x1 =>
 some (x1.1, (decide ((List.length x1.1 : Int) = (List.length a2.2 : Int))))

def M.FindPrivateOrder (a1 : (List Int)) (a2 : (List (Int × (List Int) × Int × Int × Int))) (a3 : ((List Int) × (List (Int × (List Int))))) (a4 : (List Int)) : Option ((List (Int × Int)) × Bool) :=
 (M.areAsked a1 a2 (a3.1, a3.2)).bind fun x1 =>
 if (!x1) then
  some ([], false)
 else
  (M.privateOrder a2 (a3.1, a3.2) a4).bind fun x2 =>
  if (!x2.2) then
   some ([], false)
  else
   some (x2.1, true)

def S.ConstantsOf_l2 (a1 : ((List Int) × (List (Int × (List Int))))) (x2 : Int) : Nat → (List Int) → Int → Option ((List Int))
 | 0, _, _ => none
 | k + 1, x4, x5 =>
  (idx a1.2 x2).bind fun x7 =>
  if (decide (x5 < (List.length x7.2 : Int))) then
   (idx a1.2 x2).bind fun x8 =>
   (idx x8.2 x5).bind fun x9 =>
   (S.l1In x9 0 9).bind fun x10 =>
   (if x10 then
    (idx a1.2 x2).bind fun x12 =>
    (idx x12.2 x5).bind fun x13 =>
    (S.l3Put x4 x13).bind fun x14 =>
    some x14
   else
    some x4).bind fun x11 =>
   S.ConstantsOf_l2 a1 x2 k x11 (w64 (x5 + 1))
  else
   some x4

def S.ConstantsOf_l1 (a1 : ((List Int) × (List (Int × (List Int))))) : Nat → (List Int) → Int → Option ((List Int))
 | 0, _, _ => none
 | k + 1, x1, x2 =>
  if (decide (x2 < (List.length a1.2 : Int))) then
   (S.ConstantsOf_l2 a1 x2 FUEL x1 (0 : Int)).bind fun x6 =>
   S.ConstantsOf_l1 a1 k x6 (w64 (x2 + 1))
  else
   some x1

def S.ConstantsOf (a1 : ((List Int) × (List (Int × (List Int))))) : Option (List Int) :=
 (S.ConstantsOf_l1 a1 FUEL ([] : List Int) (0 : Int)).bind fun x3 =>
 some x3

def S.l4Less_l1 (a1 : (List Int)) (a2 : (List Int)) : Nat → Int → Option (Sum Unit Bool)
 | 0, _ => none
 | k + 1, x1 =>
  (if (decide (x1 < (List.length a1 : Int))) then
   some (decide (x1 < (List.length a2 : Int)))
  else
   some false).bind fun x2 =>
  if x2 then
   (idx a1 x1).bind fun x3 =>
   (idx a2 x1).bind fun x4 =>
   if (!decide (x3 = x4)) then
    (idx a1 x1).bind fun x5 =>
    (idx a2 x1).bind fun x6 =>
    some (.inr (decide (x5 < x6)))
   else
    S.l4Less_l1 a1 a2 k (w64 (x1 + 1))
  else
   some (.inl ())

def S.l4Less (a1 : (List Int)) (a2 : (List Int)) : Option Bool :=
 (S.l4Less_l1 a1 a2 FUEL (0 : Int)).bind fun o => match o with
  | .inl () =>
   some (decide ((List.length a1 : Int) < (List.length a2 : Int)))
  | .inr r => some r

def S.l15Less (a1 : (List Int)) (a2 : (List Int)) : Option Bool :=
 if (!decide ((List.length a1 : Int) = (List.length a2 : Int))) then
  some (decide ((List.length a1 : Int) < (List.length a2 : Int)))
 else
  (S.l4Less a1 a2).bind fun x1 =>
  some x1

def S.LeastDisclosure_l2 (x1 : (List Int)) (a4 : (List Int)) (x6 : Int) : Nat → (List Int) → (List Int) → Int → Option (((List Int) × (List Int)))
 | 0, _, _, _ => none
 | k + 1, x9, x10, x11 =>
  if (decide (x11 < (List.length x1 : Int))) then
   (idx x1 x11).bind fun x14 =>
   (S.l2Has a4 x14).bind fun x15 =>
   if (!x15) then
    S.LeastDisclosure_l2 x1 a4 x6 k x9 x10 (w64 (x11 + 1))
   else
    (nn x11).bind fun _ =>
    (if (decide ((band (shr x6 x11) 1) = 1)) then
     (idx x1 x11).bind fun x18 =>
     (app x9 ([x18])).bind fun x19 =>
     some (x19, x10)
    else
     (idx x1 x11).bind fun x20 =>
     (app x10 ([x20])).bind fun x21 =>
     some (x9, x21)).bind fun (x16, x17) =>
    S.LeastDisclosure_l2 x1 a4 x6 k x16 x17 (w64 (x11 + 1))
  else
   some (x9, x10)

def S.LeastDisclosure_l1 (x1 : (List Int)) (a4 : (List Int)) (a1 : (List Int)) (a2 : (List (Int × (List Int) × Int × Int × Int))) (a3 : ((List Int) × (List (Int × (List Int))))) : Nat → (List Int) → Bool → Int → Option (((List Int) × Bool))
 | 0, _, _, _ => none
 | k + 1, x4, x5, x6 =>
  (nn (List.length x1 : Int)).bind fun _ =>
  if (decide (x6 < (shl 1 (List.length x1 : Int)))) then
   (S.LeastDisclosure_l2 x1 a4 x6 FUEL ([] : List Int) ([] : List Int) (0 : Int)).bind fun (x12, x13) =>
   (if x5 then
    (S.l15Less x12 x4).bind fun x23 =>
    some (!x23)
   else
    some false).bind fun x22 =>
   if x22 then
    S.LeastDisclosure_l1 x1 a4 a1 a2 a3 k x4 x5 (w64 (x6 + 1))
   else
    (S.FindPrivateOrder a1 a2 (a3.1, a3.2) x13).bind fun x24 =>
    (if x24.2 then
     some (x12, true)
    else
     some (x4, x5)).bind fun (x25, x26) =>
    S.LeastDisclosure_l1 x1 a4 a1 a2 a3 k x25 x26 (w64 (x6 + 1))
  else
   some (x4, x5)

def S.LeastDisclosure (a1 : (List Int)) (a2 : (List (Int × (List Int) × Int × Int × Int))) (a3 : ((List Int) × (List (Int × (List Int))))) (a4 : (List Int)) : Option ((List Int) × Bool) :=
 (S.ConstantsOf (a3.1, a3.2)).bind fun x1 =>
 ((S.l6Fine a1 a2 (a3.1, a3.2)).bind fun x3 =>
 if (!x3) then
  some true
 else
  some (decide (8 < (List.length x1 : Int)))).bind fun x2 =>
 if x2 then
  some (([] : List Int), false)
 else
  (S.LeastDisclosure_l1 x1 a4 a1 a2 a3 FUEL ([] : List Int) false (0 : Int)).bind fun (x7, x8) =>
  some (x7, x8)

def M.termsOf_M_isValue_l2 (x4 : (Int × (List Int))) : Nat → (List Int) → Int → Option ((List Int))
 | 0, _, _ => none
 | k + 1, x5, x6 =>
  if (decide (x6 < (List.length x4.2 : Int))) then
   (idx x4.2 x6).bind fun x8 =>
   (M.isValue x8).bind fun x9 =>
   (if x9 then
    (app x5 ([x8])).bind fun x11 =>
    some x11
   else
    some x5).bind fun x10 =>
   M.termsOf_M_isValue_l2 x4 k x10 (w64 (x6 + 1))
  else
   some x5

def M.termsOf_M_isValue_l1 (a1 : (List (Int × (List Int)))) : Nat → (List Int) → Int → Option ((List Int))
 | 0, _, _ => none
 | k + 1, x1, x2 =>
  if (decide (x2 < (List.length a1 : Int))) then
   (idx a1 x2).bind fun x4 =>
   (M.termsOf_M_isValue_l2 x4 FUEL x1 (0 : Int)).bind fun x7 =>
   M.termsOf_M_isValue_l1 a1 k x7 (w64 (x2 + 1))
  else
   some x1

def M.termsOf_M_isValue (a1 : (List (Int × (List Int)))) : Option (List Int) :=
 (M.termsOf_M_isValue_l1 a1 FUEL ([] : List Int) (0 : Int)).bind fun x3 =>
 (Slices.Sort_Lint_int x3).bind fun x12 =>
 (Slices.Compact_Lint_int x12).bind fun x13 =>
 some x13

def M.ConstantsOf (a1 : ((List Int) × (List (Int × (List Int))))) : Option (List Int) :=
 (M.termsOf_M_isValue a1.2).bind fun x1 =>
 some x1

def M.LeastDisclosure_c1 (a1 : Int) (ax1 : (List Int)) : Option Bool :=
 (Slices.Contains_Lint_int ax1 a1).bind fun x1 =>
 some (!x1)

def Cmp.isNaN_int (a1 : Int) : Option Bool :=
 some (!decide (a1 = a1))

def Cmp.Compare_int (a1 : Int) (a2 : Int) : Option Int :=
 (Cmp.isNaN_int a1).bind fun x1 =>
 (Cmp.isNaN_int a2).bind fun x2 =>
 if x1 then
  if x2 then
   some 0
  else
   some (-1)
 else
  if x2 then
   some 1
  else
   if (decide (a1 < a2)) then
    some (-1)
   else
    if (decide (a2 < a1)) then
     some 1
    else
     some 0

def Slices.Compare_Lint_int_l1 (a1 : (List Int)) (a2 : (List Int)) : Nat → Int → Option (Sum Unit Int)
 | 0, _ => none
 | k + 1, x1 =>
  if (decide (x1 < (List.length a1 : Int))) then
   (idx a1 x1).bind fun x2 =>
   if (decide ((List.length a2 : Int) ≤ x1)) then
    some (.inr 1)
   else
    (idx a2 x1).bind fun x3 =>
    (Cmp.Compare_int x2 x3).bind fun x4 =>
    if (!decide (x4 = 0)) then
     some (.inr x4)
    else
     Slices.Compare_Lint_int_l1 a1 a2 k (w64 (x1 + 1))
  else
   some (.inl ())

def Slices.Compare_Lint_int (a1 : (List Int)) (a2 : (List Int)) : Option Int :=
 (Slices.Compare_Lint_int_l1 a1 a2 FUEL (0 : Int)).bind fun o => match o with
  | .inl () =>
   if (decide ((List.length a1 : Int) < (List.length a2 : Int))) then
    some (-1)
   else
    some 0
  | .inr r => some r

def Slices.Clone_Lint_int (a1 : (List Int)) : Option (List Int) :=
 (app ([] : List Int) a1).bind fun x1 =>
 some x1

def M.LeastDisclosure_c2_c1_c1 (a1 : Int) (ax1 : (List Int)) (ax2 : Int) : Option Bool :=
 (idx ax1 a1).bind fun x1 =>
 some (decide (x1 = ax2))

def Slices.IndexFunc_Lint_int_M_LeastDisclosure_c2_c1_c1_l1 (a1 : (List Int)) (ax1 : (List Int)) (ax2 : Int) : Nat → Int → Option (Sum Unit Int)
 | 0, _ => none
 | k + 1, x1 =>
  if (decide (x1 < (List.length a1 : Int))) then
   (idx a1 x1).bind fun x2 =>
   (M.LeastDisclosure_c2_c1_c1 x2 ax1 ax2).bind fun x3 =>
   if x3 then
    some (.inr x1)
   else
    Slices.IndexFunc_Lint_int_M_LeastDisclosure_c2_c1_c1_l1 a1 ax1 ax2 k (w64 (x1 + 1))
  else
   some (.inl ())

def Slices.IndexFunc_Lint_int_M_LeastDisclosure_c2_c1_c1 (a1 : (List Int)) (ax1 : (List Int)) (ax2 : Int) : Option Int :=
 (Slices.IndexFunc_Lint_int_M_LeastDisclosure_c2_c1_c1_l1 a1 ax1 ax2 FUEL (0 : Int)).bind fun o => match o with
  | .inl () =>
   some (-1)
  | .inr r => some r

def Slices.ContainsFunc_Lint_int_M_LeastDisclosure_c2_c1_c1 (a1 : (List Int)) (ax1 : (List Int)) (ax2 : Int) : Option Bool :=
 (Slices.IndexFunc_Lint_int_M_LeastDisclosure_c2_c1_c1 a1 ax1 ax2).bind fun x1 =>
 some (decide (0 ≤ x1))

def M.LeastDisclosure_c2_c1 (a1 : Int) (ax1 : (List Int)) (ax2 : (List Int)) : Option Bool :=
 (Slices.ContainsFunc_Lint_int_M_LeastDisclosure_c2_c1_c1 ax1 ax2 a1).bind fun x1 =>
 some x1

def Slices.IndexFunc_Lint_int_M_LeastDisclosure_c2_c1_l1 (a1 : (List Int)) (ax1 : (List Int)) (ax2 : (List Int)) : Nat → Int → Option (Sum Unit Int)
 | 0, _ => none
 | k + 1, x1 =>
  if (decide (x1 < (List.length a1 : Int))) then
   (idx a1 x1).bind fun x2 =>
   (M.LeastDisclosure_c2_c1 x2 ax1 ax2).bind fun x3 =>
   if x3 then
    some (.inr x1)
   else
    Slices.IndexFunc_Lint_int_M_LeastDisclosure_c2_c1_l1 a1 ax1 ax2 k (w64 (x1 + 1))
  else
   some (.inl ())

def Slices.IndexFunc_Lint_int_M_LeastDisclosure_c2_c1 (a1 : (List Int)) (ax1 : (List Int)) (ax2 : (List Int)) : Option Int :=
 (Slices.IndexFunc_Lint_int_M_LeastDisclosure_c2_c1_l1 a1 ax1 ax2 FUEL (0 : Int)).bind fun o => match o with
  | .inl () =>
   some (-1)
  | .inr r => some r

def Slices.DeleteFunc_Lint_int_M_LeastDisclosure_c2_c1 (a1 : (List Int)) (ax1 : (List Int)) (ax2 : (List Int)) : Option (List Int) :=
 (Slices.IndexFunc_Lint_int_M_LeastDisclosure_c2_c1 a1 ax1 ax2).bind fun x =>
 if x = -1 then some a1 else if 0 ≤ x ∧ x < (a1.length : Int) then dfl (fun e => M.LeastDisclosure_c2_c1 e ax1 ax2) (a1.take x.toNat) (a1.drop (x.toNat + 1)) else none

def M.LeastDisclosure_c2 (a1 : (List Int)) (ax1 : (List (Int × (List Int) × Int × Int × Int))) (ax2 : ((List Int) × (List (Int × (List Int))))) (ax3 : (List Int)) : Option Bool :=
 ((Slices.Clone_Lint_int ax3).bind fun x2 =>
 (Slices.DeleteFunc_Lint_int_M_LeastDisclosure_c2_c1 x2 a1 ax3).bind fun x3 =>
 (M.privateOrder ax1 ax2 x3).bind fun x4 =>
 some x4.2).bind fun x1 =>
 some x1

def Slices.IndexFunc_Lint_int_M_LeastDisclosure_c1_l1 (a1 : (List Int)) (ax1 : (List Int)) : Nat → Int → Option (Sum Unit Int)
 | 0, _ => none
 | k + 1, x1 =>
  if (decide (x1 < (List.length a1 : Int))) then
   (idx a1 x1).bind fun x2 =>
   (M.LeastDisclosure_c1 x2 ax1).bind fun x3 =>
   if x3 then
    some (.inr x1)
   else
    Slices.IndexFunc_Lint_int_M_LeastDisclosure_c1_l1 a1 ax1 k (w64 (x1 + 1))
  else
   some (.inl ())

def Slices.IndexFunc_Lint_int_M_LeastDisclosure_c1 (a1 : (List Int)) (ax1 : (List Int)) : Option Int :=
 (Slices.IndexFunc_Lint_int_M_LeastDisclosure_c1_l1 a1 ax1 FUEL (0 : Int)).bind fun o => match o with
  | .inl () =>
   some (-1)
  | .inr r => some r

def Slices.DeleteFunc_Lint_int_M_LeastDisclosure_c1 (a1 : (List Int)) (ax1 : (List Int)) : Option (List Int) :=
 (Slices.IndexFunc_Lint_int_M_LeastDisclosure_c1 a1 ax1).bind fun x =>
 if x = -1 then some a1 else if 0 ≤ x ∧ x < (a1.length : Int) then dfl (fun e => M.LeastDisclosure_c1 e ax1) (a1.take x.toNat) (a1.drop (x.toNat + 1)) else none

def M.smallest_M_LeastDisclosure_c2_l2 (a1 : Int) (x3 : Int) : Nat → (List Int) → Bool → Int → Option (((List Int) × Bool))
 | 0, _, _, _ => none
 | k + 1, x6, x7, x8 =>
  if (decide (x8 < a1)) then
   (nn x8).bind fun _ =>
   (if (decide ((band (shr x3 x8) 1) = 1)) then
    (app x6 ([x8])).bind fun x13 =>
    some (x13, false)
   else
    some (x6, x7)).bind fun (x11, x12) =>
   M.smallest_M_LeastDisclosure_c2_l2 a1 x3 k x11 x12 (w64 (x8 + 1))
  else
   some (x6, x7)

def M.smallest_M_LeastDisclosure_c2_l1 (a1 : Int) (ax1 : (List (Int × (List Int) × Int × Int × Int))) (ax2 : ((List Int) × (List (Int × (List Int))))) (ax3 : (List Int)) : Nat → (List Int) → Bool → Int → Option (((List Int) × Bool))
 | 0, _, _, _ => none
 | k + 1, x1, x2, x3 =>
  if (decide (x3 < (shl 1 a1))) then
   (M.smallest_M_LeastDisclosure_c2_l2 a1 x3 FUEL ([] : List Int) false (0 : Int)).bind fun (x9, x10) =>
   (if x2 then
    (M.LeastDisclosure_c2 x9 ax1 ax2 ax3).bind fun x15 =>
    some x15
   else
    if (decide ((List.length x9 : Int) < (List.length x1 : Int))) then
     (M.LeastDisclosure_c2 x9 ax1 ax2 ax3).bind fun x16 =>
     some x16
    else
     if (decide ((List.length x9 : Int) = (List.length x1 : Int))) then
      (Slices.Compare_Lint_int x9 x1).bind fun x17 =>
      if (decide (x17 < 0)) then
       (M.LeastDisclosure_c2 x9 ax1 ax2 ax3).bind fun x18 =>
       some x18
      else
       some false
     else
      some false).bind fun x14 =>
   (if x14 then
    some (x9, x10)
   else
    some (x1, x2)).bind fun (x19, x20) =>
   M.smallest_M_LeastDisclosure_c2_l1 a1 ax1 ax2 ax3 k x19 x20 (w64 (x3 + 1))
  else
   some (x1, x2)

def M.smallest_M_LeastDisclosure_c2 (a1 : Int) (ax1 : (List (Int × (List Int) × Int × Int × Int))) (ax2 : ((List Int) × (List (Int × (List Int))))) (ax3 : (List Int)) : Option ((List Int) × Bool) :=
 (nn a1).bind fun _ =>
 (M.smallest_M_LeastDisclosure_c2_l1 a1 ax1 ax2 ax3 FUEL ([]) true (0 : Int)).bind fun (x4, x5) =>
 some (x4, (!x5))

def M.LeastDisclosure_l1 (x5 : ((List Int) × Bool)) (x4 : (List Int)) : Nat → (List Int) → Int → Option ((List Int))
 | 0, _, _ => none
 | k + 1, x6, x7 =>
  if (decide (x7 < (List.length x5.1 : Int))) then
   (idx x5.1 x7).bind fun x9 =>
   (idx x4 x9).bind fun x10 =>
   (app x6 ([x10])).bind fun x11 =>
   M.LeastDisclosure_l1 x5 x4 k x11 (w64 (x7 + 1))
  else
   some x6

def M.LeastDisclosure (a1 : (List Int)) (a2 : (List (Int × (List Int) × Int × Int × Int))) (a3 : ((List Int) × (List (Int × (List Int))))) (a4 : (List Int)) : Option ((List Int) × Bool) :=
 (M.ConstantsOf (a3.1, a3.2)).bind fun x1 =>
 ((M.areAsked a1 a2 (a3.1, a3.2)).bind fun x3 =>
 if (!x3) then
  some true
 else
  some (decide (8 < (List.length x1 : Int)))).bind fun x2 =>
 if x2 then
  some ([], false)
 else
  (Slices.DeleteFunc_Lint_int_M_LeastDisclosure_c1 x1 a4).bind fun x4 =>
  (M.smallest_M_LeastDisclosure_c2 (List.length x4 : Int) a2 (a3.1, a3.2) x4).bind fun x5 =>
  if (!x5.2) then
   some ([], false)
  else
   (M.LeastDisclosure_l1 x5 x4 FUEL ([] : List Int) (0 : Int)).bind fun x8 =>
   some (x8, true)

def Q.big (a1 : (List UInt8)) : Option Bool :=
 some (decide (1048576 < (List.length a1 : Int)))

def S.l1New_l1 (a1 : (List UInt8)) : Nat → Int → Int → Option (Int)
 | 0, _, _ => none
 | k + 1, x1, x2 =>
  (if (decide (x2 < (List.length a1 : Int))) then
   some (decide (x2 < 4000))
  else
   some false).bind fun x4 =>
  if x4 then
   (idx a1 x2).bind fun x5 =>
   S.l1New_l1 a1 k (band (w64 ((w64 ((w64 (x1 * 131)) + (w64 (UInt8.toNat x5 : Int)))) + 7)) 1073741823) (w64 (x2 + 1))
  else
   some x1

def S.l1New (a1 : (List UInt8)) : Option ((List UInt8) × Int × Int) :=
 (S.l1New_l1 a1 FUEL (w64 (10101 + (List.length a1 : Int))) (0 : Int)).bind fun x3 =>
 some (a1, 0, x3)

def S.l1Byte (a1 : ((List UInt8) × Int × Int)) : Option (Int × ((List UInt8) × Int × Int)) :=
 (if (decide (a1.2.1 < (List.length a1.1 : Int))) then
  (idx a1.1 a1.2.1).bind fun x4 =>
  some (w64 (a1.2.1 + 1), w64 ((w64 (a1.2.2 * 6364136223846793005)) + 1442695040888963407), band (w64 ((band (bxor (shr (w64 ((w64 (a1.2.2 * 6364136223846793005)) + 1442695040888963407)) 33) (shr (w64 ((w64 (a1.2.2 * 6364136223846793005)) + 1442695040888963407)) 45)) 255) + (w64 (UInt8.toNat x4 : Int)))) 255)
 else
  some (a1.2.1, w64 ((w64 (a1.2.2 * 6364136223846793005)) + 1442695040888963407), band (bxor (shr (w64 ((w64 (a1.2.2 * 6364136223846793005)) + 1442695040888963407)) 33) (shr (w64 ((w64 (a1.2.2 * 6364136223846793005)) + 1442695040888963407)) 45)) 255)).bind fun (x1, x2, x3) =>
 some (x3, (a1.1, x1, x2))

def S.l1Below (a1 : ((List UInt8) × Int × Int)) (a2 : Int) : Option (Int × ((List UInt8) × Int × Int)) :=
 if (decide (a2 ≤ 0)) then
  some (0, (a1.1, a1.2.1, a1.2.2))
 else
  if (decide (a2 ≤ 256)) then
   (S.l1Byte (a1.1, a1.2.1, a1.2.2)).bind fun x1 =>
   (nz a2).bind fun _ =>
   some (x1.1.tmod a2, (a1.1, x1.2.2.1, x1.2.2.2))
  else
   (S.l1Byte (a1.1, a1.2.1, a1.2.2)).bind fun x2 =>
   (S.l1Byte (a1.1, x2.2.2.1, x2.2.2.2)).bind fun x3 =>
   (S.l1Byte (a1.1, x3.2.2.1, x3.2.2.2)).bind fun x4 =>
   (S.l1Byte (a1.1, x4.2.2.1, x4.2.2.2)).bind fun x5 =>
   (nz a2).bind fun _ =>
   some ((w64 ((w64 ((w64 ((w64 (x2.1 * 16777216)) + (w64 (x3.1 * 65536)))) + (w64 (x4.1 * 256)))) + x5.1)).tmod a2, (a1.1, x5.2.2.1, x5.2.2.2))

def S.l1Once (a1 : ((List UInt8) × Int × Int)) (a2 : Int) : Option (Bool × ((List UInt8) × Int × Int)) :=
 (S.l1Below (a1.1, a1.2.1, a1.2.2) a2).bind fun x1 =>
 some ((decide (x1.1 = 0)), (a1.1, x1.2.2.1, x1.2.2.2))

def S.l30Private_l1 (a1 : ((List UInt8) × Int × Int)) : Nat → Int → Int → (List Int) → Int → Option ((Int × Int × (List Int)))
 | 0, _, _, _, _ => none
 | k + 1, x1, x2, x3, x4 =>
  if (decide (x4 < 4)) then
   (S.l1Once (a1.1, x1, x2) 3).bind fun x8 =>
   (if x8.1 then
    (app x3 ([x4])).bind fun x10 =>
    some x10
   else
    some x3).bind fun x9 =>
   S.l30Private_l1 a1 k x8.2.2.1 x8.2.2.2 x9 (w64 (x4 + 1))
  else
   some (x1, x2, x3)

def S.l30Private (a1 : ((List UInt8) × Int × Int)) : Option ((List Int) × ((List UInt8) × Int × Int)) :=
 (S.l30Private_l1 a1 FUEL a1.2.1 a1.2.2 ([] : List Int) (0 : Int)).bind fun (x5, x6, x7) =>
 some (x7, (a1.1, x5, x6))

def S.l2Schema_l1 (a1 : ((List UInt8) × Int × Int)) : Nat → Int → Int → (List Int) → Int → Option ((Int × Int × (List Int)))
 | 0, _, _, _, _ => none
 | k + 1, x2, x3, x4, x5 =>
  if (decide (0 < x5)) then
   (S.l1Below (a1.1, x2, x3) 2).bind fun x9 =>
   (S.l1Once (a1.1, x9.2.2.1, x9.2.2.2) 4).bind fun x10 =>
   (if x10.1 then
    some (3 : Int)
   else
    some (w64 (1 + x9.1))).bind fun x11 =>
   (app x4 ([x11])).bind fun x12 =>
   S.l2Schema_l1 a1 k x10.2.2.1 x10.2.2.2 x12 (w64 (x5 - 1))
  else
   some (x2, x3, x4)

def S.l2Schema (a1 : ((List UInt8) × Int × Int)) : Option ((List Int) × ((List UInt8) × Int × Int)) :=
 (S.l1Below (a1.1, a1.2.1, a1.2.2) 3).bind fun x1 =>
 (S.l2Schema_l1 a1 FUEL x1.2.2.1 x1.2.2.2 ([] : List Int) (w64 (1 + x1.1))).bind fun (x6, x7, x8) =>
 some (x8, (a1.1, x6, x7))

def S.l1PickInt (a1 : ((List UInt8) × Int × Int)) (a2 : (List Int)) : Option (Int × ((List UInt8) × Int × Int)) :=
 (S.l1Below (a1.1, a1.2.1, a1.2.2) (List.length a2 : Int)).bind fun x1 =>
 (idx a2 x1.1).bind fun x2 =>
 some (x2, (a1.1, x1.2.2.1, x1.2.2.2))

def S.l5Method_l1 (a2 : (List Int)) (a1 : ((List UInt8) × Int × Int)) : Nat → Int → (List Int) → Int → Int → Int → Int → Int → Int → Option ((Int × (List Int) × Int × Int × Int × Int × Int))
 | 0, _, _, _, _, _, _, _, _ => none
 | k + 1, x5, x6, x7, x8, x9, x10, x11, x12 =>
  (idx a2 x5).bind fun x20 =>
  if (decide (x12 < x20)) then
   (S.l1Once (a1.1, x10, x11) 3).bind fun x21 =>
   (if x21.1 then
    (app x6 ([x12])).bind fun x27 =>
    some (x5, x27, x7, x8, x9)
   else
    some (x5, x6, x7, x8, x9)).bind fun (x22, x23, x24, x25, x26) =>
   S.l5Method_l1 a2 a1 k x22 x23 x24 x25 x26 x21.2.2.1 x21.2.2.2 (w64 (x12 + 1))
  else
   some (x5, x6, x7, x8, x9, x10, x11)

def S.l5Method (a1 : ((List UInt8) × Int × Int)) (a2 : (List Int)) : Option ((Int × (List Int) × Int × Int × Int) × ((List UInt8) × Int × Int)) :=
 (S.l1Below (a1.1, a1.2.1, a1.2.2) (List.length a2 : Int)).bind fun x1 =>
 (S.l1PickInt (a1.1, x1.2.2.1, x1.2.2.2) ([0, 0, 0, 1, 2])).bind fun x2 =>
 (S.l1Below (a1.1, x2.2.2.1, x2.2.2.2) 5).bind fun x3 =>
 (S.l1Below (a1.1, x3.2.2.1, x3.2.2.2) 6).bind fun x4 =>
 (S.l5Method_l1 a2 a1 FUEL x1.1 ([]) x2.1 x3.1 (w64 (1 + x4.1)) x4.2.2.1 x4.2.2.2 (0 : Int)).bind fun (x13, x14, x15, x16, x17, x18, x19) =>
 some ((x13, x14, x15, x16, x17), (a1.1, x18, x19))

def S.l5Methods_l1 (a1 : ((List UInt8) × Int × Int)) (a2 : (List Int)) : Nat → Int → Int → (List (Int × (List Int) × Int × Int × Int)) → Int → Option ((Int × Int × (List (Int × (List Int) × Int × Int × Int))))
 | 0, _, _, _, _ => none
 | k + 1, x2, x3, x4, x5 =>
  if (decide (0 < x5)) then
   (S.l5Method (a1.1, x2, x3) a2).bind fun x9 =>
   (app x4 ([(x9.1.1, x9.1.2.1, x9.1.2.2.1, x9.1.2.2.2.1, x9.1.2.2.2.2)])).bind fun x10 =>
   S.l5Methods_l1 a1 a2 k x9.2.2.1 x9.2.2.2 x10 (w64 (x5 - 1))
  else
   some (x2, x3, x4)

def S.l5Methods (a1 : ((List UInt8) × Int × Int)) (a2 : (List Int)) : Option ((List (Int × (List Int) × Int × Int × Int)) × ((List UInt8) × Int × Int)) :=
 (S.l1Below (a1.1, a1.2.1, a1.2.2) 4).bind fun x1 =>
 (S.l5Methods_l1 a1 a2 FUEL x1.2.2.1 x1.2.2.2 ([] : List (Int × (List Int) × Int × Int × Int)) (w64 (1 + x1.1))).bind fun (x6, x7, x8) =>
 some (x8, (a1.1, x6, x7))

def S.l3Query_l3 (x30 : (List Int)) (a1 : ((List UInt8) × Int × Int)) : Nat → Int → Int → (List Int) → (List (Int × (List Int))) → Int → Option ((Int × Int × (List Int) × (List (Int × (List Int)))))
 | 0, _, _, _, _, _ => none
 | k + 1, x31, x32, x33, x34, x35 =>
  (if (decide (x35 < (List.length x30 : Int))) then
   some (decide ((List.length x33 : Int) < 2))
  else
   some false).bind fun x40 =>
  if x40 then
   (S.l1Once (a1.1, x31, x32) 2).bind fun x41 =>
   (if x41.1 then
    (idx x30 x35).bind fun x44 =>
    (app x33 ([x44])).bind fun x45 =>
    some (x45, x34)
   else
    some (x33, x34)).bind fun (x42, x43) =>
   S.l3Query_l3 x30 a1 k x41.2.2.1 x41.2.2.2 x42 x43 (w64 (x35 + 1))
  else
   some (x31, x32, x33, x34)

def S.l3Query_l2 (a2 : (List Int)) (a1 : ((List UInt8) × Int × Int)) : Nat → Int → (List Int) → Int → Int → Int → Option ((Int × (List Int) × Int × Int))
 | 0, _, _, _, _, _ => none
 | k + 1, x12, x13, x14, x15, x16 =>
  (idx a2 x12).bind fun x21 =>
  if (decide (x16 < x21)) then
   (S.l1Below (a1.1, x14, x15) 4).bind fun x22 =>
   (S.l1Once (a1.1, x22.2.2.1, x22.2.2.2) 4).bind fun x23 =>
   (if x23.1 then
    (S.l1Below (a1.1, x23.2.2.1, x23.2.2.2) 4).bind fun x27 =>
    some (x27.2.2.1, x27.2.2.2, x27.1)
   else
    some (x23.2.2.1, x23.2.2.2, w64 (10 + x22.1))).bind fun (x24, x25, x26) =>
   (app x13 ([x26])).bind fun x28 =>
   S.l3Query_l2 a2 a1 k x12 x28 x24 x25 (w64 (x16 + 1))
  else
   some (x12, x13, x14, x15)

def S.l3Query_l1 (a1 : ((List UInt8) × Int × Int)) (a2 : (List Int)) : Nat → Int → Int → (List Int) → (List (Int × (List Int))) → Int → Option ((Int × Int × (List Int) × (List (Int × (List Int)))))
 | 0, _, _, _, _, _ => none
 | k + 1, x2, x3, x4, x5, x6 =>
  if (decide (0 < x6)) then
   (S.l1Below (a1.1, x2, x3) (List.length a2 : Int)).bind fun x11 =>
   (S.l3Query_l2 a2 a1 FUEL x11.1 ([]) x11.2.2.1 x11.2.2.2 (0 : Int)).bind fun (x17, x18, x19, x20) =>
   (app x5 ([(x17, x18)])).bind fun x29 =>
   S.l3Query_l1 a1 a2 k x19 x20 x4 x29 (w64 (x6 - 1))
  else
   some (x2, x3, x4, x5)

def S.l3Query (a1 : ((List UInt8) × Int × Int)) (a2 : (List Int)) : Option (((List Int) × (List (Int × (List Int)))) × ((List UInt8) × Int × Int)) :=
 (S.l1Below (a1.1, a1.2.1, a1.2.2) 3).bind fun x1 =>
 (S.l3Query_l1 a1 a2 FUEL x1.2.2.1 x1.2.2.2 ([]) ([]) (w64 (1 + x1.1))).bind fun (x7, x8, x9, x10) =>
 (S.VarsOf (x9, x10)).bind fun x30 =>
 (S.l3Query_l3 x30 a1 FUEL x7 x8 x9 x10 (0 : Int)).bind fun (x36, x37, x38, x39) =>
 some ((x38, x39), (a1.1, x36, x37))

def S.l5AnyMethod (a1 : ((List UInt8) × Int × Int)) (a2 : (List Int)) : Option ((Int × (List Int) × Int × Int × Int) × ((List UInt8) × Int × Int)) :=
 (S.IsSchema a2).bind fun x1 =>
 (if x1 then
  (S.l5Method (a1.1, a1.2.1, a1.2.2) a2).bind fun x9 =>
  some (x9.1.1, x9.1.2.1, x9.1.2.2.1, x9.1.2.2.2.1, x9.1.2.2.2.2, x9.2.2.1, x9.2.2.2)
 else
  some ((0 : Int), [], (0 : Int), (0 : Int), (1 : Int), a1.2.1, a1.2.2)).bind fun (x2, x3, x4, x5, x6, x7, x8) =>
 (S.l1Below (a1.1, x7, x8) 10).bind fun x10 =>
 (if (decide (x10.1 = 0)) then
  (S.l1PickInt (a1.1, x10.2.2.1, x10.2.2.2) ([(-1), 9, 10])).bind fun x18 =>
  some (x18.2.2.1, x18.2.2.2, x2, x3, x18.1, x5, x6)
 else
  (if (decide (x10.1 = 1)) then
   ((S.l1Below (a1.1, x10.2.2.1, x10.2.2.2) 5).bind fun x33 =>
   (app x3 ([w64 (x33.1 - 1)])).bind fun x34 =>
   some (x33.2.2.1, x33.2.2.2, x2, x34, x4, x5, x6)).bind fun (x26, x27, x28, x29, x30, x31, x32) =>
   some (x26, x27, x28, x29, x30, x31, x32)
  else
   (if (decide (x10.1 = 2)) then
    (S.l1PickInt (a1.1, x10.2.2.1, x10.2.2.2) ([0, 99, 100])).bind fun x42 =>
    some (x42.2.2.1, x42.2.2.2, x2, x3, x4, x5, x42.1)
   else
    (if (decide (x10.1 = 3)) then
     (S.l1PickInt (a1.1, x10.2.2.1, x10.2.2.2) ([(-1), 99, 100])).bind fun x50 =>
     some (x50.2.2.1, x50.2.2.2, x2, x3, x4, x50.1, x6)
    else
     some (x10.2.2.1, x10.2.2.2, x2, x3, x4, x5, x6)).bind fun (x43, x44, x45, x46, x47, x48, x49) =>
    some (x43, x44, x45, x46, x47, x48, x49)).bind fun (x35, x36, x37, x38, x39, x40, x41) =>
   some (x35, x36, x37, x38, x39, x40, x41)).bind fun (x19, x20, x21, x22, x23, x24, x25) =>
  some (x19, x20, x21, x22, x23, x24, x25)).bind fun (x11, x12, x13, x14, x15, x16, x17) =>
 some ((x13, x14, x15, x16, x17), (a1.1, x11, x12))

def S.l3Any (a1 : ((List UInt8) × Int × Int)) (a2 : (List Int)) : Option (((List Int) × (List (Int × (List Int)))) × ((List UInt8) × Int × Int)) :=
 (S.IsSchema a2).bind fun x1 =>
 (if x1 then
  (S.l3Query (a1.1, a1.2.1, a1.2.2) a2).bind fun x6 =>
  some (x6.1.1, x6.1.2, x6.2.2.1, x6.2.2.2)
 else
  some ([], [(0, [10])], a1.2.1, a1.2.2)).bind fun (x2, x3, x4, x5) =>
 (S.l1Below (a1.1, x4, x5) 14).bind fun x7 =>
 (if (decide (x7.1 = 0)) then
  ((S.l1PickInt (a1.1, x7.2.2.1, x7.2.2.2) ([17, 18, 3, (-1)])).bind fun x16 =>
  (app x2 ([x16.1])).bind fun x17 =>
  some (x16.2.2.1, x16.2.2.2, x17, x3)).bind fun (x12, x13, x14, x15) =>
  some (x12, x13, x14, x15)
 else
  (if (decide (x7.1 = 1)) then
   ((idx x3 0).bind fun x24 =>
   (S.l1PickInt (a1.1, x7.2.2.1, x7.2.2.2) ([(-1), 9, 17, 18])).bind fun x25 =>
   (idx x24.2 0).bind fun x26 =>
   some ((List.set x3 (Int.toNat 0) (x24.1, (List.set x24.2 (Int.toNat 0) x25.1))), x25.2.2.1, x25.2.2.2)).bind fun (x21, x22, x23) =>
   some (x21, x22, x23)
  else
   (if (decide (x7.1 = 2)) then
    ((S.l1Below (a1.1, x7.2.2.1, x7.2.2.2) 5).bind fun x33 =>
    (idx x3 0).bind fun x34 =>
    some ((List.set x3 (Int.toNat 0) (w64 (x33.1 - 1), x34.2)), x33.2.2.1, x33.2.2.2)).bind fun (x30, x31, x32) =>
    some (x30, x31, x32)
   else
    some (x3, x7.2.2.1, x7.2.2.2)).bind fun (x27, x28, x29) =>
   some (x27, x28, x29)).bind fun (x18, x19, x20) =>
  some (x19, x20, x2, x18)).bind fun (x8, x9, x10, x11) =>
 some ((x10, x11), (a1.1, x8, x9))

def S.l2AnySchema (a1 : ((List UInt8) × Int × Int)) : Option ((List Int) × ((List UInt8) × Int × Int)) :=
 (S.l2Schema (a1.1, a1.2.1, a1.2.2)).bind fun x1 =>
 (S.l1Once (a1.1, x1.2.2.1, x1.2.2.2) 14).bind fun x2 =>
 (if x2.1 then
  (S.l1PickInt (a1.1, x2.2.2.1, x2.2.2.2) ([0, 1, 4])).bind fun x6 =>
  (app x1.1 ([x6.1])).bind fun x7 =>
  some (x6.2.2.1, x6.2.2.2, x7)
 else
  some (x2.2.2.1, x2.2.2.2, x1.1)).bind fun (x3, x4, x5) =>
 some (x5, (a1.1, x3, x4))

def S.l6Draw (a1 : ((List UInt8) × Int × Int)) : Option ((List Int) × (List (Int × (List Int) × Int × Int × Int)) × ((List Int) × (List (Int × (List Int)))) × ((List UInt8) × Int × Int)) :=
 (S.l2Schema (a1.1, a1.2.1, a1.2.2)).bind fun x1 =>
 (S.l5Methods (a1.1, x1.2.2.1, x1.2.2.2) x1.1).bind fun x2 =>
 (S.l3Query (a1.1, x2.2.2.1, x2.2.2.2) x1.1).bind fun x3 =>
 (S.l1Below (a1.1, x3.2.2.1, x3.2.2.2) 20).bind fun x4 =>
 (if (decide (x4.1 = 0)) then
  (S.l5AnyMethod (a1.1, x4.2.2.1, x4.2.2.2) x1.1).bind fun x11 =>
  (app x2.1 ([(x11.1.1, x11.1.2.1, x11.1.2.2.1, x11.1.2.2.2.1, x11.1.2.2.2.2)])).bind fun x12 =>
  some (x11.2.2.1, x11.2.2.2, x3.1.1, x3.1.2, x1.1, x12)
 else
  (if (decide (x4.1 = 1)) then
   (S.l3Any (a1.1, x4.2.2.1, x4.2.2.2) x1.1).bind fun x18 =>
   some (x18.2.2.1, x18.2.2.2, x18.1.1, x18.1.2, x1.1)
  else
   (if (decide (x4.1 = 2)) then
    (S.l2AnySchema (a1.1, x4.2.2.1, x4.2.2.2)).bind fun x22 =>
    some (x22.2.2.1, x22.2.2.2, x22.1)
   else
    some (x4.2.2.1, x4.2.2.2, x1.1)).bind fun (x19, x20, x21) =>
   some (x19, x20, x3.1.1, x3.1.2, x21)).bind fun (x13, x14, x15, x16, x17) =>
  some (x13, x14, x15, x16, x17, x2.1)).bind fun (x5, x6, x7, x8, x9, x10) =>
 some (x9, x10, (x7, x8), (a1.1, x5, x6))

def S.l30Draw (a1 : (List UInt8)) : Option ((List Int) × (List (Int × (List Int) × Int × Int × Int)) × ((List Int) × (List (Int × (List Int)))) × (List Int)) :=
 (S.l1New a1).bind fun x1 =>
 (S.l6Draw (a1, x1.2.1, x1.2.2)).bind fun x2 =>
 ((S.l30Private (a1, x2.2.2.2.2.1, x2.2.2.2.2.2)).bind fun x10 =>
 some (x10.2.2.1, x10.2.2.2, x2.2.2.1.1, x2.2.2.1.2, x2.1, x2.2.1, x10.1)).bind fun (x3, x4, x5, x6, x7, x8, x9) =>
 some (x7, x8, (x5, x6), x9)

def S.DrawFindPrivateOrder (a1 : (List UInt8)) : Option ((List Int) × (List (Int × (List Int) × Int × Int × Int)) × ((List Int) × (List (Int × (List Int)))) × (List Int)) :=
 (S.l30Draw a1).bind fun x1 =>
 some (x1.1, x1.2.1, (x1.2.2.1.1, x1.2.2.1.2), x1.2.2.2)

def S.SameSteps_l1 (a1 : (List (Int × Int))) (a2 : (List (Int × Int))) : Nat → Int → Option (Sum Unit Bool)
 | 0, _ => none
 | k + 1, x1 =>
  if (decide (x1 < (List.length a1 : Int))) then
   (idx a1 x1).bind fun x2 =>
   (idx a2 x1).bind fun x3 =>
   if (!(decide (x2.1 = x3.1) && (decide (x2.2 = x3.2) && true))) then
    some (.inr false)
   else
    S.SameSteps_l1 a1 a2 k (w64 (x1 + 1))
  else
   some (.inl ())

def S.SameSteps (a1 : (List (Int × Int))) (a2 : (List (Int × Int))) : Option Bool :=
 if (!decide ((List.length a1 : Int) = (List.length a2 : Int))) then
  some false
 else
  (S.SameSteps_l1 a1 a2 FUEL (0 : Int)).bind fun o => match o with
   | .inl () =>
    some true
   | .inr r => some r

def S.l6First_l1 (a1 : (List (Int × (List Int) × Int × Int × Int))) (a2 : (Int × (List Int))) (a3 : (List Int)) : Nat → Int → Option (Sum Unit Int)
 | 0, _ => none
 | k + 1, x1 =>
  if (decide (x1 < (List.length a1 : Int))) then
   (idx a1 x1).bind fun x2 =>
   (S.CanCall x2 (a2.1, a2.2) a3).bind fun x3 =>
   if x3 then
    some (.inr x1)
   else
    S.l6First_l1 a1 a2 a3 k (w64 (x1 + 1))
  else
   some (.inl ())

def S.l6First (a1 : (List (Int × (List Int) × Int × Int × Int))) (a2 : (Int × (List Int))) (a3 : (List Int)) : Option Int :=
 (S.l6First_l1 a1 a2 a3 FUEL (0 : Int)).bind fun o => match o with
  | .inl () =>
   some (-1)
  | .inr r => some r

def S.l6Greedy_l2 (a2 : ((List Int) × (List (Int × (List Int))))) (a1 : (List (Int × (List Int) × Int × Int × Int))) : Nat → (List (Int × Int)) → (List Int) → (List Int) → Int → Option (((List (Int × Int)) × (List Int) × (List Int)))
 | 0, _, _, _, _ => none
 | k + 1, x6, x7, x8, x9 =>
  if (decide (x9 < (List.length a2.2 : Int))) then
   (idx a2.2 x9).bind fun x13 =>
   (S.l6First a1 x13 x7).bind fun x14 =>
   (if (decide (0 ≤ x14)) then
    (S.l2Has x8 x9).bind fun x16 =>
    some (!x16)
   else
    some false).bind fun x15 =>
   if x15 then
    (app x6 ([(x9, x14)])).bind fun x17 =>
    (app x8 ([x9])).bind fun x18 =>
    (idx a2.2 x9).bind fun x19 =>
    (S.l6Bind x7 x19).bind fun x20 =>
    some (x17, x20, x18)
   else
    S.l6Greedy_l2 a2 a1 k x6 x7 x8 (w64 (x9 + 1))
  else
   some (x6, x7, x8)

def S.l6Greedy_l1 (a2 : ((List Int) × (List (Int × (List Int))))) (a1 : (List (Int × (List Int) × Int × Int × Int))) : Nat → (List (Int × Int)) → (List Int) → (List Int) → Int → Option ((List (Int × Int)))
 | 0, _, _, _, _ => none
 | k + 1, x1, x2, x3, x4 =>
  if (decide (x4 < (List.length a2.2 : Int))) then
   (S.l6Greedy_l2 a2 a1 FUEL x1 x2 x3 (0 : Int)).bind fun (x10, x11, x12) =>
   S.l6Greedy_l1 a2 a1 k x10 x11 x12 (w64 (x4 + 1))
  else
   some x1

def S.l6Greedy (a1 : (List (Int × (List Int) × Int × Int × Int))) (a2 : ((List Int) × (List (Int × (List Int))))) : Option (List (Int × Int)) :=
 (S.l6Greedy_l1 a2 a1 FUEL ([] : List (Int × Int)) ([] : List Int) ([] : List Int) (0 : Int)).bind fun x5 =>
 some x5

def S.FindOrder (a1 : (List Int)) (a2 : (List (Int × (List Int) × Int × Int × Int))) (a3 : ((List Int) × (List (Int × (List Int))))) : Option ((List (Int × Int)) × Bool) :=
 (S.l6Fine a1 a2 (a3.1, a3.2)).bind fun x1 =>
 if (!x1) then
  some (([] : List (Int × Int)), false)
 else
  (S.l6Greedy a2 (a3.1, a3.2)).bind fun x2 =>
  if (decide ((List.length x2 : Int) < (List.length a3.2 : Int))) then
   some (([] : List (Int × Int)), false)
  else
   some (x2, true)

def Q.sameInts_l1 (a1 : (List Int)) (a2 : (List Int)) : Nat → Int → Option (Sum Unit Bool)
 | 0, _ => none
 | k + 1, x1 =>
  if (decide (x1 < (List.length a1 : Int))) then
   (idx a1 x1).bind fun x2 =>
   (idx a2 x1).bind fun x3 =>
   if (!decide (x2 = x3)) then
    some (.inr false)
   else
    Q.sameInts_l1 a1 a2 k (w64 (x1 + 1))
  else
   some (.inl ())

def Q.sameInts (a1 : (List Int)) (a2 : (List Int)) : Option Bool :=
 if (!decide ((List.length a1 : Int) = (List.length a2 : Int))) then
  some false
 else
  (Q.sameInts_l1 a1 a2 FUEL (0 : Int)).bind fun o => match o with
   | .inl () =>
    some true
   | .inr r => some r

def Q.has_l1 (a1 : (List Int)) (a2 : Int) : Nat → Int → Option (Sum Unit Bool)
 | 0, _ => none
 | k + 1, x1 =>
  if (decide (x1 < (List.length a1 : Int))) then
   (idx a1 x1).bind fun x2 =>
   if (decide (x2 = a2)) then
    some (.inr true)
   else
    Q.has_l1 a1 a2 k (w64 (x1 + 1))
  else
   some (.inl ())

def Q.has (a1 : (List Int)) (a2 : Int) : Option Bool :=
 (Q.has_l1 a1 a2 FUEL (0 : Int)).bind fun o => match o with
  | .inl () =>
   some false
  | .inr r => some r

def S.DrawIsOrder_l1 (x2 : ((List Int) × (List (Int × (List Int) × Int × Int × Int)) × ((List Int) × (List (Int × (List Int)))) × ((List UInt8) × Int × Int))) (a1 : (List UInt8)) : Nat → Int → Int → (List (Int × Int)) → Int → Option ((Int × Int × (List (Int × Int))))
 | 0, _, _, _, _ => none
 | k + 1, x3, x4, x5, x6 =>
  if (decide (x6 < (List.length x2.2.2.1.2 : Int))) then
   (S.l1Below (a1, x3, x4) 4).bind fun x10 =>
   (app x5 ([(x6, x10.1)])).bind fun x11 =>
   S.DrawIsOrder_l1 x2 a1 k x10.2.2.1 x10.2.2.2 x11 (w64 (x6 + 1))
  else
   some (x3, x4, x5)

def S.DrawIsOrder (a1 : (List UInt8)) : Option ((List Int) × (List (Int × (List Int) × Int × Int × Int)) × ((List Int) × (List (Int × (List Int)))) × (List (Int × Int))) :=
 (S.l1New a1).bind fun x1 =>
 (S.l6Draw (a1, x1.2.1, x1.2.2)).bind fun x2 =>
 (S.DrawIsOrder_l1 x2 a1 FUEL x2.2.2.2.2.1 x2.2.2.2.2.2 ([] : List (Int × Int)) (0 : Int)).bind fun (x7, x8, x9) =>
 ((S.l1Once (a1, x7, x8) 2).bind fun x15 =>
 if x15.1 then
  (S.AreMethods x2.1 x2.2.1).bind fun x16 =>
  if x16 then
   (S.IsQuery x2.1 (x2.2.2.1.1, x2.2.2.1.2)).bind fun x17 =>
   some (x15.2.2.1, x15.2.2.2, x17)
  else
   some (x15.2.2.1, x15.2.2.2, false)
 else
  some (x15.2.2.1, x15.2.2.2, false)).bind fun (x12, x13, x14) =>
 (if x14 then
  (S.FindOrder x2.1 x2.2.1 (x2.2.2.1.1, x2.2.2.1.2)).bind fun x19 =>
  some x19.1
 else
  some x9).bind fun x18 =>
 (S.l1Once (a1, x12, x13) 8).bind fun x20 =>
 (if x20.1 then
  (S.l1Below (a1, x20.2.2.1, x20.2.2.2) 4).bind fun x24 =>
  (S.l1Below (a1, x24.2.2.1, x24.2.2.2) 6).bind fun x25 =>
  (app x18 ([(w64 (x24.1 - 1), w64 (x25.1 - 1))])).bind fun x26 =>
  some (x25.2.2.1, x25.2.2.2, x26)
 else
  some (x20.2.2.1, x20.2.2.2, x18)).bind fun (x21, x22, x23) =>
 some (x2.1, x2.2.1, (x2.2.2.1.1, x2.2.2.1.2), x23)

def S.DrawIsPrivateOrder (a1 : (List UInt8)) : Option ((List Int) × (List (Int × (List Int) × Int × Int × Int)) × ((List Int) × (List (Int × (List Int)))) × (List (Int × Int)) × (List Int)) :=
 (S.l1New a1).bind fun x1 =>
 (S.DrawIsOrder a1).bind fun x2 =>
 ((S.l30Private (a1, x1.2.1, x1.2.2)).bind fun x11 =>
 some (x11.2.2.1, x11.2.2.2, x2.2.2.1.1, x2.2.2.1.2, x2.1, x2.2.1, x2.2.2.2, x11.1)).bind fun (x3, x4, x5, x6, x7, x8, x9, x10) =>
 some (x7, x8, (x5, x6), x9, x10)

def S.DrawDisclosed (a1 : (List UInt8)) : Option ((List (Int × (List Int) × Int × Int × Int)) × ((List Int) × (List (Int × (List Int)))) × (List (Int × Int))) :=
 (S.DrawIsOrder a1).bind fun x1 =>
 some (x1.2.1, (x1.2.2.1.1, x1.2.2.1.2), x1.2.2.2)

def Q.FnPrivacies_l2 (x2 : ((List Int) × (List (Int × (List Int) × Int × Int × Int)) × ((List Int) × (List (Int × (List Int)))) × (List Int))) (x9 : ((List Int) × Bool)) (x13 : Int) : Nat → (List Int) → Int → Option ((List Int))
 | 0, _, _ => none
 | k + 1, x15, x16 =>
  if (decide (x16 < (List.length x2.2.2.2 : Int))) then
   ((idx x2.2.2.2 x16).bind fun x19 =>
   (Q.has x9.1 x19).bind fun x20 =>
   if (!x20) then
    some true
   else
    if (decide (0 ≤ x13)) then
     (idx x9.1 x13).bind fun x21 =>
     (idx x2.2.2.2 x16).bind fun x22 =>
     some (decide (x21 = x22))
    else
     some false).bind fun x18 =>
   (if x18 then
    (idx x2.2.2.2 x16).bind fun x24 =>
    (app x15 ([x24])).bind fun x25 =>
    some x25
   else
    some x15).bind fun x23 =>
   Q.FnPrivacies_l2 x2 x9 x13 k x23 (w64 (x16 + 1))
  else
   some x15

def Q.FnPrivacies_l1 (x9 : ((List Int) × Bool)) (x8 : ((List Int) × Bool)) (x2 : ((List Int) × (List (Int × (List Int) × Int × Int × Int)) × ((List Int) × (List (Int × (List Int)))) × (List Int))) : Nat → Int → Option (Sum Unit Bool)
 | 0, _ => none
 | k + 1, x13 =>
  (if (decide (x13 < (List.length x9.1 : Int))) then
   some x8.2
  else
   some false).bind fun x14 =>
  if x14 then
   (Q.FnPrivacies_l2 x2 x9 x13 FUEL ([] : List Int) (0 : Int)).bind fun x17 =>
   (M.FindPrivateOrder x2.1 x2.2.1 (x2.2.2.1.1, x2.2.2.1.2) x17).bind fun x26 =>
   if (!decide (x26.2 = (decide (x13 < 0)))) then
    some (.inr false)
   else
    Q.FnPrivacies_l1 x9 x8 x2 k (w64 (x13 + 1))
  else
   some (.inl ())

def Q.FnPrivacies (a1 : (List UInt8)) : Option Bool :=
 (Q.big a1).bind fun x1 =>
 if x1 then
  some true
 else
  (S.DrawFindPrivateOrder a1).bind fun x2 =>
  (M.FindPrivateOrder x2.1 x2.2.1 (x2.2.2.1.1, x2.2.2.1.2) x2.2.2.2).bind fun x3 =>
  (S.FindPrivateOrder x2.1 x2.2.1 (x2.2.2.1.1, x2.2.2.1.2) x2.2.2.2).bind fun x4 =>
  (if (!decide (x3.2 = x4.2)) then
   some true
  else
   (S.SameSteps x3.1 x4.1).bind fun x6 =>
   if (!x6) then
    some true
   else
    if x3.2 then
     (M.IsPrivateOrder x2.1 x2.2.1 (x2.2.2.1.1, x2.2.2.1.2) x4.1 x2.2.2.2).bind fun x7 =>
     some (!x7)
    else
     some false).bind fun x5 =>
  if x5 then
   some false
  else
   (M.LeastDisclosure x2.1 x2.2.1 (x2.2.2.1.1, x2.2.2.1.2) x2.2.2.2).bind fun x8 =>
   (S.LeastDisclosure x2.1 x2.2.1 (x2.2.2.1.1, x2.2.2.1.2) x2.2.2.2).bind fun x9 =>
   (S.FindOrder x2.1 x2.2.1 (x2.2.2.1.1, x2.2.2.1.2)).bind fun x10 =>
   (if (!decide (x8.2 = x9.2)) then
    some true
   else
    (Q.sameInts x8.1 x9.1).bind fun x12 =>
    if (!x12) then
     some true
    else
     if (!decide (x8.2 = x10.2)) then
      some true
     else
      if x8.2 then
       some (!decide (x3.2 = (decide ((List.length x9.1 : Int) = 0))))
      else
       some (!decide (x3.2 = false))).bind fun x11 =>
   if x11 then
    some false
   else
    (Q.FnPrivacies_l1 x9 x8 x2 FUEL ((-1) : Int)).bind fun o => match o with
     | .inl () =>
      (S.DrawIsPrivateOrder a1).bind fun x27 =>
      (M.IsPrivateOrder x27.1 x27.2.1 (x27.2.2.1.1, x27.2.2.1.2) x27.2.2.2.1 x27.2.2.2.2).bind fun x28 =>
      (if x28 then
       (M.FindPrivateOrder x27.1 x27.2.1 (x27.2.2.1.1, x27.2.2.1.2) x27.2.2.2.2).bind fun x29 =>
       if (!x29.2) then
        some (.inr false)
       else
        some (.inl ())
      else
       some (.inl ()) : Option (Unit ⊕ Bool)).bind fun o => match o with
       | .inl () =>
        (S.DrawDisclosed a1).bind fun x30 =>
        ((M.IsPrivateOrder x27.1 x27.2.1 (x27.2.2.1.1, x27.2.2.1.2) x27.2.2.2.1 x27.2.2.2.2).bind fun x32 =>
        (S.IsPrivateOrder x27.1 x27.2.1 (x27.2.2.1.1, x27.2.2.1.2) x27.2.2.2.1 x27.2.2.2.2).bind fun x33 =>
        if (decide (x32 = x33)) then
         (M.Disclosed x30.1 (x30.2.1.1, x30.2.1.2) x30.2.2).bind fun x34 =>
         (S.Disclosed x30.1 (x30.2.1.1, x30.2.1.2) x30.2.2).bind fun x35 =>
         (Q.sameInts x34 x35).bind fun x36 =>
         some x36
        else
         some false).bind fun x31 =>
        some x31
       | .inr r => some r
     | .inr r => some r

end Go.Gx.Px
