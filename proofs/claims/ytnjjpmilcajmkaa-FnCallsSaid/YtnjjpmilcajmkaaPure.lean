/- The Go functions as pure Lean functions, printed by program. Conditions: none. -/
import Derived.Test.YtnjjpmilcajmkaaGxEq
set_option linter.unusedVariables false
namespace Go.Gx.Px

def Q.big (a1 : (List UInt8)) : Option Bool :=
 some (decide (1048576 < (List.length a1 : Int)))

def Q.sameInts_l1 (a1 : (List Int)) (a2 : (List Int)) : Nat → Int → Option (Sum Unit Bool)
 | 0, _ => none
 | k + 1, x1 =>
  if (decide (x1 < (List.length a1 : Int))) then
   (idx a1 x1).bind fun x2 =>
   (idx a2 x1).bind fun x3 =>
   if (!decide (x2 = x3)) then
    some (.inr false)
   else
    Q.sameInts_l1 a1 a2 k (w64 (x1 + 1))
  else
   some (.inl ())

def Q.sameInts (a1 : (List Int)) (a2 : (List Int)) : Option Bool :=
 if (!decide ((List.length a1 : Int) = (List.length a2 : Int))) then
  some false
 else
  (Q.sameInts_l1 a1 a2 FUEL (0 : Int)).bind fun o => match o with
   | .inl () =>
    some true
   | .inr r => some r

def Q.btoi (a1 : Bool) : Option Int :=
 if a1 then
  some 1
 else
  some 0

def Q.has_l1 (a1 : (List Int)) (a2 : Int) : Nat → Int → Option (Sum Unit Bool)
 | 0, _ => none
 | k + 1, x1 =>
  if (decide (x1 < (List.length a1 : Int))) then
   (idx a1 x1).bind fun x2 =>
   if (decide (x2 = a2)) then
    some (.inr true)
   else
    Q.has_l1 a1 a2 k (w64 (x1 + 1))
  else
   some (.inl ())

def Q.has (a1 : (List Int)) (a2 : Int) : Option Bool :=
 (Q.has_l1 a1 a2 FUEL (0 : Int)).bind fun o => match o with
  | .inl () =>
   some false
  | .inr r => some r

def S.l1In (a1 : Int) (a2 : Int) (a3 : Int) : Option Bool :=
 (if (decide (a2 ≤ a1)) then
  some (decide (a1 ≤ a3))
 else
  some false).bind fun x1 =>
 some x1

def S.IsLedger_l1 (a1 : ((List Int) × Int × Int)) : Nat → Int → Option (Sum Unit Bool)
 | 0, _ => none
 | k + 1, x1 =>
  if (decide (x1 < (List.length a1.1 : Int))) then
   ((idx a1.1 x1).bind fun x3 =>
   (S.l1In x3 0 1000000).bind fun x4 =>
   if (!x4) then
    some true
   else
    if (decide (0 < x1)) then
     (idx a1.1 x1).bind fun x5 =>
     (idx a1.1 (w64 (x1 - 1))).bind fun x6 =>
     some (decide (x5 ≤ x6))
    else
     some false).bind fun x2 =>
   if x2 then
    some (.inr false)
   else
    S.IsLedger_l1 a1 k (w64 (x1 + 1))
  else
   some (.inl ())

def S.IsLedger (a1 : ((List Int) × Int × Int)) : Option Bool :=
 (S.IsLedger_l1 a1 FUEL (0 : Int)).bind fun o => match o with
  | .inl () =>
   ((S.l1In a1.2.1 0 1000000000).bind fun x8 =>
   if x8 then
    (S.l1In a1.2.2 0 1000000000).bind fun x9 =>
    some x9
   else
    some false).bind fun x7 =>
   some x7
  | .inr r => some r

def S.l27Copy (a1 : ((List Int) × Int × Int)) : Option ((List Int) × Int × Int) :=
 (app ([] : List Int) a1.1).bind fun x1 =>
 some (x1, a1.2.1, a1.2.2)

def S.l2Has_l1 (a1 : (List Int)) (a2 : Int) : Nat → Int → Option (Sum Unit Bool)
 | 0, _ => none
 | k + 1, x1 =>
  if (decide (x1 < (List.length a1 : Int))) then
   (idx a1 x1).bind fun x2 =>
   if (decide (x2 = a2)) then
    some (.inr true)
   else
    S.l2Has_l1 a1 a2 k (w64 (x1 + 1))
  else
   some (.inl ())

def S.l2Has (a1 : (List Int)) (a2 : Int) : Option Bool :=
 (S.l2Has_l1 a1 a2 FUEL (0 : Int)).bind fun o => match o with
  | .inl () =>
   some false
  | .inr r => some r

def S.l3Put_l1 (a1 : (List Int)) (a2 : Int) : Nat → (List Int) → Bool → Int → Option (((List Int) × Bool))
 | 0, _, _, _ => none
 | k + 1, x2, x3, x4 =>
  if (decide (x4 < (List.length a1 : Int))) then
   (if (!x3) then
    (idx a1 x4).bind fun x8 =>
    some (decide (a2 < x8))
   else
    some false).bind fun x7 =>
   (if x7 then
    (app x2 ([a2])).bind fun x11 =>
    some (x11, true)
   else
    some (x2, x3)).bind fun (x9, x10) =>
   (idx a1 x4).bind fun x12 =>
   (app x9 ([x12])).bind fun x13 =>
   S.l3Put_l1 a1 a2 k x13 x10 (w64 (x4 + 1))
  else
   some (x2, x3)

def S.l3Put (a1 : (List Int)) (a2 : Int) : Option (List Int) :=
 (S.l2Has a1 a2).bind fun x1 =>
 if x1 then
  some a1
 else
  (S.l3Put_l1 a1 a2 FUEL ([] : List Int) false (0 : Int)).bind fun (x5, x6) =>
  (if (!x6) then
   (app x5 ([a2])).bind fun x15 =>
   some x15
  else
   some x5).bind fun x14 =>
  some x14

def S.ReceiveCall (a1 : ((List Int) × Int × Int)) (a2 : Int) (a3 : Int) : Option (((List Int) × Int × Int) × Bool) :=
 (S.l27Copy (a1.1, a1.2.1, a1.2.2)).bind fun x1 =>
 ((S.IsLedger (a1.1, a1.2.1, a1.2.2)).bind fun x3 =>
 if (!x3) then
  some true
 else
  (S.l1In a2 0 1000000).bind fun x4 =>
  if (!x4) then
   some true
  else
   (S.l1In a3 0 99).bind fun x5 =>
   if (!x5) then
    some true
   else
    if (decide (999999000 < a1.2.1)) then
     some true
    else
     some (decide (999999000 < a1.2.2))).bind fun x2 =>
 if x2 then
  some ((x1.1, x1.2.1, x1.2.2), false)
 else
  (S.l2Has a1.1 a2).bind fun x6 =>
  (if (!x6) then
   (S.l3Put a1.1 a2).bind fun x10 =>
   (app ([] : List Int) x10).bind fun x11 =>
   some (x11, w64 (a1.2.1 + a3), w64 (a1.2.2 + 1))
  else
   some (x1.1, x1.2.1, w64 (a1.2.2 + 1))).bind fun (x7, x8, x9) =>
  some ((x7, x8, x9), true)

def S.TryCall (a1 : ((List Int) × Int × Int)) (a2 : (Int × Int × Int × Bool)) (a3 : Int) : Option (((List Int) × Int × Int) × (Int × Int × Int × Bool) × Bool) :=
 (S.l27Copy (a1.1, a1.2.1, a1.2.2)).bind fun x1 =>
 ((S.IsLedger (a1.1, a1.2.1, a1.2.2)).bind fun x3 =>
 if (!x3) then
  some true
 else
  (S.l1In a2.1 0 1000000).bind fun x4 =>
  if (!x4) then
   some true
  else
   (S.l1In a2.2.1 0 99).bind fun x5 =>
   if (!x5) then
    some true
   else
    (S.l1In a2.2.2.1 0 1000).bind fun x6 =>
    if (!x6) then
     some true
    else
     if a2.2.2.2 then
      some true
     else
      if (decide (999998000 < a1.2.1)) then
       some true
      else
       some (decide (999998000 < a1.2.2))).bind fun x2 =>
 if x2 then
  (some (a2.1, a2.2.1, a2.2.2.1, a2.2.2.2, x1.1, x1.2.1, x1.2.2, false)).bind fun (x7, x8, x9, x10, x11, x12, x13, x14) =>
  some ((x11, x12, x13), (x7, x8, x9, x10), x14)
 else
  if (decide (a3 = 1)) then
   (some (a2.1, a2.2.1, w64 (a2.2.2.1 + 1), a2.2.2.2, x1.1, x1.2.1, x1.2.2, true)).bind fun (x15, x16, x17, x18, x19, x20, x21, x22) =>
   some ((x19, x20, x21), (x15, x16, x17, x18), x22)
  else
   (S.ReceiveCall (x1.1, x1.2.1, x1.2.2) a2.1 a2.2.1).bind fun x23 =>
   (if (decide (a3 = 3)) then
    (S.ReceiveCall (x23.1.1, x23.1.2.1, x23.1.2.2) a2.1 a2.2.1).bind fun x27 =>
    some (x27.1.1, x27.1.2.1, x27.1.2.2)
   else
    some (x23.1.1, x23.1.2.1, x23.1.2.2)).bind fun (x24, x25, x26) =>
   (some (a2.1, a2.2.1, w64 (a2.2.2.1 + 1), (!decide (a3 = 2)), x24, x25, x26, true)).bind fun (x28, x29, x30, x31, x32, x33, x34, x35) =>
   some ((x32, x33, x34), (x28, x29, x30, x31), x35)

def S.FinishCall_l1 (a3 : (List Int)) : Nat → (List Int) → Int → Int → Int → Int → Int → Bool → Int → Option (((List Int) × Int × Int × Int × Int × Int × Bool))
 | 0, _, _, _, _, _, _, _, _ => none
 | k + 1, x2, x3, x4, x5, x6, x7, x8, x9 =>
  (if (decide (x9 < (List.length a3 : Int))) then
   some (decide (x9 < 100))
  else
   some false).bind fun x17 =>
  if x17 then
   ((idx a3 x9).bind fun x25 =>
   (S.TryCall (x2, x3, x4) (x5, x6, x7, x8) x25).bind fun x26 =>
   some (x26.1.1, x26.1.2.1, x26.1.2.2, x26.2.1.1, x26.2.1.2.1, x26.2.1.2.2.1, x26.2.1.2.2.2)).bind fun (x18, x19, x20, x21, x22, x23, x24) =>
   S.FinishCall_l1 a3 k x18 x19 x20 x21 x22 x23 x24 (w64 (x9 + 1))
  else
   some (x2, x3, x4, x5, x6, x7, x8)

def S.FinishCall (a1 : ((List Int) × Int × Int)) (a2 : (Int × Int × Int × Bool)) (a3 : (List Int)) : Option (((List Int) × Int × Int) × (Int × Int × Int × Bool)) :=
 (S.l27Copy (a1.1, a1.2.1, a1.2.2)).bind fun x1 =>
 (S.FinishCall_l1 a3 FUEL x1.1 x1.2.1 x1.2.2 a2.1 a2.2.1 a2.2.2.1 a2.2.2.2 (0 : Int)).bind fun (x10, x11, x12, x13, x14, x15, x16) =>
 (S.TryCall (x10, x11, x12) (x13, x14, x15, x16) 0).bind fun x27 =>
 (some (x27.2.1.1, x27.2.1.2.1, x27.2.1.2.2.1, x27.2.1.2.2.2, x27.1.1, x27.1.2.1, x27.1.2.2)).bind fun (x28, x29, x30, x31, x32, x33, x34) =>
 some ((x32, x33, x34), (x28, x29, x30, x31))

def M.within (a1 : Int) (a2 : Int) (a3 : Int) : Option Bool :=
 (if (decide (a2 ≤ a1)) then
  some (decide (a1 ≤ a3))
 else
  some false).bind fun x1 =>
 some x1

def M.ascending_l1 (a1 : (List Int)) : Nat → Int → Option (Sum Unit Bool)
 | 0, _ => none
 | k + 1, x1 =>
  if (decide (x1 < (List.length a1 : Int))) then
   (if (decide (0 < x1)) then
    (idx a1 x1).bind fun x3 =>
    (idx a1 (w64 (x1 - 1))).bind fun x4 =>
    some (decide (x3 ≤ x4))
   else
    some false).bind fun x2 =>
   if x2 then
    some (.inr false)
   else
    M.ascending_l1 a1 k (w64 (x1 + 1))
  else
   some (.inl ())

def M.ascending (a1 : (List Int)) : Option Bool :=
 (M.ascending_l1 a1 FUEL (0 : Int)).bind fun o => match o with
  | .inl () =>
   some true
  | .inr r => some r

def M.isKey (a1 : Int) : Option Bool :=
 (M.within a1 0 1000000).bind fun x1 =>
 some x1

def M.IsLedger_c1 (a1 : Int) : Option Bool :=
 (M.isKey a1).bind fun x1 =>
 some (!x1)

def Slices.IndexFunc_Lint_int_M_IsLedger_c1_l1 (a1 : (List Int)) : Nat → Int → Option (Sum Unit Int)
 | 0, _ => none
 | k + 1, x1 =>
  if (decide (x1 < (List.length a1 : Int))) then
   (idx a1 x1).bind fun x2 =>
   (M.IsLedger_c1 x2).bind fun x3 =>
   if x3 then
    some (.inr x1)
   else
    Slices.IndexFunc_Lint_int_M_IsLedger_c1_l1 a1 k (w64 (x1 + 1))
  else
   some (.inl ())

def Slices.IndexFunc_Lint_int_M_IsLedger_c1 (a1 : (List Int)) : Option Int :=
 (Slices.IndexFunc_Lint_int_M_IsLedger_c1_l1 a1 FUEL (0 : Int)).bind fun o => match o with
  | .inl () =>
   some (-1)
  | .inr r => some r

def Slices.ContainsFunc_Lint_int_M_IsLedger_c1 (a1 : (List Int)) : Option Bool :=
 (Slices.IndexFunc_Lint_int_M_IsLedger_c1 a1).bind fun x1 =>
 some (decide (0 ≤ x1))

def M.IsLedger (a1 : ((List Int) × Int × Int)) : Option Bool :=
 ((M.ascending a1.1).bind fun x2 =>
 if x2 then
  (Slices.ContainsFunc_Lint_int_M_IsLedger_c1 a1.1).bind fun x3 =>
  if (!x3) then
   (M.within a1.2.1 0 1000000000).bind fun x4 =>
   if x4 then
    (M.within a1.2.2 0 1000000000).bind fun x5 =>
    some x5
   else
    some false
  else
   some false
 else
  some false).bind fun x1 =>
 some x1

def Slices.Clone_Lint_int (a1 : (List Int)) : Option (List Int) :=
 (app ([] : List Int) a1).bind fun x1 =>
 some x1

def M.copyLedger (a1 : ((List Int) × Int × Int)) : Option ((List Int) × Int × Int) :=
 (Slices.Clone_Lint_int a1.1).bind fun x1 =>
 some (x1, a1.2.1, a1.2.2)

def M.isCost (a1 : Int) : Option Bool :=
 (M.within a1 0 99).bind fun x1 =>
 some x1

def Cmp.isNaN_int (a1 : Int) : Option Bool :=
 some (!decide (a1 = a1))

def Cmp.Less_int (a1 : Int) (a2 : Int) : Option Bool :=
 ((Cmp.isNaN_int a1).bind fun x2 =>
 if x2 then
  (Cmp.isNaN_int a2).bind fun x3 =>
  if (!x3) then
   some true
  else
   some (decide (a1 < a2))
 else
  some (decide (a1 < a2))).bind fun x1 =>
 some x1

def Slices.isNaN_int (a1 : Int) : Option Bool :=
 some (!decide (a1 = a1))

def Slices.BinarySearch_Lint_int_l1 (a1 : (List Int)) (a2 : Int) : Nat → Int → Int → Option (Int)
 | 0, _, _ => none
 | k + 1, x1, x2 =>
  if (decide (x1 < x2)) then
   (idx a1 (w64 (shr (wu64 (w64 (x1 + x2))) 1))).bind fun x4 =>
   (Cmp.Less_int x4 a2).bind fun x5 =>
   (if x5 then
    some (w64 ((w64 (shr (wu64 (w64 (x1 + x2))) 1)) + 1), x2)
   else
    some (x1, w64 (shr (wu64 (w64 (x1 + x2))) 1))).bind fun (x6, x7) =>
   Slices.BinarySearch_Lint_int_l1 a1 a2 k x6 x7
  else
   some x1

def Slices.BinarySearch_Lint_int (a1 : (List Int)) (a2 : Int) : Option (Int × Bool) :=
 (Slices.BinarySearch_Lint_int_l1 a1 a2 FUEL (0 : Int) (List.length a1 : Int)).bind fun x3 =>
 (if (decide (x3 < (List.length a1 : Int))) then
  (idx a1 x3).bind fun x10 =>
  if (decide (x10 = a2)) then
   some (x3, true)
  else
   (idx a1 x3).bind fun x11 =>
   (Slices.isNaN_int x11).bind fun x12 =>
   if x12 then
    (Slices.isNaN_int a2).bind fun x13 =>
    some (x3, x13)
   else
    some (x3, false)
 else
  some (x3, false)).bind fun (x8, x9) =>
 some (x8, x9)

def Slices.Reverse_Lint_int_l1  : Nat → (List Int) → Int → Int → Option ((List Int))
 | 0, _, _, _ => none
 | k + 1, x1, x2, x3 =>
  if (decide (x2 < x3)) then
   (idx x1 x3).bind fun x5 =>
   (idx x1 x2).bind fun x6 =>
   (idx x1 x2).bind fun x7 =>
   (idx (List.set x1 (Int.toNat x2) x5) x3).bind fun x8 =>
   Slices.Reverse_Lint_int_l1 k (List.set (List.set x1 (Int.toNat x2) x5) (Int.toNat x3) x6) (w64 (x2 + 1)) (w64 (x3 - 1))
  else
   some x1

def Slices.Reverse_Lint_int (a1 : (List Int)) : Option (List Int) :=
 (Slices.Reverse_Lint_int_l1 FUEL a1 (0 : Int) (w64 ((List.length a1 : Int) - 1))).bind fun x4 =>
 some x4

def Slices.Insert_Lint_int (a1 : (List Int)) (a2 : Int) (a3 : (List Int)) : Option (List Int) :=
 ins a1 a2 a3

def M.Ledger_receive (a1 : ((List Int) × Int × Int)) (a2 : Int) (a3 : Int) : Option ((List Int) × Int × Int) :=
 (Slices.BinarySearch_Lint_int a1.1 a2).bind fun x1 =>
 (if (!x1.2) then
  (Slices.Insert_Lint_int a1.1 x1.1 ([a2])).bind fun x5 =>
  some (x5, w64 (a1.2.1 + a3), w64 (a1.2.2 + 1))
 else
  some (a1.1, a1.2.1, w64 (a1.2.2 + 1))).bind fun (x2, x3, x4) =>
 some (x2, x3, x4)

def M.TryCall (a1 : ((List Int) × Int × Int)) (a2 : (Int × Int × Int × Bool)) (a3 : Int) : Option (((List Int) × Int × Int) × (Int × Int × Int × Bool) × Bool) :=
 (M.copyLedger (a1.1, a1.2.1, a1.2.2)).bind fun x1 =>
 ((M.IsLedger (a1.1, a1.2.1, a1.2.2)).bind fun x3 =>
 if (!x3) then
  some true
 else
  (M.isKey a2.1).bind fun x4 =>
  if (!x4) then
   some true
  else
   (M.isCost a2.2.1).bind fun x5 =>
   if (!x5) then
    some true
   else
    (M.within a2.2.2.1 0 1000).bind fun x6 =>
    if (!x6) then
     some true
    else
     if a2.2.2.2 then
      some true
     else
      if (decide (999998000 < a1.2.1)) then
       some true
      else
       some (decide (999998000 < a1.2.2))).bind fun x2 =>
 if x2 then
  (some (a2.1, a2.2.1, a2.2.2.1, a2.2.2.2, x1.1, x1.2.1, x1.2.2, false)).bind fun (x7, x8, x9, x10, x11, x12, x13, x14) =>
  some ((x11, x12, x13), (x7, x8, x9, x10), x14)
 else
  if (decide (a3 = 1)) then
   (some (a2.1, a2.2.1, w64 (a2.2.2.1 + 1), a2.2.2.2, x1.1, x1.2.1, x1.2.2, true)).bind fun (x15, x16, x17, x18, x19, x20, x21, x22) =>
   some ((x19, x20, x21), (x15, x16, x17, x18), x22)
  else
   (M.Ledger_receive (x1.1, x1.2.1, x1.2.2) a2.1 a2.2.1).bind fun x23 =>
   (if (decide (a3 = 3)) then
    (M.Ledger_receive (x23.1, x23.2.1, x23.2.2) a2.1 a2.2.1).bind fun x27 =>
    some (x27.1, x27.2.1, x27.2.2)
   else
    some (x23.1, x23.2.1, x23.2.2)).bind fun (x24, x25, x26) =>
   (some (a2.1, a2.2.1, w64 (a2.2.2.1 + 1), (!decide (a3 = 2)), x24, x25, x26, true)).bind fun (x28, x29, x30, x31, x32, x33, x34, x35) =>
   some ((x32, x33, x34), (x28, x29, x30, x31), x35)

def Slices.Grow_Lint_int (a2 : Int) : Option (List Int) :=
 grow0 a2

def Slices.Concat_Lint_int_l2 (a1 : (List (List Int))) : Nat → (List Int) → Int → Option ((List Int))
 | 0, _, _ => none
 | k + 1, x6, x7 =>
  if (decide (x7 < (List.length a1 : Int))) then
   (idx a1 x7).bind fun x9 =>
   (app x6 x9).bind fun x10 =>
   Slices.Concat_Lint_int_l2 a1 k x10 (w64 (x7 + 1))
  else
   some x6

def Slices.Concat_Lint_int_l1 (a1 : (List (List Int))) : Nat → Int → Int → Option (Int)
 | 0, _, _ => none
 | k + 1, x1, x2 =>
  if (decide (x2 < (List.length a1 : Int))) then
   (idx a1 x2).bind fun x4 =>
   (if (decide ((w64 (x1 + (List.length x4 : Int))) < 0)) then
    none
   else
    some ()).bind fun _ =>
   Slices.Concat_Lint_int_l1 a1 k (w64 (x1 + (List.length x4 : Int))) (w64 (x2 + 1))
  else
   some x1

def Slices.Concat_Lint_int (a1 : (List (List Int))) : Option (List Int) :=
 (Slices.Concat_Lint_int_l1 a1 FUEL (0 : Int) (0 : Int)).bind fun x3 =>
 (Slices.Grow_Lint_int x3).bind fun x5 =>
 (Slices.Concat_Lint_int_l2 a1 FUEL x5 (0 : Int)).bind fun x8 =>
 some x8

def M.FinishCall_l1 (x3 : (List Int)) : Nat → (List Int) → Int → Int → Int → Int → Int → Bool → Int → Option (((List Int) × Int × Int × Int × Int × Int × Bool))
 | 0, _, _, _, _, _, _, _, _ => none
 | k + 1, x4, x5, x6, x7, x8, x9, x10, x11 =>
  if (decide (x11 < (List.length x3 : Int))) then
   (idx x3 x11).bind fun x19 =>
   (M.TryCall (x4, x5, x6) (x7, x8, x9, x10) x19).bind fun x20 =>
   M.FinishCall_l1 x3 k x20.1.1 x20.1.2.1 x20.1.2.2 x20.2.1.1 x20.2.1.2.1 x20.2.1.2.2.1 x20.2.1.2.2.2 (w64 (x11 + 1))
  else
   some (x4, x5, x6, x7, x8, x9, x10)

def M.FinishCall (a1 : ((List Int) × Int × Int)) (a2 : (Int × Int × Int × Bool)) (a3 : (List Int)) : Option (((List Int) × Int × Int) × (Int × Int × Int × Bool)) :=
 (M.copyLedger (a1.1, a1.2.1, a1.2.2)).bind fun x1 =>
 (sub a3 0 (if (List.length a3 : Int) < 100 then (List.length a3 : Int) else 100)).bind fun x2 =>
 (Slices.Concat_Lint_int ([x2, [0]] : List (List Int))).bind fun x3 =>
 (M.FinishCall_l1 x3 FUEL x1.1 x1.2.1 x1.2.2 a2.1 a2.2.1 a2.2.2.1 a2.2.2.2 (0 : Int)).bind fun (x12, x13, x14, x15, x16, x17, x18) =>
 (some (x15, x16, x17, x18, x12, x13, x14)).bind fun (x21, x22, x23, x24, x25, x26, x27) =>
 some ((x25, x26, x27), (x21, x22, x23, x24))

def S.l1New_l1 (a1 : (List UInt8)) : Nat → Int → Int → Option (Int)
 | 0, _, _ => none
 | k + 1, x1, x2 =>
  (if (decide (x2 < (List.length a1 : Int))) then
   some (decide (x2 < 4000))
  else
   some false).bind fun x4 =>
  if x4 then
   (idx a1 x2).bind fun x5 =>
   S.l1New_l1 a1 k (band (w64 ((w64 ((w64 (x1 * 131)) + (w64 (UInt8.toNat x5 : Int)))) + 7)) 1073741823) (w64 (x2 + 1))
  else
   some x1

def S.l1New (a1 : (List UInt8)) : Option ((List UInt8) × Int × Int) :=
 (S.l1New_l1 a1 FUEL (w64 (10101 + (List.length a1 : Int))) (0 : Int)).bind fun x3 =>
 some (a1, 0, x3)

def S.l1Byte (a1 : ((List UInt8) × Int × Int)) : Option (Int × ((List UInt8) × Int × Int)) :=
 (if (decide (a1.2.1 < (List.length a1.1 : Int))) then
  (idx a1.1 a1.2.1).bind fun x4 =>
  some (w64 (a1.2.1 + 1), w64 ((w64 (a1.2.2 * 6364136223846793005)) + 1442695040888963407), band (w64 ((band (bxor (shr (w64 ((w64 (a1.2.2 * 6364136223846793005)) + 1442695040888963407)) 33) (shr (w64 ((w64 (a1.2.2 * 6364136223846793005)) + 1442695040888963407)) 45)) 255) + (w64 (UInt8.toNat x4 : Int)))) 255)
 else
  some (a1.2.1, w64 ((w64 (a1.2.2 * 6364136223846793005)) + 1442695040888963407), band (bxor (shr (w64 ((w64 (a1.2.2 * 6364136223846793005)) + 1442695040888963407)) 33) (shr (w64 ((w64 (a1.2.2 * 6364136223846793005)) + 1442695040888963407)) 45)) 255)).bind fun (x1, x2, x3) =>
 some (x3, (a1.1, x1, x2))

def S.l1Below (a1 : ((List UInt8) × Int × Int)) (a2 : Int) : Option (Int × ((List UInt8) × Int × Int)) :=
 if (decide (a2 ≤ 0)) then
  some (0, (a1.1, a1.2.1, a1.2.2))
 else
  if (decide (a2 ≤ 256)) then
   (S.l1Byte (a1.1, a1.2.1, a1.2.2)).bind fun x1 =>
   (nz a2).bind fun _ =>
   some (x1.1.tmod a2, (a1.1, x1.2.2.1, x1.2.2.2))
  else
   (S.l1Byte (a1.1, a1.2.1, a1.2.2)).bind fun x2 =>
   (S.l1Byte (a1.1, x2.2.2.1, x2.2.2.2)).bind fun x3 =>
   (S.l1Byte (a1.1, x3.2.2.1, x3.2.2.2)).bind fun x4 =>
   (S.l1Byte (a1.1, x4.2.2.1, x4.2.2.2)).bind fun x5 =>
   (nz a2).bind fun _ =>
   some ((w64 ((w64 ((w64 ((w64 (x2.1 * 16777216)) + (w64 (x3.1 * 65536)))) + (w64 (x4.1 * 256)))) + x5.1)).tmod a2, (a1.1, x5.2.2.1, x5.2.2.2))

def S.l1PickInt (a1 : ((List UInt8) × Int × Int)) (a2 : (List Int)) : Option (Int × ((List UInt8) × Int × Int)) :=
 (S.l1Below (a1.1, a1.2.1, a1.2.2) (List.length a2 : Int)).bind fun x1 =>
 (idx a2 x1.1).bind fun x2 =>
 some (x2, (a1.1, x1.2.2.1, x1.2.2.2))

def S.l27Ledger_l1 (a1 : ((List UInt8) × Int × Int)) : Nat → Int → Int → (List Int) → Int → Int → Int → Option ((Int × Int × (List Int) × Int × Int))
 | 0, _, _, _, _, _, _ => none
 | k + 1, x2, x3, x4, x5, x6, x7 =>
  if (decide (0 < x7)) then
   (S.l1Below (a1.1, x2, x3) 8).bind fun x13 =>
   ((S.l1Below (a1.1, x13.2.2.1, x13.2.2.2) 5).bind fun x19 =>
   (S.ReceiveCall (x4, x5, x6) x13.1 x19.1).bind fun x20 =>
   some (x19.2.2.1, x19.2.2.2, x20.1.1, x20.1.2.1, x20.1.2.2)).bind fun (x14, x15, x16, x17, x18) =>
   S.l27Ledger_l1 a1 k x14 x15 x16 x17 x18 (w64 (x7 - 1))
  else
   some (x2, x3, x4, x5, x6)

def S.l27Ledger (a1 : ((List UInt8) × Int × Int)) : Option (((List Int) × Int × Int) × ((List UInt8) × Int × Int)) :=
 (S.l1Below (a1.1, a1.2.1, a1.2.2) 5).bind fun x1 =>
 (S.l27Ledger_l1 a1 FUEL x1.2.2.1 x1.2.2.2 ([]) (0 : Int) (0 : Int) x1.1).bind fun (x8, x9, x10, x11, x12) =>
 (S.l1Below (a1.1, x8, x9) 12).bind fun x21 =>
 (if (decide (x21.1 = 0)) then
  ((S.l1Below (a1.1, x21.2.2.1, x21.2.2.2) 4).bind fun x32 =>
  (app x10 ([x32.1])).bind fun x33 =>
  some (x32.2.2.1, x32.2.2.2, x33, x11, x12)).bind fun (x27, x28, x29, x30, x31) =>
  some (x27, x28, x29, x30, x31)
 else
  (if (decide (x21.1 = 1)) then
   (S.l1PickInt (a1.1, x21.2.2.1, x21.2.2.2) ([(-1), 999998000, 999998001, 1000000000])).bind fun x39 =>
   some (x39.2.2.1, x39.2.2.2, x10, x39.1, x12)
  else
   some (x21.2.2.1, x21.2.2.2, x10, x11, x12)).bind fun (x34, x35, x36, x37, x38) =>
  some (x34, x35, x36, x37, x38)).bind fun (x22, x23, x24, x25, x26) =>
 some ((x24, x25, x26), (a1.1, x22, x23))

def S.l27Call (a1 : ((List UInt8) × Int × Int)) : Option ((Int × Int × Int × Bool) × ((List UInt8) × Int × Int)) :=
 (S.l1Below (a1.1, a1.2.1, a1.2.2) 8).bind fun x1 =>
 (S.l1Below (a1.1, x1.2.2.1, x1.2.2.2) 5).bind fun x2 =>
 (S.l1Below (a1.1, x2.2.2.1, x2.2.2.2) 12).bind fun x3 =>
 (if (decide (x3.1 = 0)) then
  (S.l1PickInt (a1.1, x3.2.2.1, x3.2.2.2) ([(-1), 1000000, 1000001])).bind fun x10 =>
  some (x10.2.2.1, x10.2.2.2, x10.1, x2.1, (0 : Int), false)
 else
  (if (decide (x3.1 = 1)) then
   some (x3.2.2.1, x3.2.2.2, x1.1, x2.1, (0 : Int), true)
  else
   (if (decide (x3.1 = 2)) then
    (S.l1PickInt (a1.1, x3.2.2.1, x3.2.2.2) ([(-1), 99, 100])).bind fun x23 =>
    some (x23.2.2.1, x23.2.2.2, x1.1, x23.1, (0 : Int), false)
   else
    some (x3.2.2.1, x3.2.2.2, x1.1, x2.1, (0 : Int), false)).bind fun (x17, x18, x19, x20, x21, x22) =>
   some (x17, x18, x19, x20, x21, x22)).bind fun (x11, x12, x13, x14, x15, x16) =>
  some (x11, x12, x13, x14, x15, x16)).bind fun (x4, x5, x6, x7, x8, x9) =>
 some ((x6, x7, x8, x9), (a1.1, x4, x5))

def S.l27Fates_l1 (a1 : ((List UInt8) × Int × Int)) : Nat → Int → Int → (List Int) → Int → Option ((Int × Int × (List Int)))
 | 0, _, _, _, _ => none
 | k + 1, x2, x3, x4, x5 =>
  if (decide (0 < x5)) then
   (S.l1Below (a1.1, x2, x3) 5).bind fun x9 =>
   (app x4 ([x9.1])).bind fun x10 =>
   S.l27Fates_l1 a1 k x9.2.2.1 x9.2.2.2 x10 (w64 (x5 - 1))
  else
   some (x2, x3, x4)

def S.l27Fates (a1 : ((List UInt8) × Int × Int)) : Option ((List Int) × ((List UInt8) × Int × Int)) :=
 (S.l1Below (a1.1, a1.2.1, a1.2.2) 7).bind fun x1 =>
 (S.l27Fates_l1 a1 FUEL x1.2.2.1 x1.2.2.2 ([] : List Int) x1.1).bind fun (x6, x7, x8) =>
 some (x8, (a1.1, x6, x7))

def S.DrawFinishCall (a1 : (List UInt8)) : Option (((List Int) × Int × Int) × (Int × Int × Int × Bool) × (List Int)) :=
 (S.l1New a1).bind fun x1 =>
 (S.l27Ledger (a1, x1.2.1, x1.2.2)).bind fun x2 =>
 (S.l27Call (a1, x2.2.2.1, x2.2.2.2)).bind fun x3 =>
 ((S.l27Fates (a1, x3.2.2.1, x3.2.2.2)).bind fun x14 =>
 some (x14.2.2.1, x14.2.2.2, x3.1.1, x3.1.2.1, x3.1.2.2.1, x3.1.2.2.2, x2.1.1, x2.1.2.1, x2.1.2.2, x14.1)).bind fun (x4, x5, x6, x7, x8, x9, x10, x11, x12, x13) =>
 some ((x10, x11, x12), (x6, x7, x8, x9), x13)

def S.DrawRunCalls_l1 (a1 : (List UInt8)) : Nat → Int → Int → (List (Int × Int × Int × Bool)) → Int → Option ((Int × Int × (List (Int × Int × Int × Bool))))
 | 0, _, _, _, _ => none
 | k + 1, x4, x5, x6, x7 =>
  if (decide (0 < x7)) then
   (S.l27Call (a1, x4, x5)).bind fun x11 =>
   (app x6 ([(x11.1.1, x11.1.2.1, x11.1.2.2.1, x11.1.2.2.2)])).bind fun x12 =>
   S.DrawRunCalls_l1 a1 k x11.2.2.1 x11.2.2.2 x12 (w64 (x7 - 1))
  else
   some (x4, x5, x6)

def S.DrawRunCalls (a1 : (List UInt8)) : Option (((List Int) × Int × Int) × (List (Int × Int × Int × Bool)) × (List Int)) :=
 (S.l1New a1).bind fun x1 =>
 (S.l27Ledger (a1, x1.2.1, x1.2.2)).bind fun x2 =>
 (S.l1Below (a1, x2.2.2.1, x2.2.2.2) 4).bind fun x3 =>
 (S.DrawRunCalls_l1 a1 FUEL x3.2.2.1 x3.2.2.2 ([] : List (Int × Int × Int × Bool)) x3.1).bind fun (x8, x9, x10) =>
 (S.l27Fates (a1, x8, x9)).bind fun x13 =>
 ((S.l27Fates (a1, x13.2.2.1, x13.2.2.2)).bind fun x21 =>
 (app x13.1 x21.1).bind fun x22 =>
 some (x21.2.2.1, x21.2.2.2, x2.1.1, x2.1.2.1, x2.1.2.2, x10, x22)).bind fun (x14, x15, x16, x17, x18, x19, x20) =>
 some ((x16, x17, x18), x19, x20)

def M.RunCalls_l2 (a3 : (List Int)) (a2 : (List (Int × Int × Int × Bool))) : Nat → (List Int) → Int → Option ((List Int))
 | 0, _, _ => none
 | k + 1, x12, x13 =>
  if (decide (x13 < (List.length a3 : Int))) then
   (idx a3 x13).bind fun x15 =>
   (app x12 ([x15])).bind fun x16 =>
   M.RunCalls_l2 a3 a2 k x16 (w64 (x13 + (List.length a2 : Int)))
  else
   some x12

def M.RunCalls_l1 (a2 : (List (Int × Int × Int × Bool))) (a3 : (List Int)) : Nat → (List Int) → Int → Int → (List (Int × Int × Int × Bool)) → Int → Option (((List Int) × Int × Int × (List (Int × Int × Int × Bool))))
 | 0, _, _, _, _, _ => none
 | k + 1, x2, x3, x4, x5, x6 =>
  if (decide (x6 < (List.length a2 : Int))) then
   (idx a2 x6).bind fun x11 =>
   (M.RunCalls_l2 a3 a2 FUEL ([] : List Int) x6).bind fun x14 =>
   (M.FinishCall (x2, x3, x4) (x11.1, x11.2.1, x11.2.2.1, x11.2.2.2) x14).bind fun x17 =>
   (app x5 ([(x17.2.1, x17.2.2.1, x17.2.2.2.1, x17.2.2.2.2)])).bind fun x18 =>
   M.RunCalls_l1 a2 a3 k x17.1.1 x17.1.2.1 x17.1.2.2 x18 (w64 (x6 + 1))
  else
   some (x2, x3, x4, x5)

def M.RunCalls (a1 : ((List Int) × Int × Int)) (a2 : (List (Int × Int × Int × Bool))) (a3 : (List Int)) : Option (((List Int) × Int × Int) × (List (Int × Int × Int × Bool))) :=
 (M.copyLedger (a1.1, a1.2.1, a1.2.2)).bind fun x1 =>
 (M.RunCalls_l1 a2 a3 FUEL x1.1 x1.2.1 x1.2.2 ([] : List (Int × Int × Int × Bool)) (0 : Int)).bind fun (x7, x8, x9, x10) =>
 some ((x7, x8, x9), x10)

def S.RunCalls_l2 (a3 : (List Int)) (a2 : (List (Int × Int × Int × Bool))) : Nat → (List Int) → Int → Option ((List Int))
 | 0, _, _ => none
 | k + 1, x11, x12 =>
  if (decide (x12 < (List.length a3 : Int))) then
   (idx a3 x12).bind fun x14 =>
   (app x11 ([x14])).bind fun x15 =>
   S.RunCalls_l2 a3 a2 k x15 (w64 (x12 + (List.length a2 : Int)))
  else
   some x11

def S.RunCalls_l1 (a2 : (List (Int × Int × Int × Bool))) (a3 : (List Int)) : Nat → (List Int) → Int → Int → (List (Int × Int × Int × Bool)) → Int → Option (((List Int) × Int × Int × (List (Int × Int × Int × Bool))))
 | 0, _, _, _, _, _ => none
 | k + 1, x2, x3, x4, x5, x6 =>
  if (decide (x6 < (List.length a2 : Int))) then
   (S.RunCalls_l2 a3 a2 FUEL ([] : List Int) x6).bind fun x13 =>
   ((idx a2 x6).bind fun x23 =>
   (S.FinishCall (x2, x3, x4) x23 x13).bind fun x24 =>
   some (x24.1.1, x24.1.2.1, x24.1.2.2, x24.2.1, x24.2.2.1, x24.2.2.2.1, x24.2.2.2.2)).bind fun (x16, x17, x18, x19, x20, x21, x22) =>
   (app x5 ([(x19, x20, x21, x22)])).bind fun x25 =>
   S.RunCalls_l1 a2 a3 k x16 x17 x18 x25 (w64 (x6 + 1))
  else
   some (x2, x3, x4, x5)

def S.RunCalls (a1 : ((List Int) × Int × Int)) (a2 : (List (Int × Int × Int × Bool))) (a3 : (List Int)) : Option (((List Int) × Int × Int) × (List (Int × Int × Int × Bool))) :=
 (S.l27Copy (a1.1, a1.2.1, a1.2.2)).bind fun x1 =>
 (S.RunCalls_l1 a2 a3 FUEL x1.1 x1.2.1 x1.2.2 ([] : List (Int × Int × Int × Bool)) (0 : Int)).bind fun (x7, x8, x9, x10) =>
 some ((x7, x8, x9), x10)

def Q.FnCalls_l2 (x22 : (((List Int) × Int × Int) × (List (Int × Int × Int × Bool)))) (x23 : (((List Int) × Int × Int) × (List (Int × Int × Int × Bool)))) : Nat → Int → Option (Sum Unit Bool)
 | 0, _ => none
 | k + 1, x26 =>
  if (decide (x26 < (List.length x22.2 : Int))) then
   (idx x22.2 x26).bind fun x27 =>
   (idx x23.2 x26).bind fun x28 =>
   if (!(decide (x27.1 = x28.1) && (decide (x27.2.1 = x28.2.1) && (decide (x27.2.2.1 = x28.2.2.1) && (decide (x27.2.2.2 = x28.2.2.2) && true))))) then
    some (.inr false)
   else
    Q.FnCalls_l2 x22 x23 k (w64 (x26 + 1))
  else
   some (.inl ())

def Q.FnCalls_l1 (x14 : (((List Int) × Int × Int) × (List (Int × Int × Int × Bool)))) (x15 : (((List Int) × Int × Int) × (List (Int × Int × Int × Bool)))) : Nat → Int → Option (Sum Unit Bool)
 | 0, _ => none
 | k + 1, x18 =>
  if (decide (x18 < (List.length x14.2 : Int))) then
   (idx x14.2 x18).bind fun x19 =>
   (idx x15.2 x18).bind fun x20 =>
   if (!(decide (x19.1 = x20.1) && (decide (x19.2.1 = x20.2.1) && (decide (x19.2.2.1 = x20.2.2.1) && (decide (x19.2.2.2 = x20.2.2.2) && true))))) then
    some (.inr false)
   else
    Q.FnCalls_l1 x14 x15 k (w64 (x18 + 1))
  else
   some (.inl ())

def Q.FnCalls (a1 : (List UInt8)) : Option Bool :=
 (Q.big a1).bind fun x1 =>
 if x1 then
  some true
 else
  (S.DrawFinishCall a1).bind fun x2 =>
  (M.FinishCall (x2.1.1, x2.1.2.1, x2.1.2.2) (x2.2.1.1, x2.2.1.2.1, x2.2.1.2.2.1, x2.2.1.2.2.2) x2.2.2).bind fun x3 =>
  (S.FinishCall (x2.1.1, x2.1.2.1, x2.1.2.2) (x2.2.1.1, x2.2.1.2.1, x2.2.1.2.2.1, x2.2.1.2.2.2) x2.2.2).bind fun x4 =>
  (if (!(decide (x3.2.1 = x4.2.1) && (decide (x3.2.2.1 = x4.2.2.1) && (decide (x3.2.2.2.1 = x4.2.2.2.1) && (decide (x3.2.2.2.2 = x4.2.2.2.2) && true))))) then
   some true
  else
   (Q.sameInts x3.1.1 x4.1.1).bind fun x6 =>
   if (!x6) then
    some true
   else
    if (!decide (x3.1.2.1 = x4.1.2.1)) then
     some true
    else
     some (!decide (x3.1.2.2 = x4.1.2.2))).bind fun x5 =>
  if x5 then
   some false
  else
   ((S.IsLedger (x2.1.1, x2.1.2.1, x2.1.2.2)).bind fun x8 =>
   if x8 then
    if (decide (0 ≤ x2.2.1.1)) then
     if (decide (x2.2.1.1 ≤ 1000000)) then
      if (decide (0 ≤ x2.2.1.2.1)) then
       if (decide (x2.2.1.2.1 ≤ 99)) then
        if (!x2.2.1.2.2.2) then
         some (decide (x2.1.2.1 < 900000000))
        else
         some false
       else
        some false
      else
       some false
     else
      some false
    else
     some false
   else
    some false).bind fun x7 =>
   if x7 then
    (if (!x3.2.2.2.2) then
     some true
    else
     (Q.has x4.1.1 x2.2.1.1).bind fun x10 =>
     if (!x10) then
      some true
     else
      (Q.has x2.1.1 x2.2.1.1).bind fun x11 =>
      (Q.btoi (!x11)).bind fun x12 =>
      some (!decide (x4.1.2.1 = (w64 (x2.1.2.1 + (w64 (x2.2.1.2.1 * x12))))))).bind fun x9 =>
    if x9 then
     some false
    else
     (S.DrawRunCalls a1).bind fun x13 =>
     (M.RunCalls (x13.1.1, x13.1.2.1, x13.1.2.2) x13.2.1 x13.2.2).bind fun x14 =>
     (S.RunCalls (x13.1.1, x13.1.2.1, x13.1.2.2) x13.2.1 x13.2.2).bind fun x15 =>
     (if (!decide ((List.length x14.2 : Int) = (List.length x15.2 : Int))) then
      some true
     else
      if (!decide (x14.1.2.1 = x15.1.2.1)) then
       some true
      else
       (Q.sameInts x14.1.1 x15.1.1).bind fun x17 =>
       if (!x17) then
        some true
       else
        some (!decide (x14.1.2.2 = x15.1.2.2))).bind fun x16 =>
     if x16 then
      some false
     else
      (Q.FnCalls_l1 x14 x15 FUEL (0 : Int)).bind fun o => match o with
       | .inl () =>
        some true
       | .inr r => some r
   else
    (S.DrawRunCalls a1).bind fun x21 =>
    (M.RunCalls (x21.1.1, x21.1.2.1, x21.1.2.2) x21.2.1 x21.2.2).bind fun x22 =>
    (S.RunCalls (x21.1.1, x21.1.2.1, x21.1.2.2) x21.2.1 x21.2.2).bind fun x23 =>
    (if (!decide ((List.length x22.2 : Int) = (List.length x23.2 : Int))) then
     some true
    else
     if (!decide (x22.1.2.1 = x23.1.2.1)) then
      some true
     else
      (Q.sameInts x22.1.1 x23.1.1).bind fun x25 =>
      if (!x25) then
       some true
      else
       some (!decide (x22.1.2.2 = x23.1.2.2))).bind fun x24 =>
    if x24 then
     some false
    else
     (Q.FnCalls_l2 x22 x23 FUEL (0 : Int)).bind fun o => match o with
      | .inl () =>
       some true
      | .inr r => some r

def Q.szIntS (a1 : (List Int)) (a2 : Int) : Option Int :=
 if (decide ((w64 (a2 - (List.length a1 : Int))) < 0)) then
  some (-1)
 else
  some (w64 (a2 - (List.length a1 : Int)))

def Q.szLedger (a1 : ((List Int) × Int × Int)) (a2 : Int) : Option Int :=
 (Q.szIntS a1.1 a2).bind fun x1 =>
 if (decide (x1 < 0)) then
  some (-1)
 else
  some x1

def Q.toIntS_l1 (a1 : (List Int)) : Nat → (List Int) → Int → Option ((List Int))
 | 0, _, _ => none
 | k + 1, x2, x3 =>
  if (decide (x3 < (List.length a1 : Int))) then
   (idx a1 x3).bind fun x5 =>
   (idx x2 x3).bind fun x6 =>
   Q.toIntS_l1 a1 k (List.set x2 (Int.toNat x3) x5) (w64 (x3 + 1))
  else
   some x2

def Q.toIntS (a1 : (List Int)) : Option (List Int) :=
 (mk (List.length a1 : Int) (0 : Int)).bind fun x1 =>
 (Q.toIntS_l1 a1 FUEL x1 (0 : Int)).bind fun x4 =>
 some x4

def Q.toLedger (a1 : ((List Int) × Int × Int)) : Option ((List Int) × Int × Int) :=
 (Q.toIntS a1.1).bind fun x1 =>
 some (x1, a1.2.1, a1.2.2)

def M.ReceiveCall (a1 : ((List Int) × Int × Int)) (a2 : Int) (a3 : Int) : Option (((List Int) × Int × Int) × Bool) :=
 (M.copyLedger (a1.1, a1.2.1, a1.2.2)).bind fun x1 =>
 ((M.IsLedger (a1.1, a1.2.1, a1.2.2)).bind fun x3 =>
 if (!x3) then
  some true
 else
  (M.isKey a2).bind fun x4 =>
  if (!x4) then
   some true
  else
   (M.isCost a3).bind fun x5 =>
   if (!x5) then
    some true
   else
    if (decide (999999000 < a1.2.1)) then
     some true
    else
     some (decide (999999000 < a1.2.2))).bind fun x2 =>
 if x2 then
  some ((x1.1, x1.2.1, x1.2.2), false)
 else
  (M.Ledger_receive (x1.1, x1.2.1, x1.2.2) a2 a3).bind fun x6 =>
  some ((x6.1, x6.2.1, x6.2.2), true)

def Q.eqIntS_l1 (a1 : (List Int)) (a2 : (List Int)) : Nat → Int → Option (Sum Unit Bool)
 | 0, _ => none
 | k + 1, x1 =>
  if (decide (x1 < (List.length a1 : Int))) then
   (idx a1 x1).bind fun x2 =>
   (idx a2 x1).bind fun x3 =>
   if (!decide (x2 = x3)) then
    some (.inr false)
   else
    Q.eqIntS_l1 a1 a2 k (w64 (x1 + 1))
  else
   some (.inl ())

def Q.eqIntS (a1 : (List Int)) (a2 : (List Int)) : Option Bool :=
 if (!decide ((List.length a1 : Int) = (List.length a2 : Int))) then
  some false
 else
  (Q.eqIntS_l1 a1 a2 FUEL (0 : Int)).bind fun o => match o with
   | .inl () =>
    some true
   | .inr r => some r

def Q.eqLedger (a1 : ((List Int) × Int × Int)) (a2 : ((List Int) × Int × Int)) : Option Bool :=
 (Q.eqIntS a1.1 a2.1).bind fun x1 =>
 if (!x1) then
  some false
 else
  if (!decide (a1.2.1 = a2.2.1)) then
   some false
  else
   if (!decide (a1.2.2 = a2.2.2)) then
    some false
   else
    some true

def Q.markIntS_l1  : Nat → (List Int) → Int → Int → Option (((List Int) × Int))
 | 0, _, _, _ => none
 | k + 1, x1, x2, x3 =>
  if (decide (x3 < (List.length x1 : Int))) then
   (idx x1 x3).bind fun x6 =>
   Q.markIntS_l1 k (List.set x1 (Int.toNat x3) x2) (w64 (x2 + 1)) (w64 (x3 + 1))
  else
   some (x1, x2)

def Q.markIntS (a1 : (List Int)) (a2 : Int) : Option (Int × (List Int)) :=
 (Q.markIntS_l1 FUEL a1 a2 (0 : Int)).bind fun (x4, x5) =>
 some (x5, x4)

def Q.markLedger (a1 : ((List Int) × Int × Int)) (a2 : Int) : Option (Int × ((List Int) × Int × Int)) :=
 (Q.markIntS a1.1 a2).bind fun x1 =>
 some (x1.1, (x1.2, a1.2.1, a1.2.2))

def Q.heldIntS_l1 (a1 : (List Int)) : Nat → Int → Int → Option (Sum Int Int)
 | 0, _, _ => none
 | k + 1, x1, x2 =>
  if (decide (x2 < (List.length a1 : Int))) then
   (idx a1 x2).bind fun x4 =>
   if (!decide (x4 = x1)) then
    some (.inr (-1))
   else
    Q.heldIntS_l1 a1 k (w64 (x1 + 1)) (w64 (x2 + 1))
  else
   some (.inl x1)

def Q.heldIntS (a1 : (List Int)) (a2 : Int) : Option Int :=
 (Q.heldIntS_l1 a1 FUEL a2 (0 : Int)).bind fun o => match o with
  | .inl x3 =>
   some x3
  | .inr r => some r

def Q.heldLedger (a1 : ((List Int) × Int × Int)) (a2 : Int) : Option Int :=
 (Q.heldIntS a1.1 a2).bind fun x1 =>
 if (decide (x1 < 0)) then
  some (-1)
 else
  some x1

def Q.FnExactReceiveCall (a1 : ((List Int) × Int × Int)) (a2 : Int) (a3 : Int) : Option Bool :=
 (Q.szLedger (a1.1, a1.2.1, a1.2.2) 1048576).bind fun x1 =>
 if (decide (x1 < 0)) then
  some true
 else
  (Q.toLedger (a1.1, a1.2.1, a1.2.2)).bind fun x2 =>
  (S.ReceiveCall x2 a2 a3).bind fun x3 =>
  (Q.toLedger (a1.1, a1.2.1, a1.2.2)).bind fun x4 =>
  (M.ReceiveCall (x4.1, x4.2.1, x4.2.2) a2 a3).bind fun x5 =>
  ((Q.eqLedger (x5.1.1, x5.1.2.1, x5.1.2.2) (x3.1.1, x3.1.2.1, x3.1.2.2)).bind fun x7 =>
  if (!x7) then
   some true
  else
   some (!decide (x5.2 = x3.2))).bind fun x6 =>
  if x6 then
   some false
  else
   (Q.toLedger (a1.1, a1.2.1, a1.2.2)).bind fun x8 =>
   (Q.eqLedger (x4.1, x4.2.1, x4.2.2) x8).bind fun x9 =>
   if (!x9) then
    some false
   else
    (Q.markLedger (x4.1, x4.2.1, x4.2.2) 1).bind fun x10 =>
    (if (decide (x10.1 < 0)) then
     some true
    else
     (Q.eqLedger (x5.1.1, x5.1.2.1, x5.1.2.2) (x3.1.1, x3.1.2.1, x3.1.2.2)).bind fun x12 =>
     if (!x12) then
      some true
     else
      some (!decide (x5.2 = x3.2))).bind fun x11 =>
    if x11 then
     some false
    else
     (Q.markLedger (x5.1.1, x5.1.2.1, x5.1.2.2) 1).bind fun x13 =>
     (Q.heldLedger (x13.2.1, x5.1.2.1, x5.1.2.2) 1).bind fun x14 =>
     if (decide (x14 < 0)) then
      some false
     else
      if (!decide (x14 = x13.1)) then
       some false
      else
       (Q.toLedger (a1.1, a1.2.1, a1.2.2)).bind fun x15 =>
       (M.ReceiveCall x15 a2 a3).bind fun x16 =>
       ((Q.eqLedger (x16.1.1, x16.1.2.1, x16.1.2.2) (x3.1.1, x3.1.2.1, x3.1.2.2)).bind fun x18 =>
       if (!x18) then
        some true
       else
        some (!decide (x16.2 = x3.2))).bind fun x17 =>
       if x17 then
        some false
       else
        (Q.heldLedger (x13.2.1, x5.1.2.1, x5.1.2.2) 1).bind fun x19 =>
        if (decide (x19 < 0)) then
         some false
        else
         if (!decide (x19 = x13.1)) then
          some false
         else
          some true

end Go.Gx.Px
