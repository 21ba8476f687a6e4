/- The Go functions as pure Lean functions, printed by program. Conditions: none. -/
import Derived.Test.YtnjjpmilcajmkaaGxEq
set_option linter.unusedVariables false
namespace Go.Gx.Px

def S.l1In (a1 : Int) (a2 : Int) (a3 : Int) : Option Bool :=
 (if (decide (a2 ≤ a1)) then
  some (decide (a1 ≤ a3))
 else
  some false).bind fun x1 =>
 some x1

def S.IsLedger_l1 (a1 : ((List Int) × Int × Int)) : Nat → Int → Option (Sum Unit Bool)
 | 0, _ => none
 | k + 1, x1 =>
  if (decide (x1 < (List.length a1.1 : Int))) then
   ((idx a1.1 x1).bind fun x3 =>
   (S.l1In x3 0 1000000).bind fun x4 =>
   if (!x4) then
    some true
   else
    if (decide (0 < x1)) then
     (idx a1.1 x1).bind fun x5 =>
     (idx a1.1 (w64 (x1 - 1))).bind fun x6 =>
     some (decide (x5 ≤ x6))
    else
     some false).bind fun x2 =>
   if x2 then
    some (.inr false)
   else
    S.IsLedger_l1 a1 k (w64 (x1 + 1))
  else
   some (.inl ())

def S.IsLedger (a1 : ((List Int) × Int × Int)) : Option Bool :=
 (S.IsLedger_l1 a1 FUEL (0 : Int)).bind fun o => match o with
  | .inl () =>
   ((S.l1In a1.2.1 0 1000000000).bind fun x8 =>
   if x8 then
    (S.l1In a1.2.2 0 1000000000).bind fun x9 =>
    some x9
   else
    some false).bind fun x7 =>
   some x7
  | .inr r => some r

def S.l27Copy (a1 : ((List Int) × Int × Int)) : Option ((List Int) × Int × Int) :=
 (app ([] : List Int) a1.1).bind fun x1 =>
 some (x1, a1.2.1, a1.2.2)

def S.l2Has_l1 (a1 : (List Int)) (a2 : Int) : Nat → Int → Option (Sum Unit Bool)
 | 0, _ => none
 | k + 1, x1 =>
  if (decide (x1 < (List.length a1 : Int))) then
   (idx a1 x1).bind fun x2 =>
   if (decide (x2 = a2)) then
    some (.inr true)
   else
    S.l2Has_l1 a1 a2 k (w64 (x1 + 1))
  else
   some (.inl ())

def S.l2Has (a1 : (List Int)) (a2 : Int) : Option Bool :=
 (S.l2Has_l1 a1 a2 FUEL (0 : Int)).bind fun o => match o with
  | .inl () =>
   some false
  | .inr r => some r

def S.l3Put_l1 (a1 : (List Int)) (a2 : Int) : Nat → (List Int) → Bool → Int → Option (((List Int) × Bool))
 | 0, _, _, _ => none
 | k + 1, x2, x3, x4 =>
  if (decide (x4 < (List.length a1 : Int))) then
   (if (!x3) then
    (idx a1 x4).bind fun x8 =>
    some (decide (a2 < x8))
   else
    some false).bind fun x7 =>
   (if x7 then
    (app x2 ([a2])).bind fun x11 =>
    some (x11, true)
   else
    some (x2, x3)).bind fun (x9, x10) =>
   (idx a1 x4).bind fun x12 =>
   (app x9 ([x12])).bind fun x13 =>
   S.l3Put_l1 a1 a2 k x13 x10 (w64 (x4 + 1))
  else
   some (x2, x3)

def S.l3Put (a1 : (List Int)) (a2 : Int) : Option (List Int) :=
 (S.l2Has a1 a2).bind fun x1 =>
 if x1 then
  some a1
 else
  (S.l3Put_l1 a1 a2 FUEL ([] : List Int) false (0 : Int)).bind fun (x5, x6) =>
  (if (!x6) then
   (app x5 ([a2])).bind fun x15 =>
   some x15
  else
   some x5).bind fun x14 =>
  some x14

def S.ReceiveCall (a1 : ((List Int) × Int × Int)) (a2 : Int) (a3 : Int) : Option (((List Int) × Int × Int) × Bool) :=
 (S.l27Copy (a1.1, a1.2.1, a1.2.2)).bind fun x1 =>
 ((S.IsLedger (a1.1, a1.2.1, a1.2.2)).bind fun x3 =>
 if (!x3) then
  some true
 else
  (S.l1In a2 0 1000000).bind fun x4 =>
  if (!x4) then
   some true
  else
   (S.l1In a3 0 99).bind fun x5 =>
   if (!x5) then
    some true
   else
    if (decide (999999000 < a1.2.1)) then
     some true
    else
     some (decide (999999000 < a1.2.2))).bind fun x2 =>
 if x2 then
  some ((x1.1, x1.2.1, x1.2.2), false)
 else
  (S.l2Has a1.1 a2).bind fun x6 =>
  (if (!x6) then
   (S.l3Put a1.1 a2).bind fun x10 =>
   (app ([] : List Int) x10).bind fun x11 =>
   some (x11, w64 (a1.2.1 + a3), w64 (a1.2.2 + 1))
  else
   some (x1.1, x1.2.1, w64 (a1.2.2 + 1))).bind fun (x7, x8, x9) =>
  some ((x7, x8, x9), true)

def M.within (a1 : Int) (a2 : Int) (a3 : Int) : Option Bool :=
 (if (decide (a2 ≤ a1)) then
  some (decide (a1 ≤ a3))
 else
  some false).bind fun x1 =>
 some x1

def M.ascending_l1 (a1 : (List Int)) : Nat → Int → Option (Sum Unit Bool)
 | 0, _ => none
 | k + 1, x1 =>
  if (decide (x1 < (List.length a1 : Int))) then
   (if (decide (0 < x1)) then
    (idx a1 x1).bind fun x3 =>
    (idx a1 (w64 (x1 - 1))).bind fun x4 =>
    some (decide (x3 ≤ x4))
   else
    some false).bind fun x2 =>
   if x2 then
    some (.inr false)
   else
    M.ascending_l1 a1 k (w64 (x1 + 1))
  else
   some (.inl ())

def M.ascending (a1 : (List Int)) : Option Bool :=
 (M.ascending_l1 a1 FUEL (0 : Int)).bind fun o => match o with
  | .inl () =>
   some true
  | .inr r => some r

def M.isKey (a1 : Int) : Option Bool :=
 (M.within a1 0 1000000).bind fun x1 =>
 some x1

def M.IsLedger_c1 (a1 : Int) : Option Bool :=
 (M.isKey a1).bind fun x1 =>
 some (!x1)

def Slices.IndexFunc_Lint_int_M_IsLedger_c1_l1 (a1 : (List Int)) : Nat → Int → Option (Sum Unit Int)
 | 0, _ => none
 | k + 1, x1 =>
  if (decide (x1 < (List.length a1 : Int))) then
   (idx a1 x1).bind fun x2 =>
   (M.IsLedger_c1 x2).bind fun x3 =>
   if x3 then
    some (.inr x1)
   else
    Slices.IndexFunc_Lint_int_M_IsLedger_c1_l1 a1 k (w64 (x1 + 1))
  else
   some (.inl ())

def Slices.IndexFunc_Lint_int_M_IsLedger_c1 (a1 : (List Int)) : Option Int :=
 (Slices.IndexFunc_Lint_int_M_IsLedger_c1_l1 a1 FUEL (0 : Int)).bind fun o => match o with
  | .inl () =>
   some (-1)
  | .inr r => some r

def Slices.ContainsFunc_Lint_int_M_IsLedger_c1 (a1 : (List Int)) : Option Bool :=
 (Slices.IndexFunc_Lint_int_M_IsLedger_c1 a1).bind fun x1 =>
 some (decide (0 ≤ x1))

def M.IsLedger (a1 : ((List Int) × Int × Int)) : Option Bool :=
 ((M.ascending a1.1).bind fun x2 =>
 if x2 then
  (Slices.ContainsFunc_Lint_int_M_IsLedger_c1 a1.1).bind fun x3 =>
  if (!x3) then
   (M.within a1.2.1 0 1000000000).bind fun x4 =>
   if x4 then
    (M.within a1.2.2 0 1000000000).bind fun x5 =>
    some x5
   else
    some false
  else
   some false
 else
  some false).bind fun x1 =>
 some x1

def Slices.Clone_Lint_int (a1 : (List Int)) : Option (List Int) :=
 (app ([] : List Int) a1).bind fun x1 =>
 some x1

def M.copyLedger (a1 : ((List Int) × Int × Int)) : Option ((List Int) × Int × Int) :=
 (Slices.Clone_Lint_int a1.1).bind fun x1 =>
 some (x1, a1.2.1, a1.2.2)

def M.isCost (a1 : Int) : Option Bool :=
 (M.within a1 0 99).bind fun x1 =>
 some x1

def Cmp.isNaN_int (a1 : Int) : Option Bool :=
 some (!decide (a1 = a1))

def Cmp.Less_int (a1 : Int) (a2 : Int) : Option Bool :=
 ((Cmp.isNaN_int a1).bind fun x2 =>
 if x2 then
  (Cmp.isNaN_int a2).bind fun x3 =>
  if (!x3) then
   some true
  else
   some (decide (a1 < a2))
 else
  some (decide (a1 < a2))).bind fun x1 =>
 some x1

def Slices.isNaN_int (a1 : Int) : Option Bool :=
 some (!decide (a1 = a1))

def Slices.BinarySearch_Lint_int_l1 (a1 : (List Int)) (a2 : Int) : Nat → Int → Int → Option (Int)
 | 0, _, _ => none
 | k + 1, x1, x2 =>
  if (decide (x1 < x2)) then
   (idx a1 (w64 (shr (wu64 (w64 (x1 + x2))) 1))).bind fun x4 =>
   (Cmp.Less_int x4 a2).bind fun x5 =>
   (if x5 then
    some (w64 ((w64 (shr (wu64 (w64 (x1 + x2))) 1)) + 1), x2)
   else
    some (x1, w64 (shr (wu64 (w64 (x1 + x2))) 1))).bind fun (x6, x7) =>
   Slices.BinarySearch_Lint_int_l1 a1 a2 k x6 x7
  else
   some x1

def Slices.BinarySearch_Lint_int (a1 : (List Int)) (a2 : Int) : Option (Int × Bool) :=
 (Slices.BinarySearch_Lint_int_l1 a1 a2 FUEL (0 : Int) (List.length a1 : Int)).bind fun x3 =>
 (if (decide (x3 < (List.length a1 : Int))) then
  (idx a1 x3).bind fun x10 =>
  if (decide (x10 = a2)) then
   some (x3, true)
  else
   (idx a1 x3).bind fun x11 =>
   (Slices.isNaN_int x11).bind fun x12 =>
   if x12 then
    (Slices.isNaN_int a2).bind fun x13 =>
    some (x3, x13)
   else
    some (x3, false)
 else
  some (x3, false)).bind fun (x8, x9) =>
 some (x8, x9)

def Slices.Reverse_Lint_int_l1  : Nat → (List Int) → Int → Int → Option ((List Int))
 | 0, _, _, _ => none
 | k + 1, x1, x2, x3 =>
  if (decide (x2 < x3)) then
   (idx x1 x3).bind fun x5 =>
   (idx x1 x2).bind fun x6 =>
   (idx x1 x2).bind fun x7 =>
   (idx (List.set x1 (Int.toNat x2) x5) x3).bind fun x8 =>
   Slices.Reverse_Lint_int_l1 k (List.set (List.set x1 (Int.toNat x2) x5) (Int.toNat x3) x6) (w64 (x2 + 1)) (w64 (x3 - 1))
  else
   some x1

def Slices.Reverse_Lint_int (a1 : (List Int)) : Option (List Int) :=
 (Slices.Reverse_Lint_int_l1 FUEL a1 (0 : Int) (w64 ((List.length a1 : Int) - 1))).bind fun x4 =>
 some x4

def Slices.Insert_Lint_int (a1 : (List Int)) (a2 : Int) (a3 : (List Int)) : Option (List Int) :=
 ins a1 a2 a3

def M.Ledger_receive (a1 : ((List Int) × Int × Int)) (a2 : Int) (a3 : Int) : Option ((List Int) × Int × Int) :=
 (Slices.BinarySearch_Lint_int a1.1 a2).bind fun x1 =>
 (if (!x1.2) then
  (Slices.Insert_Lint_int a1.1 x1.1 ([a2])).bind fun x5 =>
  some (x5, w64 (a1.2.1 + a3), w64 (a1.2.2 + 1))
 else
  some (a1.1, a1.2.1, w64 (a1.2.2 + 1))).bind fun (x2, x3, x4) =>
 some (x2, x3, x4)

def M.ReceiveCall (a1 : ((List Int) × Int × Int)) (a2 : Int) (a3 : Int) : Option (((List Int) × Int × Int) × Bool) :=
 (M.copyLedger (a1.1, a1.2.1, a1.2.2)).bind fun x1 =>
 ((M.IsLedger (a1.1, a1.2.1, a1.2.2)).bind fun x3 =>
 if (!x3) then
  some true
 else
  (M.isKey a2).bind fun x4 =>
  if (!x4) then
   some true
  else
   (M.isCost a3).bind fun x5 =>
   if (!x5) then
    some true
   else
    if (decide (999999000 < a1.2.1)) then
     some true
    else
     some (decide (999999000 < a1.2.2))).bind fun x2 =>
 if x2 then
  some ((x1.1, x1.2.1, x1.2.2), false)
 else
  (M.Ledger_receive (x1.1, x1.2.1, x1.2.2) a2 a3).bind fun x6 =>
  some ((x6.1, x6.2.1, x6.2.2), true)

def S.TryCall (a1 : ((List Int) × Int × Int)) (a2 : (Int × Int × Int × Bool)) (a3 : Int) : Option (((List Int) × Int × Int) × (Int × Int × Int × Bool) × Bool) :=
 (S.l27Copy (a1.1, a1.2.1, a1.2.2)).bind fun x1 =>
 ((S.IsLedger (a1.1, a1.2.1, a1.2.2)).bind fun x3 =>
 if (!x3) then
  some true
 else
  (S.l1In a2.1 0 1000000).bind fun x4 =>
  if (!x4) then
   some true
  else
   (S.l1In a2.2.1 0 99).bind fun x5 =>
   if (!x5) then
    some true
   else
    (S.l1In a2.2.2.1 0 1000).bind fun x6 =>
    if (!x6) then
     some true
    else
     if a2.2.2.2 then
      some true
     else
      if (decide (999998000 < a1.2.1)) then
       some true
      else
       some (decide (999998000 < a1.2.2))).bind fun x2 =>
 if x2 then
  (some (a2.1, a2.2.1, a2.2.2.1, a2.2.2.2, x1.1, x1.2.1, x1.2.2, false)).bind fun (x7, x8, x9, x10, x11, x12, x13, x14) =>
  some ((x11, x12, x13), (x7, x8, x9, x10), x14)
 else
  if (decide (a3 = 1)) then
   (some (a2.1, a2.2.1, w64 (a2.2.2.1 + 1), a2.2.2.2, x1.1, x1.2.1, x1.2.2, true)).bind fun (x15, x16, x17, x18, x19, x20, x21, x22) =>
   some ((x19, x20, x21), (x15, x16, x17, x18), x22)
  else
   (S.ReceiveCall (x1.1, x1.2.1, x1.2.2) a2.1 a2.2.1).bind fun x23 =>
   (if (decide (a3 = 3)) then
    (S.ReceiveCall (x23.1.1, x23.1.2.1, x23.1.2.2) a2.1 a2.2.1).bind fun x27 =>
    some (x27.1.1, x27.1.2.1, x27.1.2.2)
   else
    some (x23.1.1, x23.1.2.1, x23.1.2.2)).bind fun (x24, x25, x26) =>
   (some (a2.1, a2.2.1, w64 (a2.2.2.1 + 1), (!decide (a3 = 2)), x24, x25, x26, true)).bind fun (x28, x29, x30, x31, x32, x33, x34, x35) =>
   some ((x32, x33, x34), (x28, x29, x30, x31), x35)

def M.TryCall (a1 : ((List Int) × Int × Int)) (a2 : (Int × Int × Int × Bool)) (a3 : Int) : Option (((List Int) × Int × Int) × (Int × Int × Int × Bool) × Bool) :=
 (M.copyLedger (a1.1, a1.2.1, a1.2.2)).bind fun x1 =>
 ((M.IsLedger (a1.1, a1.2.1, a1.2.2)).bind fun x3 =>
 if (!x3) then
  some true
 else
  (M.isKey a2.1).bind fun x4 =>
  if (!x4) then
   some true
  else
   (M.isCost a2.2.1).bind fun x5 =>
   if (!x5) then
    some true
   else
    (M.within a2.2.2.1 0 1000).bind fun x6 =>
    if (!x6) then
     some true
    else
     if a2.2.2.2 then
      some true
     else
      if (decide (999998000 < a1.2.1)) then
       some true
      else
       some (decide (999998000 < a1.2.2))).bind fun x2 =>
 if x2 then
  (some (a2.1, a2.2.1, a2.2.2.1, a2.2.2.2, x1.1, x1.2.1, x1.2.2, false)).bind fun (x7, x8, x9, x10, x11, x12, x13, x14) =>
  some ((x11, x12, x13), (x7, x8, x9, x10), x14)
 else
  if (decide (a3 = 1)) then
   (some (a2.1, a2.2.1, w64 (a2.2.2.1 + 1), a2.2.2.2, x1.1, x1.2.1, x1.2.2, true)).bind fun (x15, x16, x17, x18, x19, x20, x21, x22) =>
   some ((x19, x20, x21), (x15, x16, x17, x18), x22)
  else
   (M.Ledger_receive (x1.1, x1.2.1, x1.2.2) a2.1 a2.2.1).bind fun x23 =>
   (if (decide (a3 = 3)) then
    (M.Ledger_receive (x23.1, x23.2.1, x23.2.2) a2.1 a2.2.1).bind fun x27 =>
    some (x27.1, x27.2.1, x27.2.2)
   else
    some (x23.1, x23.2.1, x23.2.2)).bind fun (x24, x25, x26) =>
   (some (a2.1, a2.2.1, w64 (a2.2.2.1 + 1), (!decide (a3 = 2)), x24, x25, x26, true)).bind fun (x28, x29, x30, x31, x32, x33, x34, x35) =>
   some ((x32, x33, x34), (x28, x29, x30, x31), x35)

def Q.big (a1 : (List UInt8)) : Option Bool :=
 some (decide (1048576 < (List.length a1 : Int)))

def S.l1New_l1 (a1 : (List UInt8)) : Nat → Int → Int → Option (Int)
 | 0, _, _ => none
 | k + 1, x1, x2 =>
  (if (decide (x2 < (List.length a1 : Int))) then
   some (decide (x2 < 4000))
  else
   some false).bind fun x4 =>
  if x4 then
   (idx a1 x2).bind fun x5 =>
   S.l1New_l1 a1 k (band (w64 ((w64 ((w64 (x1 * 131)) + (w64 (UInt8.toNat x5 : Int)))) + 7)) 1073741823) (w64 (x2 + 1))
  else
   some x1

def S.l1New (a1 : (List UInt8)) : Option ((List UInt8) × Int × Int) :=
 (S.l1New_l1 a1 FUEL (w64 (10101 + (List.length a1 : Int))) (0 : Int)).bind fun x3 =>
 some (a1, 0, x3)

def S.l1Byte (a1 : ((List UInt8) × Int × Int)) : Option (Int × ((List UInt8) × Int × Int)) :=
 (if (decide (a1.2.1 < (List.length a1.1 : Int))) then
  (idx a1.1 a1.2.1).bind fun x4 =>
  some (w64 (a1.2.1 + 1), w64 ((w64 (a1.2.2 * 6364136223846793005)) + 1442695040888963407), band (w64 ((band (bxor (shr (w64 ((w64 (a1.2.2 * 6364136223846793005)) + 1442695040888963407)) 33) (shr (w64 ((w64 (a1.2.2 * 6364136223846793005)) + 1442695040888963407)) 45)) 255) + (w64 (UInt8.toNat x4 : Int)))) 255)
 else
  some (a1.2.1, w64 ((w64 (a1.2.2 * 6364136223846793005)) + 1442695040888963407), band (bxor (shr (w64 ((w64 (a1.2.2 * 6364136223846793005)) + 1442695040888963407)) 33) (shr (w64 ((w64 (a1.2.2 * 6364136223846793005)) + 1442695040888963407)) 45)) 255)).bind fun (x1, x2, x3) =>
 some (x3, (a1.1, x1, x2))

def S.l1Below (a1 : ((List UInt8) × Int × Int)) (a2 : Int) : Option (Int × ((List UInt8) × Int × Int)) :=
 if (decide (a2 ≤ 0)) then
  some (0, (a1.1, a1.2.1, a1.2.2))
 else
  if (decide (a2 ≤ 256)) then
   (S.l1Byte (a1.1, a1.2.1, a1.2.2)).bind fun x1 =>
   (nz a2).bind fun _ =>
   some (x1.1.tmod a2, (a1.1, x1.2.2.1, x1.2.2.2))
  else
   (S.l1Byte (a1.1, a1.2.1, a1.2.2)).bind fun x2 =>
   (S.l1Byte (a1.1, x2.2.2.1, x2.2.2.2)).bind fun x3 =>
   (S.l1Byte (a1.1, x3.2.2.1, x3.2.2.2)).bind fun x4 =>
   (S.l1Byte (a1.1, x4.2.2.1, x4.2.2.2)).bind fun x5 =>
   (nz a2).bind fun _ =>
   some ((w64 ((w64 ((w64 ((w64 (x2.1 * 16777216)) + (w64 (x3.1 * 65536)))) + (w64 (x4.1 * 256)))) + x5.1)).tmod a2, (a1.1, x5.2.2.1, x5.2.2.2))

def S.l1PickInt (a1 : ((List UInt8) × Int × Int)) (a2 : (List Int)) : Option (Int × ((List UInt8) × Int × Int)) :=
 (S.l1Below (a1.1, a1.2.1, a1.2.2) (List.length a2 : Int)).bind fun x1 =>
 (idx a2 x1.1).bind fun x2 =>
 some (x2, (a1.1, x1.2.2.1, x1.2.2.2))

def S.l27Ledger_l1 (a1 : ((List UInt8) × Int × Int)) : Nat → Int → Int → (List Int) → Int → Int → Int → Option ((Int × Int × (List Int) × Int × Int))
 | 0, _, _, _, _, _, _ => none
 | k + 1, x2, x3, x4, x5, x6, x7 =>
  if (decide (0 < x7)) then
   (S.l1Below (a1.1, x2, x3) 8).bind fun x13 =>
   ((S.l1Below (a1.1, x13.2.2.1, x13.2.2.2) 5).bind fun x19 =>
   (S.ReceiveCall (x4, x5, x6) x13.1 x19.1).bind fun x20 =>
   some (x19.2.2.1, x19.2.2.2, x20.1.1, x20.1.2.1, x20.1.2.2)).bind fun (x14, x15, x16, x17, x18) =>
   S.l27Ledger_l1 a1 k x14 x15 x16 x17 x18 (w64 (x7 - 1))
  else
   some (x2, x3, x4, x5, x6)

def S.l27Ledger (a1 : ((List UInt8) × Int × Int)) : Option (((List Int) × Int × Int) × ((List UInt8) × Int × Int)) :=
 (S.l1Below (a1.1, a1.2.1, a1.2.2) 5).bind fun x1 =>
 (S.l27Ledger_l1 a1 FUEL x1.2.2.1 x1.2.2.2 ([]) (0 : Int) (0 : Int) x1.1).bind fun (x8, x9, x10, x11, x12) =>
 (S.l1Below (a1.1, x8, x9) 12).bind fun x21 =>
 (if (decide (x21.1 = 0)) then
  ((S.l1Below (a1.1, x21.2.2.1, x21.2.2.2) 4).bind fun x32 =>
  (app x10 ([x32.1])).bind fun x33 =>
  some (x32.2.2.1, x32.2.2.2, x33, x11, x12)).bind fun (x27, x28, x29, x30, x31) =>
  some (x27, x28, x29, x30, x31)
 else
  (if (decide (x21.1 = 1)) then
   (S.l1PickInt (a1.1, x21.2.2.1, x21.2.2.2) ([(-1), 999998000, 999998001, 1000000000])).bind fun x39 =>
   some (x39.2.2.1, x39.2.2.2, x10, x39.1, x12)
  else
   some (x21.2.2.1, x21.2.2.2, x10, x11, x12)).bind fun (x34, x35, x36, x37, x38) =>
  some (x34, x35, x36, x37, x38)).bind fun (x22, x23, x24, x25, x26) =>
 some ((x24, x25, x26), (a1.1, x22, x23))

def S.l27Call (a1 : ((List UInt8) × Int × Int)) : Option ((Int × Int × Int × Bool) × ((List UInt8) × Int × Int)) :=
 (S.l1Below (a1.1, a1.2.1, a1.2.2) 8).bind fun x1 =>
 (S.l1Below (a1.1, x1.2.2.1, x1.2.2.2) 5).bind fun x2 =>
 (S.l1Below (a1.1, x2.2.2.1, x2.2.2.2) 12).bind fun x3 =>
 (if (decide (x3.1 = 0)) then
  (S.l1PickInt (a1.1, x3.2.2.1, x3.2.2.2) ([(-1), 1000000, 1000001])).bind fun x10 =>
  some (x10.2.2.1, x10.2.2.2, x10.1, x2.1, (0 : Int), false)
 else
  (if (decide (x3.1 = 1)) then
   some (x3.2.2.1, x3.2.2.2, x1.1, x2.1, (0 : Int), true)
  else
   (if (decide (x3.1 = 2)) then
    (S.l1PickInt (a1.1, x3.2.2.1, x3.2.2.2) ([(-1), 99, 100])).bind fun x23 =>
    some (x23.2.2.1, x23.2.2.2, x1.1, x23.1, (0 : Int), false)
   else
    some (x3.2.2.1, x3.2.2.2, x1.1, x2.1, (0 : Int), false)).bind fun (x17, x18, x19, x20, x21, x22) =>
   some (x17, x18, x19, x20, x21, x22)).bind fun (x11, x12, x13, x14, x15, x16) =>
  some (x11, x12, x13, x14, x15, x16)).bind fun (x4, x5, x6, x7, x8, x9) =>
 some ((x6, x7, x8, x9), (a1.1, x4, x5))

def S.DrawReceiveCall (a1 : (List UInt8)) : Option (((List Int) × Int × Int) × Int × Int) :=
 (S.l1New a1).bind fun x1 =>
 (S.l27Ledger (a1, x1.2.1, x1.2.2)).bind fun x2 =>
 (S.l27Call (a1, x2.2.2.1, x2.2.2.2)).bind fun x3 =>
 (some (x2.1.1, x2.1.2.1, x2.1.2.2, x3.1.1, x3.1.2.1)).bind fun (x4, x5, x6, x7, x8) =>
 some ((x4, x5, x6), x7, x8)

def Q.sameInts_l1 (a1 : (List Int)) (a2 : (List Int)) : Nat → Int → Option (Sum Unit Bool)
 | 0, _ => none
 | k + 1, x1 =>
  if (decide (x1 < (List.length a1 : Int))) then
   (idx a1 x1).bind fun x2 =>
   (idx a2 x1).bind fun x3 =>
   if (!decide (x2 = x3)) then
    some (.inr false)
   else
    Q.sameInts_l1 a1 a2 k (w64 (x1 + 1))
  else
   some (.inl ())

def Q.sameInts (a1 : (List Int)) (a2 : (List Int)) : Option Bool :=
 if (!decide ((List.length a1 : Int) = (List.length a2 : Int))) then
  some false
 else
  (Q.sameInts_l1 a1 a2 FUEL (0 : Int)).bind fun o => match o with
   | .inl () =>
    some true
   | .inr r => some r

def Q.btoi (a1 : Bool) : Option Int :=
 if a1 then
  some 1
 else
  some 0

def Q.has_l1 (a1 : (List Int)) (a2 : Int) : Nat → Int → Option (Sum Unit Bool)
 | 0, _ => none
 | k + 1, x1 =>
  if (decide (x1 < (List.length a1 : Int))) then
   (idx a1 x1).bind fun x2 =>
   if (decide (x2 = a2)) then
    some (.inr true)
   else
    Q.has_l1 a1 a2 k (w64 (x1 + 1))
  else
   some (.inl ())

def Q.has (a1 : (List Int)) (a2 : Int) : Option Bool :=
 (Q.has_l1 a1 a2 FUEL (0 : Int)).bind fun o => match o with
  | .inl () =>
   some false
  | .inr r => some r

def S.DrawTryCall (a1 : (List UInt8)) : Option (((List Int) × Int × Int) × (Int × Int × Int × Bool) × Int) :=
 (S.l1New a1).bind fun x1 =>
 (S.l27Ledger (a1, x1.2.1, x1.2.2)).bind fun x2 =>
 (S.l27Call (a1, x2.2.2.1, x2.2.2.2)).bind fun x3 =>
 ((S.l1Below (a1, x3.2.2.1, x3.2.2.2) 6).bind fun x14 =>
 some (x14.2.2.1, x14.2.2.2, x3.1.1, x3.1.2.1, x3.1.2.2.1, x3.1.2.2.2, x2.1.1, x2.1.2.1, x2.1.2.2, w64 (x14.1 - 1))).bind fun (x4, x5, x6, x7, x8, x9, x10, x11, x12, x13) =>
 some ((x10, x11, x12), (x6, x7, x8, x9), x13)

def S.DrawWaitBefore (a1 : (List UInt8)) : Option Int :=
 (S.l1New a1).bind fun x1 =>
 (S.l1Below (a1, x1.2.1, x1.2.2) 12).bind fun x2 =>
 some (w64 (x2.1 - 1))

def M.WaitBefore (a1 : Int) : Option Int :=
 if (decide (a1 < 1)) then
  some 0
 else
  (nn (if 6 < a1 then 6 else a1)).bind fun _ =>
  some (shl 1 (if 6 < a1 then 6 else a1))

def S.WaitBefore (a1 : Int) : Option Int :=
 if (decide (a1 < 1)) then
  some 0
 else
  if (decide (6 < a1)) then
   some 64
  else
   (nn a1).bind fun _ =>
   some (shl 1 a1)

def Q.FnLedgers (a1 : (List UInt8)) : Option Bool :=
 (Q.big a1).bind fun x1 =>
 if x1 then
  some true
 else
  (S.DrawReceiveCall a1).bind fun x2 =>
  (M.ReceiveCall (x2.1.1, x2.1.2.1, x2.1.2.2) x2.2.1 x2.2.2).bind fun x3 =>
  (S.ReceiveCall (x2.1.1, x2.1.2.1, x2.1.2.2) x2.2.1 x2.2.2).bind fun x4 =>
  (if (!decide (x3.2 = x4.2)) then
   some true
  else
   (Q.sameInts x3.1.1 x4.1.1).bind fun x6 =>
   if (!x6) then
    some true
   else
    if (!decide (x3.1.2.1 = x4.1.2.1)) then
     some true
    else
     some (!decide (x3.1.2.2 = x4.1.2.2))).bind fun x5 =>
  if x5 then
   some false
  else
   if x3.2 then
    (M.ReceiveCall (x4.1.1, x4.1.2.1, x4.1.2.2) x2.2.1 x2.2.2).bind fun x7 =>
    ((Q.has x2.1.1 x2.2.1).bind fun x9 =>
    (Q.btoi (!x9)).bind fun x10 =>
    if (!decide (x4.1.2.1 = (w64 (x2.1.2.1 + (w64 (x2.2.2 * x10)))))) then
     some true
    else
     if x7.2 then
      if (!decide (x7.1.2.1 = x4.1.2.1)) then
       some true
      else
       (Q.sameInts x7.1.1 x4.1.1).bind fun x11 =>
       if (!x11) then
        some true
       else
        (M.IsLedger (x4.1.1, x4.1.2.1, x4.1.2.2)).bind fun x12 =>
        some (!x12)
     else
      (M.IsLedger (x4.1.1, x4.1.2.1, x4.1.2.2)).bind fun x13 =>
      some (!x13)).bind fun x8 =>
    if x8 then
     some false
    else
     (S.DrawTryCall a1).bind fun x14 =>
     (M.TryCall (x14.1.1, x14.1.2.1, x14.1.2.2) (x14.2.1.1, x14.2.1.2.1, x14.2.1.2.2.1, x14.2.1.2.2.2) x14.2.2).bind fun x15 =>
     (S.TryCall (x14.1.1, x14.1.2.1, x14.1.2.2) (x14.2.1.1, x14.2.1.2.1, x14.2.1.2.2.1, x14.2.1.2.2.2) x14.2.2).bind fun x16 =>
     (S.DrawWaitBefore a1).bind fun x17 =>
     (if (decide (x15.2.2 = x16.2.2)) then
      if (decide (x15.2.1.1 = x16.2.1.1) && (decide (x15.2.1.2.1 = x16.2.1.2.1) && (decide (x15.2.1.2.2.1 = x16.2.1.2.2.1) && (decide (x15.2.1.2.2.2 = x16.2.1.2.2.2) && true)))) then
       (Q.sameInts x15.1.1 x16.1.1).bind fun x19 =>
       if x19 then
        if (decide (x15.1.2.1 = x16.1.2.1)) then
         if (decide (x15.1.2.2 = x16.1.2.2)) then
          (M.WaitBefore x17).bind fun x20 =>
          (S.WaitBefore x17).bind fun x21 =>
          if (decide (x20 = x21)) then
           (M.WaitBefore x17).bind fun x22 =>
           (M.WaitBefore (w64 (x17 + 1))).bind fun x23 =>
           some (decide (x22 ≤ x23))
          else
           some false
         else
          some false
        else
         some false
       else
        some false
      else
       some false
     else
      some false).bind fun x18 =>
     some x18
   else
    (S.DrawTryCall a1).bind fun x24 =>
    (M.TryCall (x24.1.1, x24.1.2.1, x24.1.2.2) (x24.2.1.1, x24.2.1.2.1, x24.2.1.2.2.1, x24.2.1.2.2.2) x24.2.2).bind fun x25 =>
    (S.TryCall (x24.1.1, x24.1.2.1, x24.1.2.2) (x24.2.1.1, x24.2.1.2.1, x24.2.1.2.2.1, x24.2.1.2.2.2) x24.2.2).bind fun x26 =>
    (S.DrawWaitBefore a1).bind fun x27 =>
    (if (decide (x25.2.2 = x26.2.2)) then
     if (decide (x25.2.1.1 = x26.2.1.1) && (decide (x25.2.1.2.1 = x26.2.1.2.1) && (decide (x25.2.1.2.2.1 = x26.2.1.2.2.1) && (decide (x25.2.1.2.2.2 = x26.2.1.2.2.2) && true)))) then
      (Q.sameInts x25.1.1 x26.1.1).bind fun x29 =>
      if x29 then
       if (decide (x25.1.2.1 = x26.1.2.1)) then
        if (decide (x25.1.2.2 = x26.1.2.2)) then
         (M.WaitBefore x27).bind fun x30 =>
         (S.WaitBefore x27).bind fun x31 =>
         if (decide (x30 = x31)) then
          (M.WaitBefore x27).bind fun x32 =>
          (M.WaitBefore (w64 (x27 + 1))).bind fun x33 =>
          some (decide (x32 ≤ x33))
         else
          some false
        else
         some false
       else
        some false
      else
       some false
     else
      some false
    else
     some false).bind fun x28 =>
    some x28

end Go.Gx.Px
