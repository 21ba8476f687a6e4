/- The Go functions as pure Lean functions, printed by program. Conditions: none. -/
import Derived.Test.YtnlaijbfggelfaaGxHo
set_option linter.unusedVariables false
namespace Go.Gx.Px

def Q.big (a1 : (List UInt8)) : Option Bool :=
 some (decide (1048576 < (List.length a1 : Int)))

def S.l1New_l1 (a1 : (List UInt8)) : Nat → Int → Int → Option (Int)
 | 0, _, _ => none
 | k + 1, x1, x2 =>
  (if (decide (x2 < (List.length a1 : Int))) then
   some (decide (x2 < 4000))
  else
   some false).bind fun x4 =>
  if x4 then
   (idx a1 x2).bind fun x5 =>
   S.l1New_l1 a1 k (band (w64 ((w64 ((w64 (x1 * 131)) + (w64 (UInt8.toNat x5 : Int)))) + 7)) 1073741823) (w64 (x2 + 1))
  else
   some x1

def S.l1New (a1 : (List UInt8)) : Option ((List UInt8) × Int × Int) :=
 (S.l1New_l1 a1 FUEL (w64 (10101 + (List.length a1 : Int))) (0 : Int)).bind fun x3 =>
 some (a1, 0, x3)

def S.l1Byte (a1 : ((List UInt8) × Int × Int)) : Option (Int × ((List UInt8) × Int × Int)) :=
 (if (decide (a1.2.1 < (List.length a1.1 : Int))) then
  (idx a1.1 a1.2.1).bind fun x4 =>
  some (w64 (a1.2.1 + 1), w64 ((w64 (a1.2.2 * 6364136223846793005)) + 1442695040888963407), band (w64 ((band (bxor (shr (w64 ((w64 (a1.2.2 * 6364136223846793005)) + 1442695040888963407)) 33) (shr (w64 ((w64 (a1.2.2 * 6364136223846793005)) + 1442695040888963407)) 45)) 255) + (w64 (UInt8.toNat x4 : Int)))) 255)
 else
  some (a1.2.1, w64 ((w64 (a1.2.2 * 6364136223846793005)) + 1442695040888963407), band (bxor (shr (w64 ((w64 (a1.2.2 * 6364136223846793005)) + 1442695040888963407)) 33) (shr (w64 ((w64 (a1.2.2 * 6364136223846793005)) + 1442695040888963407)) 45)) 255)).bind fun (x1, x2, x3) =>
 some (x3, (a1.1, x1, x2))

def S.l1Below (a1 : ((List UInt8) × Int × Int)) (a2 : Int) : Option (Int × ((List UInt8) × Int × Int)) :=
 if (decide (a2 ≤ 0)) then
  some (0, (a1.1, a1.2.1, a1.2.2))
 else
  if (decide (a2 ≤ 256)) then
   (S.l1Byte (a1.1, a1.2.1, a1.2.2)).bind fun x1 =>
   (nz a2).bind fun _ =>
   some (x1.1.tmod a2, (a1.1, x1.2.2.1, x1.2.2.2))
  else
   (S.l1Byte (a1.1, a1.2.1, a1.2.2)).bind fun x2 =>
   (S.l1Byte (a1.1, x2.2.2.1, x2.2.2.2)).bind fun x3 =>
   (S.l1Byte (a1.1, x3.2.2.1, x3.2.2.2)).bind fun x4 =>
   (S.l1Byte (a1.1, x4.2.2.1, x4.2.2.2)).bind fun x5 =>
   (nz a2).bind fun _ =>
   some ((w64 ((w64 ((w64 ((w64 (x2.1 * 16777216)) + (w64 (x3.1 * 65536)))) + (w64 (x4.1 * 256)))) + x5.1)).tmod a2, (a1.1, x5.2.2.1, x5.2.2.2))

def S.l1PickInt (a1 : ((List UInt8) × Int × Int)) (a2 : (List Int)) : Option (Int × ((List UInt8) × Int × Int)) :=
 (S.l1Below (a1.1, a1.2.1, a1.2.2) (List.length a2 : Int)).bind fun x1 =>
 (idx a2 x1.1).bind fun x2 =>
 some (x2, (a1.1, x1.2.2.1, x1.2.2.2))

def S.l18Window (a1 : ((List UInt8) × Int × Int)) : Option ((Int × Int) × ((List UInt8) × Int × Int)) :=
 (S.l1Below (a1.1, a1.2.1, a1.2.2) 6).bind fun x1 =>
 (S.l1Below (a1.1, x1.2.2.1, x1.2.2.2) 3).bind fun x2 =>
 (S.l1Below (a1.1, x2.2.2.1, x2.2.2.2) 12).bind fun x3 =>
 (if (decide (x3.1 = 0)) then
  (S.l1PickInt (a1.1, x3.2.2.1, x3.2.2.2) ([0, 100, 101])).bind fun x8 =>
  some (x8.2.2.1, x8.2.2.2, x8.1, w64 (1 + x2.1))
 else
  (if (decide (x3.1 = 1)) then
   (S.l1PickInt (a1.1, x3.2.2.1, x3.2.2.2) ([0, 99, 100])).bind fun x13 =>
   some (x13.2.2.1, x13.2.2.2, w64 (1 + x1.1), x13.1)
  else
   some (x3.2.2.1, x3.2.2.2, w64 (1 + x1.1), w64 (1 + x2.1))).bind fun (x9, x10, x11, x12) =>
  some (x9, x10, x11, x12)).bind fun (x4, x5, x6, x7) =>
 some ((x6, x7), (a1.1, x4, x5))

def S.DrawScheduleCalls (a1 : (List UInt8)) : Option (Int × (Int × Int) × Int) :=
 (S.l1New a1).bind fun x1 =>
 (S.l18Window (a1, x1.2.1, x1.2.2)).bind fun x2 =>
 (S.l1Below (a1, x2.2.2.1, x2.2.2.2) 9).bind fun x3 =>
 ((S.l1PickInt (a1, x3.2.2.1, x3.2.2.2) ([0, 5, 9990, 10001])).bind fun x10 =>
 some (x10.2.2.1, x10.2.2.2, x2.1.1, x2.1.2, w64 (x3.1 - 1), x10.1)).bind fun (x4, x5, x6, x7, x8, x9) =>
 some (x8, (x6, x7), x9)

def M.within (a1 : Int) (a2 : Int) (a3 : Int) : Option Bool :=
 (if (decide (a2 ≤ a1)) then
  some (decide (a1 ≤ a3))
 else
  some false).bind fun x1 =>
 some x1

def M.IsWindow (a1 : (Int × Int)) : Option Bool :=
 ((M.within a1.1 1 100).bind fun x2 =>
 if x2 then
  (M.within a1.2 1 99).bind fun x3 =>
  some x3
 else
  some false).bind fun x1 =>
 some x1

def M.isTime (a1 : Int) : Option Bool :=
 (M.within a1 0 10000).bind fun x1 =>
 some x1

def M.Window_next (a1 : (Int × Int)) (a2 : (List Int)) (a3 : Int) : Option (Int × Bool) :=
 (if (decide (0 < (List.length a2 : Int))) then
  (idx a2 (w64 ((List.length a2 : Int) - 1))).bind fun x2 =>
  some (if x2 > a3 then x2 else a3)
 else
  some a3).bind fun x1 =>
 (if (decide (a1.2 ≤ (List.length a2 : Int))) then
  (idx a2 (w64 ((List.length a2 : Int) - a1.2))).bind fun x4 =>
  some (if (w64 (x4 + a1.1)) > x1 then w64 (x4 + a1.1) else x1)
 else
  some x1).bind fun x3 =>
 if (decide (10000 < x3)) then
  some (0, false)
 else
  some (x3, true)

def M.ScheduleCalls_l1 (a1 : Int) (a2 : (Int × Int)) (a3 : Int) : Nat → (List Int) → Int → Option (Sum (List Int) ((List Int) × Bool))
 | 0, _, _ => none
 | k + 1, x5, x6 =>
  if (decide (x6 < a1)) then
   (M.Window_next (a2.1, a2.2) x5 a3).bind fun x8 =>
   if (!x8.2) then
    some (.inr ([], false))
   else
    (app x5 ([x8.1])).bind fun x9 =>
    M.ScheduleCalls_l1 a1 a2 a3 k x9 (w64 (x6 + 1))
  else
   some (.inl x5)

def M.ScheduleCalls (a1 : Int) (a2 : (Int × Int)) (a3 : Int) : Option ((List Int) × Bool) :=
 ((M.within a1 0 100).bind fun x2 =>
 if (!x2) then
  some true
 else
  (M.IsWindow (a2.1, a2.2)).bind fun x3 =>
  if (!x3) then
   some true
  else
   (M.isTime a3).bind fun x4 =>
   some (!x4)).bind fun x1 =>
 if x1 then
  some ([], false)
 else
  (M.ScheduleCalls_l1 a1 a2 a3 FUEL ([] : List Int) (0 : Int)).bind fun o => match o with
   | .inl x7 =>
    some (x7, true)
   | .inr r => some r

def S.CallsIn_l1 (a1 : (List Int)) (a2 : Int) (a3 : Int) : Nat → Int → Int → Option (Int)
 | 0, _, _ => none
 | k + 1, x1, x2 =>
  if (decide (x2 < (List.length a1 : Int))) then
   ((idx a1 x2).bind fun x5 =>
   if (decide (a2 ≤ x5)) then
    (idx a1 x2).bind fun x6 =>
    if (decide ((w64 (x6 - a2)) < a3)) then
     (idx a1 x2).bind fun x7 =>
     if (decide (0 ≤ x7)) then
      some (decide (0 ≤ a2))
     else
      some false
    else
     some false
   else
    some false).bind fun x4 =>
   (if x4 then
    some (w64 (x1 + 1))
   else
    some x1).bind fun x8 =>
   S.CallsIn_l1 a1 a2 a3 k x8 (w64 (x2 + 1))
  else
   some x1

def S.CallsIn (a1 : (List Int)) (a2 : Int) (a3 : Int) : Option Int :=
 (S.CallsIn_l1 a1 a2 a3 FUEL (0 : Int) (0 : Int)).bind fun x3 =>
 some x3

def S.l1In (a1 : Int) (a2 : Int) (a3 : Int) : Option Bool :=
 (if (decide (a2 ≤ a1)) then
  some (decide (a1 ≤ a3))
 else
  some false).bind fun x1 =>
 some x1

def S.IsWindow (a1 : (Int × Int)) : Option Bool :=
 ((S.l1In a1.1 1 100).bind fun x2 =>
 if x2 then
  (S.l1In a1.2 1 99).bind fun x3 =>
  some x3
 else
  some false).bind fun x1 =>
 some x1

def S.l18Times_l1 (a1 : (List Int)) : Nat → Int → Option (Sum Unit Bool)
 | 0, _ => none
 | k + 1, x1 =>
  if (decide (x1 < (List.length a1 : Int))) then
   ((idx a1 x1).bind fun x3 =>
   (S.l1In x3 0 10000).bind fun x4 =>
   if (!x4) then
    some true
   else
    if (decide (0 < x1)) then
     (idx a1 x1).bind fun x5 =>
     (idx a1 (w64 (x1 - 1))).bind fun x6 =>
     some (decide (x5 < x6))
    else
     some false).bind fun x2 =>
   if x2 then
    some (.inr false)
   else
    S.l18Times_l1 a1 k (w64 (x1 + 1))
  else
   some (.inl ())

def S.l18Times (a1 : (List Int)) : Option Bool :=
 (S.l18Times_l1 a1 FUEL (0 : Int)).bind fun o => match o with
  | .inl () =>
   some (decide ((List.length a1 : Int) ≤ 1000))
  | .inr r => some r

def S.IsKept_l1 (a1 : (List Int)) (a2 : (Int × Int)) : Nat → Int → Option (Sum Unit Bool)
 | 0, _ => none
 | k + 1, x4 =>
  if (decide (x4 < (List.length a1 : Int))) then
   (idx a1 x4).bind fun x5 =>
   (S.CallsIn a1 x5 a2.1).bind fun x6 =>
   if (decide (a2.2 < x6)) then
    some (.inr false)
   else
    S.IsKept_l1 a1 a2 k (w64 (x4 + 1))
  else
   some (.inl ())

def S.IsKept (a1 : (List Int)) (a2 : (Int × Int)) : Option Bool :=
 ((S.l18Times a1).bind fun x2 =>
 if (!x2) then
  some true
 else
  (S.IsWindow (a2.1, a2.2)).bind fun x3 =>
  some (!x3)).bind fun x1 =>
 if x1 then
  some false
 else
  (S.IsKept_l1 a1 a2 FUEL (0 : Int)).bind fun o => match o with
   | .inl () =>
    some true
   | .inr r => some r

def S.NextTime (a1 : (List Int)) (a2 : (Int × Int)) (a3 : Int) : Option (Int × Bool) :=
 ((S.IsKept a1 (a2.1, a2.2)).bind fun x2 =>
 if (!x2) then
  some true
 else
  (S.l1In a3 0 10000).bind fun x3 =>
  some (!x3)).bind fun x1 =>
 if x1 then
  some (0, false)
 else
  (if (decide (0 < (List.length a1 : Int))) then
   (idx a1 (w64 ((List.length a1 : Int) - 1))).bind fun x5 =>
   some (if x5 > a3 then x5 else a3)
  else
   some a3).bind fun x4 =>
  (if (decide (a2.2 ≤ (List.length a1 : Int))) then
   (idx a1 (w64 ((List.length a1 : Int) - a2.2))).bind fun x7 =>
   some (if (w64 (x7 + a2.1)) > x4 then w64 (x7 + a2.1) else x4)
  else
   some x4).bind fun x6 =>
  if (decide (10000 < x6)) then
   some (0, false)
  else
   some (x6, true)

def S.ScheduleCalls_l1 (a1 : Int) (a2 : (Int × Int)) (a3 : Int) : Nat → (List Int) → Int → Option (Sum (List Int) ((List Int) × Bool))
 | 0, _, _ => none
 | k + 1, x5, x6 =>
  if (decide (x6 < a1)) then
   (S.NextTime x5 (a2.1, a2.2) a3).bind fun x8 =>
   if (!x8.2) then
    some (.inr (([] : List Int), false))
   else
    (app x5 ([x8.1])).bind fun x9 =>
    S.ScheduleCalls_l1 a1 a2 a3 k x9 (w64 (x6 + 1))
  else
   some (.inl x5)

def S.ScheduleCalls (a1 : Int) (a2 : (Int × Int)) (a3 : Int) : Option ((List Int) × Bool) :=
 ((S.l1In a1 0 100).bind fun x2 =>
 if (!x2) then
  some true
 else
  (S.IsWindow (a2.1, a2.2)).bind fun x3 =>
  if (!x3) then
   some true
  else
   (S.l1In a3 0 10000).bind fun x4 =>
   some (!x4)).bind fun x1 =>
 if x1 then
  some (([] : List Int), false)
 else
  (S.ScheduleCalls_l1 a1 a2 a3 FUEL ([] : List Int) (0 : Int)).bind fun o => match o with
   | .inl x7 =>
    some (x7, true)
   | .inr r => some r

def Q.sameInts_l1 (a1 : (List Int)) (a2 : (List Int)) : Nat → Int → Option (Sum Unit Bool)
 | 0, _ => none
 | k + 1, x1 =>
  if (decide (x1 < (List.length a1 : Int))) then
   (idx a1 x1).bind fun x2 =>
   (idx a2 x1).bind fun x3 =>
   if (!decide (x2 = x3)) then
    some (.inr false)
   else
    Q.sameInts_l1 a1 a2 k (w64 (x1 + 1))
  else
   some (.inl ())

def Q.sameInts (a1 : (List Int)) (a2 : (List Int)) : Option Bool :=
 if (!decide ((List.length a1 : Int) = (List.length a2 : Int))) then
  some false
 else
  (Q.sameInts_l1 a1 a2 FUEL (0 : Int)).bind fun o => match o with
   | .inl () =>
    some true
   | .inr r => some r

def M.bit (a1 : Bool) : Option Int :=
 if a1 then
  some 1
 else
  some 0

def M.CallsIn_l1 (a1 : (List Int)) (a2 : Int) (a3 : Int) : Nat → Int → Int → Option (Int)
 | 0, _, _ => none
 | k + 1, x1, x2 =>
  if (decide (x2 < (List.length a1 : Int))) then
   (idx a1 x2).bind fun x4 =>
   (if (decide (0 ≤ a2)) then
    if (decide (a2 ≤ x4)) then
     (M.bit (decide ((w64 (x4 - a2)) < a3))).bind fun x6 =>
     some (w64 (x1 + x6))
    else
     (M.bit false).bind fun x7 =>
     some (w64 (x1 + x7))
   else
    (M.bit false).bind fun x8 =>
    some (w64 (x1 + x8))).bind fun x5 =>
   M.CallsIn_l1 a1 a2 a3 k x5 (w64 (x2 + 1))
  else
   some x1

def M.CallsIn (a1 : (List Int)) (a2 : Int) (a3 : Int) : Option Int :=
 (M.CallsIn_l1 a1 a2 a3 FUEL (0 : Int) (0 : Int)).bind fun x3 =>
 some x3

def M.IsKept_l1 (a1 : (List Int)) (a2 : (Int × Int)) : Nat → Int → Option (Sum Unit Bool)
 | 0, _ => none
 | k + 1, x3 =>
  if (decide (x3 < (List.length a1 : Int))) then
   (idx a1 x3).bind fun x4 =>
   ((M.isTime x4).bind fun x6 =>
   if (!x6) then
    some true
   else
    if (decide (0 < x3)) then
     (idx a1 (w64 (x3 - 1))).bind fun x7 =>
     if (decide (x4 < x7)) then
      some true
     else
      (M.CallsIn a1 x4 a2.1).bind fun x8 =>
      some (decide (a2.2 < x8))
    else
     (M.CallsIn a1 x4 a2.1).bind fun x9 =>
     some (decide (a2.2 < x9))).bind fun x5 =>
   if x5 then
    some (.inr false)
   else
    M.IsKept_l1 a1 a2 k (w64 (x3 + 1))
  else
   some (.inl ())

def M.IsKept (a1 : (List Int)) (a2 : (Int × Int)) : Option Bool :=
 (if (decide (1000 < (List.length a1 : Int))) then
  some true
 else
  (M.IsWindow (a2.1, a2.2)).bind fun x2 =>
  some (!x2)).bind fun x1 =>
 if x1 then
  some false
 else
  (M.IsKept_l1 a1 a2 FUEL (0 : Int)).bind fun o => match o with
   | .inl () =>
    some true
   | .inr r => some r

def S.l1Once (a1 : ((List UInt8) × Int × Int)) (a2 : Int) : Option (Bool × ((List UInt8) × Int × Int)) :=
 (S.l1Below (a1.1, a1.2.1, a1.2.2) a2).bind fun x1 =>
 some ((decide (x1.1 = 0)), (a1.1, x1.2.2.1, x1.2.2.2))

def S.l18List_l1 (a1 : ((List UInt8) × Int × Int)) : Nat → Int → Int → (List Int) → Int → Int → Option ((Int × Int × (List Int)))
 | 0, _, _, _, _, _ => none
 | k + 1, x2, x3, x4, x5, x6 =>
  if (decide (0 < x6)) then
   (S.l1Below (a1.1, x2, x3) 4).bind fun x10 =>
   (app x4 ([w64 (x5 + x10.1)])).bind fun x11 =>
   S.l18List_l1 a1 k x10.2.2.1 x10.2.2.2 x11 (w64 (x5 + x10.1)) (w64 (x6 - 1))
  else
   some (x2, x3, x4)

def S.l18List (a1 : ((List UInt8) × Int × Int)) : Option ((List Int) × ((List UInt8) × Int × Int)) :=
 (S.l1Below (a1.1, a1.2.1, a1.2.2) 7).bind fun x1 =>
 (S.l18List_l1 a1 FUEL x1.2.2.1 x1.2.2.2 ([] : List Int) (0 : Int) x1.1).bind fun (x7, x8, x9) =>
 (S.l1Once (a1.1, x7, x8) 12).bind fun x12 =>
 (if x12.1 then
  (S.l1PickInt (a1.1, x12.2.2.1, x12.2.2.2) ([(-1), 0, 10000, 10001])).bind fun x16 =>
  (app x9 ([x16.1])).bind fun x17 =>
  some (x16.2.2.1, x16.2.2.2, x17)
 else
  some (x12.2.2.1, x12.2.2.2, x9)).bind fun (x13, x14, x15) =>
 some (x15, (a1.1, x13, x14))

def S.DrawNextTime (a1 : (List UInt8)) : Option ((List Int) × (Int × Int) × Int) :=
 (S.l1New a1).bind fun x1 =>
 (S.l18List (a1, x1.2.1, x1.2.2)).bind fun x2 =>
 (S.l18Window (a1, x2.2.2.1, x2.2.2.2)).bind fun x3 =>
 ((S.l1PickInt (a1, x3.2.2.1, x3.2.2.2) ([0, 3, 9, 10000, (-1)])).bind fun x10 =>
 some (x10.2.2.1, x10.2.2.2, x3.1.1, x3.1.2, x2.1, x10.1)).bind fun (x4, x5, x6, x7, x8, x9) =>
 some (x8, (x6, x7), x9)

def M.NextTime (a1 : (List Int)) (a2 : (Int × Int)) (a3 : Int) : Option (Int × Bool) :=
 ((M.IsKept a1 (a2.1, a2.2)).bind fun x2 =>
 if (!x2) then
  some true
 else
  (M.isTime a3).bind fun x3 =>
  some (!x3)).bind fun x1 =>
 if x1 then
  some (0, false)
 else
  (M.Window_next (a2.1, a2.2) a1 a3).bind fun x4 =>
  some (x4.1, x4.2)

def S.DrawIsKept (a1 : (List UInt8)) : Option ((List Int) × (Int × Int)) :=
 (S.l1New a1).bind fun x1 =>
 (S.l18List (a1, x1.2.1, x1.2.2)).bind fun x2 =>
 (S.l18Window (a1, x2.2.2.1, x2.2.2.2)).bind fun x3 =>
 some (x2.1, (x3.1.1, x3.1.2))

def S.DrawCallsIn (a1 : (List UInt8)) : Option ((List Int) × Int × Int) :=
 (S.l1New a1).bind fun x1 =>
 (S.l18List (a1, x1.2.1, x1.2.2)).bind fun x2 =>
 (S.l1Below (a1, x2.2.2.1, x2.2.2.2) 8).bind fun x3 =>
 (S.l1Below (a1, x3.2.2.1, x3.2.2.2) 6).bind fun x4 =>
 some (x2.1, w64 (x3.1 - 1), x4.1)

def Q.FnWindows_l2 (x4 : ((List Int) × Bool)) (x2 : (Int × (Int × Int) × Int)) : Nat → Int → Option (Sum Unit Bool)
 | 0, _ => none
 | k + 1, x11 =>
  if (decide (x11 < (List.length x4.1 : Int))) then
   (sub x4.1 0 x11).bind fun x12 =>
   (app ([] : List Int) x12).bind fun x13 =>
   ((idx x4.1 x11).bind fun x15 =>
   if (decide (x2.2.2 < x15)) then
    if (decide (x11 = 0)) then
     (idx x4.1 x11).bind fun x16 =>
     (app x13 ([w64 (x16 - 1)])).bind fun x17 =>
     (S.IsKept x17 (x2.2.1.1, x2.2.1.2)).bind fun x18 =>
     some x18
    else
     (idx x4.1 x11).bind fun x19 =>
     (idx x4.1 (w64 (x11 - 1))).bind fun x20 =>
     if (decide (x20 < x19)) then
      (idx x4.1 x11).bind fun x21 =>
      (app x13 ([w64 (x21 - 1)])).bind fun x22 =>
      (S.IsKept x22 (x2.2.1.1, x2.2.1.2)).bind fun x23 =>
      some x23
     else
      some false
   else
    some false).bind fun x14 =>
   if x14 then
    some (.inr false)
   else
    Q.FnWindows_l2 x4 x2 k (w64 (x11 + 1))
  else
   some (.inl ())

def Q.FnWindows_l1 (x4 : ((List Int) × Bool)) (x2 : (Int × (Int × Int) × Int)) : Nat → Int → Option (Sum Unit Bool)
 | 0, _ => none
 | k + 1, x9 =>
  if (decide (x9 < 40)) then
   (S.CallsIn x4.1 (w64 (x2.2.2 + x9)) x2.2.1.1).bind fun x10 =>
   if (decide (x2.2.1.2 < x10)) then
    some (.inr false)
   else
    Q.FnWindows_l1 x4 x2 k (w64 (x9 + 1))
  else
   some (.inl ())

def Q.FnWindows (a1 : (List UInt8)) : Option Bool :=
 (Q.big a1).bind fun x1 =>
 if x1 then
  some true
 else
  (S.DrawScheduleCalls a1).bind fun x2 =>
  (M.ScheduleCalls x2.1 (x2.2.1.1, x2.2.1.2) x2.2.2).bind fun x3 =>
  (S.ScheduleCalls x2.1 (x2.2.1.1, x2.2.1.2) x2.2.2).bind fun x4 =>
  (if (!decide (x3.2 = x4.2)) then
   some true
  else
   (Q.sameInts x3.1 x4.1).bind fun x6 =>
   some (!x6)).bind fun x5 =>
  if x5 then
   some false
  else
   (if x3.2 then
    (if (!decide ((List.length x4.1 : Int) = x2.1)) then
     some true
    else
     (M.IsKept x4.1 (x2.2.1.1, x2.2.1.2)).bind fun x8 =>
     some (!x8)).bind fun x7 =>
    if x7 then
     some (.inr false)
    else
     (Q.FnWindows_l1 x4 x2 FUEL (0 : Int)).bind fun o => match o with
      | .inl () =>
       (Q.FnWindows_l2 x4 x2 FUEL (0 : Int)).bind fun o => match o with
        | .inl () =>
         some (.inl ())
        | .inr r => some (.inr r)
      | .inr r => some (.inr r)
   else
    some (.inl ()) : Option (Unit ⊕ Bool)).bind fun o => match o with
    | .inl () =>
     (S.DrawNextTime a1).bind fun x24 =>
     (M.NextTime x24.1 (x24.2.1.1, x24.2.1.2) x24.2.2).bind fun x25 =>
     (S.NextTime x24.1 (x24.2.1.1, x24.2.1.2) x24.2.2).bind fun x26 =>
     (S.DrawIsKept a1).bind fun x27 =>
     (S.DrawCallsIn a1).bind fun x28 =>
     (if (decide (x25.2 = x26.2)) then
      if (decide (x25.1 = x26.1)) then
       if (!x25.2) then
        (M.IsKept x27.1 (x27.2.1, x27.2.2)).bind fun x30 =>
        (S.IsKept x27.1 (x27.2.1, x27.2.2)).bind fun x31 =>
        if (decide (x30 = x31)) then
         (M.CallsIn x28.1 x28.2.1 x28.2.2).bind fun x32 =>
         (S.CallsIn x28.1 x28.2.1 x28.2.2).bind fun x33 =>
         if (decide (x32 = x33)) then
          (M.IsWindow (x27.2.1, x27.2.2)).bind fun x34 =>
          (S.IsWindow (x27.2.1, x27.2.2)).bind fun x35 =>
          some (decide (x34 = x35))
         else
          some false
        else
         some false
       else
        (app ([] : List Int) x24.1).bind fun x36 =>
        (app x36 ([x26.1])).bind fun x37 =>
        (S.IsKept x37 (x24.2.1.1, x24.2.1.2)).bind fun x38 =>
        if x38 then
         (M.IsKept x27.1 (x27.2.1, x27.2.2)).bind fun x39 =>
         (S.IsKept x27.1 (x27.2.1, x27.2.2)).bind fun x40 =>
         if (decide (x39 = x40)) then
          (M.CallsIn x28.1 x28.2.1 x28.2.2).bind fun x41 =>
          (S.CallsIn x28.1 x28.2.1 x28.2.2).bind fun x42 =>
          if (decide (x41 = x42)) then
           (M.IsWindow (x27.2.1, x27.2.2)).bind fun x43 =>
           (S.IsWindow (x27.2.1, x27.2.2)).bind fun x44 =>
           some (decide (x43 = x44))
          else
           some false
         else
          some false
        else
         some false
      else
       some false
     else
      some false).bind fun x29 =>
     some x29
    | .inr r => some r

def Q.szIntS (a1 : (List Int)) (a2 : Int) : Option Int :=
 if (decide ((w64 (a2 - (List.length a1 : Int))) < 0)) then
  some (-1)
 else
  some (w64 (a2 - (List.length a1 : Int)))

def Q.szAtom (a1 : (Int × (List Int))) (a2 : Int) : Option Int :=
 (Q.szIntS a1.2 a2).bind fun x1 =>
 if (decide (x1 < 0)) then
  some (-1)
 else
  some x1

def Q.szAtomS_l1 (a1 : (List (Int × (List Int)))) : Nat → Int → Int → Option (Sum Int Int)
 | 0, _, _ => none
 | k + 1, x1, x2 =>
  if (decide (x2 < (List.length a1 : Int))) then
   (idx a1 x2).bind fun x4 =>
   (Q.szAtom x4 x1).bind fun x5 =>
   if (decide (x5 < 0)) then
    some (.inr (-1))
   else
    Q.szAtomS_l1 a1 k x5 (w64 (x2 + 1))
  else
   some (.inl x1)

def Q.szAtomS (a1 : (List (Int × (List Int)))) (a2 : Int) : Option Int :=
 if (decide ((w64 (a2 - (List.length a1 : Int))) < 0)) then
  some (-1)
 else
  (Q.szAtomS_l1 a1 FUEL (w64 (a2 - (List.length a1 : Int))) (0 : Int)).bind fun o => match o with
   | .inl x3 =>
    some x3
   | .inr r => some r

def Q.szQuery (a1 : ((List Int) × (List (Int × (List Int))))) (a2 : Int) : Option Int :=
 (Q.szIntS a1.1 a2).bind fun x1 =>
 if (decide (x1 < 0)) then
  some (-1)
 else
  (Q.szAtomS a1.2 x1).bind fun x2 =>
  if (decide (x2 < 0)) then
   some (-1)
  else
   some x2

def S.l3Atom (a1 : Int) (a2 : (List Int)) : Option (Int × (List Int)) :=
 (app ([] : List Int) a2).bind fun x1 =>
 some (a1, x1)

def S.l3Copy_l1 (a1 : ((List Int) × (List (Int × (List Int))))) : Nat → (List Int) → (List (Int × (List Int))) → Int → Option (((List Int) × (List (Int × (List Int)))))
 | 0, _, _, _ => none
 | k + 1, x2, x3, x4 =>
  if (decide (x4 < (List.length a1.2 : Int))) then
   (idx a1.2 x4).bind fun x7 =>
   (idx a1.2 x4).bind fun x8 =>
   (S.l3Atom x7.1 x8.2).bind fun x9 =>
   (app x3 ([(x9.1, x9.2)])).bind fun x10 =>
   S.l3Copy_l1 a1 k x2 x10 (w64 (x4 + 1))
  else
   some (x2, x3)

def S.l3Copy (a1 : ((List Int) × (List (Int × (List Int))))) : Option ((List Int) × (List (Int × (List Int)))) :=
 (app ([] : List Int) a1.1).bind fun x1 =>
 (S.l3Copy_l1 a1 FUEL x1 ([]) (0 : Int)).bind fun (x5, x6) =>
 some (x5, x6)

def S.l30Swap (a1 : Int) (a2 : Int) (a3 : Int) : Option Int :=
 if (decide (a1 = a2)) then
  some a3
 else
  if (decide (a1 = a3)) then
   some a2
  else
   some a1

def S.SwapValue_l2 (x3 : Int) (a2 : Int) (a3 : Int) : Nat → (List (Int × (List Int))) → Int → Option ((List (Int × (List Int))))
 | 0, _, _ => none
 | k + 1, x8, x9 =>
  (idx x8 x3).bind fun x11 =>
  if (decide (x9 < (List.length x11.2 : Int))) then
   (idx x8 x3).bind fun x12 =>
   (idx x12.2 x9).bind fun x13 =>
   (S.l30Swap x13 a2 a3).bind fun x14 =>
   (idx x12.2 x9).bind fun x15 =>
   S.SwapValue_l2 x3 a2 a3 k (List.set x8 (Int.toNat x3) (x12.1, (List.set x12.2 (Int.toNat x9) x14))) (w64 (x9 + 1))
  else
   some x8

def S.SwapValue_l1 (a2 : Int) (a3 : Int) : Nat → (List (Int × (List Int))) → Int → Option ((List (Int × (List Int))))
 | 0, _, _ => none
 | k + 1, x2, x3 =>
  (if (decide (x3 < (List.length x2 : Int))) then
   (S.l1In a2 0 9).bind fun x6 =>
   if x6 then
    (S.l1In a3 0 9).bind fun x7 =>
    some x7
   else
    some false
  else
   some false).bind fun x5 =>
  if x5 then
   (S.SwapValue_l2 x3 a2 a3 FUEL x2 (0 : Int)).bind fun x10 =>
   S.SwapValue_l1 a2 a3 k x10 (w64 (x3 + 1))
  else
   some x2

def S.SwapValue (a1 : ((List Int) × (List (Int × (List Int))))) (a2 : Int) (a3 : Int) : Option ((List Int) × (List (Int × (List Int)))) :=
 (S.l3Copy (a1.1, a1.2)).bind fun x1 =>
 (S.SwapValue_l1 a2 a3 FUEL x1.2 (0 : Int)).bind fun x4 =>
 some (x1.1, x4)

def Q.toIntS_l1 (a1 : (List Int)) : Nat → (List Int) → Int → Option ((List Int))
 | 0, _, _ => none
 | k + 1, x2, x3 =>
  if (decide (x3 < (List.length a1 : Int))) then
   (idx a1 x3).bind fun x5 =>
   (idx x2 x3).bind fun x6 =>
   Q.toIntS_l1 a1 k (List.set x2 (Int.toNat x3) x5) (w64 (x3 + 1))
  else
   some x2

def Q.toIntS (a1 : (List Int)) : Option (List Int) :=
 (mk (List.length a1 : Int) (0 : Int)).bind fun x1 =>
 (Q.toIntS_l1 a1 FUEL x1 (0 : Int)).bind fun x4 =>
 some x4

def Q.toAtom (a1 : (Int × (List Int))) : Option (Int × (List Int)) :=
 (Q.toIntS a1.2).bind fun x1 =>
 some (a1.1, x1)

def Q.toAtomS_l1 (a1 : (List (Int × (List Int)))) : Nat → (List (Int × (List Int))) → Int → Option ((List (Int × (List Int))))
 | 0, _, _ => none
 | k + 1, x2, x3 =>
  if (decide (x3 < (List.length a1 : Int))) then
   (idx a1 x3).bind fun x5 =>
   (Q.toAtom x5).bind fun x6 =>
   (idx x2 x3).bind fun x7 =>
   Q.toAtomS_l1 a1 k (List.set x2 (Int.toNat x3) (x6.1, x6.2)) (w64 (x3 + 1))
  else
   some x2

def Q.toAtomS (a1 : (List (Int × (List Int)))) : Option (List (Int × (List Int))) :=
 (mk (List.length a1 : Int) (0, [])).bind fun x1 =>
 (Q.toAtomS_l1 a1 FUEL x1 (0 : Int)).bind fun x4 =>
 some x4

def Q.toQuery (a1 : ((List Int) × (List (Int × (List Int))))) : Option ((List Int) × (List (Int × (List Int)))) :=
 (Q.toIntS a1.1).bind fun x1 =>
 (Q.toAtomS a1.2).bind fun x2 =>
 some (x1, x2)

def Slices.Clone_Lint_int (a1 : (List Int)) : Option (List Int) :=
 (app ([] : List Int) a1).bind fun x1 =>
 some x1

def M.copyAtom (a1 : (Int × (List Int))) : Option (Int × (List Int)) :=
 (Slices.Clone_Lint_int a1.2).bind fun x1 =>
 some (a1.1, x1)

def M.copyAtoms_l1 (a1 : (List (Int × (List Int)))) : Nat → (List (Int × (List Int))) → Int → Option ((List (Int × (List Int))))
 | 0, _, _ => none
 | k + 1, x1, x2 =>
  if (decide (x2 < (List.length a1 : Int))) then
   (idx a1 x2).bind fun x4 =>
   (M.copyAtom (x4.1, x4.2)).bind fun x5 =>
   (app x1 ([(x5.1, x5.2)])).bind fun x6 =>
   M.copyAtoms_l1 a1 k x6 (w64 (x2 + 1))
  else
   some x1

def M.copyAtoms (a1 : (List (Int × (List Int)))) : Option (List (Int × (List Int))) :=
 (M.copyAtoms_l1 a1 FUEL ([] : List (Int × (List Int))) (0 : Int)).bind fun x3 =>
 some x3

def M.copyQuery (a1 : ((List Int) × (List (Int × (List Int))))) : Option ((List Int) × (List (Int × (List Int)))) :=
 (Slices.Clone_Lint_int a1.1).bind fun x1 =>
 (M.copyAtoms a1.2).bind fun x2 =>
 some (x1, x2)

def M.isValue (a1 : Int) : Option Bool :=
 (M.within a1 0 9).bind fun x1 =>
 some x1

def M.swapped_l1 (a1 : (List Int)) (a2 : Int) (a3 : Int) : Nat → (List Int) → Int → Option ((List Int))
 | 0, _, _ => none
 | k + 1, x2, x3 =>
  if (decide (x3 < (List.length a1 : Int))) then
   (idx a1 x3).bind fun x5 =>
   (if (decide (x5 = a2)) then
    (idx x2 x3).bind fun x7 =>
    some (List.set x2 (Int.toNat x3) a3)
   else
    (if (decide (x5 = a3)) then
     (idx x2 x3).bind fun x9 =>
     some (List.set x2 (Int.toNat x3) a2)
    else
     some x2).bind fun x8 =>
    some x8).bind fun x6 =>
   M.swapped_l1 a1 a2 a3 k x6 (w64 (x3 + 1))
  else
   some x2

def M.swapped (a1 : (List Int)) (a2 : Int) (a3 : Int) : Option (List Int) :=
 (Slices.Clone_Lint_int a1).bind fun x1 =>
 (M.swapped_l1 a1 a2 a3 FUEL x1 (0 : Int)).bind fun x4 =>
 some x4

def M.SwapValue_l1 (x1 : ((List Int) × (List (Int × (List Int))))) (a2 : Int) (a3 : Int) : Nat → (List (Int × (List Int))) → Int → Option ((List (Int × (List Int))))
 | 0, _, _ => none
 | k + 1, x5, x6 =>
  if (decide (x6 < (List.length x1.2 : Int))) then
   (idx x5 x6).bind fun x8 =>
   (M.swapped x8.2 a2 a3).bind fun x9 =>
   (idx x5 x6).bind fun x10 =>
   M.SwapValue_l1 x1 a2 a3 k (List.set x5 (Int.toNat x6) (x10.1, x9)) (w64 (x6 + 1))
  else
   some x5

def M.SwapValue (a1 : ((List Int) × (List (Int × (List Int))))) (a2 : Int) (a3 : Int) : Option ((List Int) × (List (Int × (List Int)))) :=
 (M.copyQuery (a1.1, a1.2)).bind fun x1 =>
 ((M.isValue a2).bind fun x3 =>
 if x3 then
  (M.isValue a3).bind fun x4 =>
  some x4
 else
  some false).bind fun x2 =>
 if x2 then
  (M.SwapValue_l1 x1 a2 a3 FUEL x1.2 (0 : Int)).bind fun x7 =>
  some (x1.1, x7)
 else
  some (x1.1, x1.2)

def Q.eqIntS_l1 (a1 : (List Int)) (a2 : (List Int)) : Nat → Int → Option (Sum Unit Bool)
 | 0, _ => none
 | k + 1, x1 =>
  if (decide (x1 < (List.length a1 : Int))) then
   (idx a1 x1).bind fun x2 =>
   (idx a2 x1).bind fun x3 =>
   if (!decide (x2 = x3)) then
    some (.inr false)
   else
    Q.eqIntS_l1 a1 a2 k (w64 (x1 + 1))
  else
   some (.inl ())

def Q.eqIntS (a1 : (List Int)) (a2 : (List Int)) : Option Bool :=
 if (!decide ((List.length a1 : Int) = (List.length a2 : Int))) then
  some false
 else
  (Q.eqIntS_l1 a1 a2 FUEL (0 : Int)).bind fun o => match o with
   | .inl () =>
    some true
   | .inr r => some r

def Q.eqAtom (a1 : (Int × (List Int))) (a2 : (Int × (List Int))) : Option Bool :=
 if (!decide (a1.1 = a2.1)) then
  some false
 else
  (Q.eqIntS a1.2 a2.2).bind fun x1 =>
  if (!x1) then
   some false
  else
   some true

def Q.eqAtomS_l1 (a1 : (List (Int × (List Int)))) (a2 : (List (Int × (List Int)))) : Nat → Int → Option (Sum Unit Bool)
 | 0, _ => none
 | k + 1, x1 =>
  if (decide (x1 < (List.length a1 : Int))) then
   (idx a1 x1).bind fun x2 =>
   (idx a2 x1).bind fun x3 =>
   (Q.eqAtom x2 x3).bind fun x4 =>
   if (!x4) then
    some (.inr false)
   else
    Q.eqAtomS_l1 a1 a2 k (w64 (x1 + 1))
  else
   some (.inl ())

def Q.eqAtomS (a1 : (List (Int × (List Int)))) (a2 : (List (Int × (List Int)))) : Option Bool :=
 if (!decide ((List.length a1 : Int) = (List.length a2 : Int))) then
  some false
 else
  (Q.eqAtomS_l1 a1 a2 FUEL (0 : Int)).bind fun o => match o with
   | .inl () =>
    some true
   | .inr r => some r

def Q.eqQuery (a1 : ((List Int) × (List (Int × (List Int))))) (a2 : ((List Int) × (List (Int × (List Int))))) : Option Bool :=
 (Q.eqIntS a1.1 a2.1).bind fun x1 =>
 if (!x1) then
  some false
 else
  (Q.eqAtomS a1.2 a2.2).bind fun x2 =>
  if (!x2) then
   some false
  else
   some true

def Q.markIntS_l1  : Nat → (List Int) → Int → Int → Option (((List Int) × Int))
 | 0, _, _, _ => none
 | k + 1, x1, x2, x3 =>
  if (decide (x3 < (List.length x1 : Int))) then
   (idx x1 x3).bind fun x6 =>
   Q.markIntS_l1 k (List.set x1 (Int.toNat x3) x2) (w64 (x2 + 1)) (w64 (x3 + 1))
  else
   some (x1, x2)

def Q.markIntS (a1 : (List Int)) (a2 : Int) : Option (Int × (List Int)) :=
 (Q.markIntS_l1 FUEL a1 a2 (0 : Int)).bind fun (x4, x5) =>
 some (x5, x4)

def Q.markAtomS_l1  : Nat → (List (Int × (List Int))) → Int → Int → Option (((List (Int × (List Int))) × Int))
 | 0, _, _, _ => none
 | k + 1, x1, x2, x3 =>
  if (decide (x3 < (List.length x1 : Int))) then
   (idx x1 x3).bind fun x6 =>
   (idx (List.set x1 (Int.toNat x3) (x2, x6.2)) x3).bind fun x7 =>
   (Q.markIntS x7.2 (w64 (x2 + 1))).bind fun x8 =>
   Q.markAtomS_l1 k (List.set (List.set x1 (Int.toNat x3) (x2, x6.2)) (Int.toNat x3) (x7.1, x8.2)) x8.1 (w64 (x3 + 1))
  else
   some (x1, x2)

def Q.markAtomS (a1 : (List (Int × (List Int)))) (a2 : Int) : Option (Int × (List (Int × (List Int)))) :=
 (Q.markAtomS_l1 FUEL a1 a2 (0 : Int)).bind fun (x4, x5) =>
 some (x5, x4)

def Q.markQuery (a1 : ((List Int) × (List (Int × (List Int))))) (a2 : Int) : Option (Int × ((List Int) × (List (Int × (List Int))))) :=
 (Q.markIntS a1.1 a2).bind fun x1 =>
 (Q.markAtomS a1.2 x1.1).bind fun x2 =>
 some (x2.1, (x1.2, x2.2))

def Q.heldIntS_l1 (a1 : (List Int)) : Nat → Int → Int → Option (Sum Int Int)
 | 0, _, _ => none
 | k + 1, x1, x2 =>
  if (decide (x2 < (List.length a1 : Int))) then
   (idx a1 x2).bind fun x4 =>
   if (!decide (x4 = x1)) then
    some (.inr (-1))
   else
    Q.heldIntS_l1 a1 k (w64 (x1 + 1)) (w64 (x2 + 1))
  else
   some (.inl x1)

def Q.heldIntS (a1 : (List Int)) (a2 : Int) : Option Int :=
 (Q.heldIntS_l1 a1 FUEL a2 (0 : Int)).bind fun o => match o with
  | .inl x3 =>
   some x3
  | .inr r => some r

def Q.heldAtomS_l1 (a1 : (List (Int × (List Int)))) : Nat → Int → Int → Option (Sum Int Int)
 | 0, _, _ => none
 | k + 1, x1, x2 =>
  if (decide (x2 < (List.length a1 : Int))) then
   (idx a1 x2).bind fun x4 =>
   if (!decide (x4.1 = x1)) then
    some (.inr (-1))
   else
    (idx a1 x2).bind fun x5 =>
    (Q.heldIntS x5.2 (w64 (x1 + 1))).bind fun x6 =>
    if (decide (x6 < 0)) then
     some (.inr (-1))
    else
     Q.heldAtomS_l1 a1 k x6 (w64 (x2 + 1))
  else
   some (.inl x1)

def Q.heldAtomS (a1 : (List (Int × (List Int)))) (a2 : Int) : Option Int :=
 (Q.heldAtomS_l1 a1 FUEL a2 (0 : Int)).bind fun o => match o with
  | .inl x3 =>
   some x3
  | .inr r => some r

def Q.heldQuery (a1 : ((List Int) × (List (Int × (List Int))))) (a2 : Int) : Option Int :=
 (Q.heldIntS a1.1 a2).bind fun x1 =>
 if (decide (x1 < 0)) then
  some (-1)
 else
  (Q.heldAtomS a1.2 x1).bind fun x2 =>
  if (decide (x2 < 0)) then
   some (-1)
  else
   some x2

def Q.FnExactSwapValue (a1 : ((List Int) × (List (Int × (List Int))))) (a2 : Int) (a3 : Int) : Option Bool :=
 (Q.szQuery (a1.1, a1.2) 1048576).bind fun x1 =>
 if (decide (x1 < 0)) then
  some true
 else
  (Q.toQuery (a1.1, a1.2)).bind fun x2 =>
  (S.SwapValue x2 a2 a3).bind fun x3 =>
  (Q.toQuery (a1.1, a1.2)).bind fun x4 =>
  (M.SwapValue (x4.1, x4.2) a2 a3).bind fun x5 =>
  (Q.eqQuery (x5.1, x5.2) (x3.1, x3.2)).bind fun x6 =>
  if (!x6) then
   some false
  else
   (Q.toQuery (a1.1, a1.2)).bind fun x7 =>
   (Q.eqQuery (x4.1, x4.2) x7).bind fun x8 =>
   if (!x8) then
    some false
   else
    (Q.markQuery (x4.1, x4.2) 1).bind fun x9 =>
    (if (decide (x9.1 < 0)) then
     some true
    else
     (Q.eqQuery (x5.1, x5.2) (x3.1, x3.2)).bind fun x11 =>
     some (!x11)).bind fun x10 =>
    if x10 then
     some false
    else
     (Q.markQuery (x5.1, x5.2) 1).bind fun x12 =>
     (Q.heldQuery (x12.2.1, x12.2.2) 1).bind fun x13 =>
     if (decide (x13 < 0)) then
      some false
     else
      if (!decide (x13 = x12.1)) then
       some false
      else
       (Q.toQuery (a1.1, a1.2)).bind fun x14 =>
       (M.SwapValue x14 a2 a3).bind fun x15 =>
       (Q.eqQuery (x15.1, x15.2) (x3.1, x3.2)).bind fun x16 =>
       if (!x16) then
        some false
       else
        (Q.heldQuery (x12.2.1, x12.2.2) 1).bind fun x17 =>
        if (decide (x17 < 0)) then
         some false
        else
         if (!decide (x17 = x12.1)) then
          some false
         else
          some true

end Go.Gx.Px
