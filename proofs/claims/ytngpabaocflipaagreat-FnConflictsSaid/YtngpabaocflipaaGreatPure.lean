/- The Go functions as pure Lean functions, printed by program. Conditions: none. -/
import Derived.Test.YtngpabaocflipaaGreatGxHo
set_option linter.unusedVariables false
namespace Go.Gx.Px

def Q.big (a1 : (List UInt8)) : Option Bool :=
 some (decide (1048576 < (List.length a1 : Int)))

def S.l1In (a1 : Int) (a2 : Int) (a3 : Int) : Option Bool :=
 (if (decide (a2 ≤ a1)) then
  some (decide (a1 ≤ a3))
 else
  some false).bind fun x1 =>
 some x1

def S.IsSchema_l1 (a1 : (List Int)) : Nat → Int → Option (Sum Unit Bool)
 | 0, _ => none
 | k + 1, x1 =>
  if (decide (x1 < (List.length a1 : Int))) then
   (idx a1 x1).bind fun x2 =>
   (S.l1In x2 1 3).bind fun x3 =>
   if (!x3) then
    some (.inr false)
   else
    S.IsSchema_l1 a1 k (w64 (x1 + 1))
  else
   some (.inl ())

def S.IsSchema (a1 : (List Int)) : Option Bool :=
 (S.IsSchema_l1 a1 FUEL (0 : Int)).bind fun o => match o with
  | .inl () =>
   (S.l1In (List.length a1 : Int) 1 3).bind fun x4 =>
   some x4
  | .inr r => some r

def S.IsMethod_l1 (a2 : (Int × (List Int) × Int × Int × Int)) (a1 : (List Int)) : Nat → Int → Option (Sum Unit Bool)
 | 0, _ => none
 | k + 1, x7 =>
  if (decide (x7 < (List.length a2.2.1 : Int))) then
   ((idx a2.2.1 x7).bind fun x9 =>
   (idx a1 a2.1).bind fun x10 =>
   (S.l1In x9 0 (w64 (x10 - 1))).bind fun x11 =>
   if (!x11) then
    some true
   else
    if (decide (0 < x7)) then
     (idx a2.2.1 x7).bind fun x12 =>
     (idx a2.2.1 (w64 (x7 - 1))).bind fun x13 =>
     some (decide (x12 ≤ x13))
    else
     some false).bind fun x8 =>
   if x8 then
    some (.inr false)
   else
    S.IsMethod_l1 a2 a1 k (w64 (x7 + 1))
  else
   some (.inl ())

def S.IsMethod (a1 : (List Int)) (a2 : (Int × (List Int) × Int × Int × Int)) : Option Bool :=
 ((S.IsSchema a1).bind fun x2 =>
 if (!x2) then
  some true
 else
  (S.l1In a2.1 0 (w64 ((List.length a1 : Int) - 1))).bind fun x3 =>
  if (!x3) then
   some true
  else
   (S.l1In a2.2.2.1 0 9).bind fun x4 =>
   if (!x4) then
    some true
   else
    (S.l1In a2.2.2.2.1 0 99).bind fun x5 =>
    if (!x5) then
     some true
    else
     (S.l1In a2.2.2.2.2 1 99).bind fun x6 =>
     some (!x6)).bind fun x1 =>
 if x1 then
  some false
 else
  (S.IsMethod_l1 a2 a1 FUEL (0 : Int)).bind fun o => match o with
   | .inl () =>
    some true
   | .inr r => some r

def S.AreMethods_l1 (a2 : (List (Int × (List Int) × Int × Int × Int))) (a1 : (List Int)) : Nat → Int → Option (Sum Unit Bool)
 | 0, _ => none
 | k + 1, x1 =>
  if (decide (x1 < (List.length a2 : Int))) then
   (idx a2 x1).bind fun x2 =>
   (S.IsMethod a1 x2).bind fun x3 =>
   if (!x3) then
    some (.inr false)
   else
    S.AreMethods_l1 a2 a1 k (w64 (x1 + 1))
  else
   some (.inl ())

def S.AreMethods (a1 : (List Int)) (a2 : (List (Int × (List Int) × Int × Int × Int))) : Option Bool :=
 (S.AreMethods_l1 a2 a1 FUEL (0 : Int)).bind fun o => match o with
  | .inl () =>
   ((S.IsSchema a1).bind fun x5 =>
   if x5 then
    some (decide ((List.length a2 : Int) ≤ 5))
   else
    some false).bind fun x4 =>
   some x4
  | .inr r => some r

def S.l1Byte (a1 : ((List UInt8) × Int × Int)) : Option (Int × ((List UInt8) × Int × Int)) :=
 (if (decide (a1.2.1 < (List.length a1.1 : Int))) then
  (idx a1.1 a1.2.1).bind fun x4 =>
  some (w64 (a1.2.1 + 1), w64 ((w64 (a1.2.2 * 6364136223846793005)) + 1442695040888963407), band (w64 ((band (bxor (shr (w64 ((w64 (a1.2.2 * 6364136223846793005)) + 1442695040888963407)) 33) (shr (w64 ((w64 (a1.2.2 * 6364136223846793005)) + 1442695040888963407)) 45)) 255) + (w64 (UInt8.toNat x4 : Int)))) 255)
 else
  some (a1.2.1, w64 ((w64 (a1.2.2 * 6364136223846793005)) + 1442695040888963407), band (bxor (shr (w64 ((w64 (a1.2.2 * 6364136223846793005)) + 1442695040888963407)) 33) (shr (w64 ((w64 (a1.2.2 * 6364136223846793005)) + 1442695040888963407)) 45)) 255)).bind fun (x1, x2, x3) =>
 some (x3, (a1.1, x1, x2))

def S.l1Below (a1 : ((List UInt8) × Int × Int)) (a2 : Int) : Option (Int × ((List UInt8) × Int × Int)) :=
 if (decide (a2 ≤ 0)) then
  some (0, (a1.1, a1.2.1, a1.2.2))
 else
  if (decide (a2 ≤ 256)) then
   (S.l1Byte (a1.1, a1.2.1, a1.2.2)).bind fun x1 =>
   (nz a2).bind fun _ =>
   some (x1.1.tmod a2, (a1.1, x1.2.2.1, x1.2.2.2))
  else
   (S.l1Byte (a1.1, a1.2.1, a1.2.2)).bind fun x2 =>
   (S.l1Byte (a1.1, x2.2.2.1, x2.2.2.2)).bind fun x3 =>
   (S.l1Byte (a1.1, x3.2.2.1, x3.2.2.2)).bind fun x4 =>
   (S.l1Byte (a1.1, x4.2.2.1, x4.2.2.2)).bind fun x5 =>
   (nz a2).bind fun _ =>
   some ((w64 ((w64 ((w64 ((w64 (x2.1 * 16777216)) + (w64 (x3.1 * 65536)))) + (w64 (x4.1 * 256)))) + x5.1)).tmod a2, (a1.1, x5.2.2.1, x5.2.2.2))

def S.l1Once (a1 : ((List UInt8) × Int × Int)) (a2 : Int) : Option (Bool × ((List UInt8) × Int × Int)) :=
 (S.l1Below (a1.1, a1.2.1, a1.2.2) a2).bind fun x1 =>
 some ((decide (x1.1 = 0)), (a1.1, x1.2.2.1, x1.2.2.2))

def S.CompareFacts_l1 (a1 : (Int × (List Int))) (a2 : (Int × (List Int))) : Nat → Int → Option (Sum Unit Int)
 | 0, _ => none
 | k + 1, x1 =>
  (if (decide (x1 < (List.length a1.2 : Int))) then
   some (decide (x1 < (List.length a2.2 : Int)))
  else
   some false).bind fun x2 =>
  if x2 then
   (idx a1.2 x1).bind fun x3 =>
   (idx a2.2 x1).bind fun x4 =>
   if (decide (x3 < x4)) then
    some (.inr (-1))
   else
    (idx a1.2 x1).bind fun x5 =>
    (idx a2.2 x1).bind fun x6 =>
    if (decide (x6 < x5)) then
     some (.inr 1)
    else
     S.CompareFacts_l1 a1 a2 k (w64 (x1 + 1))
  else
   some (.inl ())

def S.CompareFacts (a1 : (Int × (List Int))) (a2 : (Int × (List Int))) : Option Int :=
 if (!decide (a1.1 = a2.1)) then
  if (decide (a1.1 < a2.1)) then
   some (-1)
  else
   some 1
 else
  (S.CompareFacts_l1 a1 a2 FUEL (0 : Int)).bind fun o => match o with
   | .inl () =>
    if (decide ((List.length a1.2 : Int) < (List.length a2.2 : Int))) then
     some (-1)
    else
     if (decide ((List.length a2.2 : Int) < (List.length a1.2 : Int))) then
      some 1
     else
      some 0
   | .inr r => some r

def S.HasFact_l1 (a1 : (List (Int × (List Int)))) (a2 : (Int × (List Int))) : Nat → Int → Option (Sum Unit Bool)
 | 0, _ => none
 | k + 1, x1 =>
  if (decide (x1 < (List.length a1 : Int))) then
   (idx a1 x1).bind fun x2 =>
   (S.CompareFacts x2 (a2.1, a2.2)).bind fun x3 =>
   if (decide (x3 = 0)) then
    some (.inr true)
   else
    S.HasFact_l1 a1 a2 k (w64 (x1 + 1))
  else
   some (.inl ())

def S.HasFact (a1 : (List (Int × (List Int)))) (a2 : (Int × (List Int))) : Option Bool :=
 (S.HasFact_l1 a1 a2 FUEL (0 : Int)).bind fun o => match o with
  | .inl () =>
   some false
  | .inr r => some r

def S.l2One (a1 : Int) (a2 : (List Int)) : Option (Int × (List Int)) :=
 (app ([] : List Int) a2).bind fun x1 =>
 some (a1, x1)

def S.AddFact_l1 (a1 : (List (Int × (List Int)))) (a2 : (Int × (List Int))) : Nat → (List (Int × (List Int))) → Bool → Int → Option (((List (Int × (List Int))) × Bool))
 | 0, _, _, _ => none
 | k + 1, x2, x3, x4 =>
  if (decide (x4 < (List.length a1 : Int))) then
   (if (!x3) then
    (idx a1 x4).bind fun x8 =>
    (S.CompareFacts (a2.1, a2.2) x8).bind fun x9 =>
    some (decide (x9 < 0))
   else
    some false).bind fun x7 =>
   (if x7 then
    (S.l2One a2.1 a2.2).bind fun x12 =>
    (app x2 ([(x12.1, x12.2)])).bind fun x13 =>
    some (x13, true)
   else
    some (x2, x3)).bind fun (x10, x11) =>
   (idx a1 x4).bind fun x14 =>
   (idx a1 x4).bind fun x15 =>
   (S.l2One x14.1 x15.2).bind fun x16 =>
   (app x10 ([(x16.1, x16.2)])).bind fun x17 =>
   S.AddFact_l1 a1 a2 k x17 x11 (w64 (x4 + 1))
  else
   some (x2, x3)

def S.AddFact (a1 : (List (Int × (List Int)))) (a2 : (Int × (List Int))) : Option (List (Int × (List Int))) :=
 (S.HasFact a1 (a2.1, a2.2)).bind fun x1 =>
 (S.AddFact_l1 a1 a2 FUEL ([] : List (Int × (List Int))) x1 (0 : Int)).bind fun (x5, x6) =>
 (if (!x6) then
  (S.l2One a2.1 a2.2).bind fun x19 =>
  (app x5 ([(x19.1, x19.2)])).bind fun x20 =>
  some x20
 else
  some x5).bind fun x18 =>
 some x18

def S.l2Fact_l1 (a2 : (List Int)) (a1 : ((List UInt8) × Int × Int)) (a3 : Int) : Nat → Int → (List Int) → Int → Int → Int → Option ((Int × (List Int) × Int × Int))
 | 0, _, _, _, _, _ => none
 | k + 1, x2, x3, x4, x5, x6 =>
  (idx a2 x2).bind fun x11 =>
  if (decide (x6 < x11)) then
   (S.l1Below (a1.1, x4, x5) a3).bind fun x12 =>
   (app x3 ([x12.1])).bind fun x13 =>
   S.l2Fact_l1 a2 a1 a3 k x2 x13 x12.2.2.1 x12.2.2.2 (w64 (x6 + 1))
  else
   some (x2, x3, x4, x5)

def S.l2Fact (a1 : ((List UInt8) × Int × Int)) (a2 : (List Int)) (a3 : Int) : Option ((Int × (List Int)) × ((List UInt8) × Int × Int)) :=
 (S.l1Below (a1.1, a1.2.1, a1.2.2) (List.length a2 : Int)).bind fun x1 =>
 (S.l2Fact_l1 a2 a1 a3 FUEL x1.1 ([]) x1.2.2.1 x1.2.2.2 (0 : Int)).bind fun (x7, x8, x9, x10) =>
 some ((x7, x8), (a1.1, x9, x10))

def S.l2Facts_l1 (a1 : ((List UInt8) × Int × Int)) (a2 : (List Int)) : Nat → Int → Int → (List (Int × (List Int))) → Int → Option ((Int × Int × (List (Int × (List Int)))))
 | 0, _, _, _, _ => none
 | k + 1, x2, x3, x4, x5 =>
  if (decide (0 < x5)) then
   (S.l2Fact (a1.1, x2, x3) a2 4).bind fun x9 =>
   (S.AddFact x4 x9.1).bind fun x10 =>
   S.l2Facts_l1 a1 a2 k x9.2.2.1 x9.2.2.2 x10 (w64 (x5 - 1))
  else
   some (x2, x3, x4)

def S.l2Facts (a1 : ((List UInt8) × Int × Int)) (a2 : (List Int)) (a3 : Int) : Option ((List (Int × (List Int))) × ((List UInt8) × Int × Int)) :=
 (S.l1Below (a1.1, a1.2.1, a1.2.2) (w64 (a3 + 1))).bind fun x1 =>
 (S.l2Facts_l1 a1 a2 FUEL x1.2.2.1 x1.2.2.2 ([] : List (Int × (List Int))) x1.1).bind fun (x6, x7, x8) =>
 some (x8, (a1.1, x6, x7))

def S.l1PickInt (a1 : ((List UInt8) × Int × Int)) (a2 : (List Int)) : Option (Int × ((List UInt8) × Int × Int)) :=
 (S.l1Below (a1.1, a1.2.1, a1.2.2) (List.length a2 : Int)).bind fun x1 =>
 (idx a2 x1.1).bind fun x2 =>
 some (x2, (a1.1, x1.2.2.1, x1.2.2.2))

def S.l2AnyFact (a1 : ((List UInt8) × Int × Int)) (a2 : (List Int)) : Option ((Int × (List Int)) × ((List UInt8) × Int × Int)) :=
 (S.IsSchema a2).bind fun x1 =>
 (if x1 then
  (S.l2Fact (a1.1, a1.2.1, a1.2.2) a2 10).bind fun x6 =>
  some (x6.1.1, x6.1.2, x6.2.2.1, x6.2.2.2)
 else
  some ((0 : Int), [1], a1.2.1, a1.2.2)).bind fun (x2, x3, x4, x5) =>
 (S.l1Below (a1.1, x4, x5) 8).bind fun x7 =>
 (if (decide (x7.1 = 0)) then
  (S.l1Below (a1.1, x7.2.2.1, x7.2.2.2) 5).bind fun x12 =>
  some (x12.2.2.1, x12.2.2.2, w64 (x12.1 - 1), x3)
 else
  (if (decide (x7.1 = 1)) then
   ((S.l1PickInt (a1.1, x7.2.2.1, x7.2.2.2) ([(-1), 9, 10])).bind fun x20 =>
   (idx x3 0).bind fun x21 =>
   some ((List.set x3 (Int.toNat 0) x20.1), x20.2.2.1, x20.2.2.2)).bind fun (x17, x18, x19) =>
   some (x18, x19, x2, x17)
  else
   (if (decide (x7.1 = 2)) then
    (app x3 ([1])).bind fun x24 =>
    some (x2, x24)
   else
    some (x2, x3)).bind fun (x22, x23) =>
   some (x7.2.2.1, x7.2.2.2, x22, x23)).bind fun (x13, x14, x15, x16) =>
  some (x13, x14, x15, x16)).bind fun (x8, x9, x10, x11) =>
 some ((x10, x11), (a1.1, x8, x9))

def S.l2AnyFacts (a1 : ((List UInt8) × Int × Int)) (a2 : (List Int)) : Option ((List (Int × (List Int))) × ((List UInt8) × Int × Int)) :=
 (S.IsSchema a2).bind fun x1 =>
 (if x1 then
  (S.l2Facts (a1.1, a1.2.1, a1.2.2) a2 8).bind fun x5 =>
  some (x5.2.2.1, x5.2.2.2, x5.1)
 else
  some (a1.2.1, a1.2.2, ([] : List (Int × (List Int))))).bind fun (x2, x3, x4) =>
 (S.l1Once (a1.1, x2, x3) 10).bind fun x6 =>
 (if x6.1 then
  (S.l2AnyFact (a1.1, x6.2.2.1, x6.2.2.2) a2).bind fun x10 =>
  (app x4 ([(x10.1.1, x10.1.2)])).bind fun x11 =>
  some (x10.2.2.1, x10.2.2.2, x11)
 else
  some (x6.2.2.1, x6.2.2.2, x4)).bind fun (x7, x8, x9) =>
 some (x9, (a1.1, x7, x8))

def S.l2Schema_l1 (a1 : ((List UInt8) × Int × Int)) : Nat → Int → Int → (List Int) → Int → Option ((Int × Int × (List Int)))
 | 0, _, _, _, _ => none
 | k + 1, x2, x3, x4, x5 =>
  if (decide (0 < x5)) then
   (S.l1Below (a1.1, x2, x3) 2).bind fun x9 =>
   (S.l1Once (a1.1, x9.2.2.1, x9.2.2.2) 4).bind fun x10 =>
   (if x10.1 then
    some (3 : Int)
   else
    some (w64 (1 + x9.1))).bind fun x11 =>
   (app x4 ([x11])).bind fun x12 =>
   S.l2Schema_l1 a1 k x10.2.2.1 x10.2.2.2 x12 (w64 (x5 - 1))
  else
   some (x2, x3, x4)

def S.l2Schema (a1 : ((List UInt8) × Int × Int)) : Option ((List Int) × ((List UInt8) × Int × Int)) :=
 (S.l1Below (a1.1, a1.2.1, a1.2.2) 3).bind fun x1 =>
 (S.l2Schema_l1 a1 FUEL x1.2.2.1 x1.2.2.2 ([] : List Int) (w64 (1 + x1.1))).bind fun (x6, x7, x8) =>
 some (x8, (a1.1, x6, x7))

def S.l5Method_l1 (a2 : (List Int)) (a1 : ((List UInt8) × Int × Int)) : Nat → Int → (List Int) → Int → Int → Int → Int → Int → Int → Option ((Int × (List Int) × Int × Int × Int × Int × Int))
 | 0, _, _, _, _, _, _, _, _ => none
 | k + 1, x5, x6, x7, x8, x9, x10, x11, x12 =>
  (idx a2 x5).bind fun x20 =>
  if (decide (x12 < x20)) then
   (S.l1Once (a1.1, x10, x11) 3).bind fun x21 =>
   (if x21.1 then
    (app x6 ([x12])).bind fun x27 =>
    some (x5, x27, x7, x8, x9)
   else
    some (x5, x6, x7, x8, x9)).bind fun (x22, x23, x24, x25, x26) =>
   S.l5Method_l1 a2 a1 k x22 x23 x24 x25 x26 x21.2.2.1 x21.2.2.2 (w64 (x12 + 1))
  else
   some (x5, x6, x7, x8, x9, x10, x11)

def S.l5Method (a1 : ((List UInt8) × Int × Int)) (a2 : (List Int)) : Option ((Int × (List Int) × Int × Int × Int) × ((List UInt8) × Int × Int)) :=
 (S.l1Below (a1.1, a1.2.1, a1.2.2) (List.length a2 : Int)).bind fun x1 =>
 (S.l1PickInt (a1.1, x1.2.2.1, x1.2.2.2) ([0, 0, 0, 1, 2])).bind fun x2 =>
 (S.l1Below (a1.1, x2.2.2.1, x2.2.2.2) 5).bind fun x3 =>
 (S.l1Below (a1.1, x3.2.2.1, x3.2.2.2) 6).bind fun x4 =>
 (S.l5Method_l1 a2 a1 FUEL x1.1 ([]) x2.1 x3.1 (w64 (1 + x4.1)) x4.2.2.1 x4.2.2.2 (0 : Int)).bind fun (x13, x14, x15, x16, x17, x18, x19) =>
 some ((x13, x14, x15, x16, x17), (a1.1, x18, x19))

def S.l5Methods_l1 (a1 : ((List UInt8) × Int × Int)) (a2 : (List Int)) : Nat → Int → Int → (List (Int × (List Int) × Int × Int × Int)) → Int → Option ((Int × Int × (List (Int × (List Int) × Int × Int × Int))))
 | 0, _, _, _, _ => none
 | k + 1, x2, x3, x4, x5 =>
  if (decide (0 < x5)) then
   (S.l5Method (a1.1, x2, x3) a2).bind fun x9 =>
   (app x4 ([(x9.1.1, x9.1.2.1, x9.1.2.2.1, x9.1.2.2.2.1, x9.1.2.2.2.2)])).bind fun x10 =>
   S.l5Methods_l1 a1 a2 k x9.2.2.1 x9.2.2.2 x10 (w64 (x5 - 1))
  else
   some (x2, x3, x4)

def S.l5Methods (a1 : ((List UInt8) × Int × Int)) (a2 : (List Int)) : Option ((List (Int × (List Int) × Int × Int × Int)) × ((List UInt8) × Int × Int)) :=
 (S.l1Below (a1.1, a1.2.1, a1.2.2) 4).bind fun x1 =>
 (S.l5Methods_l1 a1 a2 FUEL x1.2.2.1 x1.2.2.2 ([] : List (Int × (List Int) × Int × Int × Int)) (w64 (1 + x1.1))).bind fun (x6, x7, x8) =>
 some (x8, (a1.1, x6, x7))

def S.l5AnyMethod (a1 : ((List UInt8) × Int × Int)) (a2 : (List Int)) : Option ((Int × (List Int) × Int × Int × Int) × ((List UInt8) × Int × Int)) :=
 (S.IsSchema a2).bind fun x1 =>
 (if x1 then
  (S.l5Method (a1.1, a1.2.1, a1.2.2) a2).bind fun x9 =>
  some (x9.1.1, x9.1.2.1, x9.1.2.2.1, x9.1.2.2.2.1, x9.1.2.2.2.2, x9.2.2.1, x9.2.2.2)
 else
  some ((0 : Int), [], (0 : Int), (0 : Int), (1 : Int), a1.2.1, a1.2.2)).bind fun (x2, x3, x4, x5, x6, x7, x8) =>
 (S.l1Below (a1.1, x7, x8) 10).bind fun x10 =>
 (if (decide (x10.1 = 0)) then
  (S.l1PickInt (a1.1, x10.2.2.1, x10.2.2.2) ([(-1), 9, 10])).bind fun x18 =>
  some (x18.2.2.1, x18.2.2.2, x2, x3, x18.1, x5, x6)
 else
  (if (decide (x10.1 = 1)) then
   ((S.l1Below (a1.1, x10.2.2.1, x10.2.2.2) 5).bind fun x33 =>
   (app x3 ([w64 (x33.1 - 1)])).bind fun x34 =>
   some (x33.2.2.1, x33.2.2.2, x2, x34, x4, x5, x6)).bind fun (x26, x27, x28, x29, x30, x31, x32) =>
   some (x26, x27, x28, x29, x30, x31, x32)
  else
   (if (decide (x10.1 = 2)) then
    (S.l1PickInt (a1.1, x10.2.2.1, x10.2.2.2) ([0, 99, 100])).bind fun x42 =>
    some (x42.2.2.1, x42.2.2.2, x2, x3, x4, x5, x42.1)
   else
    (if (decide (x10.1 = 3)) then
     (S.l1PickInt (a1.1, x10.2.2.1, x10.2.2.2) ([(-1), 99, 100])).bind fun x50 =>
     some (x50.2.2.1, x50.2.2.2, x2, x3, x4, x50.1, x6)
    else
     some (x10.2.2.1, x10.2.2.2, x2, x3, x4, x5, x6)).bind fun (x43, x44, x45, x46, x47, x48, x49) =>
    some (x43, x44, x45, x46, x47, x48, x49)).bind fun (x35, x36, x37, x38, x39, x40, x41) =>
   some (x35, x36, x37, x38, x39, x40, x41)).bind fun (x19, x20, x21, x22, x23, x24, x25) =>
  some (x19, x20, x21, x22, x23, x24, x25)).bind fun (x11, x12, x13, x14, x15, x16, x17) =>
 some ((x13, x14, x15, x16, x17), (a1.1, x11, x12))

def S.l2AnySchema (a1 : ((List UInt8) × Int × Int)) : Option ((List Int) × ((List UInt8) × Int × Int)) :=
 (S.l2Schema (a1.1, a1.2.1, a1.2.2)).bind fun x1 =>
 (S.l1Once (a1.1, x1.2.2.1, x1.2.2.2) 14).bind fun x2 =>
 (if x2.1 then
  (S.l1PickInt (a1.1, x2.2.2.1, x2.2.2.2) ([0, 1, 4])).bind fun x6 =>
  (app x1.1 ([x6.1])).bind fun x7 =>
  some (x6.2.2.1, x6.2.2.2, x7)
 else
  some (x2.2.2.1, x2.2.2.2, x1.1)).bind fun (x3, x4, x5) =>
 some (x5, (a1.1, x3, x4))

def S.l5Draw (a1 : ((List UInt8) × Int × Int)) : Option ((List Int) × (List (Int × (List Int) × Int × Int × Int)) × (List (Int × (List Int))) × ((List UInt8) × Int × Int)) :=
 (S.l2Schema (a1.1, a1.2.1, a1.2.2)).bind fun x1 =>
 (S.l5Methods (a1.1, x1.2.2.1, x1.2.2.2) x1.1).bind fun x2 =>
 (S.l2Facts (a1.1, x2.2.2.1, x2.2.2.2) x1.1 8).bind fun x3 =>
 (S.l1Below (a1.1, x3.2.2.1, x3.2.2.2) 20).bind fun x4 =>
 (if (decide (x4.1 = 0)) then
  (S.l5AnyMethod (a1.1, x4.2.2.1, x4.2.2.2) x1.1).bind fun x10 =>
  (app x2.1 ([(x10.1.1, x10.1.2.1, x10.1.2.2.1, x10.1.2.2.2.1, x10.1.2.2.2.2)])).bind fun x11 =>
  some (x10.2.2.1, x10.2.2.2, x1.1, x11, x3.1)
 else
  (if (decide (x4.1 = 1)) then
   (S.l2AnyFacts (a1.1, x4.2.2.1, x4.2.2.2) x1.1).bind fun x16 =>
   some (x16.2.2.1, x16.2.2.2, x1.1, x16.1)
  else
   (if (decide (x4.1 = 2)) then
    (S.l2AnySchema (a1.1, x4.2.2.1, x4.2.2.2)).bind fun x20 =>
    some (x20.2.2.1, x20.2.2.2, x20.1)
   else
    some (x4.2.2.1, x4.2.2.2, x1.1)).bind fun (x17, x18, x19) =>
   some (x17, x18, x19, x3.1)).bind fun (x12, x13, x14, x15) =>
  some (x12, x13, x14, x2.1, x15)).bind fun (x5, x6, x7, x8, x9) =>
 some (x7, x8, x9, (a1.1, x5, x6))

def S.l5Access_l1 (a2 : (List (Int × (List Int) × Int × Int × Int))) (a1 : ((List UInt8) × Int × Int)) : Nat → Int → (List Int) → Int → Int → Int → Option ((Int × (List Int) × Int × Int))
 | 0, _, _, _, _, _ => none
 | k + 1, x2, x3, x4, x5, x6 =>
  (idx a2 x2).bind fun x11 =>
  if (decide (x6 < (List.length x11.2.1 : Int))) then
   (S.l1Below (a1.1, x4, x5) 4).bind fun x12 =>
   (app x3 ([x12.1])).bind fun x13 =>
   S.l5Access_l1 a2 a1 k x2 x13 x12.2.2.1 x12.2.2.2 (w64 (x6 + 1))
  else
   some (x2, x3, x4, x5)

def S.l5Access (a1 : ((List UInt8) × Int × Int)) (a2 : (List (Int × (List Int) × Int × Int × Int))) : Option ((Int × (List Int)) × ((List UInt8) × Int × Int)) :=
 if (decide ((List.length a2 : Int) = 0)) then
  some ((0, []), (a1.1, a1.2.1, a1.2.2))
 else
  (S.l1Below (a1.1, a1.2.1, a1.2.2) (List.length a2 : Int)).bind fun x1 =>
  (S.l5Access_l1 a2 a1 FUEL x1.1 ([]) x1.2.2.1 x1.2.2.2 (0 : Int)).bind fun (x7, x8, x9, x10) =>
  some ((x7, x8), (a1.1, x9, x10))

def S.l5Fits_l1 (a1 : (Int × (List Int) × Int × Int × Int)) (a2 : (List Int)) (a3 : (Int × (List Int))) : Nat → Int → Option (Sum Unit Bool)
 | 0, _ => none
 | k + 1, x1 =>
  if (decide (x1 < (List.length a1.2.1 : Int))) then
   (idx a2 x1).bind fun x2 =>
   (idx a1.2.1 x1).bind fun x3 =>
   (idx a3.2 x3).bind fun x4 =>
   if (!decide (x4 = x2)) then
    some (.inr false)
   else
    S.l5Fits_l1 a1 a2 a3 k (w64 (x1 + 1))
  else
   some (.inl ())

def S.l5Fits (a1 : (Int × (List Int) × Int × Int × Int)) (a2 : (List Int)) (a3 : (Int × (List Int))) : Option Bool :=
 if (!decide (a3.1 = a1.1)) then
  some false
 else
  (S.l5Fits_l1 a1 a2 a3 FUEL (0 : Int)).bind fun o => match o with
   | .inl () =>
    some true
   | .inr r => some r

def S.l5Matches_l1 (a3 : (List (Int × (List Int)))) (a1 : (Int × (List Int) × Int × Int × Int)) (a2 : (List Int)) : Nat → (List (Int × (List Int))) → Int → Option ((List (Int × (List Int))))
 | 0, _, _ => none
 | k + 1, x1, x2 =>
  if (decide (x2 < (List.length a3 : Int))) then
   (idx a3 x2).bind fun x4 =>
   (S.l5Fits (a1.1, a1.2.1, a1.2.2.1, a1.2.2.2.1, a1.2.2.2.2) a2 x4).bind fun x5 =>
   (if x5 then
    (idx a3 x2).bind fun x7 =>
    (idx a3 x2).bind fun x8 =>
    (S.l2One x7.1 x8.2).bind fun x9 =>
    (app x1 ([(x9.1, x9.2)])).bind fun x10 =>
    some x10
   else
    some x1).bind fun x6 =>
   S.l5Matches_l1 a3 a1 a2 k x6 (w64 (x2 + 1))
  else
   some x1

def S.l5Matches (a1 : (Int × (List Int) × Int × Int × Int)) (a2 : (List Int)) (a3 : (List (Int × (List Int)))) : Option (List (Int × (List Int))) :=
 (S.l5Matches_l1 a3 a1 a2 FUEL ([] : List (Int × (List Int))) (0 : Int)).bind fun x3 =>
 some x3

def S.IsAccess_l1 (a3 : (Int × (List Int))) : Nat → Int → Option (Sum Unit Bool)
 | 0, _ => none
 | k + 1, x5 =>
  if (decide (x5 < (List.length a3.2 : Int))) then
   (idx a3.2 x5).bind fun x6 =>
   (S.l1In x6 0 9).bind fun x7 =>
   if (!x7) then
    some (.inr false)
   else
    S.IsAccess_l1 a3 k (w64 (x5 + 1))
  else
   some (.inl ())

def S.IsAccess (a1 : (List Int)) (a2 : (List (Int × (List Int) × Int × Int × Int))) (a3 : (Int × (List Int))) : Option Bool :=
 ((S.AreMethods a1 a2).bind fun x2 =>
 if (!x2) then
  some true
 else
  (S.l1In a3.1 0 (w64 ((List.length a2 : Int) - 1))).bind fun x3 =>
  if (!x3) then
   some true
  else
   (idx a2 a3.1).bind fun x4 =>
   some (!decide ((List.length a3.2 : Int) = (List.length x4.2.1 : Int)))).bind fun x1 =>
 if x1 then
  some false
 else
  (S.IsAccess_l1 a3 FUEL (0 : Int)).bind fun o => match o with
   | .inl () =>
    some true
   | .inr r => some r

def S.IsFact_l1 (a2 : (Int × (List Int))) : Nat → Int → Option (Sum Unit Bool)
 | 0, _ => none
 | k + 1, x5 =>
  if (decide (x5 < (List.length a2.2 : Int))) then
   (idx a2.2 x5).bind fun x6 =>
   (S.l1In x6 0 9).bind fun x7 =>
   if (!x7) then
    some (.inr false)
   else
    S.IsFact_l1 a2 k (w64 (x5 + 1))
  else
   some (.inl ())

def S.IsFact (a1 : (List Int)) (a2 : (Int × (List Int))) : Option Bool :=
 ((S.IsSchema a1).bind fun x2 =>
 if (!x2) then
  some true
 else
  (S.l1In a2.1 0 (w64 ((List.length a1 : Int) - 1))).bind fun x3 =>
  if (!x3) then
   some true
  else
   (idx a1 a2.1).bind fun x4 =>
   some (!decide ((List.length a2.2 : Int) = x4))).bind fun x1 =>
 if x1 then
  some false
 else
  (S.IsFact_l1 a2 FUEL (0 : Int)).bind fun o => match o with
   | .inl () =>
    some true
   | .inr r => some r

def S.AreFacts_l1 (a2 : (List (Int × (List Int)))) (a1 : (List Int)) : Nat → Int → Option (Sum Unit Bool)
 | 0, _ => none
 | k + 1, x1 =>
  if (decide (x1 < (List.length a2 : Int))) then
   ((idx a2 x1).bind fun x3 =>
   (S.IsFact a1 x3).bind fun x4 =>
   if (!x4) then
    some true
   else
    if (decide (0 < x1)) then
     (idx a2 (w64 (x1 - 1))).bind fun x5 =>
     (idx a2 x1).bind fun x6 =>
     (S.CompareFacts x5 x6).bind fun x7 =>
     some (decide (0 ≤ x7))
    else
     some false).bind fun x2 =>
   if x2 then
    some (.inr false)
   else
    S.AreFacts_l1 a2 a1 k (w64 (x1 + 1))
  else
   some (.inl ())

def S.AreFacts (a1 : (List Int)) (a2 : (List (Int × (List Int)))) : Option Bool :=
 (S.AreFacts_l1 a2 a1 FUEL (0 : Int)).bind fun o => match o with
  | .inl () =>
   ((S.IsSchema a1).bind fun x9 =>
   if x9 then
    some (decide ((List.length a2 : Int) ≤ 24))
   else
    some false).bind fun x8 =>
   some x8
  | .inr r => some r

def S.MatchesOf (a1 : (List Int)) (a2 : (List (Int × (List Int) × Int × Int × Int))) (a3 : (List (Int × (List Int)))) (a4 : (Int × (List Int))) : Option (List (Int × (List Int))) :=
 ((S.IsAccess a1 a2 (a4.1, a4.2)).bind fun x2 =>
 if (!x2) then
  some true
 else
  (S.AreFacts a1 a3).bind fun x3 =>
  some (!x3)).bind fun x1 =>
 if x1 then
  some ([] : List (Int × (List Int)))
 else
  (idx a2 a4.1).bind fun x4 =>
  (S.l5Matches x4 a4.2 a3).bind fun x5 =>
  some x5

def S.RespondTo_l1 (a2 : (List (Int × (List Int) × Int × Int × Int))) (a4 : (Int × (List Int))) (x1 : (List (Int × (List Int)))) (a5 : Int) : Nat → (List (Int × (List Int))) → Int → Option ((List (Int × (List Int))))
 | 0, _, _ => none
 | k + 1, x5, x6 =>
  (idx a2 a4.1).bind fun x8 =>
  if (decide (x6 < x8.2.2.1)) then
   (nz (List.length x1 : Int)).bind fun _ =>
   (idx x1 ((w64 (((if 0 > a5 then 0 else a5).tmod (List.length x1 : Int)) + x6)).tmod (List.length x1 : Int))).bind fun x9 =>
   (S.AddFact x5 x9).bind fun x10 =>
   S.RespondTo_l1 a2 a4 x1 a5 k x10 (w64 (x6 + 1))
  else
   some x5

def S.RespondTo (a1 : (List Int)) (a2 : (List (Int × (List Int) × Int × Int × Int))) (a3 : (List (Int × (List Int)))) (a4 : (Int × (List Int))) (a5 : Int) : Option (List (Int × (List Int))) :=
 (S.MatchesOf a1 a2 a3 (a4.1, a4.2)).bind fun x1 =>
 (if (decide ((List.length x1 : Int) = 0)) then
  some true
 else
  (idx a2 a4.1).bind fun x3 =>
  if (decide (x3.2.2.1 = 0)) then
   some true
  else
   (idx a2 a4.1).bind fun x4 =>
   some (decide ((List.length x1 : Int) ≤ x4.2.2.1))).bind fun x2 =>
 if x2 then
  some x1
 else
  (nz (List.length x1 : Int)).bind fun _ =>
  (S.RespondTo_l1 a2 a4 x1 a5 FUEL ([] : List (Int × (List Int))) (0 : Int)).bind fun x7 =>
  some x7

def S.l5AnyAccess (a1 : ((List UInt8) × Int × Int)) (a2 : (List (Int × (List Int) × Int × Int × Int))) : Option ((Int × (List Int)) × ((List UInt8) × Int × Int)) :=
 (S.l5Access (a1.1, a1.2.1, a1.2.2) a2).bind fun x1 =>
 (S.l1Below (a1.1, x1.2.2.1, x1.2.2.2) 12).bind fun x2 =>
 (if (decide (x2.1 = 0)) then
  (S.l1Below (a1.1, x2.2.2.1, x2.2.2.2) 7).bind fun x7 =>
  some (x7.2.2.1, x7.2.2.2, w64 (x7.1 - 1), x1.1.2)
 else
  (if (decide (x2.1 = 1)) then
   ((S.l1PickInt (a1.1, x2.2.2.1, x2.2.2.2) ([(-1), 3, 10])).bind fun x16 =>
   (app x1.1.2 ([x16.1])).bind fun x17 =>
   some (x16.2.2.1, x16.2.2.2, x1.1.1, x17)).bind fun (x12, x13, x14, x15) =>
   some (x12, x13, x14, x15)
  else
   some (x2.2.2.1, x2.2.2.2, x1.1.1, x1.1.2)).bind fun (x8, x9, x10, x11) =>
  some (x8, x9, x10, x11)).bind fun (x3, x4, x5, x6) =>
 some ((x5, x6), (a1.1, x3, x4))

def S.l28List_l1 (x1 : ((List Int) × (List (Int × (List Int) × Int × Int × Int)) × (List (Int × (List Int))) × ((List UInt8) × Int × Int))) (a1 : ((List UInt8) × Int × Int)) : Nat → Int → Int → (List ((Int × (List Int)) × (List (Int × (List Int))))) → Int → Option ((Int × Int × (List ((Int × (List Int)) × (List (Int × (List Int)))))))
 | 0, _, _, _, _ => none
 | k + 1, x3, x4, x5, x6 =>
  (if (decide (0 < x6)) then
   (S.AreMethods x1.1 x1.2.1).bind fun x11 =>
   some x11
  else
   some false).bind fun x10 =>
  if x10 then
   (S.l5Access (a1.1, x3, x4) x1.2.1).bind fun x12 =>
   (if (decide (0 < (List.length x1.2.2.1 : Int))) then
    (S.l1Once (a1.1, x12.2.2.1, x12.2.2.2) 6).bind fun x16 =>
    some (x16.2.2.1, x16.2.2.2, x16.1)
   else
    some (x12.2.2.1, x12.2.2.2, false)).bind fun (x13, x14, x15) =>
   if x15 then
    (sub x1.2.2.1 1 (List.length x1.2.2.1 : Int)).bind fun x17 =>
    ((S.l1Below (a1.1, x13, x14) 3).bind fun x21 =>
    (S.RespondTo x1.1 x1.2.1 x17 (x12.1.1, x12.1.2) x21.1).bind fun x22 =>
    (app x5 ([((x12.1.1, x12.1.2), x22)])).bind fun x23 =>
    some (x21.2.2.1, x21.2.2.2, x23)).bind fun (x18, x19, x20) =>
    S.l28List_l1 x1 a1 k x18 x19 x20 (w64 (x6 - 1))
   else
    ((S.l1Below (a1.1, x13, x14) 3).bind fun x27 =>
    (S.RespondTo x1.1 x1.2.1 x1.2.2.1 (x12.1.1, x12.1.2) x27.1).bind fun x28 =>
    (app x5 ([((x12.1.1, x12.1.2), x28)])).bind fun x29 =>
    some (x27.2.2.1, x27.2.2.2, x29)).bind fun (x24, x25, x26) =>
    S.l28List_l1 x1 a1 k x24 x25 x26 (w64 (x6 - 1))
  else
   some (x3, x4, x5)

def S.l28List (a1 : ((List UInt8) × Int × Int)) : Option ((List Int) × (List (Int × (List Int) × Int × Int × Int)) × (List (Int × (List Int))) × (List ((Int × (List Int)) × (List (Int × (List Int))))) × ((List UInt8) × Int × Int)) :=
 (S.l5Draw (a1.1, a1.2.1, a1.2.2)).bind fun x1 =>
 (S.l1Below (a1.1, x1.2.2.2.2.1, x1.2.2.2.2.2) 5).bind fun x2 =>
 (S.l28List_l1 x1 a1 FUEL x2.2.2.1 x2.2.2.2 ([] : List ((Int × (List Int)) × (List (Int × (List Int))))) x2.1).bind fun (x7, x8, x9) =>
 (S.l1Once (a1.1, x7, x8) 10).bind fun x30 =>
 (if x30.1 then
  (S.l5AnyAccess (a1.1, x30.2.2.1, x30.2.2.2) x1.2.1).bind fun x34 =>
  (S.l2AnyFacts (a1.1, x34.2.2.1, x34.2.2.2) x1.1).bind fun x35 =>
  (app x9 ([((x34.1.1, x34.1.2), x35.1)])).bind fun x36 =>
  some (x35.2.2.1, x35.2.2.2, x36)
 else
  some (x30.2.2.1, x30.2.2.2, x9)).bind fun (x31, x32, x33) =>
 some (x1.1, x1.2.1, x1.2.2.1, x33, (a1.1, x31, x32))

def S.l1New_l1 (a1 : (List UInt8)) : Nat → Int → Int → Option (Int)
 | 0, _, _ => none
 | k + 1, x1, x2 =>
  (if (decide (x2 < (List.length a1 : Int))) then
   some (decide (x2 < 4000))
  else
   some false).bind fun x4 =>
  if x4 then
   (idx a1 x2).bind fun x5 =>
   S.l1New_l1 a1 k (band (w64 ((w64 ((w64 (x1 * 131)) + (w64 (UInt8.toNat x5 : Int)))) + 7)) 1073741823) (w64 (x2 + 1))
  else
   some x1

def S.l1New (a1 : (List UInt8)) : Option ((List UInt8) × Int × Int) :=
 (S.l1New_l1 a1 FUEL (w64 (10101 + (List.length a1 : Int))) (0 : Int)).bind fun x3 =>
 some (a1, 0, x3)

def S.DrawFirstConflict (a1 : (List UInt8)) : Option ((List Int) × (List (Int × (List Int) × Int × Int × Int)) × (List ((Int × (List Int)) × (List (Int × (List Int)))))) :=
 (S.l1New a1).bind fun x1 =>
 (S.l28List (a1, x1.2.1, x1.2.2)).bind fun x2 =>
 some (x2.1, x2.2.1, x2.2.2.2.1)

def M.within (a1 : Int) (a2 : Int) (a3 : Int) : Option Bool :=
 (if (decide (a2 ≤ a1)) then
  some (decide (a1 ≤ a3))
 else
  some false).bind fun x1 =>
 some x1

def M.IsSchema_c1 (a1 : Int) : Option Bool :=
 (M.within a1 1 3).bind fun x1 =>
 some (!x1)

def Slices.IndexFunc_Lint_int_M_IsSchema_c1_l1 (a1 : (List Int)) : Nat → Int → Option (Sum Unit Int)
 | 0, _ => none
 | k + 1, x1 =>
  if (decide (x1 < (List.length a1 : Int))) then
   (idx a1 x1).bind fun x2 =>
   (M.IsSchema_c1 x2).bind fun x3 =>
   if x3 then
    some (.inr x1)
   else
    Slices.IndexFunc_Lint_int_M_IsSchema_c1_l1 a1 k (w64 (x1 + 1))
  else
   some (.inl ())

def Slices.IndexFunc_Lint_int_M_IsSchema_c1 (a1 : (List Int)) : Option Int :=
 (Slices.IndexFunc_Lint_int_M_IsSchema_c1_l1 a1 FUEL (0 : Int)).bind fun o => match o with
  | .inl () =>
   some (-1)
  | .inr r => some r

def Slices.ContainsFunc_Lint_int_M_IsSchema_c1 (a1 : (List Int)) : Option Bool :=
 (Slices.IndexFunc_Lint_int_M_IsSchema_c1 a1).bind fun x1 =>
 some (decide (0 ≤ x1))

def M.IsSchema (a1 : (List Int)) : Option Bool :=
 ((M.within (List.length a1 : Int) 1 3).bind fun x2 =>
 if x2 then
  (Slices.ContainsFunc_Lint_int_M_IsSchema_c1 a1).bind fun x3 =>
  some (!x3)
 else
  some false).bind fun x1 =>
 some x1

def M.hasRel (a1 : (List Int)) (a2 : Int) : Option Bool :=
 ((M.IsSchema a1).bind fun x2 =>
 if x2 then
  (M.within a2 0 (w64 ((List.length a1 : Int) - 1))).bind fun x3 =>
  some x3
 else
  some false).bind fun x1 =>
 some x1

def M.ascending_l1 (a1 : (List Int)) : Nat → Int → Option (Sum Unit Bool)
 | 0, _ => none
 | k + 1, x1 =>
  if (decide (x1 < (List.length a1 : Int))) then
   (if (decide (0 < x1)) then
    (idx a1 x1).bind fun x3 =>
    (idx a1 (w64 (x1 - 1))).bind fun x4 =>
    some (decide (x3 ≤ x4))
   else
    some false).bind fun x2 =>
   if x2 then
    some (.inr false)
   else
    M.ascending_l1 a1 k (w64 (x1 + 1))
  else
   some (.inl ())

def M.ascending (a1 : (List Int)) : Option Bool :=
 (M.ascending_l1 a1 FUEL (0 : Int)).bind fun o => match o with
  | .inl () =>
   some true
  | .inr r => some r

def M.Method_fits_c1 (a1 : Int) (ax1 : Int) : Option Bool :=
 (M.within a1 0 (w64 (ax1 - 1))).bind fun x1 =>
 some (!x1)

def M.isCost (a1 : Int) : Option Bool :=
 (M.within a1 0 99).bind fun x1 =>
 some x1

def Slices.IndexFunc_Lint_int_M_Method_fits_c1_l1 (a1 : (List Int)) (ax1 : Int) : Nat → Int → Option (Sum Unit Int)
 | 0, _ => none
 | k + 1, x1 =>
  if (decide (x1 < (List.length a1 : Int))) then
   (idx a1 x1).bind fun x2 =>
   (M.Method_fits_c1 x2 ax1).bind fun x3 =>
   if x3 then
    some (.inr x1)
   else
    Slices.IndexFunc_Lint_int_M_Method_fits_c1_l1 a1 ax1 k (w64 (x1 + 1))
  else
   some (.inl ())

def Slices.IndexFunc_Lint_int_M_Method_fits_c1 (a1 : (List Int)) (ax1 : Int) : Option Int :=
 (Slices.IndexFunc_Lint_int_M_Method_fits_c1_l1 a1 ax1 FUEL (0 : Int)).bind fun o => match o with
  | .inl () =>
   some (-1)
  | .inr r => some r

def Slices.ContainsFunc_Lint_int_M_Method_fits_c1 (a1 : (List Int)) (ax1 : Int) : Option Bool :=
 (Slices.IndexFunc_Lint_int_M_Method_fits_c1 a1 ax1).bind fun x1 =>
 some (decide (0 ≤ x1))

def M.Method_fits (a1 : (Int × (List Int) × Int × Int × Int)) (a2 : Int) : Option Bool :=
 ((M.ascending a1.2.1).bind fun x2 =>
 if x2 then
  (Slices.ContainsFunc_Lint_int_M_Method_fits_c1 a1.2.1 a2).bind fun x3 =>
  if (!x3) then
   (M.within a1.2.2.1 0 9).bind fun x4 =>
   if x4 then
    (M.isCost a1.2.2.2.1).bind fun x5 =>
    if x5 then
     (M.within a1.2.2.2.2 1 99).bind fun x6 =>
     some x6
    else
     some false
   else
    some false
  else
   some false
 else
  some false).bind fun x1 =>
 some x1

def M.IsMethod (a1 : (List Int)) (a2 : (Int × (List Int) × Int × Int × Int)) : Option Bool :=
 ((M.hasRel a1 a2.1).bind fun x2 =>
 if x2 then
  (idx a1 a2.1).bind fun x3 =>
  (M.Method_fits (a2.1, a2.2.1, a2.2.2.1, a2.2.2.2.1, a2.2.2.2.2) x3).bind fun x4 =>
  some x4
 else
  some false).bind fun x1 =>
 some x1

def M.AreMethods_c1 (a1 : (Int × (List Int) × Int × Int × Int)) (ax1 : (List Int)) : Option Bool :=
 (M.IsMethod ax1 (a1.1, a1.2.1, a1.2.2.1, a1.2.2.2.1, a1.2.2.2.2)).bind fun x1 =>
 some (!x1)

def Slices.IndexFunc_Limpl_Method_impl_Method_M_AreMethods_c1_l1 (a1 : (List (Int × (List Int) × Int × Int × Int))) (ax1 : (List Int)) : Nat → Int → Option (Sum Unit Int)
 | 0, _ => none
 | k + 1, x1 =>
  if (decide (x1 < (List.length a1 : Int))) then
   (idx a1 x1).bind fun x2 =>
   (M.AreMethods_c1 x2 ax1).bind fun x3 =>
   if x3 then
    some (.inr x1)
   else
    Slices.IndexFunc_Limpl_Method_impl_Method_M_AreMethods_c1_l1 a1 ax1 k (w64 (x1 + 1))
  else
   some (.inl ())

def Slices.IndexFunc_Limpl_Method_impl_Method_M_AreMethods_c1 (a1 : (List (Int × (List Int) × Int × Int × Int))) (ax1 : (List Int)) : Option Int :=
 (Slices.IndexFunc_Limpl_Method_impl_Method_M_AreMethods_c1_l1 a1 ax1 FUEL (0 : Int)).bind fun o => match o with
  | .inl () =>
   some (-1)
  | .inr r => some r

def Slices.ContainsFunc_Limpl_Method_impl_Method_M_AreMethods_c1 (a1 : (List (Int × (List Int) × Int × Int × Int))) (ax1 : (List Int)) : Option Bool :=
 (Slices.IndexFunc_Limpl_Method_impl_Method_M_AreMethods_c1 a1 ax1).bind fun x1 =>
 some (decide (0 ≤ x1))

def M.AreMethods (a1 : (List Int)) (a2 : (List (Int × (List Int) × Int × Int × Int))) : Option Bool :=
 ((M.IsSchema a1).bind fun x2 =>
 if x2 then
  if (decide ((List.length a2 : Int) ≤ 5)) then
   (Slices.ContainsFunc_Limpl_Method_impl_Method_M_AreMethods_c1 a2 a1).bind fun x3 =>
   some (!x3)
  else
   some false
 else
  some false).bind fun x1 =>
 some x1

def M.isValue (a1 : Int) : Option Bool :=
 (M.within a1 0 9).bind fun x1 =>
 some x1

def M.areValues_c1 (a1 : Int) : Option Bool :=
 (M.isValue a1).bind fun x1 =>
 some (!x1)

def Slices.IndexFunc_Lint_int_M_areValues_c1_l1 (a1 : (List Int)) : Nat → Int → Option (Sum Unit Int)
 | 0, _ => none
 | k + 1, x1 =>
  if (decide (x1 < (List.length a1 : Int))) then
   (idx a1 x1).bind fun x2 =>
   (M.areValues_c1 x2).bind fun x3 =>
   if x3 then
    some (.inr x1)
   else
    Slices.IndexFunc_Lint_int_M_areValues_c1_l1 a1 k (w64 (x1 + 1))
  else
   some (.inl ())

def Slices.IndexFunc_Lint_int_M_areValues_c1 (a1 : (List Int)) : Option Int :=
 (Slices.IndexFunc_Lint_int_M_areValues_c1_l1 a1 FUEL (0 : Int)).bind fun o => match o with
  | .inl () =>
   some (-1)
  | .inr r => some r

def Slices.ContainsFunc_Lint_int_M_areValues_c1 (a1 : (List Int)) : Option Bool :=
 (Slices.IndexFunc_Lint_int_M_areValues_c1 a1).bind fun x1 =>
 some (decide (0 ≤ x1))

def M.areValues (a1 : (List Int)) : Option Bool :=
 (Slices.ContainsFunc_Lint_int_M_areValues_c1 a1).bind fun x1 =>
 some (!x1)

def M.IsAccess (a1 : (List Int)) (a2 : (List (Int × (List Int) × Int × Int × Int))) (a3 : (Int × (List Int))) : Option Bool :=
 ((M.AreMethods a1 a2).bind fun x2 =>
 if x2 then
  (M.within a3.1 0 (w64 ((List.length a2 : Int) - 1))).bind fun x3 =>
  if x3 then
   (idx a2 a3.1).bind fun x4 =>
   if (decide ((List.length a3.2 : Int) = (List.length x4.2.1 : Int))) then
    (M.areValues a3.2).bind fun x5 =>
    some x5
   else
    some false
  else
   some false
 else
  some false).bind fun x1 =>
 some x1

def Cmp.Or_int_l1 (a1 : (List Int)) : Nat → Int → Option (Sum Unit Int)
 | 0, _ => none
 | k + 1, x1 =>
  if (decide (x1 < (List.length a1 : Int))) then
   (idx a1 x1).bind fun x2 =>
   if (!decide (x2 = 0)) then
    some (.inr x2)
   else
    Cmp.Or_int_l1 a1 k (w64 (x1 + 1))
  else
   some (.inl ())

def Cmp.Or_int (a1 : (List Int)) : Option Int :=
 (Cmp.Or_int_l1 a1 FUEL (0 : Int)).bind fun o => match o with
  | .inl () =>
   some 0
  | .inr r => some r

def Cmp.isNaN_int (a1 : Int) : Option Bool :=
 some (!decide (a1 = a1))

def Cmp.Compare_int (a1 : Int) (a2 : Int) : Option Int :=
 (Cmp.isNaN_int a1).bind fun x1 =>
 (Cmp.isNaN_int a2).bind fun x2 =>
 if x1 then
  if x2 then
   some 0
  else
   some (-1)
 else
  if x2 then
   some 1
  else
   if (decide (a1 < a2)) then
    some (-1)
   else
    if (decide (a2 < a1)) then
     some 1
    else
     some 0

def Slices.Compare_Lint_int_l1 (a1 : (List Int)) (a2 : (List Int)) : Nat → Int → Option (Sum Unit Int)
 | 0, _ => none
 | k + 1, x1 =>
  if (decide (x1 < (List.length a1 : Int))) then
   (idx a1 x1).bind fun x2 =>
   if (decide ((List.length a2 : Int) ≤ x1)) then
    some (.inr 1)
   else
    (idx a2 x1).bind fun x3 =>
    (Cmp.Compare_int x2 x3).bind fun x4 =>
    if (!decide (x4 = 0)) then
     some (.inr x4)
    else
     Slices.Compare_Lint_int_l1 a1 a2 k (w64 (x1 + 1))
  else
   some (.inl ())

def Slices.Compare_Lint_int (a1 : (List Int)) (a2 : (List Int)) : Option Int :=
 (Slices.Compare_Lint_int_l1 a1 a2 FUEL (0 : Int)).bind fun o => match o with
  | .inl () =>
   if (decide ((List.length a1 : Int) < (List.length a2 : Int))) then
    some (-1)
   else
    some 0
  | .inr r => some r

def M.CompareFacts (a1 : (Int × (List Int))) (a2 : (Int × (List Int))) : Option Int :=
 (Cmp.Compare_int a1.1 a2.1).bind fun x1 =>
 (Slices.Compare_Lint_int a1.2 a2.2).bind fun x2 =>
 (Cmp.Or_int ([x1, x2])).bind fun x3 =>
 some x3

def M.IsFact (a1 : (List Int)) (a2 : (Int × (List Int))) : Option Bool :=
 ((M.hasRel a1 a2.1).bind fun x2 =>
 if x2 then
  (idx a1 a2.1).bind fun x3 =>
  if (decide ((List.length a2.2 : Int) = x3)) then
   (M.areValues a2.2).bind fun x4 =>
   some x4
  else
   some false
 else
  some false).bind fun x1 =>
 some x1

def M.AreFacts_l1 (a2 : (List (Int × (List Int)))) (a1 : (List Int)) : Nat → Int → Option (Sum Unit Bool)
 | 0, _ => none
 | k + 1, x1 =>
  if (decide (x1 < (List.length a2 : Int))) then
   (idx a2 x1).bind fun x2 =>
   ((M.IsFact a1 (x2.1, x2.2)).bind fun x4 =>
   if (!x4) then
    some true
   else
    if (decide (0 < x1)) then
     (idx a2 (w64 (x1 - 1))).bind fun x5 =>
     (M.CompareFacts x5 (x2.1, x2.2)).bind fun x6 =>
     some (decide (0 ≤ x6))
    else
     some false).bind fun x3 =>
   if x3 then
    some (.inr false)
   else
    M.AreFacts_l1 a2 a1 k (w64 (x1 + 1))
  else
   some (.inl ())

def M.AreFacts (a1 : (List Int)) (a2 : (List (Int × (List Int)))) : Option Bool :=
 (M.AreFacts_l1 a2 a1 FUEL (0 : Int)).bind fun o => match o with
  | .inl () =>
   ((M.IsSchema a1).bind fun x8 =>
   if x8 then
    some (decide ((List.length a2 : Int) ≤ 24))
   else
    some false).bind fun x7 =>
   some x7
  | .inr r => some r

def M.IsTold (a1 : (List Int)) (a2 : (List (Int × (List Int) × Int × Int × Int))) (a3 : ((Int × (List Int)) × (List (Int × (List Int))))) : Option Bool :=
 ((M.IsAccess a1 a2 (a3.1.1, a3.1.2)).bind fun x2 =>
 if x2 then
  (M.AreFacts a1 a3.2).bind fun x3 =>
  some x3
 else
  some false).bind fun x1 =>
 some x1

def Slices.Clone_Lint_int (a1 : (List Int)) : Option (List Int) :=
 (app ([] : List Int) a1).bind fun x1 =>
 some x1

def M.copyFact (a1 : (Int × (List Int))) : Option (Int × (List Int)) :=
 (Slices.Clone_Lint_int a1.2).bind fun x1 =>
 some (a1.1, x1)

def M.copyFacts_l1 (a1 : (List (Int × (List Int)))) : Nat → (List (Int × (List Int))) → Int → Option ((List (Int × (List Int))))
 | 0, _, _ => none
 | k + 1, x1, x2 =>
  if (decide (x2 < (List.length a1 : Int))) then
   (idx a1 x2).bind fun x4 =>
   (M.copyFact (x4.1, x4.2)).bind fun x5 =>
   (app x1 ([(x5.1, x5.2)])).bind fun x6 =>
   M.copyFacts_l1 a1 k x6 (w64 (x2 + 1))
  else
   some x1

def M.copyFacts (a1 : (List (Int × (List Int)))) : Option (List (Int × (List Int))) :=
 (M.copyFacts_l1 a1 FUEL ([] : List (Int × (List Int))) (0 : Int)).bind fun x3 =>
 some x3

def M.matches_c1_l1 (ax1 : (Int × (List Int) × Int × Int × Int)) (a1 : (Int × (List Int))) (ax2 : (Int × (List Int))) : Nat → Int → Option (Sum Unit Bool)
 | 0, _ => none
 | k + 1, x1 =>
  if (decide (x1 < (List.length ax1.2.1 : Int))) then
   (idx ax1.2.1 x1).bind fun x2 =>
   (idx a1.2 x2).bind fun x3 =>
   (idx ax2.2 x1).bind fun x4 =>
   if (!decide (x3 = x4)) then
    some (.inr true)
   else
    M.matches_c1_l1 ax1 a1 ax2 k (w64 (x1 + 1))
  else
   some (.inl ())

def M.matches_c1 (a1 : (Int × (List Int))) (ax1 : (Int × (List Int) × Int × Int × Int)) (ax2 : (Int × (List Int))) : Option Bool :=
 if (!decide (a1.1 = ax1.1)) then
  some true
 else
  (M.matches_c1_l1 ax1 a1 ax2 FUEL (0 : Int)).bind fun o => match o with
   | .inl () =>
    some false
   | .inr r => some r

def Slices.IndexFunc_Limpl_Fact_impl_Fact_M_matches_c1_l1 (a1 : (List (Int × (List Int)))) (ax1 : (Int × (List Int) × Int × Int × Int)) (ax2 : (Int × (List Int))) : Nat → Int → Option (Sum Unit Int)
 | 0, _ => none
 | k + 1, x1 =>
  if (decide (x1 < (List.length a1 : Int))) then
   (idx a1 x1).bind fun x2 =>
   (M.matches_c1 x2 ax1 ax2).bind fun x3 =>
   if x3 then
    some (.inr x1)
   else
    Slices.IndexFunc_Limpl_Fact_impl_Fact_M_matches_c1_l1 a1 ax1 ax2 k (w64 (x1 + 1))
  else
   some (.inl ())

def Slices.IndexFunc_Limpl_Fact_impl_Fact_M_matches_c1 (a1 : (List (Int × (List Int)))) (ax1 : (Int × (List Int) × Int × Int × Int)) (ax2 : (Int × (List Int))) : Option Int :=
 (Slices.IndexFunc_Limpl_Fact_impl_Fact_M_matches_c1_l1 a1 ax1 ax2 FUEL (0 : Int)).bind fun o => match o with
  | .inl () =>
   some (-1)
  | .inr r => some r

def Slices.DeleteFunc_Limpl_Fact_impl_Fact_M_matches_c1 (a1 : (List (Int × (List Int)))) (ax1 : (Int × (List Int) × Int × Int × Int)) (ax2 : (Int × (List Int))) : Option (List (Int × (List Int))) :=
 (Slices.IndexFunc_Limpl_Fact_impl_Fact_M_matches_c1 a1 ax1 ax2).bind fun x =>
 if x = -1 then some a1 else if 0 ≤ x ∧ x < (a1.length : Int) then dfl (fun e => M.matches_c1 e ax1 ax2) (a1.take x.toNat) (a1.drop (x.toNat + 1)) else none

def M.matches (a1 : (List (Int × (List Int) × Int × Int × Int))) (a2 : (List (Int × (List Int)))) (a3 : (Int × (List Int))) : Option (List (Int × (List Int))) :=
 (idx a1 a3.1).bind fun x1 =>
 (M.copyFacts a2).bind fun x2 =>
 (Slices.DeleteFunc_Limpl_Fact_impl_Fact_M_matches_c1 x2 (x1.1, x1.2.1, x1.2.2.1, x1.2.2.2.1, x1.2.2.2.2) (a3.1, a3.2)).bind fun x3 =>
 some x3

def M.FitsSelf (a1 : (List Int)) (a2 : (List (Int × (List Int) × Int × Int × Int))) (a3 : ((Int × (List Int)) × (List (Int × (List Int))))) : Option Bool :=
 (M.IsTold a1 a2 ((a3.1.1, a3.1.2), a3.2)).bind fun x1 =>
 if (!x1) then
  some false
 else
  (idx a2 a3.1.1).bind fun x2 =>
  ((M.matches a2 a3.2 (a3.1.1, a3.1.2)).bind fun x4 =>
  if (decide ((List.length x4 : Int) = (List.length a3.2 : Int))) then
   if (decide (x2.2.2.1 = 0)) then
    some true
   else
    some (decide ((List.length a3.2 : Int) ≤ x2.2.2.1))
  else
   some false).bind fun x3 =>
  some x3

def M.HasFact_c1 (a1 : (Int × (List Int))) (ax1 : (Int × (List Int))) : Option Bool :=
 (M.CompareFacts (a1.1, a1.2) ax1).bind fun x1 =>
 some (decide (x1 = 0))

def Slices.IndexFunc_Limpl_Fact_impl_Fact_M_HasFact_c1_l1 (a1 : (List (Int × (List Int)))) (ax1 : (Int × (List Int))) : Nat → Int → Option (Sum Unit Int)
 | 0, _ => none
 | k + 1, x1 =>
  if (decide (x1 < (List.length a1 : Int))) then
   (idx a1 x1).bind fun x2 =>
   (M.HasFact_c1 x2 ax1).bind fun x3 =>
   if x3 then
    some (.inr x1)
   else
    Slices.IndexFunc_Limpl_Fact_impl_Fact_M_HasFact_c1_l1 a1 ax1 k (w64 (x1 + 1))
  else
   some (.inl ())

def Slices.IndexFunc_Limpl_Fact_impl_Fact_M_HasFact_c1 (a1 : (List (Int × (List Int)))) (ax1 : (Int × (List Int))) : Option Int :=
 (Slices.IndexFunc_Limpl_Fact_impl_Fact_M_HasFact_c1_l1 a1 ax1 FUEL (0 : Int)).bind fun o => match o with
  | .inl () =>
   some (-1)
  | .inr r => some r

def Slices.ContainsFunc_Limpl_Fact_impl_Fact_M_HasFact_c1 (a1 : (List (Int × (List Int)))) (ax1 : (Int × (List Int))) : Option Bool :=
 (Slices.IndexFunc_Limpl_Fact_impl_Fact_M_HasFact_c1 a1 ax1).bind fun x1 =>
 some (decide (0 ≤ x1))

def M.HasFact (a1 : (List (Int × (List Int)))) (a2 : (Int × (List Int))) : Option Bool :=
 (Slices.ContainsFunc_Limpl_Fact_impl_Fact_M_HasFact_c1 a1 (a2.1, a2.2)).bind fun x1 =>
 some x1

def M.Told_denies (a1 : ((Int × (List Int)) × (List (Int × (List Int))))) (a2 : (List (Int × (List Int) × Int × Int × Int))) (a3 : (Int × (List Int))) : Option Bool :=
 (idx a2 a1.1.1).bind fun x1 =>
 ((M.matches a2 ([(a3.1, a3.2)] : List (Int × (List Int))) (a1.1.1, a1.1.2)).bind fun x3 =>
 if (decide (0 < (List.length x3 : Int))) then
  (M.HasFact a1.2 (a3.1, a3.2)).bind fun x4 =>
  if (!x4) then
   if (decide (x1.2.2.1 = 0)) then
    some true
   else
    some (decide ((List.length a1.2 : Int) < x1.2.2.1))
  else
   some false
 else
  some false).bind fun x2 =>
 some x2

def M.Disagree_c1 (a1 : (Int × (List Int))) (ax1 : ((Int × (List Int)) × (List (Int × (List Int))))) (ax2 : (List (Int × (List Int) × Int × Int × Int))) : Option Bool :=
 (M.Told_denies ax1 ax2 (a1.1, a1.2)).bind fun x1 =>
 some x1

def M.Disagree_c2 (a1 : (Int × (List Int))) (ax1 : ((Int × (List Int)) × (List (Int × (List Int))))) (ax2 : (List (Int × (List Int) × Int × Int × Int))) : Option Bool :=
 (M.Told_denies ax1 ax2 (a1.1, a1.2)).bind fun x1 =>
 some x1

def Slices.IndexFunc_Limpl_Fact_impl_Fact_M_Disagree_c1_l1 (a1 : (List (Int × (List Int)))) (ax1 : ((Int × (List Int)) × (List (Int × (List Int))))) (ax2 : (List (Int × (List Int) × Int × Int × Int))) : Nat → Int → Option (Sum Unit Int)
 | 0, _ => none
 | k + 1, x1 =>
  if (decide (x1 < (List.length a1 : Int))) then
   (idx a1 x1).bind fun x2 =>
   (M.Disagree_c1 x2 ax1 ax2).bind fun x3 =>
   if x3 then
    some (.inr x1)
   else
    Slices.IndexFunc_Limpl_Fact_impl_Fact_M_Disagree_c1_l1 a1 ax1 ax2 k (w64 (x1 + 1))
  else
   some (.inl ())

def Slices.IndexFunc_Limpl_Fact_impl_Fact_M_Disagree_c1 (a1 : (List (Int × (List Int)))) (ax1 : ((Int × (List Int)) × (List (Int × (List Int))))) (ax2 : (List (Int × (List Int) × Int × Int × Int))) : Option Int :=
 (Slices.IndexFunc_Limpl_Fact_impl_Fact_M_Disagree_c1_l1 a1 ax1 ax2 FUEL (0 : Int)).bind fun o => match o with
  | .inl () =>
   some (-1)
  | .inr r => some r

def Slices.ContainsFunc_Limpl_Fact_impl_Fact_M_Disagree_c1 (a1 : (List (Int × (List Int)))) (ax1 : ((Int × (List Int)) × (List (Int × (List Int))))) (ax2 : (List (Int × (List Int) × Int × Int × Int))) : Option Bool :=
 (Slices.IndexFunc_Limpl_Fact_impl_Fact_M_Disagree_c1 a1 ax1 ax2).bind fun x1 =>
 some (decide (0 ≤ x1))

def Slices.IndexFunc_Limpl_Fact_impl_Fact_M_Disagree_c2_l1 (a1 : (List (Int × (List Int)))) (ax1 : ((Int × (List Int)) × (List (Int × (List Int))))) (ax2 : (List (Int × (List Int) × Int × Int × Int))) : Nat → Int → Option (Sum Unit Int)
 | 0, _ => none
 | k + 1, x1 =>
  if (decide (x1 < (List.length a1 : Int))) then
   (idx a1 x1).bind fun x2 =>
   (M.Disagree_c2 x2 ax1 ax2).bind fun x3 =>
   if x3 then
    some (.inr x1)
   else
    Slices.IndexFunc_Limpl_Fact_impl_Fact_M_Disagree_c2_l1 a1 ax1 ax2 k (w64 (x1 + 1))
  else
   some (.inl ())

def Slices.IndexFunc_Limpl_Fact_impl_Fact_M_Disagree_c2 (a1 : (List (Int × (List Int)))) (ax1 : ((Int × (List Int)) × (List (Int × (List Int))))) (ax2 : (List (Int × (List Int) × Int × Int × Int))) : Option Int :=
 (Slices.IndexFunc_Limpl_Fact_impl_Fact_M_Disagree_c2_l1 a1 ax1 ax2 FUEL (0 : Int)).bind fun o => match o with
  | .inl () =>
   some (-1)
  | .inr r => some r

def Slices.ContainsFunc_Limpl_Fact_impl_Fact_M_Disagree_c2 (a1 : (List (Int × (List Int)))) (ax1 : ((Int × (List Int)) × (List (Int × (List Int))))) (ax2 : (List (Int × (List Int) × Int × Int × Int))) : Option Bool :=
 (Slices.IndexFunc_Limpl_Fact_impl_Fact_M_Disagree_c2 a1 ax1 ax2).bind fun x1 =>
 some (decide (0 ≤ x1))

def M.Disagree (a1 : (List Int)) (a2 : (List (Int × (List Int) × Int × Int × Int))) (a3 : ((Int × (List Int)) × (List (Int × (List Int))))) (a4 : ((Int × (List Int)) × (List (Int × (List Int))))) : Option Bool :=
 ((M.FitsSelf a1 a2 ((a3.1.1, a3.1.2), a3.2)).bind fun x2 =>
 if x2 then
  (M.FitsSelf a1 a2 ((a4.1.1, a4.1.2), a4.2)).bind fun x3 =>
  if x3 then
   (Slices.ContainsFunc_Limpl_Fact_impl_Fact_M_Disagree_c1 a3.2 ((a4.1.1, a4.1.2), a4.2) a2).bind fun x4 =>
   if x4 then
    some true
   else
    (Slices.ContainsFunc_Limpl_Fact_impl_Fact_M_Disagree_c2 a4.2 ((a3.1.1, a3.1.2), a3.2) a2).bind fun x5 =>
    some x5
  else
   some false
 else
  some false).bind fun x1 =>
 some x1

def M.FirstConflict_c1 (a1 : ((Int × (List Int)) × (List (Int × (List Int))))) (ax1 : (List Int)) (ax2 : (List (Int × (List Int) × Int × Int × Int))) (ax3 : ((Int × (List Int)) × (List (Int × (List Int))))) : Option Bool :=
 (M.Disagree ax1 ax2 ((a1.1.1, a1.1.2), a1.2) ax3).bind fun x1 =>
 some x1

def Slices.IndexFunc_Limpl_Told_impl_Told_M_FirstConflict_c1_l1 (a1 : (List ((Int × (List Int)) × (List (Int × (List Int)))))) (ax1 : (List Int)) (ax2 : (List (Int × (List Int) × Int × Int × Int))) (ax3 : ((Int × (List Int)) × (List (Int × (List Int))))) : Nat → Int → Option (Sum Unit Int)
 | 0, _ => none
 | k + 1, x1 =>
  if (decide (x1 < (List.length a1 : Int))) then
   (idx a1 x1).bind fun x2 =>
   (M.FirstConflict_c1 x2 ax1 ax2 ax3).bind fun x3 =>
   if x3 then
    some (.inr x1)
   else
    Slices.IndexFunc_Limpl_Told_impl_Told_M_FirstConflict_c1_l1 a1 ax1 ax2 ax3 k (w64 (x1 + 1))
  else
   some (.inl ())

def Slices.IndexFunc_Limpl_Told_impl_Told_M_FirstConflict_c1 (a1 : (List ((Int × (List Int)) × (List (Int × (List Int)))))) (ax1 : (List Int)) (ax2 : (List (Int × (List Int) × Int × Int × Int))) (ax3 : ((Int × (List Int)) × (List (Int × (List Int))))) : Option Int :=
 (Slices.IndexFunc_Limpl_Told_impl_Told_M_FirstConflict_c1_l1 a1 ax1 ax2 ax3 FUEL (0 : Int)).bind fun o => match o with
  | .inl () =>
   some (-1)
  | .inr r => some r

def M.FirstConflict_l1 (a3 : (List ((Int × (List Int)) × (List (Int × (List Int)))))) (a1 : (List Int)) (a2 : (List (Int × (List Int) × Int × Int × Int))) : Nat → Int → Option (Sum Unit (Int × Int × Bool))
 | 0, _ => none
 | k + 1, x1 =>
  if (decide (x1 < (List.length a3 : Int))) then
   (idx a3 x1).bind fun x2 =>
   (M.FitsSelf a1 a2 ((x2.1.1, x2.1.2), x2.2)).bind fun x3 =>
   if (!x3) then
    some (.inr (x1, x1, true))
   else
    (sub a3 0 x1).bind fun x4 =>
    (Slices.IndexFunc_Limpl_Told_impl_Told_M_FirstConflict_c1 x4 a1 a2 ((x2.1.1, x2.1.2), x2.2)).bind fun x5 =>
    if (decide (0 ≤ x5)) then
     some (.inr (x5, x1, true))
    else
     M.FirstConflict_l1 a3 a1 a2 k (w64 (x1 + 1))
  else
   some (.inl ())

def M.FirstConflict (a1 : (List Int)) (a2 : (List (Int × (List Int) × Int × Int × Int))) (a3 : (List ((Int × (List Int)) × (List (Int × (List Int)))))) : Option (Int × Int × Bool) :=
 (M.FirstConflict_l1 a3 a1 a2 FUEL (0 : Int)).bind fun o => match o with
  | .inl () =>
   some ((-1), (-1), false)
  | .inr r => some r

def S.IsTold (a1 : (List Int)) (a2 : (List (Int × (List Int) × Int × Int × Int))) (a3 : ((Int × (List Int)) × (List (Int × (List Int))))) : Option Bool :=
 ((S.IsAccess a1 a2 (a3.1.1, a3.1.2)).bind fun x2 =>
 if x2 then
  (S.AreFacts a1 a3.2).bind fun x3 =>
  some x3
 else
  some false).bind fun x1 =>
 some x1

def S.FitsSelf_l1 (a3 : ((Int × (List Int)) × (List (Int × (List Int))))) (x2 : (Int × (List Int) × Int × Int × Int)) : Nat → Int → Option (Sum Unit Bool)
 | 0, _ => none
 | k + 1, x3 =>
  if (decide (x3 < (List.length a3.2 : Int))) then
   (idx a3.2 x3).bind fun x4 =>
   (S.l5Fits (x2.1, x2.2.1, x2.2.2.1, x2.2.2.2.1, x2.2.2.2.2) a3.1.2 x4).bind fun x5 =>
   if (!x5) then
    some (.inr false)
   else
    S.FitsSelf_l1 a3 x2 k (w64 (x3 + 1))
  else
   some (.inl ())

def S.FitsSelf (a1 : (List Int)) (a2 : (List (Int × (List Int) × Int × Int × Int))) (a3 : ((Int × (List Int)) × (List (Int × (List Int))))) : Option Bool :=
 (S.IsTold a1 a2 ((a3.1.1, a3.1.2), a3.2)).bind fun x1 =>
 if (!x1) then
  some false
 else
  (idx a2 a3.1.1).bind fun x2 =>
  (S.FitsSelf_l1 a3 x2 FUEL (0 : Int)).bind fun o => match o with
   | .inl () =>
    (if (decide (x2.2.2.1 = 0)) then
     some true
    else
     some (decide ((List.length a3.2 : Int) ≤ x2.2.2.1))).bind fun x6 =>
    some x6
   | .inr r => some r

def S.l28Lacks_l1 (a2 : ((Int × (List Int)) × (List (Int × (List Int))))) (x1 : (Int × (List Int) × Int × Int × Int)) (a3 : ((Int × (List Int)) × (List (Int × (List Int))))) : Nat → Int → Option (Sum Unit Bool)
 | 0, _ => none
 | k + 1, x2 =>
  if (decide (x2 < (List.length a2.2 : Int))) then
   ((idx a2.2 x2).bind fun x4 =>
   (S.l5Fits (x1.1, x1.2.1, x1.2.2.1, x1.2.2.2.1, x1.2.2.2.2) a3.1.2 x4).bind fun x5 =>
   if x5 then
    (idx a2.2 x2).bind fun x6 =>
    (S.HasFact a3.2 x6).bind fun x7 =>
    if (!x7) then
     if (decide (x1.2.2.1 = 0)) then
      some true
     else
      some (decide ((List.length a3.2 : Int) < x1.2.2.1))
    else
     some false
   else
    some false).bind fun x3 =>
   if x3 then
    some (.inr true)
   else
    S.l28Lacks_l1 a2 x1 a3 k (w64 (x2 + 1))
  else
   some (.inl ())

def S.l28Lacks (a1 : (List (Int × (List Int) × Int × Int × Int))) (a2 : ((Int × (List Int)) × (List (Int × (List Int))))) (a3 : ((Int × (List Int)) × (List (Int × (List Int))))) : Option Bool :=
 (idx a1 a3.1.1).bind fun x1 =>
 (S.l28Lacks_l1 a2 x1 a3 FUEL (0 : Int)).bind fun o => match o with
  | .inl () =>
   some false
  | .inr r => some r

def S.Disagree (a1 : (List Int)) (a2 : (List (Int × (List Int) × Int × Int × Int))) (a3 : ((Int × (List Int)) × (List (Int × (List Int))))) (a4 : ((Int × (List Int)) × (List (Int × (List Int))))) : Option Bool :=
 ((S.FitsSelf a1 a2 ((a3.1.1, a3.1.2), a3.2)).bind fun x2 =>
 if x2 then
  (S.FitsSelf a1 a2 ((a4.1.1, a4.1.2), a4.2)).bind fun x3 =>
  if x3 then
   (S.l28Lacks a2 ((a3.1.1, a3.1.2), a3.2) ((a4.1.1, a4.1.2), a4.2)).bind fun x4 =>
   if x4 then
    some true
   else
    (S.l28Lacks a2 ((a4.1.1, a4.1.2), a4.2) ((a3.1.1, a3.1.2), a3.2)).bind fun x5 =>
    some x5
  else
   some false
 else
  some false).bind fun x1 =>
 some x1

def S.FirstConflict_l2 (x1 : Int) (a3 : (List ((Int × (List Int)) × (List (Int × (List Int)))))) (a1 : (List Int)) (a2 : (List (Int × (List Int) × Int × Int × Int))) : Nat → Int → Option (Sum Unit (Int × Int × Bool))
 | 0, _ => none
 | k + 1, x4 =>
  if (decide (x4 < x1)) then
   (idx a3 x4).bind fun x5 =>
   (idx a3 x1).bind fun x6 =>
   (S.Disagree a1 a2 x5 x6).bind fun x7 =>
   if x7 then
    some (.inr (x4, x1, true))
   else
    S.FirstConflict_l2 x1 a3 a1 a2 k (w64 (x4 + 1))
  else
   some (.inl ())

def S.FirstConflict_l1 (a3 : (List ((Int × (List Int)) × (List (Int × (List Int)))))) (a1 : (List Int)) (a2 : (List (Int × (List Int) × Int × Int × Int))) : Nat → Int → Option (Sum Unit (Int × Int × Bool))
 | 0, _ => none
 | k + 1, x1 =>
  if (decide (x1 < (List.length a3 : Int))) then
   (idx a3 x1).bind fun x2 =>
   (S.FitsSelf a1 a2 x2).bind fun x3 =>
   if (!x3) then
    some (.inr (x1, x1, true))
   else
    (S.FirstConflict_l2 x1 a3 a1 a2 FUEL (0 : Int)).bind fun o => match o with
     | .inl () =>
      S.FirstConflict_l1 a3 a1 a2 k (w64 (x1 + 1))
     | .inr r => some (.inr r)
  else
   some (.inl ())

def S.FirstConflict (a1 : (List Int)) (a2 : (List (Int × (List Int) × Int × Int × Int))) (a3 : (List ((Int × (List Int)) × (List (Int × (List Int)))))) : Option (Int × Int × Bool) :=
 (S.FirstConflict_l1 a3 a1 a2 FUEL (0 : Int)).bind fun o => match o with
  | .inl () =>
   some ((-1), (-1), false)
  | .inr r => some r

def M.added_c1 (a1 : (Int × (List Int))) (ax1 : (Int × (List Int))) : Option Bool :=
 (M.CompareFacts (a1.1, a1.2) ax1).bind fun x1 =>
 some (decide (0 < x1))

def Slices.Insert_Limpl_Fact_impl_Fact (a1 : (List (Int × (List Int)))) (a2 : Int) (a3 : (List (Int × (List Int)))) : Option (List (Int × (List Int))) :=
 ins a1 a2 a3

def Slices.IndexFunc_Limpl_Fact_impl_Fact_M_added_c1_l1 (a1 : (List (Int × (List Int)))) (ax1 : (Int × (List Int))) : Nat → Int → Option (Sum Unit Int)
 | 0, _ => none
 | k + 1, x1 =>
  if (decide (x1 < (List.length a1 : Int))) then
   (idx a1 x1).bind fun x2 =>
   (M.added_c1 x2 ax1).bind fun x3 =>
   if x3 then
    some (.inr x1)
   else
    Slices.IndexFunc_Limpl_Fact_impl_Fact_M_added_c1_l1 a1 ax1 k (w64 (x1 + 1))
  else
   some (.inl ())

def Slices.IndexFunc_Limpl_Fact_impl_Fact_M_added_c1 (a1 : (List (Int × (List Int)))) (ax1 : (Int × (List Int))) : Option Int :=
 (Slices.IndexFunc_Limpl_Fact_impl_Fact_M_added_c1_l1 a1 ax1 FUEL (0 : Int)).bind fun o => match o with
  | .inl () =>
   some (-1)
  | .inr r => some r

def M.added (a1 : (List (Int × (List Int)))) (a2 : (Int × (List Int))) : Option (List (Int × (List Int))) :=
 (M.HasFact a1 (a2.1, a2.2)).bind fun x1 =>
 if x1 then
  some a1
 else
  (Slices.IndexFunc_Limpl_Fact_impl_Fact_M_added_c1 a1 (a2.1, a2.2)).bind fun x2 =>
  (if (decide (x2 < 0)) then
   some (List.length a1 : Int)
  else
   some x2).bind fun x3 =>
  (M.copyFact (a2.1, a2.2)).bind fun x4 =>
  (Slices.Insert_Limpl_Fact_impl_Fact a1 x3 ([(x4.1, x4.2)])).bind fun x5 =>
  some x5

def M.UnionOf_l2 (x4 : ((Int × (List Int)) × (List (Int × (List Int))))) : Nat → (List (Int × (List Int))) → Int → Option ((List (Int × (List Int))))
 | 0, _, _ => none
 | k + 1, x5, x6 =>
  if (decide (x6 < (List.length x4.2 : Int))) then
   (idx x4.2 x6).bind fun x8 =>
   (M.added x5 (x8.1, x8.2)).bind fun x9 =>
   M.UnionOf_l2 x4 k x9 (w64 (x6 + 1))
  else
   some x5

def M.UnionOf_l1 (a1 : (List ((Int × (List Int)) × (List (Int × (List Int)))))) : Nat → (List (Int × (List Int))) → Int → Option ((List (Int × (List Int))))
 | 0, _, _ => none
 | k + 1, x1, x2 =>
  if (decide (x2 < (List.length a1 : Int))) then
   (idx a1 x2).bind fun x4 =>
   (M.UnionOf_l2 x4 FUEL x1 (0 : Int)).bind fun x7 =>
   M.UnionOf_l1 a1 k x7 (w64 (x2 + 1))
  else
   some x1

def M.UnionOf (a1 : (List ((Int × (List Int)) × (List (Int × (List Int)))))) : Option (List (Int × (List Int))) :=
 (M.UnionOf_l1 a1 FUEL ([] : List (Int × (List Int))) (0 : Int)).bind fun x3 =>
 some x3

def S.SameFacts_l1 (a1 : (List (Int × (List Int)))) (a2 : (List (Int × (List Int)))) : Nat → Int → Option (Sum Unit Bool)
 | 0, _ => none
 | k + 1, x1 =>
  if (decide (x1 < (List.length a1 : Int))) then
   (idx a1 x1).bind fun x2 =>
   (idx a2 x1).bind fun x3 =>
   (S.CompareFacts x2 x3).bind fun x4 =>
   if (!decide (x4 = 0)) then
    some (.inr false)
   else
    S.SameFacts_l1 a1 a2 k (w64 (x1 + 1))
  else
   some (.inl ())

def S.SameFacts (a1 : (List (Int × (List Int)))) (a2 : (List (Int × (List Int)))) : Option Bool :=
 if (!decide ((List.length a1 : Int) = (List.length a2 : Int))) then
  some false
 else
  (S.SameFacts_l1 a1 a2 FUEL (0 : Int)).bind fun o => match o with
   | .inl () =>
    some true
   | .inr r => some r

def S.UnionOf_l2 (a1 : (List ((Int × (List Int)) × (List (Int × (List Int)))))) (x2 : Int) : Nat → (List (Int × (List Int))) → Int → Option ((List (Int × (List Int))))
 | 0, _, _ => none
 | k + 1, x4, x5 =>
  (idx a1 x2).bind fun x7 =>
  if (decide (x5 < (List.length x7.2 : Int))) then
   (idx a1 x2).bind fun x8 =>
   (idx x8.2 x5).bind fun x9 =>
   (S.AddFact x4 x9).bind fun x10 =>
   S.UnionOf_l2 a1 x2 k x10 (w64 (x5 + 1))
  else
   some x4

def S.UnionOf_l1 (a1 : (List ((Int × (List Int)) × (List (Int × (List Int)))))) : Nat → (List (Int × (List Int))) → Int → Option ((List (Int × (List Int))))
 | 0, _, _ => none
 | k + 1, x1, x2 =>
  if (decide (x2 < (List.length a1 : Int))) then
   (S.UnionOf_l2 a1 x2 FUEL x1 (0 : Int)).bind fun x6 =>
   S.UnionOf_l1 a1 k x6 (w64 (x2 + 1))
  else
   some x1

def S.UnionOf (a1 : (List ((Int × (List Int)) × (List (Int × (List Int)))))) : Option (List (Int × (List Int))) :=
 (S.UnionOf_l1 a1 FUEL ([] : List (Int × (List Int))) (0 : Int)).bind fun x3 =>
 some x3

def M.IsConsistent (a1 : (List Int)) (a2 : (List (Int × (List Int) × Int × Int × Int))) (a3 : (List ((Int × (List Int)) × (List (Int × (List Int)))))) : Option Bool :=
 (M.FirstConflict a1 a2 a3).bind fun x1 =>
 ((M.AreMethods a1 a2).bind fun x3 =>
 if x3 then
  some (!x1.2.2)
 else
  some false).bind fun x2 =>
 some x2

def S.IsConsistent (a1 : (List Int)) (a2 : (List (Int × (List Int) × Int × Int × Int))) (a3 : (List ((Int × (List Int)) × (List (Int × (List Int)))))) : Option Bool :=
 (S.FirstConflict a1 a2 a3).bind fun x1 =>
 ((S.AreMethods a1 a2).bind fun x3 =>
 if x3 then
  some (!x1.2.2)
 else
  some false).bind fun x2 =>
 some x2

def M.areAscending_l1 (a2 : (List (Int × (List Int)))) (a1 : (List Int)) : Nat → Int → Option (Sum Unit Bool)
 | 0, _ => none
 | k + 1, x1 =>
  if (decide (x1 < (List.length a2 : Int))) then
   (idx a2 x1).bind fun x2 =>
   ((M.IsFact a1 (x2.1, x2.2)).bind fun x4 =>
   if (!x4) then
    some true
   else
    if (decide (0 < x1)) then
     (idx a2 (w64 (x1 - 1))).bind fun x5 =>
     (M.CompareFacts x5 (x2.1, x2.2)).bind fun x6 =>
     some (decide (0 ≤ x6))
    else
     some false).bind fun x3 =>
   if x3 then
    some (.inr false)
   else
    M.areAscending_l1 a2 a1 k (w64 (x1 + 1))
  else
   some (.inl ())

def M.areAscending (a1 : (List Int)) (a2 : (List (Int × (List Int)))) : Option Bool :=
 (M.areAscending_l1 a2 a1 FUEL (0 : Int)).bind fun o => match o with
  | .inl () =>
   some true
  | .inr r => some r

def M.Told_isTrue_c1 (a1 : (Int × (List Int))) (ax1 : (List (Int × (List Int)))) : Option Bool :=
 (M.HasFact ax1 (a1.1, a1.2)).bind fun x1 =>
 some (!x1)

def Slices.IndexFunc_Limpl_Fact_impl_Fact_M_Told_isTrue_c1_l1 (a1 : (List (Int × (List Int)))) (ax1 : (List (Int × (List Int)))) : Nat → Int → Option (Sum Unit Int)
 | 0, _ => none
 | k + 1, x1 =>
  if (decide (x1 < (List.length a1 : Int))) then
   (idx a1 x1).bind fun x2 =>
   (M.Told_isTrue_c1 x2 ax1).bind fun x3 =>
   if x3 then
    some (.inr x1)
   else
    Slices.IndexFunc_Limpl_Fact_impl_Fact_M_Told_isTrue_c1_l1 a1 ax1 k (w64 (x1 + 1))
  else
   some (.inl ())

def Slices.IndexFunc_Limpl_Fact_impl_Fact_M_Told_isTrue_c1 (a1 : (List (Int × (List Int)))) (ax1 : (List (Int × (List Int)))) : Option Int :=
 (Slices.IndexFunc_Limpl_Fact_impl_Fact_M_Told_isTrue_c1_l1 a1 ax1 FUEL (0 : Int)).bind fun o => match o with
  | .inl () =>
   some (-1)
  | .inr r => some r

def Slices.ContainsFunc_Limpl_Fact_impl_Fact_M_Told_isTrue_c1 (a1 : (List (Int × (List Int)))) (ax1 : (List (Int × (List Int)))) : Option Bool :=
 (Slices.IndexFunc_Limpl_Fact_impl_Fact_M_Told_isTrue_c1 a1 ax1).bind fun x1 =>
 some (decide (0 ≤ x1))

def M.Told_isTrue (a1 : ((Int × (List Int)) × (List (Int × (List Int))))) (a2 : (List (Int × (List Int) × Int × Int × Int))) (a3 : (List (Int × (List Int)))) : Option Bool :=
 (M.matches a2 a3 (a1.1.1, a1.1.2)).bind fun x1 =>
 (idx a2 a1.1.1).bind fun x2 =>
 (if (decide (0 < x2.2.2.1)) then
  some (if x2.2.2.1 < (List.length x1 : Int) then x2.2.2.1 else (List.length x1 : Int))
 else
  some (List.length x1 : Int)).bind fun x3 =>
 (if (decide ((List.length a1.2 : Int) = x3)) then
  (Slices.ContainsFunc_Limpl_Fact_impl_Fact_M_Told_isTrue_c1 a1.2 x1).bind fun x5 =>
  some (!x5)
 else
  some false).bind fun x4 =>
 some x4

def M.Explains_c1 (a1 : ((Int × (List Int)) × (List (Int × (List Int))))) (ax1 : (List Int)) (ax2 : (List (Int × (List Int) × Int × Int × Int))) (ax3 : (List (Int × (List Int)))) : Option Bool :=
 ((M.FitsSelf ax1 ax2 ((a1.1.1, a1.1.2), a1.2)).bind fun x2 =>
 if (!x2) then
  some true
 else
  (M.Told_isTrue ((a1.1.1, a1.1.2), a1.2) ax2 ax3).bind fun x3 =>
  some (!x3)).bind fun x1 =>
 some x1

def Slices.IndexFunc_Limpl_Told_impl_Told_M_Explains_c1_l1 (a1 : (List ((Int × (List Int)) × (List (Int × (List Int)))))) (ax1 : (List Int)) (ax2 : (List (Int × (List Int) × Int × Int × Int))) (ax3 : (List (Int × (List Int)))) : Nat → Int → Option (Sum Unit Int)
 | 0, _ => none
 | k + 1, x1 =>
  if (decide (x1 < (List.length a1 : Int))) then
   (idx a1 x1).bind fun x2 =>
   (M.Explains_c1 x2 ax1 ax2 ax3).bind fun x3 =>
   if x3 then
    some (.inr x1)
   else
    Slices.IndexFunc_Limpl_Told_impl_Told_M_Explains_c1_l1 a1 ax1 ax2 ax3 k (w64 (x1 + 1))
  else
   some (.inl ())

def Slices.IndexFunc_Limpl_Told_impl_Told_M_Explains_c1 (a1 : (List ((Int × (List Int)) × (List (Int × (List Int)))))) (ax1 : (List Int)) (ax2 : (List (Int × (List Int) × Int × Int × Int))) (ax3 : (List (Int × (List Int)))) : Option Int :=
 (Slices.IndexFunc_Limpl_Told_impl_Told_M_Explains_c1_l1 a1 ax1 ax2 ax3 FUEL (0 : Int)).bind fun o => match o with
  | .inl () =>
   some (-1)
  | .inr r => some r

def Slices.ContainsFunc_Limpl_Told_impl_Told_M_Explains_c1 (a1 : (List ((Int × (List Int)) × (List (Int × (List Int)))))) (ax1 : (List Int)) (ax2 : (List (Int × (List Int) × Int × Int × Int))) (ax3 : (List (Int × (List Int)))) : Option Bool :=
 (Slices.IndexFunc_Limpl_Told_impl_Told_M_Explains_c1 a1 ax1 ax2 ax3).bind fun x1 =>
 some (decide (0 ≤ x1))

def M.Explains (a1 : (List Int)) (a2 : (List (Int × (List Int) × Int × Int × Int))) (a3 : (List (Int × (List Int)))) (a4 : (List ((Int × (List Int)) × (List (Int × (List Int)))))) : Option Bool :=
 ((M.AreMethods a1 a2).bind fun x2 =>
 if x2 then
  (M.areAscending a1 a3).bind fun x3 =>
  if x3 then
   (Slices.ContainsFunc_Limpl_Told_impl_Told_M_Explains_c1 a4 a1 a2 a3).bind fun x4 =>
   some (!x4)
  else
   some false
 else
  some false).bind fun x1 =>
 some x1

def S.DrawExplains (a1 : (List UInt8)) : Option ((List Int) × (List (Int × (List Int) × Int × Int × Int)) × (List (Int × (List Int))) × (List ((Int × (List Int)) × (List (Int × (List Int)))))) :=
 (S.l1New a1).bind fun x1 =>
 (S.l28List (a1, x1.2.1, x1.2.2)).bind fun x2 =>
 (S.l1Once (a1, x2.2.2.2.2.2.1, x2.2.2.2.2.2.2) 3).bind fun x3 =>
 (if x3.1 then
  (S.UnionOf x2.2.2.2.1).bind fun x5 =>
  some x5
 else
  some x2.2.2.1).bind fun x4 =>
 some (x2.1, x2.2.1, x4, x2.2.2.2.1)

def S.l15Facts_l1 (a2 : (List (Int × (List Int)))) (a1 : (List Int)) : Nat → Int → Option (Sum Unit Bool)
 | 0, _ => none
 | k + 1, x1 =>
  if (decide (x1 < (List.length a2 : Int))) then
   ((idx a2 x1).bind fun x3 =>
   (S.IsFact a1 x3).bind fun x4 =>
   if (!x4) then
    some true
   else
    if (decide (0 < x1)) then
     (idx a2 (w64 (x1 - 1))).bind fun x5 =>
     (idx a2 x1).bind fun x6 =>
     (S.CompareFacts x5 x6).bind fun x7 =>
     some (decide (0 ≤ x7))
    else
     some false).bind fun x2 =>
   if x2 then
    some (.inr false)
   else
    S.l15Facts_l1 a2 a1 k (w64 (x1 + 1))
  else
   some (.inl ())

def S.l15Facts (a1 : (List Int)) (a2 : (List (Int × (List Int)))) : Option Bool :=
 (S.l15Facts_l1 a2 a1 FUEL (0 : Int)).bind fun o => match o with
  | .inl () =>
   (S.IsSchema a1).bind fun x8 =>
   some x8
  | .inr r => some r

def S.Explains_l2 (a4 : (List ((Int × (List Int)) × (List (Int × (List Int)))))) (x4 : Int) (x10 : (List (Int × (List Int)))) : Nat → Int → Option (Sum Unit Bool)
 | 0, _ => none
 | k + 1, x13 =>
  (idx a4 x4).bind fun x14 =>
  if (decide (x13 < (List.length x14.2 : Int))) then
   (idx a4 x4).bind fun x15 =>
   (idx x15.2 x13).bind fun x16 =>
   (S.HasFact x10 x16).bind fun x17 =>
   if (!x17) then
    some (.inr false)
   else
    S.Explains_l2 a4 x4 x10 k (w64 (x13 + 1))
  else
   some (.inl ())

def S.Explains_l1 (a4 : (List ((Int × (List Int)) × (List (Int × (List Int)))))) (a1 : (List Int)) (a2 : (List (Int × (List Int) × Int × Int × Int))) (a3 : (List (Int × (List Int)))) : Nat → Int → Option (Sum Unit Bool)
 | 0, _ => none
 | k + 1, x4 =>
  if (decide (x4 < (List.length a4 : Int))) then
   (idx a4 x4).bind fun x5 =>
   (S.FitsSelf a1 a2 x5).bind fun x6 =>
   if (!x6) then
    some (.inr false)
   else
    (idx a4 x4).bind fun x7 =>
    (idx a2 x7.1.1).bind fun x8 =>
    (idx a4 x4).bind fun x9 =>
    (S.l5Matches (x8.1, x8.2.1, x8.2.2.1, x8.2.2.2.1, x8.2.2.2.2) x9.1.2 a3).bind fun x10 =>
    (if (decide (0 < x8.2.2.1)) then
     some (if x8.2.2.1 < (List.length x10 : Int) then x8.2.2.1 else (List.length x10 : Int))
    else
     some (List.length x10 : Int)).bind fun x11 =>
    (idx a4 x4).bind fun x12 =>
    if (!decide ((List.length x12.2 : Int) = x11)) then
     some (.inr false)
    else
     (S.Explains_l2 a4 x4 x10 FUEL (0 : Int)).bind fun o => match o with
      | .inl () =>
       S.Explains_l1 a4 a1 a2 a3 k (w64 (x4 + 1))
      | .inr r => some (.inr r)
  else
   some (.inl ())

def S.Explains (a1 : (List Int)) (a2 : (List (Int × (List Int) × Int × Int × Int))) (a3 : (List (Int × (List Int)))) (a4 : (List ((Int × (List Int)) × (List (Int × (List Int)))))) : Option Bool :=
 ((S.AreMethods a1 a2).bind fun x2 =>
 if (!x2) then
  some true
 else
  (S.l15Facts a1 a3).bind fun x3 =>
  some (!x3)).bind fun x1 =>
 if x1 then
  some false
 else
  (S.Explains_l1 a4 a1 a2 a3 FUEL (0 : Int)).bind fun o => match o with
   | .inl () =>
    some true
   | .inr r => some r

def S.l13Rules_l2 (a2 : (List Int)) (a1 : ((List UInt8) × Int × Int)) : Nat → Int → Int → (List Int) → Int → Int → Int → Option ((Int × Int × (List Int) × Int × Int))
 | 0, _, _, _, _, _, _ => none
 | k + 1, x11, x12, x13, x14, x15, x16 =>
  (idx a2 x12).bind fun x22 =>
  if (decide (x16 < x22)) then
   (idx a2 x11).bind fun x23 =>
   (S.l1Below (a1.1, x14, x15) x23).bind fun x24 =>
   (app x13 ([x24.1])).bind fun x25 =>
   S.l13Rules_l2 a2 a1 k x11 x12 x25 x24.2.2.1 x24.2.2.2 (w64 (x16 + 1))
  else
   some (x11, x12, x13, x14, x15)

def S.l13Rules_l1 (a1 : ((List UInt8) × Int × Int)) (a2 : (List Int)) : Nat → Int → Int → (List (Int × Int × (List Int))) → Int → Option ((Int × Int × (List (Int × Int × (List Int)))))
 | 0, _, _, _, _ => none
 | k + 1, x2, x3, x4, x5 =>
  if (decide (0 < x5)) then
   (S.l1Below (a1.1, x2, x3) (List.length a2 : Int)).bind fun x9 =>
   (S.l1Below (a1.1, x9.2.2.1, x9.2.2.2) (List.length a2 : Int)).bind fun x10 =>
   (S.l13Rules_l2 a2 a1 FUEL x9.1 x10.1 ([]) x10.2.2.1 x10.2.2.2 (0 : Int)).bind fun (x17, x18, x19, x20, x21) =>
   (app x4 ([(x17, x18, x19)])).bind fun x26 =>
   S.l13Rules_l1 a1 a2 k x20 x21 x26 (w64 (x5 - 1))
  else
   some (x2, x3, x4)

def S.l13Rules (a1 : ((List UInt8) × Int × Int)) (a2 : (List Int)) : Option ((List (Int × Int × (List Int))) × ((List UInt8) × Int × Int)) :=
 (S.l1Below (a1.1, a1.2.1, a1.2.2) 4).bind fun x1 =>
 (S.l13Rules_l1 a1 a2 FUEL x1.2.2.1 x1.2.2.2 ([] : List (Int × Int × (List Int))) x1.1).bind fun (x6, x7, x8) =>
 some (x8, (a1.1, x6, x7))

def S.DrawBrokenRules (a1 : (List UInt8)) : Option ((List Int) × (List (Int × (List Int) × Int × Int × Int)) × (List (Int × Int × (List Int))) × (List ((Int × (List Int)) × (List (Int × (List Int)))))) :=
 (S.l1New a1).bind fun x1 =>
 (S.l28List (a1, x1.2.1, x1.2.2)).bind fun x2 =>
 (S.IsSchema x2.1).bind fun x3 =>
 (if x3 then
  (S.l13Rules (a1, x2.2.2.2.2.2.1, x2.2.2.2.2.2.2) x2.1).bind fun x7 =>
  some (x7.2.2.1, x7.2.2.2, x7.1)
 else
  some (x2.2.2.2.2.2.1, x2.2.2.2.2.2.2, ([] : List (Int × Int × (List Int))))).bind fun (x4, x5, x6) =>
 some (x2.1, x2.2.1, x6, x2.2.2.2.1)

def M.arePositions_c1 (a1 : Int) (ax1 : Int) : Option Bool :=
 (M.within a1 0 (w64 (ax1 - 1))).bind fun x1 =>
 some (!x1)

def Slices.IndexFunc_Lint_int_M_arePositions_c1_l1 (a1 : (List Int)) (ax1 : Int) : Nat → Int → Option (Sum Unit Int)
 | 0, _ => none
 | k + 1, x1 =>
  if (decide (x1 < (List.length a1 : Int))) then
   (idx a1 x1).bind fun x2 =>
   (M.arePositions_c1 x2 ax1).bind fun x3 =>
   if x3 then
    some (.inr x1)
   else
    Slices.IndexFunc_Lint_int_M_arePositions_c1_l1 a1 ax1 k (w64 (x1 + 1))
  else
   some (.inl ())

def Slices.IndexFunc_Lint_int_M_arePositions_c1 (a1 : (List Int)) (ax1 : Int) : Option Int :=
 (Slices.IndexFunc_Lint_int_M_arePositions_c1_l1 a1 ax1 FUEL (0 : Int)).bind fun o => match o with
  | .inl () =>
   some (-1)
  | .inr r => some r

def Slices.ContainsFunc_Lint_int_M_arePositions_c1 (a1 : (List Int)) (ax1 : Int) : Option Bool :=
 (Slices.IndexFunc_Lint_int_M_arePositions_c1 a1 ax1).bind fun x1 =>
 some (decide (0 ≤ x1))

def M.arePositions (a1 : (List Int)) (a2 : Int) : Option Bool :=
 (Slices.ContainsFunc_Lint_int_M_arePositions_c1 a1 a2).bind fun x1 =>
 some (!x1)

def M.IsRule (a1 : (List Int)) (a2 : (Int × Int × (List Int))) : Option Bool :=
 ((M.hasRel a1 a2.1).bind fun x2 =>
 if x2 then
  (M.hasRel a1 a2.2.1).bind fun x3 =>
  if x3 then
   (idx a1 a2.2.1).bind fun x4 =>
   if (decide ((List.length a2.2.2 : Int) = x4)) then
    (idx a1 a2.1).bind fun x5 =>
    (M.arePositions a2.2.2 x5).bind fun x6 =>
    some x6
   else
    some false
  else
   some false
 else
  some false).bind fun x1 =>
 some x1

def M.AreRules_c1 (a1 : (Int × Int × (List Int))) (ax1 : (List Int)) : Option Bool :=
 (M.IsRule ax1 (a1.1, a1.2.1, a1.2.2)).bind fun x1 =>
 some (!x1)

def Slices.IndexFunc_Limpl_Rule_impl_Rule_M_AreRules_c1_l1 (a1 : (List (Int × Int × (List Int)))) (ax1 : (List Int)) : Nat → Int → Option (Sum Unit Int)
 | 0, _ => none
 | k + 1, x1 =>
  if (decide (x1 < (List.length a1 : Int))) then
   (idx a1 x1).bind fun x2 =>
   (M.AreRules_c1 x2 ax1).bind fun x3 =>
   if x3 then
    some (.inr x1)
   else
    Slices.IndexFunc_Limpl_Rule_impl_Rule_M_AreRules_c1_l1 a1 ax1 k (w64 (x1 + 1))
  else
   some (.inl ())

def Slices.IndexFunc_Limpl_Rule_impl_Rule_M_AreRules_c1 (a1 : (List (Int × Int × (List Int)))) (ax1 : (List Int)) : Option Int :=
 (Slices.IndexFunc_Limpl_Rule_impl_Rule_M_AreRules_c1_l1 a1 ax1 FUEL (0 : Int)).bind fun o => match o with
  | .inl () =>
   some (-1)
  | .inr r => some r

def Slices.ContainsFunc_Limpl_Rule_impl_Rule_M_AreRules_c1 (a1 : (List (Int × Int × (List Int)))) (ax1 : (List Int)) : Option Bool :=
 (Slices.IndexFunc_Limpl_Rule_impl_Rule_M_AreRules_c1 a1 ax1).bind fun x1 =>
 some (decide (0 ≤ x1))

def M.AreRules (a1 : (List Int)) (a2 : (List (Int × Int × (List Int)))) : Option Bool :=
 ((M.IsSchema a1).bind fun x2 =>
 if x2 then
  if (decide ((List.length a2 : Int) ≤ 4)) then
   (Slices.ContainsFunc_Limpl_Rule_impl_Rule_M_AreRules_c1 a2 a1).bind fun x3 =>
   some (!x3)
  else
   some false
 else
  some false).bind fun x1 =>
 some x1

def M.Rule_implied_l1 (a1 : (Int × Int × (List Int))) (a2 : (Int × (List Int))) : Nat → Int → (List Int) → Int → Option ((Int × (List Int)))
 | 0, _, _, _ => none
 | k + 1, x1, x2, x3 =>
  if (decide (x3 < (List.length a1.2.2 : Int))) then
   (idx a1.2.2 x3).bind fun x6 =>
   (idx a2.2 x6).bind fun x7 =>
   (app x2 ([x7])).bind fun x8 =>
   M.Rule_implied_l1 a1 a2 k x1 x8 (w64 (x3 + 1))
  else
   some (x1, x2)

def M.Rule_implied (a1 : (Int × Int × (List Int))) (a2 : (Int × (List Int))) : Option ((Int × (List Int)) × Bool) :=
 if (!decide (a2.1 = a1.1)) then
  some ((0, []), false)
 else
  (M.Rule_implied_l1 a1 a2 FUEL a1.2.1 ([]) (0 : Int)).bind fun (x4, x5) =>
  some ((x4, x5), true)

def M.missing_l2 (a1 : (List (Int × Int × (List Int)))) (x4 : (Int × (List Int))) (a2 : (List (Int × (List Int)))) : Nat → (List (Int × (List Int))) → Int → Option ((List (Int × (List Int))))
 | 0, _, _ => none
 | k + 1, x5, x6 =>
  if (decide (x6 < (List.length a1 : Int))) then
   (idx a1 x6).bind fun x8 =>
   (M.Rule_implied (x8.1, x8.2.1, x8.2.2) (x4.1, x4.2)).bind fun x9 =>
   (if x9.2 then
    (M.HasFact a2 (x9.1.1, x9.1.2)).bind fun x11 =>
    some (!x11)
   else
    some false).bind fun x10 =>
   (if x10 then
    (M.added x5 (x9.1.1, x9.1.2)).bind fun x13 =>
    some x13
   else
    some x5).bind fun x12 =>
   M.missing_l2 a1 x4 a2 k x12 (w64 (x6 + 1))
  else
   some x5

def M.missing_l1 (a2 : (List (Int × (List Int)))) (a1 : (List (Int × Int × (List Int)))) : Nat → (List (Int × (List Int))) → Int → Option ((List (Int × (List Int))))
 | 0, _, _ => none
 | k + 1, x1, x2 =>
  if (decide (x2 < (List.length a2 : Int))) then
   (idx a2 x2).bind fun x4 =>
   (M.missing_l2 a1 x4 a2 FUEL x1 (0 : Int)).bind fun x7 =>
   M.missing_l1 a2 a1 k x7 (w64 (x2 + 1))
  else
   some x1

def M.missing (a1 : (List (Int × Int × (List Int)))) (a2 : (List (Int × (List Int)))) : Option (List (Int × (List Int))) :=
 (M.missing_l1 a2 a1 FUEL ([] : List (Int × (List Int))) (0 : Int)).bind fun x3 =>
 some x3

def M.BrokenRules_c1_c1 (a1 : ((Int × (List Int)) × (List (Int × (List Int))))) (ax1 : (List (Int × (List Int) × Int × Int × Int))) (ax2 : (Int × (List Int))) : Option Bool :=
 (M.Told_denies ((a1.1.1, a1.1.2), a1.2) ax1 ax2).bind fun x1 =>
 some x1

def Slices.IndexFunc_Limpl_Told_impl_Told_M_BrokenRules_c1_c1_l1 (a1 : (List ((Int × (List Int)) × (List (Int × (List Int)))))) (ax1 : (List (Int × (List Int) × Int × Int × Int))) (ax2 : (Int × (List Int))) : Nat → Int → Option (Sum Unit Int)
 | 0, _ => none
 | k + 1, x1 =>
  if (decide (x1 < (List.length a1 : Int))) then
   (idx a1 x1).bind fun x2 =>
   (M.BrokenRules_c1_c1 x2 ax1 ax2).bind fun x3 =>
   if x3 then
    some (.inr x1)
   else
    Slices.IndexFunc_Limpl_Told_impl_Told_M_BrokenRules_c1_c1_l1 a1 ax1 ax2 k (w64 (x1 + 1))
  else
   some (.inl ())

def Slices.IndexFunc_Limpl_Told_impl_Told_M_BrokenRules_c1_c1 (a1 : (List ((Int × (List Int)) × (List (Int × (List Int)))))) (ax1 : (List (Int × (List Int) × Int × Int × Int))) (ax2 : (Int × (List Int))) : Option Int :=
 (Slices.IndexFunc_Limpl_Told_impl_Told_M_BrokenRules_c1_c1_l1 a1 ax1 ax2 FUEL (0 : Int)).bind fun o => match o with
  | .inl () =>
   some (-1)
  | .inr r => some r

def Slices.ContainsFunc_Limpl_Told_impl_Told_M_BrokenRules_c1_c1 (a1 : (List ((Int × (List Int)) × (List (Int × (List Int)))))) (ax1 : (List (Int × (List Int) × Int × Int × Int))) (ax2 : (Int × (List Int))) : Option Bool :=
 (Slices.IndexFunc_Limpl_Told_impl_Told_M_BrokenRules_c1_c1 a1 ax1 ax2).bind fun x1 =>
 some (decide (0 ≤ x1))

def M.BrokenRules_c1 (a1 : (Int × (List Int))) (ax1 : (List ((Int × (List Int)) × (List (Int × (List Int)))))) (ax2 : (List (Int × (List Int) × Int × Int × Int))) : Option Bool :=
 (Slices.ContainsFunc_Limpl_Told_impl_Told_M_BrokenRules_c1_c1 ax1 ax2 (a1.1, a1.2)).bind fun x1 =>
 some (!x1)

def Slices.IndexFunc_Limpl_Fact_impl_Fact_M_BrokenRules_c1_l1 (a1 : (List (Int × (List Int)))) (ax1 : (List ((Int × (List Int)) × (List (Int × (List Int)))))) (ax2 : (List (Int × (List Int) × Int × Int × Int))) : Nat → Int → Option (Sum Unit Int)
 | 0, _ => none
 | k + 1, x1 =>
  if (decide (x1 < (List.length a1 : Int))) then
   (idx a1 x1).bind fun x2 =>
   (M.BrokenRules_c1 x2 ax1 ax2).bind fun x3 =>
   if x3 then
    some (.inr x1)
   else
    Slices.IndexFunc_Limpl_Fact_impl_Fact_M_BrokenRules_c1_l1 a1 ax1 ax2 k (w64 (x1 + 1))
  else
   some (.inl ())

def Slices.IndexFunc_Limpl_Fact_impl_Fact_M_BrokenRules_c1 (a1 : (List (Int × (List Int)))) (ax1 : (List ((Int × (List Int)) × (List (Int × (List Int)))))) (ax2 : (List (Int × (List Int) × Int × Int × Int))) : Option Int :=
 (Slices.IndexFunc_Limpl_Fact_impl_Fact_M_BrokenRules_c1_l1 a1 ax1 ax2 FUEL (0 : Int)).bind fun o => match o with
  | .inl () =>
   some (-1)
  | .inr r => some r

def Slices.DeleteFunc_Limpl_Fact_impl_Fact_M_BrokenRules_c1 (a1 : (List (Int × (List Int)))) (ax1 : (List ((Int × (List Int)) × (List (Int × (List Int)))))) (ax2 : (List (Int × (List Int) × Int × Int × Int))) : Option (List (Int × (List Int))) :=
 (Slices.IndexFunc_Limpl_Fact_impl_Fact_M_BrokenRules_c1 a1 ax1 ax2).bind fun x =>
 if x = -1 then some a1 else if 0 ≤ x ∧ x < (a1.length : Int) then dfl (fun e => M.BrokenRules_c1 e ax1 ax2) (a1.take x.toNat) (a1.drop (x.toNat + 1)) else none

def M.BrokenRules (a1 : (List Int)) (a2 : (List (Int × (List Int) × Int × Int × Int))) (a3 : (List (Int × Int × (List Int)))) (a4 : (List ((Int × (List Int)) × (List (Int × (List Int)))))) : Option (List (Int × (List Int))) :=
 ((M.AreRules a1 a3).bind fun x2 =>
 if (!x2) then
  some true
 else
  (M.IsConsistent a1 a2 a4).bind fun x3 =>
  some (!x3)).bind fun x1 =>
 if x1 then
  some ([])
 else
  (M.UnionOf a4).bind fun x4 =>
  (M.missing a3 x4).bind fun x5 =>
  (Slices.DeleteFunc_Limpl_Fact_impl_Fact_M_BrokenRules_c1 x5 a4 a2).bind fun x6 =>
  some x6

def S.DrawDisagree (a1 : (List UInt8)) : Option ((List Int) × (List (Int × (List Int) × Int × Int × Int)) × ((Int × (List Int)) × (List (Int × (List Int)))) × ((Int × (List Int)) × (List (Int × (List Int))))) :=
 (S.l1New a1).bind fun x1 =>
 (S.l28List (a1, x1.2.1, x1.2.2)).bind fun x2 =>
 if (decide (1 < (List.length x2.2.2.2.1 : Int))) then
  ((idx x2.2.2.2.1 0).bind fun x11 =>
  (idx x2.2.2.2.1 1).bind fun x12 =>
  some (x12.1.1, x12.1.2, x12.2, x11.1.1, x11.1.2, x11.2, x2.1, x2.2.1)).bind fun (x3, x4, x5, x6, x7, x8, x9, x10) =>
  some (x9, x10, ((x6, x7), x8), ((x3, x4), x5))
 else
  some (x2.1, x2.2.1, ((0, []), []), ((0, []), []))

def S.l28Told (a1 : (List UInt8)) : Option ((List Int) × (List (Int × (List Int) × Int × Int × Int)) × ((Int × (List Int)) × (List (Int × (List Int))))) :=
 (S.l1New a1).bind fun x1 =>
 (S.l28List (a1, x1.2.1, x1.2.2)).bind fun x2 =>
 if (decide (0 < (List.length x2.2.2.2.1 : Int))) then
  (idx x2.2.2.2.1 (w64 ((List.length x2.2.2.2.1 : Int) - 1))).bind fun x3 =>
  some (x2.1, x2.2.1, ((x3.1.1, x3.1.2), x3.2))
 else
  some (x2.1, x2.2.1, ((0, []), []))

def S.DrawFitsSelf (a1 : (List UInt8)) : Option ((List Int) × (List (Int × (List Int) × Int × Int × Int)) × ((Int × (List Int)) × (List (Int × (List Int))))) :=
 (S.l28Told a1).bind fun x1 =>
 some (x1.1, x1.2.1, ((x1.2.2.1.1, x1.2.2.1.2), x1.2.2.2))

def S.IsRule_l1 (a2 : (Int × Int × (List Int))) (a1 : (List Int)) : Nat → Int → Option (Sum Unit Bool)
 | 0, _ => none
 | k + 1, x6 =>
  if (decide (x6 < (List.length a2.2.2 : Int))) then
   (idx a2.2.2 x6).bind fun x7 =>
   (idx a1 a2.1).bind fun x8 =>
   (S.l1In x7 0 (w64 (x8 - 1))).bind fun x9 =>
   if (!x9) then
    some (.inr false)
   else
    S.IsRule_l1 a2 a1 k (w64 (x6 + 1))
  else
   some (.inl ())

def S.IsRule (a1 : (List Int)) (a2 : (Int × Int × (List Int))) : Option Bool :=
 ((S.IsSchema a1).bind fun x2 =>
 if (!x2) then
  some true
 else
  (S.l1In a2.1 0 (w64 ((List.length a1 : Int) - 1))).bind fun x3 =>
  if (!x3) then
   some true
  else
   (S.l1In a2.2.1 0 (w64 ((List.length a1 : Int) - 1))).bind fun x4 =>
   if (!x4) then
    some true
   else
    (idx a1 a2.2.1).bind fun x5 =>
    some (!decide ((List.length a2.2.2 : Int) = x5))).bind fun x1 =>
 if x1 then
  some false
 else
  (S.IsRule_l1 a2 a1 FUEL (0 : Int)).bind fun o => match o with
   | .inl () =>
    some true
   | .inr r => some r

def S.AreRules_l1 (a2 : (List (Int × Int × (List Int)))) (a1 : (List Int)) : Nat → Int → Option (Sum Unit Bool)
 | 0, _ => none
 | k + 1, x1 =>
  if (decide (x1 < (List.length a2 : Int))) then
   (idx a2 x1).bind fun x2 =>
   (S.IsRule a1 x2).bind fun x3 =>
   if (!x3) then
    some (.inr false)
   else
    S.AreRules_l1 a2 a1 k (w64 (x1 + 1))
  else
   some (.inl ())

def S.AreRules (a1 : (List Int)) (a2 : (List (Int × Int × (List Int)))) : Option Bool :=
 (S.AreRules_l1 a2 a1 FUEL (0 : Int)).bind fun o => match o with
  | .inl () =>
   ((S.IsSchema a1).bind fun x5 =>
   if x5 then
    some (decide ((List.length a2 : Int) ≤ 4))
   else
    some false).bind fun x4 =>
   some x4
  | .inr r => some r

def S.l14Fine (a1 : (List Int)) (a2 : (List (Int × (List Int) × Int × Int × Int))) (a3 : (List (Int × Int × (List Int)))) : Option Bool :=
 ((S.AreMethods a1 a2).bind fun x2 =>
 if x2 then
  (S.AreRules a1 a3).bind fun x3 =>
  some x3
 else
  some false).bind fun x1 =>
 some x1

def S.l13Apply_l1 (a1 : (Int × Int × (List Int))) (a2 : (Int × (List Int))) : Nat → Int → (List Int) → Int → Option ((Int × (List Int)))
 | 0, _, _, _ => none
 | k + 1, x1, x2, x3 =>
  if (decide (x3 < (List.length a1.2.2 : Int))) then
   (idx a1.2.2 x3).bind fun x6 =>
   (idx a2.2 x6).bind fun x7 =>
   (app x2 ([x7])).bind fun x8 =>
   S.l13Apply_l1 a1 a2 k x1 x8 (w64 (x3 + 1))
  else
   some (x1, x2)

def S.l13Apply (a1 : (Int × Int × (List Int))) (a2 : (Int × (List Int))) : Option (Int × (List Int)) :=
 (S.l13Apply_l1 a1 a2 FUEL a1.2.1 ([]) (0 : Int)).bind fun (x4, x5) =>
 some (x4, x5)

def S.l13Missing_l2 (a1 : (List (Int × Int × (List Int)))) (a2 : (List (Int × (List Int)))) (x2 : Int) : Nat → (List (Int × (List Int))) → Int → Option ((List (Int × (List Int))))
 | 0, _, _ => none
 | k + 1, x4, x5 =>
  if (decide (x5 < (List.length a1 : Int))) then
   (idx a1 x5).bind fun x7 =>
   (idx a2 x2).bind fun x8 =>
   if (!decide (x7.1 = x8.1)) then
    S.l13Missing_l2 a1 a2 x2 k x4 (w64 (x5 + 1))
   else
    (idx a1 x5).bind fun x9 =>
    (idx a2 x2).bind fun x10 =>
    (S.l13Apply x9 x10).bind fun x11 =>
    (S.HasFact a2 (x11.1, x11.2)).bind fun x12 =>
    (if (!x12) then
     (S.AddFact x4 (x11.1, x11.2)).bind fun x14 =>
     some x14
    else
     some x4).bind fun x13 =>
    S.l13Missing_l2 a1 a2 x2 k x13 (w64 (x5 + 1))
  else
   some x4

def S.l13Missing_l1 (a2 : (List (Int × (List Int)))) (a1 : (List (Int × Int × (List Int)))) : Nat → (List (Int × (List Int))) → Int → Option ((List (Int × (List Int))))
 | 0, _, _ => none
 | k + 1, x1, x2 =>
  if (decide (x2 < (List.length a2 : Int))) then
   (S.l13Missing_l2 a1 a2 x2 FUEL x1 (0 : Int)).bind fun x6 =>
   S.l13Missing_l1 a2 a1 k x6 (w64 (x2 + 1))
  else
   some x1

def S.l13Missing (a1 : (List (Int × Int × (List Int)))) (a2 : (List (Int × (List Int)))) : Option (List (Int × (List Int))) :=
 (S.l13Missing_l1 a2 a1 FUEL ([] : List (Int × (List Int))) (0 : Int)).bind fun x3 =>
 some x3

def S.BrokenRules_l2 (a4 : (List ((Int × (List Int)) × (List (Int × (List Int)))))) (a2 : (List (Int × (List Int) × Int × Int × Int))) (x9 : (Int × (List Int))) : Nat → Bool → Int → Option (Bool)
 | 0, _, _ => none
 | k + 1, x10, x11 =>
  if (decide (x11 < (List.length a4 : Int))) then
   (idx a4 x11).bind fun x13 =>
   (idx a2 x13.1.1).bind fun x14 =>
   (if x10 then
    some true
   else
    (idx a4 x11).bind fun x16 =>
    (S.l5Fits (x14.1, x14.2.1, x14.2.2.1, x14.2.2.2.1, x14.2.2.2.2) x16.1.2 (x9.1, x9.2)).bind fun x17 =>
    if x17 then
     if (decide (x14.2.2.1 = 0)) then
      some true
     else
      (idx a4 x11).bind fun x18 =>
      some (decide ((List.length x18.2 : Int) < x14.2.2.1))
    else
     some false).bind fun x15 =>
   S.BrokenRules_l2 a4 a2 x9 k x15 (w64 (x11 + 1))
  else
   some x10

def S.BrokenRules_l1 (x5 : (List (Int × (List Int)))) (a4 : (List ((Int × (List Int)) × (List (Int × (List Int)))))) (a2 : (List (Int × (List Int) × Int × Int × Int))) : Nat → (List (Int × (List Int))) → Int → Option ((List (Int × (List Int))))
 | 0, _, _ => none
 | k + 1, x6, x7 =>
  if (decide (x7 < (List.length x5 : Int))) then
   (idx x5 x7).bind fun x9 =>
   (S.BrokenRules_l2 a4 a2 x9 FUEL false (0 : Int)).bind fun x12 =>
   (if x12 then
    (app x6 ([(x9.1, x9.2)])).bind fun x20 =>
    some x20
   else
    some x6).bind fun x19 =>
   S.BrokenRules_l1 x5 a4 a2 k x19 (w64 (x7 + 1))
  else
   some x6

def S.BrokenRules (a1 : (List Int)) (a2 : (List (Int × (List Int) × Int × Int × Int))) (a3 : (List (Int × Int × (List Int)))) (a4 : (List ((Int × (List Int)) × (List (Int × (List Int)))))) : Option (List (Int × (List Int))) :=
 ((S.l14Fine a1 a2 a3).bind fun x2 =>
 if (!x2) then
  some true
 else
  (S.IsConsistent a1 a2 a4).bind fun x3 =>
  some (!x3)).bind fun x1 =>
 if x1 then
  some ([] : List (Int × (List Int)))
 else
  (S.UnionOf a4).bind fun x4 =>
  (S.l13Missing a3 x4).bind fun x5 =>
  (S.BrokenRules_l1 x5 a4 a2 FUEL ([] : List (Int × (List Int))) (0 : Int)).bind fun x8 =>
  some x8

def S.SatisfiesRules (a1 : (List Int)) (a2 : (List (Int × Int × (List Int)))) (a3 : (List (Int × (List Int)))) : Option Bool :=
 ((S.AreRules a1 a2).bind fun x2 =>
 if x2 then
  (S.AreFacts a1 a3).bind fun x3 =>
  if x3 then
   (S.l13Missing a2 a3).bind fun x4 =>
   some (decide ((List.length x4 : Int) = 0))
  else
   some false
 else
  some false).bind fun x1 =>
 some x1

def Q.FnConflicts (a1 : (List UInt8)) : Option Bool :=
 (Q.big a1).bind fun x1 =>
 if x1 then
  some true
 else
  (S.DrawFirstConflict a1).bind fun x2 =>
  (M.FirstConflict x2.1 x2.2.1 x2.2.2).bind fun x3 =>
  (S.FirstConflict x2.1 x2.2.1 x2.2.2).bind fun x4 =>
  (M.UnionOf x2.2.2).bind fun x5 =>
  (if (!decide (x3.2.2 = x4.2.2)) then
   some true
  else
   if (!decide (x3.1 = x4.1)) then
    some true
   else
    if (!decide (x3.2.1 = x4.2.1)) then
     some true
    else
     (S.UnionOf x2.2.2).bind fun x7 =>
     (S.SameFacts x5 x7).bind fun x8 =>
     if (!x8) then
      some true
     else
      (M.IsConsistent x2.1 x2.2.1 x2.2.2).bind fun x9 =>
      (S.IsConsistent x2.1 x2.2.1 x2.2.2).bind fun x10 =>
      some (!decide (x9 = x10))).bind fun x6 =>
  if x6 then
   some false
  else
   ((S.AreMethods x2.1 x2.2.1).bind fun x12 =>
   if x12 then
    (S.UnionOf x2.2.2).bind fun x13 =>
    (M.Explains x2.1 x2.2.1 x13 x2.2.2).bind fun x14 =>
    some (decide (x3.2.2 = x14))
   else
    some false).bind fun x11 =>
   if x11 then
    some false
   else
    (S.DrawExplains a1).bind fun x15 =>
    ((M.Explains x15.1 x15.2.1 x15.2.2.1 x15.2.2.2).bind fun x17 =>
    (S.Explains x15.1 x15.2.1 x15.2.2.1 x15.2.2.2).bind fun x18 =>
    if (!decide (x17 = x18)) then
     some true
    else
     (S.Explains x15.1 x15.2.1 x15.2.2.1 x15.2.2.2).bind fun x19 =>
     if x19 then
      (M.IsConsistent x15.1 x15.2.1 x15.2.2.2).bind fun x20 =>
      some (!x20)
     else
      some false).bind fun x16 =>
    if x16 then
     some false
    else
     (S.DrawBrokenRules a1).bind fun x21 =>
     (M.BrokenRules x21.1 x21.2.1 x21.2.2.1 x21.2.2.2).bind fun x22 =>
     (S.DrawDisagree a1).bind fun x23 =>
     (S.DrawFitsSelf a1).bind fun x24 =>
     ((S.BrokenRules x21.1 x21.2.1 x21.2.2.1 x21.2.2.2).bind fun x26 =>
     (S.SameFacts x22 x26).bind fun x27 =>
     if x27 then
      (M.Disagree x23.1 x23.2.1 ((x23.2.2.1.1.1, x23.2.2.1.1.2), x23.2.2.1.2) ((x23.2.2.2.1.1, x23.2.2.2.1.2), x23.2.2.2.2)).bind fun x28 =>
      (S.Disagree x23.1 x23.2.1 ((x23.2.2.1.1.1, x23.2.2.1.1.2), x23.2.2.1.2) ((x23.2.2.2.1.1, x23.2.2.2.1.2), x23.2.2.2.2)).bind fun x29 =>
      if (decide (x28 = x29)) then
       (M.Disagree x23.1 x23.2.1 ((x23.2.2.1.1.1, x23.2.2.1.1.2), x23.2.2.1.2) ((x23.2.2.2.1.1, x23.2.2.2.1.2), x23.2.2.2.2)).bind fun x30 =>
       (M.Disagree x23.1 x23.2.1 ((x23.2.2.2.1.1, x23.2.2.2.1.2), x23.2.2.2.2) ((x23.2.2.1.1.1, x23.2.2.1.1.2), x23.2.2.1.2)).bind fun x31 =>
       if (decide (x30 = x31)) then
        (M.FitsSelf x24.1 x24.2.1 ((x24.2.2.1.1, x24.2.2.1.2), x24.2.2.2)).bind fun x32 =>
        (S.FitsSelf x24.1 x24.2.1 ((x24.2.2.1.1, x24.2.2.1.2), x24.2.2.2)).bind fun x33 =>
        if (decide (x32 = x33)) then
         (M.IsTold x24.1 x24.2.1 ((x24.2.2.1.1, x24.2.2.1.2), x24.2.2.2)).bind fun x34 =>
         (S.IsTold x24.1 x24.2.1 ((x24.2.2.1.1, x24.2.2.1.2), x24.2.2.2)).bind fun x35 =>
         if (decide (x34 = x35)) then
          if (decide ((List.length x22 : Int) = 0)) then
           some true
          else
           (S.UnionOf x21.2.2.2).bind fun x36 =>
           (S.SatisfiesRules x21.1 x21.2.2.1 x36).bind fun x37 =>
           some (!x37)
         else
          some false
        else
         some false
       else
        some false
      else
       some false
     else
      some false).bind fun x25 =>
     some x25

end Go.Gx.Px
