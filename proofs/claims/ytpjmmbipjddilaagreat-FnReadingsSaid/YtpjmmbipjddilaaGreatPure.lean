/- The Go functions as pure Lean functions, printed by program. Conditions: none. -/
import Derived.Test.YtpjmmbipjddilaaGreatGxHo
set_option linter.unusedVariables false
namespace Go.Gx.Px

def Q.big (a1 : (List UInt8)) : Option Bool :=
 some (decide (1048576 < (List.length a1 : Int)))

def S.CompareFacts_l1 (a1 : (Int × (List Int))) (a2 : (Int × (List Int))) : Nat → Int → Option (Sum Unit Int)
 | 0, _ => none
 | k + 1, x1 =>
  (if (decide (x1 < (List.length a1.2 : Int))) then
   some (decide (x1 < (List.length a2.2 : Int)))
  else
   some false).bind fun x2 =>
  if x2 then
   (idx a1.2 x1).bind fun x3 =>
   (idx a2.2 x1).bind fun x4 =>
   if (decide (x3 < x4)) then
    some (.inr (-1))
   else
    (idx a1.2 x1).bind fun x5 =>
    (idx a2.2 x1).bind fun x6 =>
    if (decide (x6 < x5)) then
     some (.inr 1)
    else
     S.CompareFacts_l1 a1 a2 k (w64 (x1 + 1))
  else
   some (.inl ())

def S.CompareFacts (a1 : (Int × (List Int))) (a2 : (Int × (List Int))) : Option Int :=
 if (!decide (a1.1 = a2.1)) then
  if (decide (a1.1 < a2.1)) then
   some (-1)
  else
   some 1
 else
  (S.CompareFacts_l1 a1 a2 FUEL (0 : Int)).bind fun o => match o with
   | .inl () =>
    if (decide ((List.length a1.2 : Int) < (List.length a2.2 : Int))) then
     some (-1)
    else
     if (decide ((List.length a2.2 : Int) < (List.length a1.2 : Int))) then
      some 1
     else
      some 0
   | .inr r => some r

def S.SameFacts_l1 (a1 : (List (Int × (List Int)))) (a2 : (List (Int × (List Int)))) : Nat → Int → Option (Sum Unit Bool)
 | 0, _ => none
 | k + 1, x1 =>
  if (decide (x1 < (List.length a1 : Int))) then
   (idx a1 x1).bind fun x2 =>
   (idx a2 x1).bind fun x3 =>
   (S.CompareFacts x2 x3).bind fun x4 =>
   if (!decide (x4 = 0)) then
    some (.inr false)
   else
    S.SameFacts_l1 a1 a2 k (w64 (x1 + 1))
  else
   some (.inl ())

def S.SameFacts (a1 : (List (Int × (List Int)))) (a2 : (List (Int × (List Int)))) : Option Bool :=
 if (!decide ((List.length a1 : Int) = (List.length a2 : Int))) then
  some false
 else
  (S.SameFacts_l1 a1 a2 FUEL (0 : Int)).bind fun o => match o with
   | .inl () =>
    some true
   | .inr r => some r

def S.l1New_l1 (a1 : (List UInt8)) : Nat → Int → Int → Option (Int)
 | 0, _, _ => none
 | k + 1, x1, x2 =>
  (if (decide (x2 < (List.length a1 : Int))) then
   some (decide (x2 < 4000))
  else
   some false).bind fun x4 =>
  if x4 then
   (idx a1 x2).bind fun x5 =>
   S.l1New_l1 a1 k (band (w64 ((w64 ((w64 (x1 * 131)) + (w64 (UInt8.toNat x5 : Int)))) + 7)) 1073741823) (w64 (x2 + 1))
  else
   some x1

def S.l1New (a1 : (List UInt8)) : Option ((List UInt8) × Int × Int) :=
 (S.l1New_l1 a1 FUEL (w64 (10101 + (List.length a1 : Int))) (0 : Int)).bind fun x3 =>
 some (a1, 0, x3)

def S.l1Byte (a1 : ((List UInt8) × Int × Int)) : Option (Int × ((List UInt8) × Int × Int)) :=
 (if (decide (a1.2.1 < (List.length a1.1 : Int))) then
  (idx a1.1 a1.2.1).bind fun x4 =>
  some (w64 (a1.2.1 + 1), w64 ((w64 (a1.2.2 * 6364136223846793005)) + 1442695040888963407), band (w64 ((band (bxor (shr (w64 ((w64 (a1.2.2 * 6364136223846793005)) + 1442695040888963407)) 33) (shr (w64 ((w64 (a1.2.2 * 6364136223846793005)) + 1442695040888963407)) 45)) 255) + (w64 (UInt8.toNat x4 : Int)))) 255)
 else
  some (a1.2.1, w64 ((w64 (a1.2.2 * 6364136223846793005)) + 1442695040888963407), band (bxor (shr (w64 ((w64 (a1.2.2 * 6364136223846793005)) + 1442695040888963407)) 33) (shr (w64 ((w64 (a1.2.2 * 6364136223846793005)) + 1442695040888963407)) 45)) 255)).bind fun (x1, x2, x3) =>
 some (x3, (a1.1, x1, x2))

def S.l1Below (a1 : ((List UInt8) × Int × Int)) (a2 : Int) : Option (Int × ((List UInt8) × Int × Int)) :=
 if (decide (a2 ≤ 0)) then
  some (0, (a1.1, a1.2.1, a1.2.2))
 else
  if (decide (a2 ≤ 256)) then
   (S.l1Byte (a1.1, a1.2.1, a1.2.2)).bind fun x1 =>
   (nz a2).bind fun _ =>
   some (x1.1.tmod a2, (a1.1, x1.2.2.1, x1.2.2.2))
  else
   (S.l1Byte (a1.1, a1.2.1, a1.2.2)).bind fun x2 =>
   (S.l1Byte (a1.1, x2.2.2.1, x2.2.2.2)).bind fun x3 =>
   (S.l1Byte (a1.1, x3.2.2.1, x3.2.2.2)).bind fun x4 =>
   (S.l1Byte (a1.1, x4.2.2.1, x4.2.2.2)).bind fun x5 =>
   (nz a2).bind fun _ =>
   some ((w64 ((w64 ((w64 ((w64 (x2.1 * 16777216)) + (w64 (x3.1 * 65536)))) + (w64 (x4.1 * 256)))) + x5.1)).tmod a2, (a1.1, x5.2.2.1, x5.2.2.2))

def S.l1Once (a1 : ((List UInt8) × Int × Int)) (a2 : Int) : Option (Bool × ((List UInt8) × Int × Int)) :=
 (S.l1Below (a1.1, a1.2.1, a1.2.2) a2).bind fun x1 =>
 some ((decide (x1.1 = 0)), (a1.1, x1.2.2.1, x1.2.2.2))

def S.l1PickInt (a1 : ((List UInt8) × Int × Int)) (a2 : (List Int)) : Option (Int × ((List UInt8) × Int × Int)) :=
 (S.l1Below (a1.1, a1.2.1, a1.2.2) (List.length a2 : Int)).bind fun x1 =>
 (idx a2 x1.1).bind fun x2 =>
 some (x2, (a1.1, x1.2.2.1, x1.2.2.2))

def S.l2Schema_l1 (a1 : ((List UInt8) × Int × Int)) : Nat → Int → Int → (List Int) → Int → Option ((Int × Int × (List Int)))
 | 0, _, _, _, _ => none
 | k + 1, x2, x3, x4, x5 =>
  if (decide (0 < x5)) then
   (S.l1Below (a1.1, x2, x3) 2).bind fun x9 =>
   (S.l1Once (a1.1, x9.2.2.1, x9.2.2.2) 4).bind fun x10 =>
   (if x10.1 then
    some (3 : Int)
   else
    some (w64 (1 + x9.1))).bind fun x11 =>
   (app x4 ([x11])).bind fun x12 =>
   S.l2Schema_l1 a1 k x10.2.2.1 x10.2.2.2 x12 (w64 (x5 - 1))
  else
   some (x2, x3, x4)

def S.l2Schema (a1 : ((List UInt8) × Int × Int)) : Option ((List Int) × ((List UInt8) × Int × Int)) :=
 (S.l1Below (a1.1, a1.2.1, a1.2.2) 3).bind fun x1 =>
 (S.l2Schema_l1 a1 FUEL x1.2.2.1 x1.2.2.2 ([] : List Int) (w64 (1 + x1.1))).bind fun (x6, x7, x8) =>
 some (x8, (a1.1, x6, x7))

def S.l5Method_l1 (a2 : (List Int)) (a1 : ((List UInt8) × Int × Int)) : Nat → Int → (List Int) → Int → Int → Int → Int → Int → Int → Option ((Int × (List Int) × Int × Int × Int × Int × Int))
 | 0, _, _, _, _, _, _, _, _ => none
 | k + 1, x5, x6, x7, x8, x9, x10, x11, x12 =>
  (idx a2 x5).bind fun x20 =>
  if (decide (x12 < x20)) then
   (S.l1Once (a1.1, x10, x11) 3).bind fun x21 =>
   (if x21.1 then
    (app x6 ([x12])).bind fun x27 =>
    some (x5, x27, x7, x8, x9)
   else
    some (x5, x6, x7, x8, x9)).bind fun (x22, x23, x24, x25, x26) =>
   S.l5Method_l1 a2 a1 k x22 x23 x24 x25 x26 x21.2.2.1 x21.2.2.2 (w64 (x12 + 1))
  else
   some (x5, x6, x7, x8, x9, x10, x11)

def S.l5Method (a1 : ((List UInt8) × Int × Int)) (a2 : (List Int)) : Option ((Int × (List Int) × Int × Int × Int) × ((List UInt8) × Int × Int)) :=
 (S.l1Below (a1.1, a1.2.1, a1.2.2) (List.length a2 : Int)).bind fun x1 =>
 (S.l1PickInt (a1.1, x1.2.2.1, x1.2.2.2) ([0, 0, 0, 1, 2])).bind fun x2 =>
 (S.l1Below (a1.1, x2.2.2.1, x2.2.2.2) 5).bind fun x3 =>
 (S.l1Below (a1.1, x3.2.2.1, x3.2.2.2) 6).bind fun x4 =>
 (S.l5Method_l1 a2 a1 FUEL x1.1 ([]) x2.1 x3.1 (w64 (1 + x4.1)) x4.2.2.1 x4.2.2.2 (0 : Int)).bind fun (x13, x14, x15, x16, x17, x18, x19) =>
 some ((x13, x14, x15, x16, x17), (a1.1, x18, x19))

def S.l5Methods_l1 (a1 : ((List UInt8) × Int × Int)) (a2 : (List Int)) : Nat → Int → Int → (List (Int × (List Int) × Int × Int × Int)) → Int → Option ((Int × Int × (List (Int × (List Int) × Int × Int × Int))))
 | 0, _, _, _, _ => none
 | k + 1, x2, x3, x4, x5 =>
  if (decide (0 < x5)) then
   (S.l5Method (a1.1, x2, x3) a2).bind fun x9 =>
   (app x4 ([(x9.1.1, x9.1.2.1, x9.1.2.2.1, x9.1.2.2.2.1, x9.1.2.2.2.2)])).bind fun x10 =>
   S.l5Methods_l1 a1 a2 k x9.2.2.1 x9.2.2.2 x10 (w64 (x5 - 1))
  else
   some (x2, x3, x4)

def S.l5Methods (a1 : ((List UInt8) × Int × Int)) (a2 : (List Int)) : Option ((List (Int × (List Int) × Int × Int × Int)) × ((List UInt8) × Int × Int)) :=
 (S.l1Below (a1.1, a1.2.1, a1.2.2) 4).bind fun x1 =>
 (S.l5Methods_l1 a1 a2 FUEL x1.2.2.1 x1.2.2.2 ([] : List (Int × (List Int) × Int × Int × Int)) (w64 (1 + x1.1))).bind fun (x6, x7, x8) =>
 some (x8, (a1.1, x6, x7))

def S.HasFact_l1 (a1 : (List (Int × (List Int)))) (a2 : (Int × (List Int))) : Nat → Int → Option (Sum Unit Bool)
 | 0, _ => none
 | k + 1, x1 =>
  if (decide (x1 < (List.length a1 : Int))) then
   (idx a1 x1).bind fun x2 =>
   (S.CompareFacts x2 (a2.1, a2.2)).bind fun x3 =>
   if (decide (x3 = 0)) then
    some (.inr true)
   else
    S.HasFact_l1 a1 a2 k (w64 (x1 + 1))
  else
   some (.inl ())

def S.HasFact (a1 : (List (Int × (List Int)))) (a2 : (Int × (List Int))) : Option Bool :=
 (S.HasFact_l1 a1 a2 FUEL (0 : Int)).bind fun o => match o with
  | .inl () =>
   some false
  | .inr r => some r

def S.l2One (a1 : Int) (a2 : (List Int)) : Option (Int × (List Int)) :=
 (app ([] : List Int) a2).bind fun x1 =>
 some (a1, x1)

def S.AddFact_l1 (a1 : (List (Int × (List Int)))) (a2 : (Int × (List Int))) : Nat → (List (Int × (List Int))) → Bool → Int → Option (((List (Int × (List Int))) × Bool))
 | 0, _, _, _ => none
 | k + 1, x2, x3, x4 =>
  if (decide (x4 < (List.length a1 : Int))) then
   (if (!x3) then
    (idx a1 x4).bind fun x8 =>
    (S.CompareFacts (a2.1, a2.2) x8).bind fun x9 =>
    some (decide (x9 < 0))
   else
    some false).bind fun x7 =>
   (if x7 then
    (S.l2One a2.1 a2.2).bind fun x12 =>
    (app x2 ([(x12.1, x12.2)])).bind fun x13 =>
    some (x13, true)
   else
    some (x2, x3)).bind fun (x10, x11) =>
   (idx a1 x4).bind fun x14 =>
   (idx a1 x4).bind fun x15 =>
   (S.l2One x14.1 x15.2).bind fun x16 =>
   (app x10 ([(x16.1, x16.2)])).bind fun x17 =>
   S.AddFact_l1 a1 a2 k x17 x11 (w64 (x4 + 1))
  else
   some (x2, x3)

def S.AddFact (a1 : (List (Int × (List Int)))) (a2 : (Int × (List Int))) : Option (List (Int × (List Int))) :=
 (S.HasFact a1 (a2.1, a2.2)).bind fun x1 =>
 (S.AddFact_l1 a1 a2 FUEL ([] : List (Int × (List Int))) x1 (0 : Int)).bind fun (x5, x6) =>
 (if (!x6) then
  (S.l2One a2.1 a2.2).bind fun x19 =>
  (app x5 ([(x19.1, x19.2)])).bind fun x20 =>
  some x20
 else
  some x5).bind fun x18 =>
 some x18

def S.l2Fact_l1 (a2 : (List Int)) (a1 : ((List UInt8) × Int × Int)) (a3 : Int) : Nat → Int → (List Int) → Int → Int → Int → Option ((Int × (List Int) × Int × Int))
 | 0, _, _, _, _, _ => none
 | k + 1, x2, x3, x4, x5, x6 =>
  (idx a2 x2).bind fun x11 =>
  if (decide (x6 < x11)) then
   (S.l1Below (a1.1, x4, x5) a3).bind fun x12 =>
   (app x3 ([x12.1])).bind fun x13 =>
   S.l2Fact_l1 a2 a1 a3 k x2 x13 x12.2.2.1 x12.2.2.2 (w64 (x6 + 1))
  else
   some (x2, x3, x4, x5)

def S.l2Fact (a1 : ((List UInt8) × Int × Int)) (a2 : (List Int)) (a3 : Int) : Option ((Int × (List Int)) × ((List UInt8) × Int × Int)) :=
 (S.l1Below (a1.1, a1.2.1, a1.2.2) (List.length a2 : Int)).bind fun x1 =>
 (S.l2Fact_l1 a2 a1 a3 FUEL x1.1 ([]) x1.2.2.1 x1.2.2.2 (0 : Int)).bind fun (x7, x8, x9, x10) =>
 some ((x7, x8), (a1.1, x9, x10))

def S.l2Facts_l1 (a1 : ((List UInt8) × Int × Int)) (a2 : (List Int)) : Nat → Int → Int → (List (Int × (List Int))) → Int → Option ((Int × Int × (List (Int × (List Int)))))
 | 0, _, _, _, _ => none
 | k + 1, x2, x3, x4, x5 =>
  if (decide (0 < x5)) then
   (S.l2Fact (a1.1, x2, x3) a2 4).bind fun x9 =>
   (S.AddFact x4 x9.1).bind fun x10 =>
   S.l2Facts_l1 a1 a2 k x9.2.2.1 x9.2.2.2 x10 (w64 (x5 - 1))
  else
   some (x2, x3, x4)

def S.l2Facts (a1 : ((List UInt8) × Int × Int)) (a2 : (List Int)) (a3 : Int) : Option ((List (Int × (List Int))) × ((List UInt8) × Int × Int)) :=
 (S.l1Below (a1.1, a1.2.1, a1.2.2) (w64 (a3 + 1))).bind fun x1 =>
 (S.l2Facts_l1 a1 a2 FUEL x1.2.2.1 x1.2.2.2 ([] : List (Int × (List Int))) x1.1).bind fun (x6, x7, x8) =>
 some (x8, (a1.1, x6, x7))

def S.l1In (a1 : Int) (a2 : Int) (a3 : Int) : Option Bool :=
 (if (decide (a2 ≤ a1)) then
  some (decide (a1 ≤ a3))
 else
  some false).bind fun x1 =>
 some x1

def S.IsSchema_l1 (a1 : (List Int)) : Nat → Int → Option (Sum Unit Bool)
 | 0, _ => none
 | k + 1, x1 =>
  if (decide (x1 < (List.length a1 : Int))) then
   (idx a1 x1).bind fun x2 =>
   (S.l1In x2 1 3).bind fun x3 =>
   if (!x3) then
    some (.inr false)
   else
    S.IsSchema_l1 a1 k (w64 (x1 + 1))
  else
   some (.inl ())

def S.IsSchema (a1 : (List Int)) : Option Bool :=
 (S.IsSchema_l1 a1 FUEL (0 : Int)).bind fun o => match o with
  | .inl () =>
   (S.l1In (List.length a1 : Int) 1 3).bind fun x4 =>
   some x4
  | .inr r => some r

def S.l5AnyMethod (a1 : ((List UInt8) × Int × Int)) (a2 : (List Int)) : Option ((Int × (List Int) × Int × Int × Int) × ((List UInt8) × Int × Int)) :=
 (S.IsSchema a2).bind fun x1 =>
 (if x1 then
  (S.l5Method (a1.1, a1.2.1, a1.2.2) a2).bind fun x9 =>
  some (x9.1.1, x9.1.2.1, x9.1.2.2.1, x9.1.2.2.2.1, x9.1.2.2.2.2, x9.2.2.1, x9.2.2.2)
 else
  some ((0 : Int), [], (0 : Int), (0 : Int), (1 : Int), a1.2.1, a1.2.2)).bind fun (x2, x3, x4, x5, x6, x7, x8) =>
 (S.l1Below (a1.1, x7, x8) 10).bind fun x10 =>
 (if (decide (x10.1 = 0)) then
  (S.l1PickInt (a1.1, x10.2.2.1, x10.2.2.2) ([(-1), 9, 10])).bind fun x18 =>
  some (x18.2.2.1, x18.2.2.2, x2, x3, x18.1, x5, x6)
 else
  (if (decide (x10.1 = 1)) then
   ((S.l1Below (a1.1, x10.2.2.1, x10.2.2.2) 5).bind fun x33 =>
   (app x3 ([w64 (x33.1 - 1)])).bind fun x34 =>
   some (x33.2.2.1, x33.2.2.2, x2, x34, x4, x5, x6)).bind fun (x26, x27, x28, x29, x30, x31, x32) =>
   some (x26, x27, x28, x29, x30, x31, x32)
  else
   (if (decide (x10.1 = 2)) then
    (S.l1PickInt (a1.1, x10.2.2.1, x10.2.2.2) ([0, 99, 100])).bind fun x42 =>
    some (x42.2.2.1, x42.2.2.2, x2, x3, x4, x5, x42.1)
   else
    (if (decide (x10.1 = 3)) then
     (S.l1PickInt (a1.1, x10.2.2.1, x10.2.2.2) ([(-1), 99, 100])).bind fun x50 =>
     some (x50.2.2.1, x50.2.2.2, x2, x3, x4, x50.1, x6)
    else
     some (x10.2.2.1, x10.2.2.2, x2, x3, x4, x5, x6)).bind fun (x43, x44, x45, x46, x47, x48, x49) =>
    some (x43, x44, x45, x46, x47, x48, x49)).bind fun (x35, x36, x37, x38, x39, x40, x41) =>
   some (x35, x36, x37, x38, x39, x40, x41)).bind fun (x19, x20, x21, x22, x23, x24, x25) =>
  some (x19, x20, x21, x22, x23, x24, x25)).bind fun (x11, x12, x13, x14, x15, x16, x17) =>
 some ((x13, x14, x15, x16, x17), (a1.1, x11, x12))

def S.l2AnyFact (a1 : ((List UInt8) × Int × Int)) (a2 : (List Int)) : Option ((Int × (List Int)) × ((List UInt8) × Int × Int)) :=
 (S.IsSchema a2).bind fun x1 =>
 (if x1 then
  (S.l2Fact (a1.1, a1.2.1, a1.2.2) a2 10).bind fun x6 =>
  some (x6.1.1, x6.1.2, x6.2.2.1, x6.2.2.2)
 else
  some ((0 : Int), [1], a1.2.1, a1.2.2)).bind fun (x2, x3, x4, x5) =>
 (S.l1Below (a1.1, x4, x5) 8).bind fun x7 =>
 (if (decide (x7.1 = 0)) then
  (S.l1Below (a1.1, x7.2.2.1, x7.2.2.2) 5).bind fun x12 =>
  some (x12.2.2.1, x12.2.2.2, w64 (x12.1 - 1), x3)
 else
  (if (decide (x7.1 = 1)) then
   ((S.l1PickInt (a1.1, x7.2.2.1, x7.2.2.2) ([(-1), 9, 10])).bind fun x20 =>
   (idx x3 0).bind fun x21 =>
   some ((List.set x3 (Int.toNat 0) x20.1), x20.2.2.1, x20.2.2.2)).bind fun (x17, x18, x19) =>
   some (x18, x19, x2, x17)
  else
   (if (decide (x7.1 = 2)) then
    (app x3 ([1])).bind fun x24 =>
    some (x2, x24)
   else
    some (x2, x3)).bind fun (x22, x23) =>
   some (x7.2.2.1, x7.2.2.2, x22, x23)).bind fun (x13, x14, x15, x16) =>
  some (x13, x14, x15, x16)).bind fun (x8, x9, x10, x11) =>
 some ((x10, x11), (a1.1, x8, x9))

def S.l2AnyFacts (a1 : ((List UInt8) × Int × Int)) (a2 : (List Int)) : Option ((List (Int × (List Int))) × ((List UInt8) × Int × Int)) :=
 (S.IsSchema a2).bind fun x1 =>
 (if x1 then
  (S.l2Facts (a1.1, a1.2.1, a1.2.2) a2 8).bind fun x5 =>
  some (x5.2.2.1, x5.2.2.2, x5.1)
 else
  some (a1.2.1, a1.2.2, ([] : List (Int × (List Int))))).bind fun (x2, x3, x4) =>
 (S.l1Once (a1.1, x2, x3) 10).bind fun x6 =>
 (if x6.1 then
  (S.l2AnyFact (a1.1, x6.2.2.1, x6.2.2.2) a2).bind fun x10 =>
  (app x4 ([(x10.1.1, x10.1.2)])).bind fun x11 =>
  some (x10.2.2.1, x10.2.2.2, x11)
 else
  some (x6.2.2.1, x6.2.2.2, x4)).bind fun (x7, x8, x9) =>
 some (x9, (a1.1, x7, x8))

def S.l2AnySchema (a1 : ((List UInt8) × Int × Int)) : Option ((List Int) × ((List UInt8) × Int × Int)) :=
 (S.l2Schema (a1.1, a1.2.1, a1.2.2)).bind fun x1 =>
 (S.l1Once (a1.1, x1.2.2.1, x1.2.2.2) 14).bind fun x2 =>
 (if x2.1 then
  (S.l1PickInt (a1.1, x2.2.2.1, x2.2.2.2) ([0, 1, 4])).bind fun x6 =>
  (app x1.1 ([x6.1])).bind fun x7 =>
  some (x6.2.2.1, x6.2.2.2, x7)
 else
  some (x2.2.2.1, x2.2.2.2, x1.1)).bind fun (x3, x4, x5) =>
 some (x5, (a1.1, x3, x4))

def S.l5Draw (a1 : ((List UInt8) × Int × Int)) : Option ((List Int) × (List (Int × (List Int) × Int × Int × Int)) × (List (Int × (List Int))) × ((List UInt8) × Int × Int)) :=
 (S.l2Schema (a1.1, a1.2.1, a1.2.2)).bind fun x1 =>
 (S.l5Methods (a1.1, x1.2.2.1, x1.2.2.2) x1.1).bind fun x2 =>
 (S.l2Facts (a1.1, x2.2.2.1, x2.2.2.2) x1.1 8).bind fun x3 =>
 (S.l1Below (a1.1, x3.2.2.1, x3.2.2.2) 20).bind fun x4 =>
 (if (decide (x4.1 = 0)) then
  (S.l5AnyMethod (a1.1, x4.2.2.1, x4.2.2.2) x1.1).bind fun x10 =>
  (app x2.1 ([(x10.1.1, x10.1.2.1, x10.1.2.2.1, x10.1.2.2.2.1, x10.1.2.2.2.2)])).bind fun x11 =>
  some (x10.2.2.1, x10.2.2.2, x1.1, x11, x3.1)
 else
  (if (decide (x4.1 = 1)) then
   (S.l2AnyFacts (a1.1, x4.2.2.1, x4.2.2.2) x1.1).bind fun x16 =>
   some (x16.2.2.1, x16.2.2.2, x1.1, x16.1)
  else
   (if (decide (x4.1 = 2)) then
    (S.l2AnySchema (a1.1, x4.2.2.1, x4.2.2.2)).bind fun x20 =>
    some (x20.2.2.1, x20.2.2.2, x20.1)
   else
    some (x4.2.2.1, x4.2.2.2, x1.1)).bind fun (x17, x18, x19) =>
   some (x17, x18, x19, x3.1)).bind fun (x12, x13, x14, x15) =>
  some (x12, x13, x14, x2.1, x15)).bind fun (x5, x6, x7, x8, x9) =>
 some (x7, x8, x9, (a1.1, x5, x6))

def S.l25Draw (a1 : ((List UInt8) × Int × Int)) : Option ((List Int) × (List (Int × (List Int) × Int × Int × Int)) × ((List (Int × (List Int))) × Int) × ((List UInt8) × Int × Int)) :=
 (S.l5Draw (a1.1, a1.2.1, a1.2.2)).bind fun x1 =>
 (S.l1Below (a1.1, x1.2.2.2.2.1, x1.2.2.2.2.2) 4).bind fun x2 =>
 (S.l1Once (a1.1, x2.2.2.1, x2.2.2.2) 12).bind fun x3 =>
 (if x3.1 then
  (S.l1PickInt (a1.1, x3.2.2.1, x3.2.2.2) ([(-1), 999, 1000, 1001])).bind fun x8 =>
  some (x8.2.2.1, x8.2.2.2, x1.2.2.1, x8.1)
 else
  some (x3.2.2.1, x3.2.2.2, x1.2.2.1, x2.1)).bind fun (x4, x5, x6, x7) =>
 some (x1.1, x1.2.1, (x6, x7), (a1.1, x4, x5))

def S.l25Change (a1 : ((List UInt8) × Int × Int)) (a2 : (List Int)) (a3 : ((List (Int × (List Int))) × Int)) : Option ((Bool × (Int × (List Int))) × ((List UInt8) × Int × Int)) :=
 (if (decide (0 < (List.length a3.1 : Int))) then
  (S.l1Once (a1.1, a1.2.1, a1.2.2) 2).bind fun x4 =>
  some (x4.2.2.1, x4.2.2.2, x4.1)
 else
  some (a1.2.1, a1.2.2, false)).bind fun (x1, x2, x3) =>
 if x3 then
  (S.l1Below (a1.1, x1, x2) (List.length a3.1 : Int)).bind fun x12 =>
  (idx a3.1 x12.1).bind fun x13 =>
  some ((false, (x13.1, x13.2)), (a1.1, x12.2.2.1, x12.2.2.2))
 else
  (S.IsSchema a2).bind fun x14 =>
  if (!x14) then
   some ((true, (0, [])), (a1.1, x1, x2))
  else
   (S.l2Fact (a1.1, x1, x2) a2 4).bind fun x15 =>
   some ((true, (x15.1.1, x15.1.2)), (a1.1, x15.2.2.1, x15.2.2.2))

def S.l25Changes_l1 (a1 : ((List UInt8) × Int × Int)) (a2 : (List Int)) (a3 : ((List (Int × (List Int))) × Int)) : Nat → Int → Int → (List (Bool × (Int × (List Int)))) → Int → Option ((Int × Int × (List (Bool × (Int × (List Int))))))
 | 0, _, _, _, _ => none
 | k + 1, x2, x3, x4, x5 =>
  if (decide (0 < x5)) then
   (S.l25Change (a1.1, x2, x3) a2 (a3.1, a3.2)).bind fun x9 =>
   (app x4 ([(x9.1.1, (x9.1.2.1, x9.1.2.2))])).bind fun x10 =>
   S.l25Changes_l1 a1 a2 a3 k x9.2.2.1 x9.2.2.2 x10 (w64 (x5 - 1))
  else
   some (x2, x3, x4)

def S.l25Changes (a1 : ((List UInt8) × Int × Int)) (a2 : (List Int)) (a3 : ((List (Int × (List Int))) × Int)) : Option ((List (Bool × (Int × (List Int)))) × ((List UInt8) × Int × Int)) :=
 (S.l1Below (a1.1, a1.2.1, a1.2.2) 5).bind fun x1 =>
 (S.l25Changes_l1 a1 a2 a3 FUEL x1.2.2.1 x1.2.2.2 ([] : List (Bool × (Int × (List Int)))) x1.1).bind fun (x6, x7, x8) =>
 some (x8, (a1.1, x6, x7))

def S.l5Access_l1 (a2 : (List (Int × (List Int) × Int × Int × Int))) (a1 : ((List UInt8) × Int × Int)) : Nat → Int → (List Int) → Int → Int → Int → Option ((Int × (List Int) × Int × Int))
 | 0, _, _, _, _, _ => none
 | k + 1, x2, x3, x4, x5, x6 =>
  (idx a2 x2).bind fun x11 =>
  if (decide (x6 < (List.length x11.2.1 : Int))) then
   (S.l1Below (a1.1, x4, x5) 4).bind fun x12 =>
   (app x3 ([x12.1])).bind fun x13 =>
   S.l5Access_l1 a2 a1 k x2 x13 x12.2.2.1 x12.2.2.2 (w64 (x6 + 1))
  else
   some (x2, x3, x4, x5)

def S.l5Access (a1 : ((List UInt8) × Int × Int)) (a2 : (List (Int × (List Int) × Int × Int × Int))) : Option ((Int × (List Int)) × ((List UInt8) × Int × Int)) :=
 if (decide ((List.length a2 : Int) = 0)) then
  some ((0, []), (a1.1, a1.2.1, a1.2.2))
 else
  (S.l1Below (a1.1, a1.2.1, a1.2.2) (List.length a2 : Int)).bind fun x1 =>
  (S.l5Access_l1 a2 a1 FUEL x1.1 ([]) x1.2.2.1 x1.2.2.2 (0 : Int)).bind fun (x7, x8, x9, x10) =>
  some ((x7, x8), (a1.1, x9, x10))

def S.DrawReadThrough (a1 : (List UInt8)) : Option ((List Int) × (List (Int × (List Int) × Int × Int × Int)) × ((List (Int × (List Int))) × Int) × (Int × (List Int)) × Int × (List (Bool × (Int × (List Int)))) × Int) :=
 (S.l1New a1).bind fun x1 =>
 (S.l25Draw (a1, x1.2.1, x1.2.2)).bind fun x2 =>
 (S.l5Access (a1, x2.2.2.2.2.1, x2.2.2.2.2.2) x2.2.1).bind fun x3 =>
 (S.l1Below (a1, x3.2.2.1, x3.2.2.2) 3).bind fun x4 =>
 (S.l1Once (a1, x4.2.2.1, x4.2.2.2) 12).bind fun x5 =>
 (if x5.1 then
  (S.l1PickInt (a1, x5.2.2.1, x5.2.2.2) ([0, 9, 10])).bind fun x9 =>
  some (x9.2.2.1, x9.2.2.2, x9.1)
 else
  some (x5.2.2.1, x5.2.2.2, w64 (1 + x4.1))).bind fun (x6, x7, x8) =>
 (S.l25Changes (a1, x6, x7) x2.1 (x2.2.2.1.1, x2.2.2.1.2)).bind fun x10 =>
 (S.l1Below (a1, x10.2.2.1, x10.2.2.2) 6).bind fun x23 =>
 some (x2.1, x2.2.1, (x2.2.2.1.1, x2.2.2.1.2), (x3.1.1, x3.1.2), x8, x10.1, w64 (x23.1 - 1))

def M.within (a1 : Int) (a2 : Int) (a3 : Int) : Option Bool :=
 (if (decide (a2 ≤ a1)) then
  some (decide (a1 ≤ a3))
 else
  some false).bind fun x1 =>
 some x1

def M.IsSchema_c1 (a1 : Int) : Option Bool :=
 (M.within a1 1 3).bind fun x1 =>
 some (!x1)

def Slices.IndexFunc_Lint_int_M_IsSchema_c1_l1 (a1 : (List Int)) : Nat → Int → Option (Sum Unit Int)
 | 0, _ => none
 | k + 1, x1 =>
  if (decide (x1 < (List.length a1 : Int))) then
   (idx a1 x1).bind fun x2 =>
   (M.IsSchema_c1 x2).bind fun x3 =>
   if x3 then
    some (.inr x1)
   else
    Slices.IndexFunc_Lint_int_M_IsSchema_c1_l1 a1 k (w64 (x1 + 1))
  else
   some (.inl ())

def Slices.IndexFunc_Lint_int_M_IsSchema_c1 (a1 : (List Int)) : Option Int :=
 (Slices.IndexFunc_Lint_int_M_IsSchema_c1_l1 a1 FUEL (0 : Int)).bind fun o => match o with
  | .inl () =>
   some (-1)
  | .inr r => some r

def Slices.ContainsFunc_Lint_int_M_IsSchema_c1 (a1 : (List Int)) : Option Bool :=
 (Slices.IndexFunc_Lint_int_M_IsSchema_c1 a1).bind fun x1 =>
 some (decide (0 ≤ x1))

def M.IsSchema (a1 : (List Int)) : Option Bool :=
 ((M.within (List.length a1 : Int) 1 3).bind fun x2 =>
 if x2 then
  (Slices.ContainsFunc_Lint_int_M_IsSchema_c1 a1).bind fun x3 =>
  some (!x3)
 else
  some false).bind fun x1 =>
 some x1

def M.hasRel (a1 : (List Int)) (a2 : Int) : Option Bool :=
 ((M.IsSchema a1).bind fun x2 =>
 if x2 then
  (M.within a2 0 (w64 ((List.length a1 : Int) - 1))).bind fun x3 =>
  some x3
 else
  some false).bind fun x1 =>
 some x1

def M.isValue (a1 : Int) : Option Bool :=
 (M.within a1 0 9).bind fun x1 =>
 some x1

def M.areValues_c1 (a1 : Int) : Option Bool :=
 (M.isValue a1).bind fun x1 =>
 some (!x1)

def Slices.IndexFunc_Lint_int_M_areValues_c1_l1 (a1 : (List Int)) : Nat → Int → Option (Sum Unit Int)
 | 0, _ => none
 | k + 1, x1 =>
  if (decide (x1 < (List.length a1 : Int))) then
   (idx a1 x1).bind fun x2 =>
   (M.areValues_c1 x2).bind fun x3 =>
   if x3 then
    some (.inr x1)
   else
    Slices.IndexFunc_Lint_int_M_areValues_c1_l1 a1 k (w64 (x1 + 1))
  else
   some (.inl ())

def Slices.IndexFunc_Lint_int_M_areValues_c1 (a1 : (List Int)) : Option Int :=
 (Slices.IndexFunc_Lint_int_M_areValues_c1_l1 a1 FUEL (0 : Int)).bind fun o => match o with
  | .inl () =>
   some (-1)
  | .inr r => some r

def Slices.ContainsFunc_Lint_int_M_areValues_c1 (a1 : (List Int)) : Option Bool :=
 (Slices.IndexFunc_Lint_int_M_areValues_c1 a1).bind fun x1 =>
 some (decide (0 ≤ x1))

def M.areValues (a1 : (List Int)) : Option Bool :=
 (Slices.ContainsFunc_Lint_int_M_areValues_c1 a1).bind fun x1 =>
 some (!x1)

def M.IsFact (a1 : (List Int)) (a2 : (Int × (List Int))) : Option Bool :=
 ((M.hasRel a1 a2.1).bind fun x2 =>
 if x2 then
  (idx a1 a2.1).bind fun x3 =>
  if (decide ((List.length a2.2 : Int) = x3)) then
   (M.areValues a2.2).bind fun x4 =>
   some x4
  else
   some false
 else
  some false).bind fun x1 =>
 some x1

def Cmp.Or_int_l1 (a1 : (List Int)) : Nat → Int → Option (Sum Unit Int)
 | 0, _ => none
 | k + 1, x1 =>
  if (decide (x1 < (List.length a1 : Int))) then
   (idx a1 x1).bind fun x2 =>
   if (!decide (x2 = 0)) then
    some (.inr x2)
   else
    Cmp.Or_int_l1 a1 k (w64 (x1 + 1))
  else
   some (.inl ())

def Cmp.Or_int (a1 : (List Int)) : Option Int :=
 (Cmp.Or_int_l1 a1 FUEL (0 : Int)).bind fun o => match o with
  | .inl () =>
   some 0
  | .inr r => some r

def Cmp.isNaN_int (a1 : Int) : Option Bool :=
 some (!decide (a1 = a1))

def Cmp.Compare_int (a1 : Int) (a2 : Int) : Option Int :=
 (Cmp.isNaN_int a1).bind fun x1 =>
 (Cmp.isNaN_int a2).bind fun x2 =>
 if x1 then
  if x2 then
   some 0
  else
   some (-1)
 else
  if x2 then
   some 1
  else
   if (decide (a1 < a2)) then
    some (-1)
   else
    if (decide (a2 < a1)) then
     some 1
    else
     some 0

def Slices.Compare_Lint_int_l1 (a1 : (List Int)) (a2 : (List Int)) : Nat → Int → Option (Sum Unit Int)
 | 0, _ => none
 | k + 1, x1 =>
  if (decide (x1 < (List.length a1 : Int))) then
   (idx a1 x1).bind fun x2 =>
   if (decide ((List.length a2 : Int) ≤ x1)) then
    some (.inr 1)
   else
    (idx a2 x1).bind fun x3 =>
    (Cmp.Compare_int x2 x3).bind fun x4 =>
    if (!decide (x4 = 0)) then
     some (.inr x4)
    else
     Slices.Compare_Lint_int_l1 a1 a2 k (w64 (x1 + 1))
  else
   some (.inl ())

def Slices.Compare_Lint_int (a1 : (List Int)) (a2 : (List Int)) : Option Int :=
 (Slices.Compare_Lint_int_l1 a1 a2 FUEL (0 : Int)).bind fun o => match o with
  | .inl () =>
   if (decide ((List.length a1 : Int) < (List.length a2 : Int))) then
    some (-1)
   else
    some 0
  | .inr r => some r

def M.CompareFacts (a1 : (Int × (List Int))) (a2 : (Int × (List Int))) : Option Int :=
 (Cmp.Compare_int a1.1 a2.1).bind fun x1 =>
 (Slices.Compare_Lint_int a1.2 a2.2).bind fun x2 =>
 (Cmp.Or_int ([x1, x2])).bind fun x3 =>
 some x3

def M.AreFacts_l1 (a2 : (List (Int × (List Int)))) (a1 : (List Int)) : Nat → Int → Option (Sum Unit Bool)
 | 0, _ => none
 | k + 1, x1 =>
  if (decide (x1 < (List.length a2 : Int))) then
   (idx a2 x1).bind fun x2 =>
   ((M.IsFact a1 (x2.1, x2.2)).bind fun x4 =>
   if (!x4) then
    some true
   else
    if (decide (0 < x1)) then
     (idx a2 (w64 (x1 - 1))).bind fun x5 =>
     (M.CompareFacts x5 (x2.1, x2.2)).bind fun x6 =>
     some (decide (0 ≤ x6))
    else
     some false).bind fun x3 =>
   if x3 then
    some (.inr false)
   else
    M.AreFacts_l1 a2 a1 k (w64 (x1 + 1))
  else
   some (.inl ())

def M.AreFacts (a1 : (List Int)) (a2 : (List (Int × (List Int)))) : Option Bool :=
 (M.AreFacts_l1 a2 a1 FUEL (0 : Int)).bind fun o => match o with
  | .inl () =>
   ((M.IsSchema a1).bind fun x8 =>
   if x8 then
    some (decide ((List.length a2 : Int) ≤ 24))
   else
    some false).bind fun x7 =>
   some x7
  | .inr r => some r

def M.IsSource (a1 : (List Int)) (a2 : ((List (Int × (List Int))) × Int)) : Option Bool :=
 ((M.AreFacts a1 a2.1).bind fun x2 =>
 if x2 then
  (M.within a2.2 0 1000).bind fun x3 =>
  some x3
 else
  some false).bind fun x1 =>
 some x1

def Slices.Clone_Lint_int (a1 : (List Int)) : Option (List Int) :=
 (app ([] : List Int) a1).bind fun x1 =>
 some x1

def M.copyFact (a1 : (Int × (List Int))) : Option (Int × (List Int)) :=
 (Slices.Clone_Lint_int a1.2).bind fun x1 =>
 some (a1.1, x1)

def M.copyFacts_l1 (a1 : (List (Int × (List Int)))) : Nat → (List (Int × (List Int))) → Int → Option ((List (Int × (List Int))))
 | 0, _, _ => none
 | k + 1, x1, x2 =>
  if (decide (x2 < (List.length a1 : Int))) then
   (idx a1 x2).bind fun x4 =>
   (M.copyFact (x4.1, x4.2)).bind fun x5 =>
   (app x1 ([(x5.1, x5.2)])).bind fun x6 =>
   M.copyFacts_l1 a1 k x6 (w64 (x2 + 1))
  else
   some x1

def M.copyFacts (a1 : (List (Int × (List Int)))) : Option (List (Int × (List Int))) :=
 (M.copyFacts_l1 a1 FUEL ([] : List (Int × (List Int))) (0 : Int)).bind fun x3 =>
 some x3

def M.copySource (a1 : ((List (Int × (List Int))) × Int)) : Option ((List (Int × (List Int))) × Int) :=
 (M.copyFacts a1.1).bind fun x1 =>
 some (x1, a1.2)

def M.HasFact_c1 (a1 : (Int × (List Int))) (ax1 : (Int × (List Int))) : Option Bool :=
 (M.CompareFacts (a1.1, a1.2) ax1).bind fun x1 =>
 some (decide (x1 = 0))

def Slices.IndexFunc_Limpl_Fact_impl_Fact_M_HasFact_c1_l1 (a1 : (List (Int × (List Int)))) (ax1 : (Int × (List Int))) : Nat → Int → Option (Sum Unit Int)
 | 0, _ => none
 | k + 1, x1 =>
  if (decide (x1 < (List.length a1 : Int))) then
   (idx a1 x1).bind fun x2 =>
   (M.HasFact_c1 x2 ax1).bind fun x3 =>
   if x3 then
    some (.inr x1)
   else
    Slices.IndexFunc_Limpl_Fact_impl_Fact_M_HasFact_c1_l1 a1 ax1 k (w64 (x1 + 1))
  else
   some (.inl ())

def Slices.IndexFunc_Limpl_Fact_impl_Fact_M_HasFact_c1 (a1 : (List (Int × (List Int)))) (ax1 : (Int × (List Int))) : Option Int :=
 (Slices.IndexFunc_Limpl_Fact_impl_Fact_M_HasFact_c1_l1 a1 ax1 FUEL (0 : Int)).bind fun o => match o with
  | .inl () =>
   some (-1)
  | .inr r => some r

def Slices.ContainsFunc_Limpl_Fact_impl_Fact_M_HasFact_c1 (a1 : (List (Int × (List Int)))) (ax1 : (Int × (List Int))) : Option Bool :=
 (Slices.IndexFunc_Limpl_Fact_impl_Fact_M_HasFact_c1 a1 ax1).bind fun x1 =>
 some (decide (0 ≤ x1))

def M.HasFact (a1 : (List (Int × (List Int)))) (a2 : (Int × (List Int))) : Option Bool :=
 (Slices.ContainsFunc_Limpl_Fact_impl_Fact_M_HasFact_c1 a1 (a2.1, a2.2)).bind fun x1 =>
 some x1

def M.added_c1 (a1 : (Int × (List Int))) (ax1 : (Int × (List Int))) : Option Bool :=
 (M.CompareFacts (a1.1, a1.2) ax1).bind fun x1 =>
 some (decide (0 < x1))

def Slices.Insert_Limpl_Fact_impl_Fact (a1 : (List (Int × (List Int)))) (a2 : Int) (a3 : (List (Int × (List Int)))) : Option (List (Int × (List Int))) :=
 ins a1 a2 a3

def Slices.IndexFunc_Limpl_Fact_impl_Fact_M_added_c1_l1 (a1 : (List (Int × (List Int)))) (ax1 : (Int × (List Int))) : Nat → Int → Option (Sum Unit Int)
 | 0, _ => none
 | k + 1, x1 =>
  if (decide (x1 < (List.length a1 : Int))) then
   (idx a1 x1).bind fun x2 =>
   (M.added_c1 x2 ax1).bind fun x3 =>
   if x3 then
    some (.inr x1)
   else
    Slices.IndexFunc_Limpl_Fact_impl_Fact_M_added_c1_l1 a1 ax1 k (w64 (x1 + 1))
  else
   some (.inl ())

def Slices.IndexFunc_Limpl_Fact_impl_Fact_M_added_c1 (a1 : (List (Int × (List Int)))) (ax1 : (Int × (List Int))) : Option Int :=
 (Slices.IndexFunc_Limpl_Fact_impl_Fact_M_added_c1_l1 a1 ax1 FUEL (0 : Int)).bind fun o => match o with
  | .inl () =>
   some (-1)
  | .inr r => some r

def M.added (a1 : (List (Int × (List Int)))) (a2 : (Int × (List Int))) : Option (List (Int × (List Int))) :=
 (M.HasFact a1 (a2.1, a2.2)).bind fun x1 =>
 if x1 then
  some a1
 else
  (Slices.IndexFunc_Limpl_Fact_impl_Fact_M_added_c1 a1 (a2.1, a2.2)).bind fun x2 =>
  (if (decide (x2 < 0)) then
   some (List.length a1 : Int)
  else
   some x2).bind fun x3 =>
  (M.copyFact (a2.1, a2.2)).bind fun x4 =>
  (Slices.Insert_Limpl_Fact_impl_Fact a1 x3 ([(x4.1, x4.2)])).bind fun x5 =>
  some x5

def M.ApplyChange_c1 (a1 : (Int × (List Int))) (ax1 : (Bool × (Int × (List Int)))) : Option Bool :=
 (M.CompareFacts (a1.1, a1.2) ax1.2).bind fun x1 =>
 some (decide (x1 = 0))

def Slices.IndexFunc_Limpl_Fact_impl_Fact_M_ApplyChange_c1_l1 (a1 : (List (Int × (List Int)))) (ax1 : (Bool × (Int × (List Int)))) : Nat → Int → Option (Sum Unit Int)
 | 0, _ => none
 | k + 1, x1 =>
  if (decide (x1 < (List.length a1 : Int))) then
   (idx a1 x1).bind fun x2 =>
   (M.ApplyChange_c1 x2 ax1).bind fun x3 =>
   if x3 then
    some (.inr x1)
   else
    Slices.IndexFunc_Limpl_Fact_impl_Fact_M_ApplyChange_c1_l1 a1 ax1 k (w64 (x1 + 1))
  else
   some (.inl ())

def Slices.IndexFunc_Limpl_Fact_impl_Fact_M_ApplyChange_c1 (a1 : (List (Int × (List Int)))) (ax1 : (Bool × (Int × (List Int)))) : Option Int :=
 (Slices.IndexFunc_Limpl_Fact_impl_Fact_M_ApplyChange_c1_l1 a1 ax1 FUEL (0 : Int)).bind fun o => match o with
  | .inl () =>
   some (-1)
  | .inr r => some r

def Slices.DeleteFunc_Limpl_Fact_impl_Fact_M_ApplyChange_c1 (a1 : (List (Int × (List Int)))) (ax1 : (Bool × (Int × (List Int)))) : Option (List (Int × (List Int))) :=
 (Slices.IndexFunc_Limpl_Fact_impl_Fact_M_ApplyChange_c1 a1 ax1).bind fun x =>
 if x = -1 then some a1 else if 0 ≤ x ∧ x < (a1.length : Int) then dfl (fun e => M.ApplyChange_c1 e ax1) (a1.take x.toNat) (a1.drop (x.toNat + 1)) else none

def M.ApplyChange (a1 : (List Int)) (a2 : ((List (Int × (List Int))) × Int)) (a3 : (Bool × (Int × (List Int)))) : Option (((List (Int × (List Int))) × Int) × Bool) :=
 (M.copySource (a2.1, a2.2)).bind fun x1 =>
 (M.HasFact a2.1 (a3.2.1, a3.2.2)).bind fun x2 =>
 ((M.IsSource a1 (a2.1, a2.2)).bind fun x4 =>
 if (!x4) then
  some true
 else
  (M.IsFact a1 (a3.2.1, a3.2.2)).bind fun x5 =>
  if (!x5) then
   some true
  else
   if (decide (a2.2 = 1000)) then
    some true
   else
    if (decide (x2 = a3.1)) then
     some true
    else
     if a3.1 then
      some (decide (24 ≤ (List.length a2.1 : Int)))
     else
      some false).bind fun x3 =>
 if x3 then
  some ((x1.1, x1.2), false)
 else
  (if a3.1 then
   (M.added x1.1 (a3.2.1, a3.2.2)).bind fun x8 =>
   some (x8, x1.2)
  else
   (Slices.DeleteFunc_Limpl_Fact_impl_Fact_M_ApplyChange_c1 x1.1 (a3.1, (a3.2.1, a3.2.2))).bind fun x9 =>
   some (x9, x1.2)).bind fun (x6, x7) =>
  some ((x6, w64 (x7 + 1)), true)

def M.ascending_l1 (a1 : (List Int)) : Nat → Int → Option (Sum Unit Bool)
 | 0, _ => none
 | k + 1, x1 =>
  if (decide (x1 < (List.length a1 : Int))) then
   (if (decide (0 < x1)) then
    (idx a1 x1).bind fun x3 =>
    (idx a1 (w64 (x1 - 1))).bind fun x4 =>
    some (decide (x3 ≤ x4))
   else
    some false).bind fun x2 =>
   if x2 then
    some (.inr false)
   else
    M.ascending_l1 a1 k (w64 (x1 + 1))
  else
   some (.inl ())

def M.ascending (a1 : (List Int)) : Option Bool :=
 (M.ascending_l1 a1 FUEL (0 : Int)).bind fun o => match o with
  | .inl () =>
   some true
  | .inr r => some r

def M.Method_fits_c1 (a1 : Int) (ax1 : Int) : Option Bool :=
 (M.within a1 0 (w64 (ax1 - 1))).bind fun x1 =>
 some (!x1)

def M.isCost (a1 : Int) : Option Bool :=
 (M.within a1 0 99).bind fun x1 =>
 some x1

def Slices.IndexFunc_Lint_int_M_Method_fits_c1_l1 (a1 : (List Int)) (ax1 : Int) : Nat → Int → Option (Sum Unit Int)
 | 0, _ => none
 | k + 1, x1 =>
  if (decide (x1 < (List.length a1 : Int))) then
   (idx a1 x1).bind fun x2 =>
   (M.Method_fits_c1 x2 ax1).bind fun x3 =>
   if x3 then
    some (.inr x1)
   else
    Slices.IndexFunc_Lint_int_M_Method_fits_c1_l1 a1 ax1 k (w64 (x1 + 1))
  else
   some (.inl ())

def Slices.IndexFunc_Lint_int_M_Method_fits_c1 (a1 : (List Int)) (ax1 : Int) : Option Int :=
 (Slices.IndexFunc_Lint_int_M_Method_fits_c1_l1 a1 ax1 FUEL (0 : Int)).bind fun o => match o with
  | .inl () =>
   some (-1)
  | .inr r => some r

def Slices.ContainsFunc_Lint_int_M_Method_fits_c1 (a1 : (List Int)) (ax1 : Int) : Option Bool :=
 (Slices.IndexFunc_Lint_int_M_Method_fits_c1 a1 ax1).bind fun x1 =>
 some (decide (0 ≤ x1))

def M.Method_fits (a1 : (Int × (List Int) × Int × Int × Int)) (a2 : Int) : Option Bool :=
 ((M.ascending a1.2.1).bind fun x2 =>
 if x2 then
  (Slices.ContainsFunc_Lint_int_M_Method_fits_c1 a1.2.1 a2).bind fun x3 =>
  if (!x3) then
   (M.within a1.2.2.1 0 9).bind fun x4 =>
   if x4 then
    (M.isCost a1.2.2.2.1).bind fun x5 =>
    if x5 then
     (M.within a1.2.2.2.2 1 99).bind fun x6 =>
     some x6
    else
     some false
   else
    some false
  else
   some false
 else
  some false).bind fun x1 =>
 some x1

def M.IsMethod (a1 : (List Int)) (a2 : (Int × (List Int) × Int × Int × Int)) : Option Bool :=
 ((M.hasRel a1 a2.1).bind fun x2 =>
 if x2 then
  (idx a1 a2.1).bind fun x3 =>
  (M.Method_fits (a2.1, a2.2.1, a2.2.2.1, a2.2.2.2.1, a2.2.2.2.2) x3).bind fun x4 =>
  some x4
 else
  some false).bind fun x1 =>
 some x1

def M.AreMethods_c1 (a1 : (Int × (List Int) × Int × Int × Int)) (ax1 : (List Int)) : Option Bool :=
 (M.IsMethod ax1 (a1.1, a1.2.1, a1.2.2.1, a1.2.2.2.1, a1.2.2.2.2)).bind fun x1 =>
 some (!x1)

def Slices.IndexFunc_Limpl_Method_impl_Method_M_AreMethods_c1_l1 (a1 : (List (Int × (List Int) × Int × Int × Int))) (ax1 : (List Int)) : Nat → Int → Option (Sum Unit Int)
 | 0, _ => none
 | k + 1, x1 =>
  if (decide (x1 < (List.length a1 : Int))) then
   (idx a1 x1).bind fun x2 =>
   (M.AreMethods_c1 x2 ax1).bind fun x3 =>
   if x3 then
    some (.inr x1)
   else
    Slices.IndexFunc_Limpl_Method_impl_Method_M_AreMethods_c1_l1 a1 ax1 k (w64 (x1 + 1))
  else
   some (.inl ())

def Slices.IndexFunc_Limpl_Method_impl_Method_M_AreMethods_c1 (a1 : (List (Int × (List Int) × Int × Int × Int))) (ax1 : (List Int)) : Option Int :=
 (Slices.IndexFunc_Limpl_Method_impl_Method_M_AreMethods_c1_l1 a1 ax1 FUEL (0 : Int)).bind fun o => match o with
  | .inl () =>
   some (-1)
  | .inr r => some r

def Slices.ContainsFunc_Limpl_Method_impl_Method_M_AreMethods_c1 (a1 : (List (Int × (List Int) × Int × Int × Int))) (ax1 : (List Int)) : Option Bool :=
 (Slices.IndexFunc_Limpl_Method_impl_Method_M_AreMethods_c1 a1 ax1).bind fun x1 =>
 some (decide (0 ≤ x1))

def M.AreMethods (a1 : (List Int)) (a2 : (List (Int × (List Int) × Int × Int × Int))) : Option Bool :=
 ((M.IsSchema a1).bind fun x2 =>
 if x2 then
  if (decide ((List.length a2 : Int) ≤ 5)) then
   (Slices.ContainsFunc_Limpl_Method_impl_Method_M_AreMethods_c1 a2 a1).bind fun x3 =>
   some (!x3)
  else
   some false
 else
  some false).bind fun x1 =>
 some x1

def M.IsAccess (a1 : (List Int)) (a2 : (List (Int × (List Int) × Int × Int × Int))) (a3 : (Int × (List Int))) : Option Bool :=
 ((M.AreMethods a1 a2).bind fun x2 =>
 if x2 then
  (M.within a3.1 0 (w64 ((List.length a2 : Int) - 1))).bind fun x3 =>
  if x3 then
   (idx a2 a3.1).bind fun x4 =>
   if (decide ((List.length a3.2 : Int) = (List.length x4.2.1 : Int))) then
    (M.areValues a3.2).bind fun x5 =>
    some x5
   else
    some false
  else
   some false
 else
  some false).bind fun x1 =>
 some x1

def M.copyAccess (a1 : (Int × (List Int))) : Option (Int × (List Int)) :=
 (Slices.Clone_Lint_int a1.2).bind fun x1 =>
 some (a1.1, x1)

def M.OpenCursor (a1 : (List Int)) (a2 : (List (Int × (List Int) × Int × Int × Int))) (a3 : ((List (Int × (List Int))) × Int)) (a4 : (Int × (List Int))) : Option (((Int × (List Int)) × Int × Int) × Bool) :=
 ((M.IsSource a1 (a3.1, a3.2)).bind fun x2 =>
 if (!x2) then
  some true
 else
  (M.IsAccess a1 a2 (a4.1, a4.2)).bind fun x3 =>
  some (!x3)).bind fun x1 =>
 if x1 then
  some (((0, []), 0, 0), false)
 else
  (M.copyAccess (a4.1, a4.2)).bind fun x4 =>
  some (((x4.1, x4.2), 0, a3.2), true)

def M.copyCursor (a1 : ((Int × (List Int)) × Int × Int)) : Option ((Int × (List Int)) × Int × Int) :=
 (M.copyAccess (a1.1.1, a1.1.2)).bind fun x1 =>
 some ((x1.1, x1.2), a1.2.1, a1.2.2)

def M.isPage (a1 : Int) : Option Bool :=
 (M.within a1 1 9).bind fun x1 =>
 some x1

def M.matches_c1_l1 (ax1 : (Int × (List Int) × Int × Int × Int)) (a1 : (Int × (List Int))) (ax2 : (Int × (List Int))) : Nat → Int → Option (Sum Unit Bool)
 | 0, _ => none
 | k + 1, x1 =>
  if (decide (x1 < (List.length ax1.2.1 : Int))) then
   (idx ax1.2.1 x1).bind fun x2 =>
   (idx a1.2 x2).bind fun x3 =>
   (idx ax2.2 x1).bind fun x4 =>
   if (!decide (x3 = x4)) then
    some (.inr true)
   else
    M.matches_c1_l1 ax1 a1 ax2 k (w64 (x1 + 1))
  else
   some (.inl ())

def M.matches_c1 (a1 : (Int × (List Int))) (ax1 : (Int × (List Int) × Int × Int × Int)) (ax2 : (Int × (List Int))) : Option Bool :=
 if (!decide (a1.1 = ax1.1)) then
  some true
 else
  (M.matches_c1_l1 ax1 a1 ax2 FUEL (0 : Int)).bind fun o => match o with
   | .inl () =>
    some false
   | .inr r => some r

def Slices.IndexFunc_Limpl_Fact_impl_Fact_M_matches_c1_l1 (a1 : (List (Int × (List Int)))) (ax1 : (Int × (List Int) × Int × Int × Int)) (ax2 : (Int × (List Int))) : Nat → Int → Option (Sum Unit Int)
 | 0, _ => none
 | k + 1, x1 =>
  if (decide (x1 < (List.length a1 : Int))) then
   (idx a1 x1).bind fun x2 =>
   (M.matches_c1 x2 ax1 ax2).bind fun x3 =>
   if x3 then
    some (.inr x1)
   else
    Slices.IndexFunc_Limpl_Fact_impl_Fact_M_matches_c1_l1 a1 ax1 ax2 k (w64 (x1 + 1))
  else
   some (.inl ())

def Slices.IndexFunc_Limpl_Fact_impl_Fact_M_matches_c1 (a1 : (List (Int × (List Int)))) (ax1 : (Int × (List Int) × Int × Int × Int)) (ax2 : (Int × (List Int))) : Option Int :=
 (Slices.IndexFunc_Limpl_Fact_impl_Fact_M_matches_c1_l1 a1 ax1 ax2 FUEL (0 : Int)).bind fun o => match o with
  | .inl () =>
   some (-1)
  | .inr r => some r

def Slices.DeleteFunc_Limpl_Fact_impl_Fact_M_matches_c1 (a1 : (List (Int × (List Int)))) (ax1 : (Int × (List Int) × Int × Int × Int)) (ax2 : (Int × (List Int))) : Option (List (Int × (List Int))) :=
 (Slices.IndexFunc_Limpl_Fact_impl_Fact_M_matches_c1 a1 ax1 ax2).bind fun x =>
 if x = -1 then some a1 else if 0 ≤ x ∧ x < (a1.length : Int) then dfl (fun e => M.matches_c1 e ax1 ax2) (a1.take x.toNat) (a1.drop (x.toNat + 1)) else none

def M.matches (a1 : (List (Int × (List Int) × Int × Int × Int))) (a2 : (List (Int × (List Int)))) (a3 : (Int × (List Int))) : Option (List (Int × (List Int))) :=
 (idx a1 a3.1).bind fun x1 =>
 (M.copyFacts a2).bind fun x2 =>
 (Slices.DeleteFunc_Limpl_Fact_impl_Fact_M_matches_c1 x2 (x1.1, x1.2.1, x1.2.2.1, x1.2.2.2.1, x1.2.2.2.2) (a3.1, a3.2)).bind fun x3 =>
 some x3

def M.PageAt (a1 : (List (Int × (List Int)))) (a2 : Int) (a3 : Int) : Option ((List (Int × (List Int))) × Int × Bool) :=
 ((M.isPage a3).bind fun x2 =>
 if (!x2) then
  some true
 else
  (M.within a2 0 (List.length a1 : Int)).bind fun x3 =>
  some (!x3)).bind fun x1 =>
 if x1 then
  some ([], 0, false)
 else
  (sub a1 a2 (if (w64 (a2 + a3)) < (List.length a1 : Int) then w64 (a2 + a3) else (List.length a1 : Int))).bind fun x4 =>
  (M.copyFacts x4).bind fun x5 =>
  some (x5, if (w64 (a2 + a3)) < (List.length a1 : Int) then w64 (a2 + a3) else (List.length a1 : Int), true)

def M.NextPage (a1 : (List Int)) (a2 : (List (Int × (List Int) × Int × Int × Int))) (a3 : ((List (Int × (List Int))) × Int)) (a4 : ((Int × (List Int)) × Int × Int)) (a5 : Int) : Option ((List (Int × (List Int))) × ((Int × (List Int)) × Int × Int) × Int) :=
 (M.copyCursor ((a4.1.1, a4.1.2), a4.2.1, a4.2.2)).bind fun x1 =>
 ((M.IsSource a1 (a3.1, a3.2)).bind fun x3 =>
 if (!x3) then
  some true
 else
  (M.IsAccess a1 a2 (a4.1.1, a4.1.2)).bind fun x4 =>
  if (!x4) then
   some true
  else
   (M.isPage a5).bind fun x5 =>
   if (!x5) then
    some true
   else
    (M.within a4.2.1 0 1000).bind fun x6 =>
    some (!x6)).bind fun x2 =>
 if x2 then
  some ([], ((x1.1.1, x1.1.2), x1.2.1, x1.2.2), 3)
 else
  if (!decide (a4.2.2 = a3.2)) then
   some ([], ((x1.1.1, x1.1.2), x1.2.1, x1.2.2), 2)
  else
   (M.matches a2 a3.1 (a4.1.1, a4.1.2)).bind fun x7 =>
   (M.PageAt x7 a4.2.1 a5).bind fun x8 =>
   if (!x8.2.2) then
    some ([], ((x1.1.1, x1.1.2), x1.2.1, x1.2.2), 3)
   else
    if (decide (x8.2.1 = (List.length x7 : Int))) then
     some (x8.1, ((x1.1.1, x1.1.2), x8.2.1, x1.2.2), 1)
    else
     some (x8.1, ((x1.1.1, x1.1.2), x8.2.1, x1.2.2), 0)

def M.ReadThrough_l1 (a1 : (List Int)) (a2 : (List (Int × (List Int) × Int × Int × Int))) (a5 : Int) (a7 : Int) (a4 : (Int × (List Int))) : Nat → (List (Int × (List Int))) → Int → Int → Int → Bool → Int → (List Int) → Int → Int → (List (Int × (List Int))) → Int → (List (Int × (List Int))) → Int → (List (Int × (List Int))) → Int → Int → Int → Bool → (List (Bool × (Int × (List Int)))) → Option (Sum ((List (Int × (List Int))) × Int × Int × Int × Bool × Int × (List Int) × Int × Int × (List (Int × (List Int))) × Int × (List (Int × (List Int))) × Int × (List (Int × (List Int))) × Int × Int × Int × Bool) (((List (Int × (List Int))) × Int × Int × Int × Bool) × ((List (Int × (List Int))) × Int)))
 | 0, _, _, _, _, _, _, _, _, _, _, _, _, _, _, _, _, _, _, _ => none
 | k + 1, x13, x14, x15, x16, x17, x18, x19, x20, x21, x22, x23, x24, x25, x26, x27, x28, x29, x30, x31 =>
  (M.NextPage a1 a2 (x22, x23) ((x18, x19), x20, x21) a5).bind fun x50 =>
  if (decide (x50.2.2 = 2)) then
   if (decide (a7 ≤ x16)) then
    (some (x22, x23, [], x14, w64 (x15 + 1), x16, x17)).bind fun (x51, x52, x53, x54, x55, x56, x57) =>
    some (.inr ((x53, x54, x55, x56, x57), (x51, x52)))
   else
    (M.OpenCursor a1 a2 (x22, x23) (a4.1, a4.2)).bind fun x58 =>
    M.ReadThrough_l1 a1 a2 a5 a7 a4 k ([]) x14 (w64 (x15 + 1)) (w64 (x16 + 1)) x17 x58.1.1.1 x58.1.1.2 x58.1.2.1 x58.1.2.2 x22 x23 x24 x25 x26 x27 x28 x29 x30 x31
  else
   (app x13 x50.1).bind fun x59 =>
   if (decide (x50.2.2 = 1)) then
    (some (x59, x23, w64 (x15 + 1), x16, true)).bind fun (x60, x61, x62, x63, x64) =>
    (some (x22, x23, x60, x61, x62, x63, x64)).bind fun (x65, x66, x67, x68, x69, x70, x71) =>
    some (.inr ((x67, x68, x69, x70, x71), (x65, x66)))
   else
    (if (decide (0 < (List.length x31 : Int))) then
     (idx x31 0).bind fun x75 =>
     (M.ApplyChange a1 (x22, x23) x75).bind fun x76 =>
     (sub x31 1 (List.length x31 : Int)).bind fun x77 =>
     some (x76.1.1, x76.1.2, x77)
    else
     some (x22, x23, x31)).bind fun (x72, x73, x74) =>
    M.ReadThrough_l1 a1 a2 a5 a7 a4 k x59 x14 (w64 (x15 + 1)) x16 x17 x50.2.1.1.1 x50.2.1.1.2 x50.2.1.2.1 x50.2.1.2.2 x72 x73 x24 x25 x26 x27 x28 x29 x30 x74

def M.ReadThrough (a1 : (List Int)) (a2 : (List (Int × (List Int) × Int × Int × Int))) (a3 : ((List (Int × (List Int))) × Int)) (a4 : (Int × (List Int))) (a5 : Int) (a6 : (List (Bool × (Int × (List Int))))) (a7 : Int) : Option (((List (Int × (List Int))) × Int × Int × Int × Bool) × ((List (Int × (List Int))) × Int)) :=
 (M.copySource (a3.1, a3.2)).bind fun x1 =>
 (M.OpenCursor a1 a2 (a3.1, a3.2) (a4.1, a4.2)).bind fun x2 =>
 (if (!x2.2) then
  some true
 else
  (M.isPage a5).bind fun x4 =>
  if (!x4) then
   some true
  else
   (M.within a7 0 20).bind fun x5 =>
   some (!x5)).bind fun x3 =>
 if x3 then
  (some (x1.1, x1.2, [], (0 : Int), (0 : Int), (0 : Int), false)).bind fun (x6, x7, x8, x9, x10, x11, x12) =>
  some ((x8, x9, x10, x11, x12), (x6, x7))
 else
  (M.ReadThrough_l1 a1 a2 a5 a7 a4 FUEL ([]) (0 : Int) (0 : Int) (0 : Int) false x2.1.1.1 x2.1.1.2 x2.1.2.1 x2.1.2.2 x1.1 x1.2 ([]) (0 : Int) ([]) (0 : Int) (0 : Int) (0 : Int) false a6).bind fun o => match o with
   | .inl _ => none
   | .inr r => some r

def S.IsFact_l1 (a2 : (Int × (List Int))) : Nat → Int → Option (Sum Unit Bool)
 | 0, _ => none
 | k + 1, x5 =>
  if (decide (x5 < (List.length a2.2 : Int))) then
   (idx a2.2 x5).bind fun x6 =>
   (S.l1In x6 0 9).bind fun x7 =>
   if (!x7) then
    some (.inr false)
   else
    S.IsFact_l1 a2 k (w64 (x5 + 1))
  else
   some (.inl ())

def S.IsFact (a1 : (List Int)) (a2 : (Int × (List Int))) : Option Bool :=
 ((S.IsSchema a1).bind fun x2 =>
 if (!x2) then
  some true
 else
  (S.l1In a2.1 0 (w64 ((List.length a1 : Int) - 1))).bind fun x3 =>
  if (!x3) then
   some true
  else
   (idx a1 a2.1).bind fun x4 =>
   some (!decide ((List.length a2.2 : Int) = x4))).bind fun x1 =>
 if x1 then
  some false
 else
  (S.IsFact_l1 a2 FUEL (0 : Int)).bind fun o => match o with
   | .inl () =>
    some true
   | .inr r => some r

def S.AreFacts_l1 (a2 : (List (Int × (List Int)))) (a1 : (List Int)) : Nat → Int → Option (Sum Unit Bool)
 | 0, _ => none
 | k + 1, x1 =>
  if (decide (x1 < (List.length a2 : Int))) then
   ((idx a2 x1).bind fun x3 =>
   (S.IsFact a1 x3).bind fun x4 =>
   if (!x4) then
    some true
   else
    if (decide (0 < x1)) then
     (idx a2 (w64 (x1 - 1))).bind fun x5 =>
     (idx a2 x1).bind fun x6 =>
     (S.CompareFacts x5 x6).bind fun x7 =>
     some (decide (0 ≤ x7))
    else
     some false).bind fun x2 =>
   if x2 then
    some (.inr false)
   else
    S.AreFacts_l1 a2 a1 k (w64 (x1 + 1))
  else
   some (.inl ())

def S.AreFacts (a1 : (List Int)) (a2 : (List (Int × (List Int)))) : Option Bool :=
 (S.AreFacts_l1 a2 a1 FUEL (0 : Int)).bind fun o => match o with
  | .inl () =>
   ((S.IsSchema a1).bind fun x9 =>
   if x9 then
    some (decide ((List.length a2 : Int) ≤ 24))
   else
    some false).bind fun x8 =>
   some x8
  | .inr r => some r

def S.IsSource (a1 : (List Int)) (a2 : ((List (Int × (List Int))) × Int)) : Option Bool :=
 ((S.AreFacts a1 a2.1).bind fun x2 =>
 if x2 then
  (S.l1In a2.2 0 1000).bind fun x3 =>
  some x3
 else
  some false).bind fun x1 =>
 some x1

def S.l2Copy_l1 (a1 : (List (Int × (List Int)))) : Nat → (List (Int × (List Int))) → Int → Option ((List (Int × (List Int))))
 | 0, _, _ => none
 | k + 1, x1, x2 =>
  if (decide (x2 < (List.length a1 : Int))) then
   (idx a1 x2).bind fun x4 =>
   (idx a1 x2).bind fun x5 =>
   (S.l2One x4.1 x5.2).bind fun x6 =>
   (app x1 ([(x6.1, x6.2)])).bind fun x7 =>
   S.l2Copy_l1 a1 k x7 (w64 (x2 + 1))
  else
   some x1

def S.l2Copy (a1 : (List (Int × (List Int)))) : Option (List (Int × (List Int))) :=
 (S.l2Copy_l1 a1 FUEL ([] : List (Int × (List Int))) (0 : Int)).bind fun x3 =>
 some x3

def S.l25Copy (a1 : ((List (Int × (List Int))) × Int)) : Option ((List (Int × (List Int))) × Int) :=
 (S.l2Copy a1.1).bind fun x1 =>
 some (x1, a1.2)

def S.ApplyChange_l1 (a2 : ((List (Int × (List Int))) × Int)) (a3 : (Bool × (Int × (List Int)))) : Nat → (List (Int × (List Int))) → Int → Int → Option (((List (Int × (List Int))) × Int))
 | 0, _, _, _ => none
 | k + 1, x7, x8, x9 =>
  if (decide (x9 < (List.length a2.1 : Int))) then
   (idx a2.1 x9).bind fun x12 =>
   (S.CompareFacts x12 (a3.2.1, a3.2.2)).bind fun x13 =>
   (if (!decide (x13 = 0)) then
    (idx a2.1 x9).bind fun x16 =>
    (idx a2.1 x9).bind fun x17 =>
    (S.l2One x16.1 x17.2).bind fun x18 =>
    (app x7 ([(x18.1, x18.2)])).bind fun x19 =>
    some (x19, x8)
   else
    some (x7, x8)).bind fun (x14, x15) =>
   S.ApplyChange_l1 a2 a3 k x14 x15 (w64 (x9 + 1))
  else
   some (x7, x8)

def S.ApplyChange (a1 : (List Int)) (a2 : ((List (Int × (List Int))) × Int)) (a3 : (Bool × (Int × (List Int)))) : Option (((List (Int × (List Int))) × Int) × Bool) :=
 (S.l25Copy (a2.1, a2.2)).bind fun x1 =>
 ((S.IsSource a1 (a2.1, a2.2)).bind fun x3 =>
 if (!x3) then
  some true
 else
  (S.IsFact a1 (a3.2.1, a3.2.2)).bind fun x4 =>
  if (!x4) then
   some true
  else
   if (decide (1000 ≤ a2.2)) then
    some true
   else
    (S.HasFact a2.1 (a3.2.1, a3.2.2)).bind fun x5 =>
    if (decide (x5 = a3.1)) then
     some true
    else
     if a3.1 then
      some (decide (24 ≤ (List.length a2.1 : Int)))
     else
      some false).bind fun x2 =>
 if x2 then
  some ((x1.1, x1.2), false)
 else
  if a3.1 then
   (S.AddFact a2.1 (a3.2.1, a3.2.2)).bind fun x6 =>
   some ((x6, w64 (a2.2 + 1)), true)
  else
   (S.ApplyChange_l1 a2 a3 FUEL ([] : List (Int × (List Int))) (w64 (a2.2 + 1)) (0 : Int)).bind fun (x10, x11) =>
   some ((x10, x11), true)

def S.IsMethod_l1 (a2 : (Int × (List Int) × Int × Int × Int)) (a1 : (List Int)) : Nat → Int → Option (Sum Unit Bool)
 | 0, _ => none
 | k + 1, x7 =>
  if (decide (x7 < (List.length a2.2.1 : Int))) then
   ((idx a2.2.1 x7).bind fun x9 =>
   (idx a1 a2.1).bind fun x10 =>
   (S.l1In x9 0 (w64 (x10 - 1))).bind fun x11 =>
   if (!x11) then
    some true
   else
    if (decide (0 < x7)) then
     (idx a2.2.1 x7).bind fun x12 =>
     (idx a2.2.1 (w64 (x7 - 1))).bind fun x13 =>
     some (decide (x12 ≤ x13))
    else
     some false).bind fun x8 =>
   if x8 then
    some (.inr false)
   else
    S.IsMethod_l1 a2 a1 k (w64 (x7 + 1))
  else
   some (.inl ())

def S.IsMethod (a1 : (List Int)) (a2 : (Int × (List Int) × Int × Int × Int)) : Option Bool :=
 ((S.IsSchema a1).bind fun x2 =>
 if (!x2) then
  some true
 else
  (S.l1In a2.1 0 (w64 ((List.length a1 : Int) - 1))).bind fun x3 =>
  if (!x3) then
   some true
  else
   (S.l1In a2.2.2.1 0 9).bind fun x4 =>
   if (!x4) then
    some true
   else
    (S.l1In a2.2.2.2.1 0 99).bind fun x5 =>
    if (!x5) then
     some true
    else
     (S.l1In a2.2.2.2.2 1 99).bind fun x6 =>
     some (!x6)).bind fun x1 =>
 if x1 then
  some false
 else
  (S.IsMethod_l1 a2 a1 FUEL (0 : Int)).bind fun o => match o with
   | .inl () =>
    some true
   | .inr r => some r

def S.AreMethods_l1 (a2 : (List (Int × (List Int) × Int × Int × Int))) (a1 : (List Int)) : Nat → Int → Option (Sum Unit Bool)
 | 0, _ => none
 | k + 1, x1 =>
  if (decide (x1 < (List.length a2 : Int))) then
   (idx a2 x1).bind fun x2 =>
   (S.IsMethod a1 x2).bind fun x3 =>
   if (!x3) then
    some (.inr false)
   else
    S.AreMethods_l1 a2 a1 k (w64 (x1 + 1))
  else
   some (.inl ())

def S.AreMethods (a1 : (List Int)) (a2 : (List (Int × (List Int) × Int × Int × Int))) : Option Bool :=
 (S.AreMethods_l1 a2 a1 FUEL (0 : Int)).bind fun o => match o with
  | .inl () =>
   ((S.IsSchema a1).bind fun x5 =>
   if x5 then
    some (decide ((List.length a2 : Int) ≤ 5))
   else
    some false).bind fun x4 =>
   some x4
  | .inr r => some r

def S.IsAccess_l1 (a3 : (Int × (List Int))) : Nat → Int → Option (Sum Unit Bool)
 | 0, _ => none
 | k + 1, x5 =>
  if (decide (x5 < (List.length a3.2 : Int))) then
   (idx a3.2 x5).bind fun x6 =>
   (S.l1In x6 0 9).bind fun x7 =>
   if (!x7) then
    some (.inr false)
   else
    S.IsAccess_l1 a3 k (w64 (x5 + 1))
  else
   some (.inl ())

def S.IsAccess (a1 : (List Int)) (a2 : (List (Int × (List Int) × Int × Int × Int))) (a3 : (Int × (List Int))) : Option Bool :=
 ((S.AreMethods a1 a2).bind fun x2 =>
 if (!x2) then
  some true
 else
  (S.l1In a3.1 0 (w64 ((List.length a2 : Int) - 1))).bind fun x3 =>
  if (!x3) then
   some true
  else
   (idx a2 a3.1).bind fun x4 =>
   some (!decide ((List.length a3.2 : Int) = (List.length x4.2.1 : Int)))).bind fun x1 =>
 if x1 then
  some false
 else
  (S.IsAccess_l1 a3 FUEL (0 : Int)).bind fun o => match o with
   | .inl () =>
    some true
   | .inr r => some r

def S.l8Access (a1 : Int) (a2 : (List Int)) : Option (Int × (List Int)) :=
 (app ([] : List Int) a2).bind fun x1 =>
 some (a1, x1)

def S.OpenCursor (a1 : (List Int)) (a2 : (List (Int × (List Int) × Int × Int × Int))) (a3 : ((List (Int × (List Int))) × Int)) (a4 : (Int × (List Int))) : Option (((Int × (List Int)) × Int × Int) × Bool) :=
 ((S.IsSource a1 (a3.1, a3.2)).bind fun x2 =>
 if (!x2) then
  some true
 else
  (S.IsAccess a1 a2 (a4.1, a4.2)).bind fun x3 =>
  some (!x3)).bind fun x1 =>
 if x1 then
  some (((0, []), 0, 0), false)
 else
  (S.l8Access a4.1 a4.2).bind fun x4 =>
  some (((x4.1, x4.2), 0, a3.2), true)

def S.l25Cursor (a1 : ((Int × (List Int)) × Int × Int)) : Option ((Int × (List Int)) × Int × Int) :=
 (S.l8Access a1.1.1 a1.1.2).bind fun x1 =>
 some ((x1.1, x1.2), a1.2.1, a1.2.2)

def S.PageAt (a1 : (List (Int × (List Int)))) (a2 : Int) (a3 : Int) : Option ((List (Int × (List Int))) × Int × Bool) :=
 ((S.l1In a3 1 9).bind fun x2 =>
 if (!x2) then
  some true
 else
  (S.l1In a2 0 (List.length a1 : Int)).bind fun x3 =>
  some (!x3)).bind fun x1 =>
 if x1 then
  some (([] : List (Int × (List Int))), 0, false)
 else
  (sub a1 a2 (if (w64 (a2 + a3)) < (List.length a1 : Int) then w64 (a2 + a3) else (List.length a1 : Int))).bind fun x4 =>
  (S.l2Copy x4).bind fun x5 =>
  some (x5, if (w64 (a2 + a3)) < (List.length a1 : Int) then w64 (a2 + a3) else (List.length a1 : Int), true)

def S.l5Fits_l1 (a1 : (Int × (List Int) × Int × Int × Int)) (a2 : (List Int)) (a3 : (Int × (List Int))) : Nat → Int → Option (Sum Unit Bool)
 | 0, _ => none
 | k + 1, x1 =>
  if (decide (x1 < (List.length a1.2.1 : Int))) then
   (idx a2 x1).bind fun x2 =>
   (idx a1.2.1 x1).bind fun x3 =>
   (idx a3.2 x3).bind fun x4 =>
   if (!decide (x4 = x2)) then
    some (.inr false)
   else
    S.l5Fits_l1 a1 a2 a3 k (w64 (x1 + 1))
  else
   some (.inl ())

def S.l5Fits (a1 : (Int × (List Int) × Int × Int × Int)) (a2 : (List Int)) (a3 : (Int × (List Int))) : Option Bool :=
 if (!decide (a3.1 = a1.1)) then
  some false
 else
  (S.l5Fits_l1 a1 a2 a3 FUEL (0 : Int)).bind fun o => match o with
   | .inl () =>
    some true
   | .inr r => some r

def S.l5Matches_l1 (a3 : (List (Int × (List Int)))) (a1 : (Int × (List Int) × Int × Int × Int)) (a2 : (List Int)) : Nat → (List (Int × (List Int))) → Int → Option ((List (Int × (List Int))))
 | 0, _, _ => none
 | k + 1, x1, x2 =>
  if (decide (x2 < (List.length a3 : Int))) then
   (idx a3 x2).bind fun x4 =>
   (S.l5Fits (a1.1, a1.2.1, a1.2.2.1, a1.2.2.2.1, a1.2.2.2.2) a2 x4).bind fun x5 =>
   (if x5 then
    (idx a3 x2).bind fun x7 =>
    (idx a3 x2).bind fun x8 =>
    (S.l2One x7.1 x8.2).bind fun x9 =>
    (app x1 ([(x9.1, x9.2)])).bind fun x10 =>
    some x10
   else
    some x1).bind fun x6 =>
   S.l5Matches_l1 a3 a1 a2 k x6 (w64 (x2 + 1))
  else
   some x1

def S.l5Matches (a1 : (Int × (List Int) × Int × Int × Int)) (a2 : (List Int)) (a3 : (List (Int × (List Int)))) : Option (List (Int × (List Int))) :=
 (S.l5Matches_l1 a3 a1 a2 FUEL ([] : List (Int × (List Int))) (0 : Int)).bind fun x3 =>
 some x3

def S.NextPage (a1 : (List Int)) (a2 : (List (Int × (List Int) × Int × Int × Int))) (a3 : ((List (Int × (List Int))) × Int)) (a4 : ((Int × (List Int)) × Int × Int)) (a5 : Int) : Option ((List (Int × (List Int))) × ((Int × (List Int)) × Int × Int) × Int) :=
 (S.l25Cursor ((a4.1.1, a4.1.2), a4.2.1, a4.2.2)).bind fun x1 =>
 ((S.IsSource a1 (a3.1, a3.2)).bind fun x3 =>
 if (!x3) then
  some true
 else
  (S.IsAccess a1 a2 (a4.1.1, a4.1.2)).bind fun x4 =>
  if (!x4) then
   some true
  else
   (S.l1In a5 1 9).bind fun x5 =>
   if (!x5) then
    some true
   else
    (S.l1In a4.2.1 0 1000).bind fun x6 =>
    some (!x6)).bind fun x2 =>
 if x2 then
  some (([] : List (Int × (List Int))), ((x1.1.1, x1.1.2), x1.2.1, x1.2.2), 3)
 else
  if (!decide (a4.2.2 = a3.2)) then
   some (([] : List (Int × (List Int))), ((x1.1.1, x1.1.2), x1.2.1, x1.2.2), 2)
  else
   (idx a2 a4.1.1).bind fun x7 =>
   (S.l5Matches x7 a4.1.2 a3.1).bind fun x8 =>
   (S.PageAt x8 a4.2.1 a5).bind fun x9 =>
   if (!x9.2.2) then
    some (([] : List (Int × (List Int))), ((x1.1.1, x1.1.2), x1.2.1, x1.2.2), 3)
   else
    (idx a2 a4.1.1).bind fun x10 =>
    (S.l5Matches x10 a4.1.2 a3.1).bind fun x11 =>
    if (decide (x9.2.1 = (List.length x11 : Int))) then
     some (x9.1, ((x1.1.1, x1.1.2), x9.2.1, x1.2.2), 1)
    else
     some (x9.1, ((x1.1.1, x1.1.2), x9.2.1, x1.2.2), 0)

def S.ReadThrough_l1 (a1 : (List Int)) (a2 : (List (Int × (List Int) × Int × Int × Int))) (a5 : Int) (a7 : Int) (a4 : (Int × (List Int))) (a6 : (List (Bool × (Int × (List Int))))) : Nat → Int → (List Int) → Int → Int → (List (Int × (List Int))) → Int → (List (Int × (List Int))) → Int → Int → Int → Bool → (List (Int × (List Int))) → Int → (List (Int × (List Int))) → Int → Int → Int → Bool → Int → Option (Sum (Int × (List Int) × Int × Int × (List (Int × (List Int))) × Int × (List (Int × (List Int))) × Int × Int × Int × Bool × (List (Int × (List Int))) × Int × (List (Int × (List Int))) × Int × Int × Int × Bool) (((List (Int × (List Int))) × Int × Int × Int × Bool) × ((List (Int × (List Int))) × Int)))
 | 0, _, _, _, _, _, _, _, _, _, _, _, _, _, _, _, _, _, _, _ => none
 | k + 1, x13, x14, x15, x16, x17, x18, x19, x20, x21, x22, x23, x24, x25, x26, x27, x28, x29, x30, x31 =>
  (S.NextPage a1 a2 (x17, x18) ((x13, x14), x15, x16) a5).bind fun x50 =>
  if (decide (x50.2.2 = 2)) then
   if (decide (x22 = a7)) then
    (some (x17, x18, ([] : List (Int × (List Int))), x20, w64 (x21 + 1), x22, x23)).bind fun (x51, x52, x53, x54, x55, x56, x57) =>
    some (.inr ((x53, x54, x55, x56, x57), (x51, x52)))
   else
    (S.OpenCursor a1 a2 (x17, x18) (a4.1, a4.2)).bind fun x58 =>
    S.ReadThrough_l1 a1 a2 a5 a7 a4 a6 k x58.1.1.1 x58.1.1.2 x58.1.2.1 x58.1.2.2 x17 x18 ([] : List (Int × (List Int))) x20 (w64 (x21 + 1)) (w64 (x22 + 1)) x23 x24 x25 x26 x27 x28 x29 x30 x31
  else
   (app x19 x50.1).bind fun x59 =>
   if (decide (x50.2.2 = 1)) then
    (some (x17, x18, x59, x18, w64 (x21 + 1), x22, true)).bind fun (x60, x61, x62, x63, x64, x65, x66) =>
    some (.inr ((x62, x63, x64, x65, x66), (x60, x61)))
   else
    (if (decide (x31 < (List.length a6 : Int))) then
     ((idx a6 x31).bind fun x72 =>
     (S.ApplyChange a1 (x17, x18) x72).bind fun x73 =>
     some (x73.1.1, x73.1.2)).bind fun (x70, x71) =>
     some (x70, x71, w64 (x31 + 1))
    else
     some (x17, x18, x31)).bind fun (x67, x68, x69) =>
    S.ReadThrough_l1 a1 a2 a5 a7 a4 a6 k x50.2.1.1.1 x50.2.1.1.2 x50.2.1.2.1 x50.2.1.2.2 x67 x68 x59 x20 (w64 (x21 + 1)) x22 x23 x24 x25 x26 x27 x28 x29 x30 x69

def S.ReadThrough (a1 : (List Int)) (a2 : (List (Int × (List Int) × Int × Int × Int))) (a3 : ((List (Int × (List Int))) × Int)) (a4 : (Int × (List Int))) (a5 : Int) (a6 : (List (Bool × (Int × (List Int))))) (a7 : Int) : Option (((List (Int × (List Int))) × Int × Int × Int × Bool) × ((List (Int × (List Int))) × Int)) :=
 (S.l25Copy (a3.1, a3.2)).bind fun x1 =>
 (S.OpenCursor a1 a2 (a3.1, a3.2) (a4.1, a4.2)).bind fun x2 =>
 (if (!x2.2) then
  some true
 else
  (S.l1In a5 1 9).bind fun x4 =>
  if (!x4) then
   some true
  else
   (S.l1In a7 0 20).bind fun x5 =>
   some (!x5)).bind fun x3 =>
 if x3 then
  (some (x1.1, x1.2, [], (0 : Int), (0 : Int), (0 : Int), false)).bind fun (x6, x7, x8, x9, x10, x11, x12) =>
  some ((x8, x9, x10, x11, x12), (x6, x7))
 else
  (S.ReadThrough_l1 a1 a2 a5 a7 a4 a6 FUEL x2.1.1.1 x2.1.1.2 x2.1.2.1 x2.1.2.2 x1.1 x1.2 ([]) (0 : Int) (0 : Int) (0 : Int) false ([]) (0 : Int) ([]) (0 : Int) (0 : Int) (0 : Int) false (0 : Int)).bind fun o => match o with
   | .inl _ => none
   | .inr r => some r

def S.MatchesOf (a1 : (List Int)) (a2 : (List (Int × (List Int) × Int × Int × Int))) (a3 : (List (Int × (List Int)))) (a4 : (Int × (List Int))) : Option (List (Int × (List Int))) :=
 ((S.IsAccess a1 a2 (a4.1, a4.2)).bind fun x2 =>
 if (!x2) then
  some true
 else
  (S.AreFacts a1 a3).bind fun x3 =>
  some (!x3)).bind fun x1 =>
 if x1 then
  some ([] : List (Int × (List Int)))
 else
  (idx a2 a4.1).bind fun x4 =>
  (S.l5Matches x4 a4.2 a3).bind fun x5 =>
  some x5

def S.CountPages (a1 : Int) (a2 : Int) : Option Int :=
 ((S.l1In a2 1 9).bind fun x2 =>
 if (!x2) then
  some true
 else
  (S.l1In a1 0 1000000).bind fun x3 =>
  some (!x3)).bind fun x1 =>
 if x1 then
  some (-1)
 else
  if (decide (a1 = 0)) then
   some 1
  else
   (nz a2).bind fun _ =>
   some (w64 ((w64 ((w64 (a1 + a2)) - 1)).tdiv a2))

def Q.FnReadings (a1 : (List UInt8)) : Option Bool :=
 (Q.big a1).bind fun x1 =>
 if x1 then
  some true
 else
  (S.DrawReadThrough a1).bind fun x2 =>
  (M.ReadThrough x2.1 x2.2.1 (x2.2.2.1.1, x2.2.2.1.2) (x2.2.2.2.1.1, x2.2.2.2.1.2) x2.2.2.2.2.1 x2.2.2.2.2.2.1 x2.2.2.2.2.2.2).bind fun x3 =>
  (S.ReadThrough x2.1 x2.2.1 (x2.2.2.1.1, x2.2.2.1.2) (x2.2.2.2.1.1, x2.2.2.2.1.2) x2.2.2.2.2.1 x2.2.2.2.2.2.1 x2.2.2.2.2.2.2).bind fun x4 =>
  ((S.SameFacts x3.1.1 x4.1.1).bind fun x6 =>
  if (!x6) then
   some true
  else
   if (!decide (x3.1.2.1 = x4.1.2.1)) then
    some true
   else
    if (!decide (x3.1.2.2.1 = x4.1.2.2.1)) then
     some true
    else
     if (!decide (x3.1.2.2.2.1 = x4.1.2.2.2.1)) then
      some true
     else
      if (!decide (x3.1.2.2.2.2 = x4.1.2.2.2.2)) then
       some true
      else
       (S.SameFacts x3.2.1 x4.2.1).bind fun x7 =>
       if (!x7) then
        some true
       else
        some (!decide (x3.2.2 = x4.2.2))).bind fun x5 =>
  if x5 then
   some false
  else
   if (!x4.1.2.2.2.2) then
    some (decide ((List.length x3.1.1 : Int) = 0))
   else
    (if (decide (x3.1.2.1 = x4.2.2)) then
     (S.MatchesOf x2.1 x2.2.1 x4.2.1 (x2.2.2.2.1.1, x2.2.2.2.1.2)).bind fun x9 =>
     (S.SameFacts x3.1.1 x9).bind fun x10 =>
     if x10 then
      if (decide (x3.1.2.2.2.1 ≤ (if 0 > x2.2.2.2.2.2.2 then 0 else x2.2.2.2.2.2.2))) then
       (S.CountPages (List.length x4.1.1 : Int) x2.2.2.2.2.1).bind fun x11 =>
       some (decide (x11 ≤ x3.1.2.2.1))
      else
       some false
     else
      some false
    else
     some false).bind fun x8 =>
    some x8

end Go.Gx.Px
