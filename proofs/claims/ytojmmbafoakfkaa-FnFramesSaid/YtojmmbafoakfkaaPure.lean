/- The Go functions as pure Lean functions, printed by program. Conditions: none. -/
import Derived.Test.YtojmmbafoakfkaaGxEq
set_option linter.unusedVariables false
namespace Go.Gx.Px

def Q.big (a1 : (List UInt8)) : Option Bool :=
 some (decide (1048576 < (List.length a1 : Int)))

def S.CheckByte_l1 (a1 : Str) : Nat → Int → Int → Option (Int)
 | 0, _, _ => none
 | k + 1, x1, x2 =>
  if (decide (x2 < (List.length a1 : Int))) then
   (idx (α := UInt8) a1 x2).bind fun x4 =>
   S.CheckByte_l1 a1 k ((w64 ((w64 (x1 * 31)) + (w64 (UInt8.toNat x4 : Int)))).tmod 251) (w64 (x2 + 1))
  else
   some x1

def S.CheckByte (a1 : Str) : Option Int :=
 (S.CheckByte_l1 a1 FUEL (7 : Int) (0 : Int)).bind fun x3 =>
 some x3

def S.l1In (a1 : Int) (a2 : Int) (a3 : Int) : Option Bool :=
 (if (decide (a2 ≤ a1)) then
  some (decide (a1 ≤ a3))
 else
  some false).bind fun x1 =>
 some x1

def S.EncodeFixed_l1 (a2 : Int) : Nat → Int → Str → Int → Option ((Int × Str))
 | 0, _, _, _ => none
 | k + 1, x3, x4, x5 =>
  if (decide (x5 < a2)) then
   (cat (Str.of ([(u8 (x3.tmod 256))])) x4).bind fun x8 =>
   S.EncodeFixed_l1 a2 k (w64 (x3.tdiv 256)) x8 (w64 (x5 + 1))
  else
   some (x3, x4)

def S.EncodeFixed (a1 : Int) (a2 : Int) : Option Str :=
 ((S.l1In a2 1 7).bind fun x2 =>
 if (!x2) then
  some true
 else
  some (decide (a1 < 0))).bind fun x1 =>
 if x1 then
  some (str [])
 else
  (S.EncodeFixed_l1 a2 FUEL a1 (str []) (0 : Int)).bind fun (x6, x7) =>
  if (decide (0 < x6)) then
   some (str [])
  else
   some x7

def S.EncodeVarint_l1  : Nat → Int → (List UInt8) → Option ((Int × (List UInt8)))
 | 0, _, _ => none
 | k + 1, x2, x3 =>
  if (decide (128 ≤ x2)) then
   (app x3 ([(u8 (w64 (128 + (x2.tmod 128))))])).bind fun x6 =>
   S.EncodeVarint_l1 k (w64 (x2.tdiv 128)) x6
  else
   some (x2, x3)

def S.EncodeVarint (a1 : Int) : Option Str :=
 (S.l1In a1 0 562949953421311).bind fun x1 =>
 if (!x1) then
  some (str [])
 else
  (S.EncodeVarint_l1 FUEL a1 ([] : List UInt8)).bind fun (x4, x5) =>
  (app x5 ([(u8 x4)])).bind fun x7 =>
  some (Str.of x7)

def S.FrameOf (a1 : Str) : Option Str :=
 if (decide (200 < (List.length a1 : Int))) then
  some (str [])
 else
  (S.EncodeVarint (List.length a1 : Int)).bind fun x1 =>
  (cat x1 a1).bind fun x2 =>
  (S.CheckByte a1).bind fun x3 =>
  (S.EncodeFixed x3 1).bind fun x4 =>
  (cat x2 x4).bind fun x5 =>
  some x5

def S.l1New_l1 (a1 : (List UInt8)) : Nat → Int → Int → Option (Int)
 | 0, _, _ => none
 | k + 1, x1, x2 =>
  (if (decide (x2 < (List.length a1 : Int))) then
   some (decide (x2 < 4000))
  else
   some false).bind fun x4 =>
  if x4 then
   (idx a1 x2).bind fun x5 =>
   S.l1New_l1 a1 k (band (w64 ((w64 ((w64 (x1 * 131)) + (w64 (UInt8.toNat x5 : Int)))) + 7)) 1073741823) (w64 (x2 + 1))
  else
   some x1

def S.l1New (a1 : (List UInt8)) : Option ((List UInt8) × Int × Int) :=
 (S.l1New_l1 a1 FUEL (w64 (10101 + (List.length a1 : Int))) (0 : Int)).bind fun x3 =>
 some (a1, 0, x3)

def S.l1Byte (a1 : ((List UInt8) × Int × Int)) : Option (Int × ((List UInt8) × Int × Int)) :=
 (if (decide (a1.2.1 < (List.length a1.1 : Int))) then
  (idx a1.1 a1.2.1).bind fun x4 =>
  some (w64 (a1.2.1 + 1), w64 ((w64 (a1.2.2 * 6364136223846793005)) + 1442695040888963407), band (w64 ((band (bxor (shr (w64 ((w64 (a1.2.2 * 6364136223846793005)) + 1442695040888963407)) 33) (shr (w64 ((w64 (a1.2.2 * 6364136223846793005)) + 1442695040888963407)) 45)) 255) + (w64 (UInt8.toNat x4 : Int)))) 255)
 else
  some (a1.2.1, w64 ((w64 (a1.2.2 * 6364136223846793005)) + 1442695040888963407), band (bxor (shr (w64 ((w64 (a1.2.2 * 6364136223846793005)) + 1442695040888963407)) 33) (shr (w64 ((w64 (a1.2.2 * 6364136223846793005)) + 1442695040888963407)) 45)) 255)).bind fun (x1, x2, x3) =>
 some (x3, (a1.1, x1, x2))

def S.l1Below (a1 : ((List UInt8) × Int × Int)) (a2 : Int) : Option (Int × ((List UInt8) × Int × Int)) :=
 if (decide (a2 ≤ 0)) then
  some (0, (a1.1, a1.2.1, a1.2.2))
 else
  if (decide (a2 ≤ 256)) then
   (S.l1Byte (a1.1, a1.2.1, a1.2.2)).bind fun x1 =>
   (nz a2).bind fun _ =>
   some (x1.1.tmod a2, (a1.1, x1.2.2.1, x1.2.2.2))
  else
   (S.l1Byte (a1.1, a1.2.1, a1.2.2)).bind fun x2 =>
   (S.l1Byte (a1.1, x2.2.2.1, x2.2.2.2)).bind fun x3 =>
   (S.l1Byte (a1.1, x3.2.2.1, x3.2.2.2)).bind fun x4 =>
   (S.l1Byte (a1.1, x4.2.2.1, x4.2.2.2)).bind fun x5 =>
   (nz a2).bind fun _ =>
   some ((w64 ((w64 ((w64 ((w64 (x2.1 * 16777216)) + (w64 (x3.1 * 65536)))) + (w64 (x4.1 * 256)))) + x5.1)).tmod a2, (a1.1, x5.2.2.1, x5.2.2.2))

def S.FormatInt_l1  : Nat → Int → Str → Option (Str)
 | 0, _, _ => none
 | k + 1, x1, x2 =>
  if (!decide (x1 = 0)) then
   (if (decide ((x1.tmod 10) < 0)) then
    some (w64 (0 - (x1.tmod 10)))
   else
    some (x1.tmod 10)).bind fun x4 =>
   (cat (Str.of ([(u8 (w64 (48 + x4)))])) x2).bind fun x5 =>
   S.FormatInt_l1 k (w64 (x1.tdiv 10)) x5
  else
   some x2

def S.FormatInt (a1 : Int) : Option Str :=
 if (decide (a1 = 0)) then
  some (str [48])
 else
  (S.FormatInt_l1 FUEL a1 (str [])).bind fun x3 =>
  if (decide (a1 < 0)) then
   (cat (str [45]) x3).bind fun x6 =>
   some x6
  else
   some x3

def S.l2List_l1 (a1 : (List Int)) : Nat → Str → Int → Option (Str)
 | 0, _, _ => none
 | k + 1, x1, x2 =>
  if (decide (x2 < (List.length a1 : Int))) then
   (if (decide (0 < x2)) then
    (cat x1 (str [44])).bind fun x5 =>
    some x5
   else
    some x1).bind fun x4 =>
   (idx a1 x2).bind fun x6 =>
   (S.FormatInt x6).bind fun x7 =>
   (cat x4 x7).bind fun x8 =>
   S.l2List_l1 a1 k x8 (w64 (x2 + 1))
  else
   some x1

def S.l2List (a1 : (List Int)) : Option Str :=
 (S.l2List_l1 a1 FUEL (str []) (0 : Int)).bind fun x3 =>
 some x3

def S.FormatAccess_l1 (a1 : (Int × (List Int))) : Nat → Int → Option (Sum Unit Str)
 | 0, _ => none
 | k + 1, x3 =>
  if (decide (x3 < (List.length a1.2 : Int))) then
   (idx a1.2 x3).bind fun x4 =>
   (S.l1In x4 0 9).bind fun x5 =>
   if (!x5) then
    some (.inr (str []))
   else
    S.FormatAccess_l1 a1 k (w64 (x3 + 1))
  else
   some (.inl ())

def S.FormatAccess (a1 : (Int × (List Int))) : Option Str :=
 ((S.l1In a1.1 0 4).bind fun x2 =>
 if (!x2) then
  some true
 else
  some (decide (3 < (List.length a1.2 : Int)))).bind fun x1 =>
 if x1 then
  some (str [])
 else
  (S.FormatAccess_l1 a1 FUEL (0 : Int)).bind fun o => match o with
   | .inl () =>
    (S.FormatInt a1.1).bind fun x6 =>
    (cat (str [109]) x6).bind fun x7 =>
    (cat x7 (str [40])).bind fun x8 =>
    (S.l2List a1.2).bind fun x9 =>
    (cat x8 x9).bind fun x10 =>
    (cat x10 (str [41])).bind fun x11 =>
    some x11
   | .inr r => some r

def S.EncodeRequest_l1 (a1 : (Int × (List Int))) : Nat → Str → Int → Option (Str)
 | 0, _, _ => none
 | k + 1, x9, x10 =>
  if (decide (x10 < (List.length a1.2 : Int))) then
   (idx a1.2 x10).bind fun x12 =>
   (S.EncodeVarint x12).bind fun x13 =>
   (cat x9 x13).bind fun x14 =>
   S.EncodeRequest_l1 a1 k x14 (w64 (x10 + 1))
  else
   some x9

def S.EncodeRequest (a1 : (Int × (List Int))) (a2 : Int) : Option Str :=
 ((S.FormatAccess (a1.1, a1.2)).bind fun x2 =>
 if (decide (x2 = (str []))) then
  some true
 else
  (S.l1In a2 1 9).bind fun x3 =>
  some (!x3)).bind fun x1 =>
 if x1 then
  some (str [])
 else
  (S.EncodeVarint a1.1).bind fun x4 =>
  (S.EncodeVarint a2).bind fun x5 =>
  (cat x4 x5).bind fun x6 =>
  (S.EncodeVarint (List.length a1.2 : Int)).bind fun x7 =>
  (cat x6 x7).bind fun x8 =>
  (S.EncodeRequest_l1 a1 FUEL x8 (0 : Int)).bind fun x11 =>
  some x11

def S.l1Once (a1 : ((List UInt8) × Int × Int)) (a2 : Int) : Option (Bool × ((List UInt8) × Int × Int)) :=
 (S.l1Below (a1.1, a1.2.1, a1.2.2) a2).bind fun x1 =>
 some ((decide (x1.1 = 0)), (a1.1, x1.2.2.1, x1.2.2.2))

def S.l2Schema_l1 (a1 : ((List UInt8) × Int × Int)) : Nat → Int → Int → (List Int) → Int → Option ((Int × Int × (List Int)))
 | 0, _, _, _, _ => none
 | k + 1, x2, x3, x4, x5 =>
  if (decide (0 < x5)) then
   (S.l1Below (a1.1, x2, x3) 2).bind fun x9 =>
   (S.l1Once (a1.1, x9.2.2.1, x9.2.2.2) 4).bind fun x10 =>
   (if x10.1 then
    some (3 : Int)
   else
    some (w64 (1 + x9.1))).bind fun x11 =>
   (app x4 ([x11])).bind fun x12 =>
   S.l2Schema_l1 a1 k x10.2.2.1 x10.2.2.2 x12 (w64 (x5 - 1))
  else
   some (x2, x3, x4)

def S.l2Schema (a1 : ((List UInt8) × Int × Int)) : Option ((List Int) × ((List UInt8) × Int × Int)) :=
 (S.l1Below (a1.1, a1.2.1, a1.2.2) 3).bind fun x1 =>
 (S.l2Schema_l1 a1 FUEL x1.2.2.1 x1.2.2.2 ([] : List Int) (w64 (1 + x1.1))).bind fun (x6, x7, x8) =>
 some (x8, (a1.1, x6, x7))

def S.CompareFacts_l1 (a1 : (Int × (List Int))) (a2 : (Int × (List Int))) : Nat → Int → Option (Sum Unit Int)
 | 0, _ => none
 | k + 1, x1 =>
  (if (decide (x1 < (List.length a1.2 : Int))) then
   some (decide (x1 < (List.length a2.2 : Int)))
  else
   some false).bind fun x2 =>
  if x2 then
   (idx a1.2 x1).bind fun x3 =>
   (idx a2.2 x1).bind fun x4 =>
   if (decide (x3 < x4)) then
    some (.inr (-1))
   else
    (idx a1.2 x1).bind fun x5 =>
    (idx a2.2 x1).bind fun x6 =>
    if (decide (x6 < x5)) then
     some (.inr 1)
    else
     S.CompareFacts_l1 a1 a2 k (w64 (x1 + 1))
  else
   some (.inl ())

def S.CompareFacts (a1 : (Int × (List Int))) (a2 : (Int × (List Int))) : Option Int :=
 if (!decide (a1.1 = a2.1)) then
  if (decide (a1.1 < a2.1)) then
   some (-1)
  else
   some 1
 else
  (S.CompareFacts_l1 a1 a2 FUEL (0 : Int)).bind fun o => match o with
   | .inl () =>
    if (decide ((List.length a1.2 : Int) < (List.length a2.2 : Int))) then
     some (-1)
    else
     if (decide ((List.length a2.2 : Int) < (List.length a1.2 : Int))) then
      some 1
     else
      some 0
   | .inr r => some r

def S.HasFact_l1 (a1 : (List (Int × (List Int)))) (a2 : (Int × (List Int))) : Nat → Int → Option (Sum Unit Bool)
 | 0, _ => none
 | k + 1, x1 =>
  if (decide (x1 < (List.length a1 : Int))) then
   (idx a1 x1).bind fun x2 =>
   (S.CompareFacts x2 (a2.1, a2.2)).bind fun x3 =>
   if (decide (x3 = 0)) then
    some (.inr true)
   else
    S.HasFact_l1 a1 a2 k (w64 (x1 + 1))
  else
   some (.inl ())

def S.HasFact (a1 : (List (Int × (List Int)))) (a2 : (Int × (List Int))) : Option Bool :=
 (S.HasFact_l1 a1 a2 FUEL (0 : Int)).bind fun o => match o with
  | .inl () =>
   some false
  | .inr r => some r

def S.l2One (a1 : Int) (a2 : (List Int)) : Option (Int × (List Int)) :=
 (app ([] : List Int) a2).bind fun x1 =>
 some (a1, x1)

def S.AddFact_l1 (a1 : (List (Int × (List Int)))) (a2 : (Int × (List Int))) : Nat → (List (Int × (List Int))) → Bool → Int → Option (((List (Int × (List Int))) × Bool))
 | 0, _, _, _ => none
 | k + 1, x2, x3, x4 =>
  if (decide (x4 < (List.length a1 : Int))) then
   (if (!x3) then
    (idx a1 x4).bind fun x8 =>
    (S.CompareFacts (a2.1, a2.2) x8).bind fun x9 =>
    some (decide (x9 < 0))
   else
    some false).bind fun x7 =>
   (if x7 then
    (S.l2One a2.1 a2.2).bind fun x12 =>
    (app x2 ([(x12.1, x12.2)])).bind fun x13 =>
    some (x13, true)
   else
    some (x2, x3)).bind fun (x10, x11) =>
   (idx a1 x4).bind fun x14 =>
   (idx a1 x4).bind fun x15 =>
   (S.l2One x14.1 x15.2).bind fun x16 =>
   (app x10 ([(x16.1, x16.2)])).bind fun x17 =>
   S.AddFact_l1 a1 a2 k x17 x11 (w64 (x4 + 1))
  else
   some (x2, x3)

def S.AddFact (a1 : (List (Int × (List Int)))) (a2 : (Int × (List Int))) : Option (List (Int × (List Int))) :=
 (S.HasFact a1 (a2.1, a2.2)).bind fun x1 =>
 (S.AddFact_l1 a1 a2 FUEL ([] : List (Int × (List Int))) x1 (0 : Int)).bind fun (x5, x6) =>
 (if (!x6) then
  (S.l2One a2.1 a2.2).bind fun x19 =>
  (app x5 ([(x19.1, x19.2)])).bind fun x20 =>
  some x20
 else
  some x5).bind fun x18 =>
 some x18

def S.l2Fact_l1 (a2 : (List Int)) (a1 : ((List UInt8) × Int × Int)) (a3 : Int) : Nat → Int → (List Int) → Int → Int → Int → Option ((Int × (List Int) × Int × Int))
 | 0, _, _, _, _, _ => none
 | k + 1, x2, x3, x4, x5, x6 =>
  (idx a2 x2).bind fun x11 =>
  if (decide (x6 < x11)) then
   (S.l1Below (a1.1, x4, x5) a3).bind fun x12 =>
   (app x3 ([x12.1])).bind fun x13 =>
   S.l2Fact_l1 a2 a1 a3 k x2 x13 x12.2.2.1 x12.2.2.2 (w64 (x6 + 1))
  else
   some (x2, x3, x4, x5)

def S.l2Fact (a1 : ((List UInt8) × Int × Int)) (a2 : (List Int)) (a3 : Int) : Option ((Int × (List Int)) × ((List UInt8) × Int × Int)) :=
 (S.l1Below (a1.1, a1.2.1, a1.2.2) (List.length a2 : Int)).bind fun x1 =>
 (S.l2Fact_l1 a2 a1 a3 FUEL x1.1 ([]) x1.2.2.1 x1.2.2.2 (0 : Int)).bind fun (x7, x8, x9, x10) =>
 some ((x7, x8), (a1.1, x9, x10))

def S.l2Facts_l1 (a1 : ((List UInt8) × Int × Int)) (a2 : (List Int)) : Nat → Int → Int → (List (Int × (List Int))) → Int → Option ((Int × Int × (List (Int × (List Int)))))
 | 0, _, _, _, _ => none
 | k + 1, x2, x3, x4, x5 =>
  if (decide (0 < x5)) then
   (S.l2Fact (a1.1, x2, x3) a2 4).bind fun x9 =>
   (S.AddFact x4 x9.1).bind fun x10 =>
   S.l2Facts_l1 a1 a2 k x9.2.2.1 x9.2.2.2 x10 (w64 (x5 - 1))
  else
   some (x2, x3, x4)

def S.l2Facts (a1 : ((List UInt8) × Int × Int)) (a2 : (List Int)) (a3 : Int) : Option ((List (Int × (List Int))) × ((List UInt8) × Int × Int)) :=
 (S.l1Below (a1.1, a1.2.1, a1.2.2) (w64 (a3 + 1))).bind fun x1 =>
 (S.l2Facts_l1 a1 a2 FUEL x1.2.2.1 x1.2.2.2 ([] : List (Int × (List Int))) x1.1).bind fun (x6, x7, x8) =>
 some (x8, (a1.1, x6, x7))

def S.IsSchema_l1 (a1 : (List Int)) : Nat → Int → Option (Sum Unit Bool)
 | 0, _ => none
 | k + 1, x1 =>
  if (decide (x1 < (List.length a1 : Int))) then
   (idx a1 x1).bind fun x2 =>
   (S.l1In x2 1 3).bind fun x3 =>
   if (!x3) then
    some (.inr false)
   else
    S.IsSchema_l1 a1 k (w64 (x1 + 1))
  else
   some (.inl ())

def S.IsSchema (a1 : (List Int)) : Option Bool :=
 (S.IsSchema_l1 a1 FUEL (0 : Int)).bind fun o => match o with
  | .inl () =>
   (S.l1In (List.length a1 : Int) 1 3).bind fun x4 =>
   some x4
  | .inr r => some r

def S.l1PickInt (a1 : ((List UInt8) × Int × Int)) (a2 : (List Int)) : Option (Int × ((List UInt8) × Int × Int)) :=
 (S.l1Below (a1.1, a1.2.1, a1.2.2) (List.length a2 : Int)).bind fun x1 =>
 (idx a2 x1.1).bind fun x2 =>
 some (x2, (a1.1, x1.2.2.1, x1.2.2.2))

def S.l2AnyFact (a1 : ((List UInt8) × Int × Int)) (a2 : (List Int)) : Option ((Int × (List Int)) × ((List UInt8) × Int × Int)) :=
 (S.IsSchema a2).bind fun x1 =>
 (if x1 then
  (S.l2Fact (a1.1, a1.2.1, a1.2.2) a2 10).bind fun x6 =>
  some (x6.1.1, x6.1.2, x6.2.2.1, x6.2.2.2)
 else
  some ((0 : Int), [1], a1.2.1, a1.2.2)).bind fun (x2, x3, x4, x5) =>
 (S.l1Below (a1.1, x4, x5) 8).bind fun x7 =>
 (if (decide (x7.1 = 0)) then
  (S.l1Below (a1.1, x7.2.2.1, x7.2.2.2) 5).bind fun x12 =>
  some (x12.2.2.1, x12.2.2.2, w64 (x12.1 - 1), x3)
 else
  (if (decide (x7.1 = 1)) then
   ((S.l1PickInt (a1.1, x7.2.2.1, x7.2.2.2) ([(-1), 9, 10])).bind fun x20 =>
   (idx x3 0).bind fun x21 =>
   some ((List.set x3 (Int.toNat 0) x20.1), x20.2.2.1, x20.2.2.2)).bind fun (x17, x18, x19) =>
   some (x18, x19, x2, x17)
  else
   (if (decide (x7.1 = 2)) then
    (app x3 ([1])).bind fun x24 =>
    some (x2, x24)
   else
    some (x2, x3)).bind fun (x22, x23) =>
   some (x7.2.2.1, x7.2.2.2, x22, x23)).bind fun (x13, x14, x15, x16) =>
  some (x13, x14, x15, x16)).bind fun (x8, x9, x10, x11) =>
 some ((x10, x11), (a1.1, x8, x9))

def S.l2AnyFacts (a1 : ((List UInt8) × Int × Int)) (a2 : (List Int)) : Option ((List (Int × (List Int))) × ((List UInt8) × Int × Int)) :=
 (S.IsSchema a2).bind fun x1 =>
 (if x1 then
  (S.l2Facts (a1.1, a1.2.1, a1.2.2) a2 8).bind fun x5 =>
  some (x5.2.2.1, x5.2.2.2, x5.1)
 else
  some (a1.2.1, a1.2.2, ([] : List (Int × (List Int))))).bind fun (x2, x3, x4) =>
 (S.l1Once (a1.1, x2, x3) 10).bind fun x6 =>
 (if x6.1 then
  (S.l2AnyFact (a1.1, x6.2.2.1, x6.2.2.2) a2).bind fun x10 =>
  (app x4 ([(x10.1.1, x10.1.2)])).bind fun x11 =>
  some (x10.2.2.1, x10.2.2.2, x11)
 else
  some (x6.2.2.1, x6.2.2.2, x4)).bind fun (x7, x8, x9) =>
 some (x9, (a1.1, x7, x8))

def S.l5Method_l1 (a2 : (List Int)) (a1 : ((List UInt8) × Int × Int)) : Nat → Int → (List Int) → Int → Int → Int → Int → Int → Int → Option ((Int × (List Int) × Int × Int × Int × Int × Int))
 | 0, _, _, _, _, _, _, _, _ => none
 | k + 1, x5, x6, x7, x8, x9, x10, x11, x12 =>
  (idx a2 x5).bind fun x20 =>
  if (decide (x12 < x20)) then
   (S.l1Once (a1.1, x10, x11) 3).bind fun x21 =>
   (if x21.1 then
    (app x6 ([x12])).bind fun x27 =>
    some (x5, x27, x7, x8, x9)
   else
    some (x5, x6, x7, x8, x9)).bind fun (x22, x23, x24, x25, x26) =>
   S.l5Method_l1 a2 a1 k x22 x23 x24 x25 x26 x21.2.2.1 x21.2.2.2 (w64 (x12 + 1))
  else
   some (x5, x6, x7, x8, x9, x10, x11)

def S.l5Method (a1 : ((List UInt8) × Int × Int)) (a2 : (List Int)) : Option ((Int × (List Int) × Int × Int × Int) × ((List UInt8) × Int × Int)) :=
 (S.l1Below (a1.1, a1.2.1, a1.2.2) (List.length a2 : Int)).bind fun x1 =>
 (S.l1PickInt (a1.1, x1.2.2.1, x1.2.2.2) ([0, 0, 0, 1, 2])).bind fun x2 =>
 (S.l1Below (a1.1, x2.2.2.1, x2.2.2.2) 5).bind fun x3 =>
 (S.l1Below (a1.1, x3.2.2.1, x3.2.2.2) 6).bind fun x4 =>
 (S.l5Method_l1 a2 a1 FUEL x1.1 ([]) x2.1 x3.1 (w64 (1 + x4.1)) x4.2.2.1 x4.2.2.2 (0 : Int)).bind fun (x13, x14, x15, x16, x17, x18, x19) =>
 some ((x13, x14, x15, x16, x17), (a1.1, x18, x19))

def S.l5Methods_l1 (a1 : ((List UInt8) × Int × Int)) (a2 : (List Int)) : Nat → Int → Int → (List (Int × (List Int) × Int × Int × Int)) → Int → Option ((Int × Int × (List (Int × (List Int) × Int × Int × Int))))
 | 0, _, _, _, _ => none
 | k + 1, x2, x3, x4, x5 =>
  if (decide (0 < x5)) then
   (S.l5Method (a1.1, x2, x3) a2).bind fun x9 =>
   (app x4 ([(x9.1.1, x9.1.2.1, x9.1.2.2.1, x9.1.2.2.2.1, x9.1.2.2.2.2)])).bind fun x10 =>
   S.l5Methods_l1 a1 a2 k x9.2.2.1 x9.2.2.2 x10 (w64 (x5 - 1))
  else
   some (x2, x3, x4)

def S.l5Methods (a1 : ((List UInt8) × Int × Int)) (a2 : (List Int)) : Option ((List (Int × (List Int) × Int × Int × Int)) × ((List UInt8) × Int × Int)) :=
 (S.l1Below (a1.1, a1.2.1, a1.2.2) 4).bind fun x1 =>
 (S.l5Methods_l1 a1 a2 FUEL x1.2.2.1 x1.2.2.2 ([] : List (Int × (List Int) × Int × Int × Int)) (w64 (1 + x1.1))).bind fun (x6, x7, x8) =>
 some (x8, (a1.1, x6, x7))

def S.l5AnyMethod (a1 : ((List UInt8) × Int × Int)) (a2 : (List Int)) : Option ((Int × (List Int) × Int × Int × Int) × ((List UInt8) × Int × Int)) :=
 (S.IsSchema a2).bind fun x1 =>
 (if x1 then
  (S.l5Method (a1.1, a1.2.1, a1.2.2) a2).bind fun x9 =>
  some (x9.1.1, x9.1.2.1, x9.1.2.2.1, x9.1.2.2.2.1, x9.1.2.2.2.2, x9.2.2.1, x9.2.2.2)
 else
  some ((0 : Int), [], (0 : Int), (0 : Int), (1 : Int), a1.2.1, a1.2.2)).bind fun (x2, x3, x4, x5, x6, x7, x8) =>
 (S.l1Below (a1.1, x7, x8) 10).bind fun x10 =>
 (if (decide (x10.1 = 0)) then
  (S.l1PickInt (a1.1, x10.2.2.1, x10.2.2.2) ([(-1), 9, 10])).bind fun x18 =>
  some (x18.2.2.1, x18.2.2.2, x2, x3, x18.1, x5, x6)
 else
  (if (decide (x10.1 = 1)) then
   ((S.l1Below (a1.1, x10.2.2.1, x10.2.2.2) 5).bind fun x33 =>
   (app x3 ([w64 (x33.1 - 1)])).bind fun x34 =>
   some (x33.2.2.1, x33.2.2.2, x2, x34, x4, x5, x6)).bind fun (x26, x27, x28, x29, x30, x31, x32) =>
   some (x26, x27, x28, x29, x30, x31, x32)
  else
   (if (decide (x10.1 = 2)) then
    (S.l1PickInt (a1.1, x10.2.2.1, x10.2.2.2) ([0, 99, 100])).bind fun x42 =>
    some (x42.2.2.1, x42.2.2.2, x2, x3, x4, x5, x42.1)
   else
    (if (decide (x10.1 = 3)) then
     (S.l1PickInt (a1.1, x10.2.2.1, x10.2.2.2) ([(-1), 99, 100])).bind fun x50 =>
     some (x50.2.2.1, x50.2.2.2, x2, x3, x4, x50.1, x6)
    else
     some (x10.2.2.1, x10.2.2.2, x2, x3, x4, x5, x6)).bind fun (x43, x44, x45, x46, x47, x48, x49) =>
    some (x43, x44, x45, x46, x47, x48, x49)).bind fun (x35, x36, x37, x38, x39, x40, x41) =>
   some (x35, x36, x37, x38, x39, x40, x41)).bind fun (x19, x20, x21, x22, x23, x24, x25) =>
  some (x19, x20, x21, x22, x23, x24, x25)).bind fun (x11, x12, x13, x14, x15, x16, x17) =>
 some ((x13, x14, x15, x16, x17), (a1.1, x11, x12))

def S.l2AnySchema (a1 : ((List UInt8) × Int × Int)) : Option ((List Int) × ((List UInt8) × Int × Int)) :=
 (S.l2Schema (a1.1, a1.2.1, a1.2.2)).bind fun x1 =>
 (S.l1Once (a1.1, x1.2.2.1, x1.2.2.2) 14).bind fun x2 =>
 (if x2.1 then
  (S.l1PickInt (a1.1, x2.2.2.1, x2.2.2.2) ([0, 1, 4])).bind fun x6 =>
  (app x1.1 ([x6.1])).bind fun x7 =>
  some (x6.2.2.1, x6.2.2.2, x7)
 else
  some (x2.2.2.1, x2.2.2.2, x1.1)).bind fun (x3, x4, x5) =>
 some (x5, (a1.1, x3, x4))

def S.l5Draw (a1 : ((List UInt8) × Int × Int)) : Option ((List Int) × (List (Int × (List Int) × Int × Int × Int)) × (List (Int × (List Int))) × ((List UInt8) × Int × Int)) :=
 (S.l2Schema (a1.1, a1.2.1, a1.2.2)).bind fun x1 =>
 (S.l5Methods (a1.1, x1.2.2.1, x1.2.2.2) x1.1).bind fun x2 =>
 (S.l2Facts (a1.1, x2.2.2.1, x2.2.2.2) x1.1 8).bind fun x3 =>
 (S.l1Below (a1.1, x3.2.2.1, x3.2.2.2) 20).bind fun x4 =>
 (if (decide (x4.1 = 0)) then
  (S.l5AnyMethod (a1.1, x4.2.2.1, x4.2.2.2) x1.1).bind fun x10 =>
  (app x2.1 ([(x10.1.1, x10.1.2.1, x10.1.2.2.1, x10.1.2.2.2.1, x10.1.2.2.2.2)])).bind fun x11 =>
  some (x10.2.2.1, x10.2.2.2, x1.1, x11, x3.1)
 else
  (if (decide (x4.1 = 1)) then
   (S.l2AnyFacts (a1.1, x4.2.2.1, x4.2.2.2) x1.1).bind fun x16 =>
   some (x16.2.2.1, x16.2.2.2, x1.1, x16.1)
  else
   (if (decide (x4.1 = 2)) then
    (S.l2AnySchema (a1.1, x4.2.2.1, x4.2.2.2)).bind fun x20 =>
    some (x20.2.2.1, x20.2.2.2, x20.1)
   else
    some (x4.2.2.1, x4.2.2.2, x1.1)).bind fun (x17, x18, x19) =>
   some (x17, x18, x19, x3.1)).bind fun (x12, x13, x14, x15) =>
  some (x12, x13, x14, x2.1, x15)).bind fun (x5, x6, x7, x8, x9) =>
 some (x7, x8, x9, (a1.1, x5, x6))

def S.l5Access_l1 (a2 : (List (Int × (List Int) × Int × Int × Int))) (a1 : ((List UInt8) × Int × Int)) : Nat → Int → (List Int) → Int → Int → Int → Option ((Int × (List Int) × Int × Int))
 | 0, _, _, _, _, _ => none
 | k + 1, x2, x3, x4, x5, x6 =>
  (idx a2 x2).bind fun x11 =>
  if (decide (x6 < (List.length x11.2.1 : Int))) then
   (S.l1Below (a1.1, x4, x5) 4).bind fun x12 =>
   (app x3 ([x12.1])).bind fun x13 =>
   S.l5Access_l1 a2 a1 k x2 x13 x12.2.2.1 x12.2.2.2 (w64 (x6 + 1))
  else
   some (x2, x3, x4, x5)

def S.l5Access (a1 : ((List UInt8) × Int × Int)) (a2 : (List (Int × (List Int) × Int × Int × Int))) : Option ((Int × (List Int)) × ((List UInt8) × Int × Int)) :=
 if (decide ((List.length a2 : Int) = 0)) then
  some ((0, []), (a1.1, a1.2.1, a1.2.2))
 else
  (S.l1Below (a1.1, a1.2.1, a1.2.2) (List.length a2 : Int)).bind fun x1 =>
  (S.l5Access_l1 a2 a1 FUEL x1.1 ([]) x1.2.2.1 x1.2.2.2 (0 : Int)).bind fun (x7, x8, x9, x10) =>
  some ((x7, x8), (a1.1, x9, x10))

def S.l5AnyAccess (a1 : ((List UInt8) × Int × Int)) (a2 : (List (Int × (List Int) × Int × Int × Int))) : Option ((Int × (List Int)) × ((List UInt8) × Int × Int)) :=
 (S.l5Access (a1.1, a1.2.1, a1.2.2) a2).bind fun x1 =>
 (S.l1Below (a1.1, x1.2.2.1, x1.2.2.2) 12).bind fun x2 =>
 (if (decide (x2.1 = 0)) then
  (S.l1Below (a1.1, x2.2.2.1, x2.2.2.2) 7).bind fun x7 =>
  some (x7.2.2.1, x7.2.2.2, w64 (x7.1 - 1), x1.1.2)
 else
  (if (decide (x2.1 = 1)) then
   ((S.l1PickInt (a1.1, x2.2.2.1, x2.2.2.2) ([(-1), 3, 10])).bind fun x16 =>
   (app x1.1.2 ([x16.1])).bind fun x17 =>
   some (x16.2.2.1, x16.2.2.2, x1.1.1, x17)).bind fun (x12, x13, x14, x15) =>
   some (x12, x13, x14, x15)
  else
   some (x2.2.2.1, x2.2.2.2, x1.1.1, x1.1.2)).bind fun (x8, x9, x10, x11) =>
  some (x8, x9, x10, x11)).bind fun (x3, x4, x5, x6) =>
 some ((x5, x6), (a1.1, x3, x4))

def S.l26Access (a1 : ((List UInt8) × Int × Int)) : Option ((Int × (List Int)) × ((List UInt8) × Int × Int)) :=
 (S.l5Draw (a1.1, a1.2.1, a1.2.2)).bind fun x1 =>
 (S.l5AnyAccess (a1.1, x1.2.2.2.2.1, x1.2.2.2.2.2) x1.2.1).bind fun x2 =>
 some ((x2.1.1, x2.1.2), (a1.1, x2.2.2.1, x2.2.2.2))

def S.l1Text_l1 (a1 : ((List UInt8) × Int × Int)) (x1 : (Int × ((List UInt8) × Int × Int))) : Nat → Int → Int → (List UInt8) → Int → Option ((Int × Int × (List UInt8)))
 | 0, _, _, _, _ => none
 | k + 1, x3, x4, x5, x6 =>
  if (decide (0 < x6)) then
   (S.l1Byte (a1.1, x3, x4)).bind fun x10 =>
   (if (decide (x1.1 = 1)) then
    some (x10.1.tmod 2)
   else
    some x10.1).bind fun x11 =>
   (if (decide (x1.1 = 2)) then
    some (w64 (97 + (x11.tmod 4)))
   else
    some x11).bind fun x12 =>
   (app x5 ([(u8 x12)])).bind fun x13 =>
   S.l1Text_l1 a1 x1 k x10.2.2.1 x10.2.2.2 x13 (w64 (x6 - 1))
  else
   some (x3, x4, x5)

def S.l1Text (a1 : ((List UInt8) × Int × Int)) (a2 : Int) : Option (Str × ((List UInt8) × Int × Int)) :=
 (S.l1Below (a1.1, a1.2.1, a1.2.2) 4).bind fun x1 =>
 (S.l1Below (a1.1, x1.2.2.1, x1.2.2.2) (w64 (a2 + 1))).bind fun x2 =>
 (S.l1Text_l1 a1 x1 FUEL x2.2.2.1 x2.2.2.2 ([] : List UInt8) x2.1).bind fun (x7, x8, x9) =>
 some ((Str.of x9), (a1.1, x7, x8))

def S.l1Spoil (a1 : ((List UInt8) × Int × Int)) (a2 : Str) : Option (Str × ((List UInt8) × Int × Int)) :=
 if (decide ((List.length a2 : Int) = 0)) then
  (S.l1Text (a1.1, a1.2.1, a1.2.2) 3).bind fun x1 =>
  some (x1.1, (a1.1, x1.2.2.1, x1.2.2.2))
 else
  (S.l1Below (a1.1, a1.2.1, a1.2.2) (List.length a2 : Int)).bind fun x2 =>
  (S.l1Below (a1.1, x2.2.2.1, x2.2.2.2) 4).bind fun x3 =>
  if (decide (x3.1 = 0)) then
   (subS a2 0 x2.1).bind fun x4 =>
   (subS a2 (w64 (x2.1 + 1)) (List.length a2 : Int)).bind fun x5 =>
   (cat x4 x5).bind fun x6 =>
   some (x6, (a1.1, x3.2.2.1, x3.2.2.2))
  else
   if (decide (x3.1 = 1)) then
    (subS a2 0 x2.1).bind fun x7 =>
    (subS a2 x2.1 (List.length a2 : Int)).bind fun x8 =>
    (S.l1Byte (a1.1, x3.2.2.1, x3.2.2.2)).bind fun x9 =>
    (cat x7 (Str.of ([(u8 x9.1)]))).bind fun x10 =>
    (cat x10 x8).bind fun x11 =>
    some (x11, (a1.1, x9.2.2.1, x9.2.2.2))
   else
    if (decide (x3.1 = 2)) then
     (subS a2 0 x2.1).bind fun x12 =>
     some (x12, (a1.1, x3.2.2.1, x3.2.2.2))
    else
     (subS a2 0 x2.1).bind fun x13 =>
     (idx (α := UInt8) a2 x2.1).bind fun x14 =>
     (subS a2 (w64 (x2.1 + 1)) (List.length a2 : Int)).bind fun x15 =>
     (S.l1Below (a1.1, x3.2.2.1, x3.2.2.2) 255).bind fun x16 =>
     (cat x13 (Str.of ([(u8 (bxor (w64 (UInt8.toNat x14 : Int)) (w64 (1 + x16.1))))]))).bind fun x17 =>
     (cat x17 x15).bind fun x18 =>
     some (x18, (a1.1, x16.2.2.1, x16.2.2.2))

def S.DrawSplitFrames_l1 (a1 : (List UInt8)) : Nat → Int → Int → Str → Int → Option ((Int × Int × Str))
 | 0, _, _, _, _ => none
 | k + 1, x3, x4, x5, x6 =>
  if (decide (0 < x6)) then
   (S.l26Access (a1, x3, x4)).bind fun x10 =>
   (S.l1Below (a1, x10.2.2.1, x10.2.2.2) 9).bind fun x11 =>
   (S.EncodeRequest x10.1 (w64 (1 + x11.1))).bind fun x12 =>
   (S.FrameOf x12).bind fun x13 =>
   (cat x5 x13).bind fun x14 =>
   S.DrawSplitFrames_l1 a1 k x11.2.2.1 x11.2.2.2 x14 (w64 (x6 - 1))
  else
   some (x3, x4, x5)

def S.DrawSplitFrames (a1 : (List UInt8)) : Option Str :=
 (S.l1New a1).bind fun x1 =>
 (S.l1Below (a1, x1.2.1, x1.2.2) 4).bind fun x2 =>
 (S.DrawSplitFrames_l1 a1 FUEL x2.2.2.1 x2.2.2.2 (str []) x2.1).bind fun (x7, x8, x9) =>
 (S.l1Below (a1, x7, x8) 4).bind fun x15 =>
 if (decide (x15.1 = 0)) then
  (S.l1Spoil (a1, x15.2.2.1, x15.2.2.2) x9).bind fun x16 =>
  some x16.1
 else
  if (decide (x15.1 = 1)) then
   (S.l1Below (a1, x15.2.2.1, x15.2.2.2) 5).bind fun x17 =>
   (subS x9 0 (w64 ((List.length x9 : Int) - (if x17.1 < (List.length x9 : Int) then x17.1 else (List.length x9 : Int))))).bind fun x18 =>
   some x18
  else
   some x9

def M.CheckByte_l1 (a1 : Str) : Nat → Int → Int → Option (Int)
 | 0, _, _ => none
 | k + 1, x1, x2 =>
  if (decide (x2 < (List.length a1 : Int))) then
   (idx (α := UInt8) a1 x2).bind fun x4 =>
   M.CheckByte_l1 a1 k ((w64 ((w64 (31 * x1)) + (w64 (UInt8.toNat x4 : Int)))).tmod 251) (w64 (x2 + 1))
  else
   some x1

def M.CheckByte (a1 : Str) : Option Int :=
 (M.CheckByte_l1 a1 FUEL (7 : Int) (0 : Int)).bind fun x3 =>
 some x3

def M.DecodeVarint_l1 (a1 : Str) : Nat → Int → Int → Option (Sum Unit (Int × Int))
 | 0, _, _ => none
 | k + 1, x1, x2 =>
  if (decide (x2 < (if (List.length a1 : Int) < 7 then (List.length a1 : Int) else 7))) then
   (idx (α := UInt8) a1 x2).bind fun x3 =>
   (nn (w64 (7 * x2))).bind fun _ =>
   (idx (α := UInt8) a1 x2).bind fun x4 =>
   if (decide (128 ≤ (UInt8.toNat x4 : Int))) then
    M.DecodeVarint_l1 a1 k (bor x1 (shl (w64 (band8 (UInt8.toNat x3 : Int) 127)) (w64 (7 * x2)))) (w64 (x2 + 1))
   else
    (if (decide (0 < x2)) then
     (idx (α := UInt8) a1 x2).bind fun x6 =>
     some (decide ((UInt8.toNat x6 : Int) = 0))
    else
     some false).bind fun x5 =>
    if x5 then
     some (.inr (0, 0))
    else
     some (.inr (bor x1 (shl (w64 (band8 (UInt8.toNat x3 : Int) 127)) (w64 (7 * x2))), w64 (x2 + 1)))
  else
   some (.inl ())

def M.DecodeVarint (a1 : Str) : Option (Int × Int) :=
 (M.DecodeVarint_l1 a1 FUEL (0 : Int) (0 : Int)).bind fun o => match o with
  | .inl () =>
   some (0, 0)
  | .inr r => some r

def M.isOpenLength_l1 (a1 : Str) : Nat → Int → Option (Sum Unit Bool)
 | 0, _ => none
 | k + 1, x1 =>
  if (decide (x1 < (List.length a1 : Int))) then
   (idx (α := UInt8) a1 x1).bind fun x2 =>
   if (decide ((UInt8.toNat x2 : Int) < 128)) then
    some (.inr false)
   else
    M.isOpenLength_l1 a1 k (w64 (x1 + 1))
  else
   some (.inl ())

def M.isOpenLength (a1 : Str) : Option Bool :=
 (M.isOpenLength_l1 a1 FUEL (0 : Int)).bind fun o => match o with
  | .inl () =>
   some (decide ((List.length a1 : Int) ≤ 3))
  | .inr r => some r

def M.SplitFrames_l1  : Nat → Str → (List Str) → Option (Sum (Str × (List Str)) ((List Str) × Str × Bool))
 | 0, _, _ => none
 | k + 1, x1, x2 =>
  if (!decide (x1 = (str []))) then
   (M.DecodeVarint x1).bind fun x5 =>
   if (decide (x5.2 = 0)) then
    (M.isOpenLength x1).bind fun x6 =>
    some (.inr (x2, x1, x6))
   else
    if (decide (200 < x5.1)) then
     some (.inr (x2, x1, false))
    else
     if (decide ((List.length x1 : Int) < (w64 ((w64 (x5.2 + x5.1)) + 1)))) then
      some (.inr (x2, x1, true))
     else
      (subS x1 x5.2 (w64 (x5.2 + x5.1))).bind fun x7 =>
      (idx (α := UInt8) x1 (w64 (x5.2 + x5.1))).bind fun x8 =>
      (M.CheckByte x7).bind fun x9 =>
      if (!decide ((w64 (UInt8.toNat x8 : Int)) = x9)) then
       some (.inr (x2, x1, false))
      else
       (app x2 ([x7])).bind fun x10 =>
       (subS x1 (w64 ((w64 (x5.2 + x5.1)) + 1)) (List.length x1 : Int)).bind fun x11 =>
       M.SplitFrames_l1 k x11 x10
  else
   some (.inl (x1, x2))

def M.SplitFrames (a1 : Str) : Option ((List Str) × Str × Bool) :=
 (M.SplitFrames_l1 FUEL a1 ([] : List Str)).bind fun o => match o with
  | .inl (x3, x4) =>
   some (x4, x3, true)
  | .inr r => some r

def S.DecodeVarint_l2 (a1 : Str) : Nat → Int → Int → Option (Int)
 | 0, _, _ => none
 | k + 1, x3, x4 =>
  if (decide (0 ≤ x4)) then
   (idx (α := UInt8) a1 x4).bind fun x6 =>
   S.DecodeVarint_l2 a1 k (w64 ((w64 (x3 * 128)) + ((w64 (UInt8.toNat x6 : Int)).tmod 128))) (w64 (x4 - 1))
  else
   some x3

def S.DecodeVarint_l1 (a1 : Str) : Nat → Int → Option (Sum Unit (Int × Int))
 | 0, _ => none
 | k + 1, x1 =>
  (if (decide (x1 ≤ 7)) then
   some (decide (x1 ≤ (List.length a1 : Int)))
  else
   some false).bind fun x2 =>
  if x2 then
   (S.DecodeVarint_l2 a1 FUEL (0 : Int) (w64 (x1 - 1))).bind fun x5 =>
   (subS a1 0 x1).bind fun x7 =>
   (S.EncodeVarint x5).bind fun x8 =>
   if (decide (x8 = x7)) then
    some (.inr (x5, x1))
   else
    S.DecodeVarint_l1 a1 k (w64 (x1 + 1))
  else
   some (.inl ())

def S.DecodeVarint (a1 : Str) : Option (Int × Int) :=
 (S.DecodeVarint_l1 a1 FUEL (1 : Int)).bind fun o => match o with
  | .inl () =>
   some (0, 0)
  | .inr r => some r

def S.l26Open_l1 (a1 : Str) : Nat → Int → Option (Sum Unit Bool)
 | 0, _ => none
 | k + 1, x1 =>
  if (decide (x1 < (List.length a1 : Int))) then
   (idx (α := UInt8) a1 x1).bind fun x2 =>
   if (decide ((UInt8.toNat x2 : Int) < 128)) then
    some (.inr false)
   else
    S.l26Open_l1 a1 k (w64 (x1 + 1))
  else
   some (.inl ())

def S.l26Open (a1 : Str) : Option Bool :=
 (S.l26Open_l1 a1 FUEL (0 : Int)).bind fun o => match o with
  | .inl () =>
   some true
  | .inr r => some r

def S.SplitFrames_l1  : Nat → Str → (List Str) → Option (Sum (List Str) ((List Str) × Str × Bool))
 | 0, _, _ => none
 | k + 1, x1, x2 =>
  if (decide (0 < (List.length x1 : Int))) then
   (S.DecodeVarint x1).bind fun x4 =>
   if (decide (x4.2 = 0)) then
    (if (decide ((List.length x1 : Int) < 4)) then
     (S.l26Open x1).bind fun x6 =>
     some x6
    else
     some false).bind fun x5 =>
    if x5 then
     some (.inr (x2, x1, true))
    else
     some (.inr (x2, x1, false))
   else
    if (decide (200 < x4.1)) then
     some (.inr (x2, x1, false))
    else
     if (decide ((List.length x1 : Int) < (w64 ((w64 (x4.2 + x4.1)) + 1)))) then
      some (.inr (x2, x1, true))
     else
      (subS x1 x4.2 (w64 (x4.2 + x4.1))).bind fun x7 =>
      (subS x1 x4.2 (w64 ((w64 (x4.2 + x4.1)) + 1))).bind fun x8 =>
      (S.CheckByte x7).bind fun x9 =>
      (S.EncodeFixed x9 1).bind fun x10 =>
      (cat x7 x10).bind fun x11 =>
      if (!decide (x8 = x11)) then
       some (.inr (x2, x1, false))
      else
       (app x2 ([x7])).bind fun x12 =>
       (subS x1 (w64 ((w64 (x4.2 + x4.1)) + 1)) (List.length x1 : Int)).bind fun x13 =>
       S.SplitFrames_l1 k x13 x12
  else
   some (.inl x2)

def S.SplitFrames (a1 : Str) : Option ((List Str) × Str × Bool) :=
 (S.SplitFrames_l1 FUEL a1 ([] : List Str)).bind fun o => match o with
  | .inl x3 =>
   some (x3, (str []), true)
  | .inr r => some r

def Q.at (a1 : (List UInt8)) (a2 : Int) : Option Int :=
 if (decide (a2 < (List.length a1 : Int))) then
  (idx a1 a2).bind fun x1 =>
  some (w64 (UInt8.toNat x1 : Int))
 else
  some ((w64 ((w64 (a2 * 37)) + (w64 ((List.length a1 : Int) * 11)))).tmod 256)

def S.FormatFact_l1 (a1 : (Int × (List Int))) : Nat → Int → Option (Sum Unit Str)
 | 0, _ => none
 | k + 1, x4 =>
  if (decide (x4 < (List.length a1.2 : Int))) then
   (idx a1.2 x4).bind fun x5 =>
   (S.l1In x5 0 9).bind fun x6 =>
   if (!x6) then
    some (.inr (str []))
   else
    S.FormatFact_l1 a1 k (w64 (x4 + 1))
  else
   some (.inl ())

def S.FormatFact (a1 : (Int × (List Int))) : Option Str :=
 ((S.l1In a1.1 0 2).bind fun x2 =>
 if (!x2) then
  some true
 else
  (S.l1In (List.length a1.2 : Int) 1 3).bind fun x3 =>
  some (!x3)).bind fun x1 =>
 if x1 then
  some (str [])
 else
  (S.FormatFact_l1 a1 FUEL (0 : Int)).bind fun o => match o with
   | .inl () =>
    (S.FormatInt a1.1).bind fun x7 =>
    (cat (str [114]) x7).bind fun x8 =>
    (cat x8 (str [40])).bind fun x9 =>
    (S.l2List a1.2).bind fun x10 =>
    (cat x9 x10).bind fun x11 =>
    (cat x11 (str [41])).bind fun x12 =>
    some x12
   | .inr r => some r

def S.EncodeReply_l2 (a1 : (List (Int × (List Int)))) (x3 : Int) : Nat → Str → Int → Option (Str)
 | 0, _, _ => none
 | k + 1, x13, x14 =>
  (idx a1 x3).bind fun x16 =>
  if (decide (x14 < (List.length x16.2 : Int))) then
   (idx a1 x3).bind fun x17 =>
   (idx x17.2 x14).bind fun x18 =>
   (S.EncodeVarint x18).bind fun x19 =>
   (cat x13 x19).bind fun x20 =>
   S.EncodeReply_l2 a1 x3 k x20 (w64 (x14 + 1))
  else
   some x13

def S.EncodeReply_l1 (a1 : (List (Int × (List Int)))) : Nat → Str → Int → Option (Sum Str Str)
 | 0, _, _ => none
 | k + 1, x2, x3 =>
  if (decide (x3 < (List.length a1 : Int))) then
   (idx a1 x3).bind fun x5 =>
   (S.FormatFact x5).bind fun x6 =>
   if (decide (x6 = (str []))) then
    some (.inr (str []))
   else
    (idx a1 x3).bind fun x7 =>
    (idx a1 x3).bind fun x8 =>
    (S.EncodeVarint x7.1).bind fun x9 =>
    (cat x2 x9).bind fun x10 =>
    (S.EncodeVarint (List.length x8.2 : Int)).bind fun x11 =>
    (cat x10 x11).bind fun x12 =>
    (S.EncodeReply_l2 a1 x3 FUEL x12 (0 : Int)).bind fun x15 =>
    S.EncodeReply_l1 a1 k x15 (w64 (x3 + 1))
  else
   some (.inl x2)

def S.EncodeReply (a1 : (List (Int × (List Int)))) : Option Str :=
 if (decide (24 < (List.length a1 : Int))) then
  some (str [])
 else
  (S.EncodeVarint (List.length a1 : Int)).bind fun x1 =>
  (S.EncodeReply_l1 a1 FUEL x1 (0 : Int)).bind fun o => match o with
   | .inl x4 =>
    some x4
   | .inr r => some r

def S.DrawDecodeReply (a1 : (List UInt8)) : Option Str :=
 (S.l1New a1).bind fun x1 =>
 (S.l2Schema (a1, x1.2.1, x1.2.2)).bind fun x2 =>
 (S.l2AnyFacts (a1, x2.2.2.1, x2.2.2.2) x2.1).bind fun x3 =>
 (S.EncodeReply x3.1).bind fun x4 =>
 (S.l1Once (a1, x3.2.2.1, x3.2.2.2) 3).bind fun x5 =>
 if x5.1 then
  (S.l1Spoil (a1, x5.2.2.1, x5.2.2.2) x4).bind fun x6 =>
  some x6.1
 else
  some x4

def S.DrawFrameOf (a1 : (List UInt8)) : Option Str :=
 (S.DrawDecodeReply a1).bind fun x1 =>
 some x1

def M.within (a1 : Int) (a2 : Int) (a3 : Int) : Option Bool :=
 (if (decide (a2 ≤ a1)) then
  some (decide (a1 ≤ a3))
 else
  some false).bind fun x1 =>
 some x1

def M.EncodeVarint_l1  : Nat → Int → (List UInt8) → Option ((Int × (List UInt8)))
 | 0, _, _ => none
 | k + 1, x2, x3 =>
  if (decide (128 ≤ x2)) then
   (app x3 ([(UInt8.ofNat (Int.toNat (bor8 (w8 x2) 128)))])).bind fun x6 =>
   M.EncodeVarint_l1 k (shr x2 7) x6
  else
   some (x2, x3)

def M.EncodeVarint (a1 : Int) : Option Str :=
 (M.within a1 0 562949953421311).bind fun x1 =>
 if (!x1) then
  some (str [])
 else
  (M.EncodeVarint_l1 FUEL a1 ([] : List UInt8)).bind fun (x4, x5) =>
  (app x5 ([(u8 x4)])).bind fun x7 =>
  some (Str.of x7)

def M.FrameOf (a1 : Str) : Option Str :=
 if (decide (200 < (List.length a1 : Int))) then
  some (str [])
 else
  (M.EncodeVarint (List.length a1 : Int)).bind fun x1 =>
  (cat x1 a1).bind fun x2 =>
  (M.CheckByte a1).bind fun x3 =>
  (cat x2 (Str.of ([(u8 x3)]))).bind fun x4 =>
  some x4

def Q.FnFrames_l1 (x3 : ((List Str) × Str × Bool)) (x4 : ((List Str) × Str × Bool)) : Nat → Int → Option (Sum Unit Bool)
 | 0, _ => none
 | k + 1, x6 =>
  if (decide (x6 < (List.length x3.1 : Int))) then
   (idx x3.1 x6).bind fun x7 =>
   (idx x4.1 x6).bind fun x8 =>
   if (!decide (x7 = x8)) then
    some (.inr false)
   else
    Q.FnFrames_l1 x3 x4 k (w64 (x6 + 1))
  else
   some (.inl ())

def Q.FnFrames (a1 : (List UInt8)) : Option Bool :=
 (Q.big a1).bind fun x1 =>
 if x1 then
  some true
 else
  (S.DrawSplitFrames a1).bind fun x2 =>
  (M.SplitFrames x2).bind fun x3 =>
  (S.SplitFrames x2).bind fun x4 =>
  (if (!decide (x3.2.2 = x4.2.2)) then
   some true
  else
   if (!decide (x3.2.1 = x4.2.1)) then
    some true
   else
    some (!decide ((List.length x3.1 : Int) = (List.length x4.1 : Int)))).bind fun x5 =>
  if x5 then
   some false
  else
   (Q.FnFrames_l1 x3 x4 FUEL (0 : Int)).bind fun o => match o with
    | .inl () =>
     if x4.2.2 then
      (if (decide (0 < (List.length x2 : Int))) then
       (Q.at a1 3).bind fun x10 =>
       (nz (w64 ((List.length x2 : Int) + 1))).bind fun _ =>
       some (x10.tmod (w64 ((List.length x2 : Int) + 1)))
      else
       some (0 : Int)).bind fun x9 =>
      (subS x2 0 x9).bind fun x11 =>
      (M.SplitFrames x11).bind fun x12 =>
      (subS x2 x9 (List.length x2 : Int)).bind fun x13 =>
      (cat x12.2.1 x13).bind fun x14 =>
      (M.SplitFrames x14).bind fun x15 =>
      (if (!x12.2.2) then
       some true
      else
       if (!x15.2.2) then
        some true
       else
        if (!decide (x15.2.1 = x4.2.1)) then
         some true
        else
         some (!decide ((w64 ((List.length x12.1 : Int) + (List.length x15.1 : Int))) = (List.length x4.1 : Int)))).bind fun x16 =>
      if x16 then
       some false
      else
       (S.DrawFrameOf a1).bind fun x17 =>
       (M.FrameOf x17).bind fun x18 =>
       ((S.FrameOf x17).bind fun x20 =>
       if (!decide (x18 = x20)) then
        some true
       else
        (M.CheckByte x17).bind fun x21 =>
        (S.CheckByte x17).bind fun x22 =>
        if (!decide (x21 = x22)) then
         some true
        else
         (M.CheckByte x17).bind fun x23 =>
         if (decide (x23 < 0)) then
          some true
         else
          (M.CheckByte x17).bind fun x24 =>
          some (decide (250 < x24))).bind fun x19 =>
       if x19 then
        some false
       else
        if (!decide (x18 = (str []))) then
         (S.FrameOf x17).bind fun x25 =>
         (M.SplitFrames x25).bind fun x26 =>
         (if (!x26.2.2) then
          some true
         else
          if (!decide (x26.2.1 = (str []))) then
           some true
          else
           if (!decide ((List.length x26.1 : Int) = 1)) then
            some true
           else
            (idx x26.1 0).bind fun x28 =>
            some (!decide (x28 = x17))).bind fun x27 =>
         if x27 then
          some false
         else
          some true
        else
         some true
     else
      (S.DrawFrameOf a1).bind fun x29 =>
      (M.FrameOf x29).bind fun x30 =>
      ((S.FrameOf x29).bind fun x32 =>
      if (!decide (x30 = x32)) then
       some true
      else
       (M.CheckByte x29).bind fun x33 =>
       (S.CheckByte x29).bind fun x34 =>
       if (!decide (x33 = x34)) then
        some true
       else
        (M.CheckByte x29).bind fun x35 =>
        if (decide (x35 < 0)) then
         some true
        else
         (M.CheckByte x29).bind fun x36 =>
         some (decide (250 < x36))).bind fun x31 =>
      if x31 then
       some false
      else
       if (!decide (x30 = (str []))) then
        (S.FrameOf x29).bind fun x37 =>
        (M.SplitFrames x37).bind fun x38 =>
        (if (!x38.2.2) then
         some true
        else
         if (!decide (x38.2.1 = (str []))) then
          some true
         else
          if (!decide ((List.length x38.1 : Int) = 1)) then
           some true
          else
           (idx x38.1 0).bind fun x40 =>
           some (!decide (x40 = x29))).bind fun x39 =>
        if x39 then
         some false
        else
         some true
       else
        some true
    | .inr r => some r

end Go.Gx.Px
