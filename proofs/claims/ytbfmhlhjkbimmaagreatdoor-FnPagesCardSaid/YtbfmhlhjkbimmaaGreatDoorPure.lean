/- The Go functions as pure Lean functions, printed by program. Conditions: none. -/
import Derived.Test.YtbfmhlhjkbimmaaGreatDoorGxHo
import Derived.Test.YtbfmhlhjkbimmaaGreatDoorGxTd
set_option linter.unusedVariables false
namespace Go.Gx.Px

def S.l1In (a1 : Int) (a2 : Int) (a3 : Int) : Option Bool :=
 (if (decide (a2 ≤ a1)) then
  some (decide (a1 ≤ a3))
 else
  some false).bind fun x1 =>
 some x1

def S.FormatInt_l1  : Nat → Int → Str → Option (Str)
 | 0, _, _ => none
 | k + 1, x1, x2 =>
  if (!decide (x1 = 0)) then
   (if (decide ((x1.tmod 10) < 0)) then
    some (w64 (0 - (x1.tmod 10)))
   else
    some (x1.tmod 10)).bind fun x4 =>
   (cat (Str.of ([(u8 (w64 (48 + x4)))])) x2).bind fun x5 =>
   S.FormatInt_l1 k (w64 (x1.tdiv 10)) x5
  else
   some x2

def S.FormatInt (a1 : Int) : Option Str :=
 if (decide (a1 = 0)) then
  some (str [48])
 else
  (S.FormatInt_l1 FUEL a1 (str [])).bind fun x3 =>
  if (decide (a1 < 0)) then
   (cat (str [45]) x3).bind fun x6 =>
   some x6
  else
   some x3

def S.l2List_l1 (a1 : (List Int)) : Nat → Str → Int → Option (Str)
 | 0, _, _ => none
 | k + 1, x1, x2 =>
  if (decide (x2 < (List.length a1 : Int))) then
   (if (decide (0 < x2)) then
    (cat x1 (str [44])).bind fun x5 =>
    some x5
   else
    some x1).bind fun x4 =>
   (idx a1 x2).bind fun x6 =>
   (S.FormatInt x6).bind fun x7 =>
   (cat x4 x7).bind fun x8 =>
   S.l2List_l1 a1 k x8 (w64 (x2 + 1))
  else
   some x1

def S.l2List (a1 : (List Int)) : Option Str :=
 (S.l2List_l1 a1 FUEL (str []) (0 : Int)).bind fun x3 =>
 some x3

def S.FormatAccess_l1 (a1 : (Int × (List Int))) : Nat → Int → Option (Sum Unit Str)
 | 0, _ => none
 | k + 1, x3 =>
  if (decide (x3 < (List.length a1.2 : Int))) then
   (idx a1.2 x3).bind fun x4 =>
   (S.l1In x4 0 9).bind fun x5 =>
   if (!x5) then
    some (.inr (str []))
   else
    S.FormatAccess_l1 a1 k (w64 (x3 + 1))
  else
   some (.inl ())

def S.FormatAccess (a1 : (Int × (List Int))) : Option Str :=
 ((S.l1In a1.1 0 4).bind fun x2 =>
 if (!x2) then
  some true
 else
  some (decide (3 < (List.length a1.2 : Int)))).bind fun x1 =>
 if x1 then
  some (str [])
 else
  (S.FormatAccess_l1 a1 FUEL (0 : Int)).bind fun o => match o with
   | .inl () =>
    (S.FormatInt a1.1).bind fun x6 =>
    (cat (str [109]) x6).bind fun x7 =>
    (cat x7 (str [40])).bind fun x8 =>
    (S.l2List a1.2).bind fun x9 =>
    (cat x8 x9).bind fun x10 =>
    (cat x10 (str [41])).bind fun x11 =>
    some x11
   | .inr r => some r

def S.FormatCursor (a1 : ((Int × (List Int)) × Int × Int)) : Option Str :=
 (S.FormatAccess (a1.1.1, a1.1.2)).bind fun x1 =>
 (if (decide (x1 = (str []))) then
  some true
 else
  (S.l1In a1.2.1 0 1000).bind fun x3 =>
  if (!x3) then
   some true
  else
   (S.l1In a1.2.2 0 1000).bind fun x4 =>
   some (!x4)).bind fun x2 =>
 if x2 then
  some (str [])
 else
  (cat x1 (str [43])).bind fun x5 =>
  (S.FormatInt a1.2.1).bind fun x6 =>
  (cat x5 x6).bind fun x7 =>
  (cat x7 (str [64])).bind fun x8 =>
  (S.FormatInt a1.2.2).bind fun x9 =>
  (cat x8 x9).bind fun x10 =>
  some x10

def S.l2Cut_l1 (a1 : Str) (a2 : Int) : Nat → (List Str) → Str → Int → Option (((List Str) × Str))
 | 0, _, _, _ => none
 | k + 1, x1, x2, x3 =>
  if (decide (x3 < (List.length a1 : Int))) then
   (idx (α := UInt8) a1 x3).bind fun x6 =>
   (if (decide ((UInt8.toNat x6 : Int) = a2)) then
    (app x1 ([x2])).bind fun x9 =>
    some (x9, (str []))
   else
    (subS a1 x3 (w64 (x3 + 1))).bind fun x10 =>
    (cat x2 x10).bind fun x11 =>
    some (x1, x11)).bind fun (x7, x8) =>
   S.l2Cut_l1 a1 a2 k x7 x8 (w64 (x3 + 1))
  else
   some (x1, x2)

def S.l2Cut (a1 : Str) (a2 : Int) : Option (List Str) :=
 (S.l2Cut_l1 a1 a2 FUEL ([] : List Str) (str []) (0 : Int)).bind fun (x4, x5) =>
 (app x4 ([x5])).bind fun x12 =>
 some x12

def S.ParseInt_l1 (a1 : Str) : Nat → Int → Int → Int → Option ((Int × Int))
 | 0, _, _, _ => none
 | k + 1, x1, x2, x3 =>
  (if (decide (x3 < (List.length a1 : Int))) then
   some (decide (x3 < 11))
  else
   some false).bind fun x6 =>
  if x6 then
   ((idx (α := UInt8) a1 x3).bind fun x8 =>
   if (decide (48 ≤ (UInt8.toNat x8 : Int))) then
    (idx (α := UInt8) a1 x3).bind fun x9 =>
    some (decide ((UInt8.toNat x9 : Int) ≤ 57))
   else
    some false).bind fun x7 =>
   (if x7 then
    (idx (α := UInt8) a1 x3).bind fun x12 =>
    some (w64 ((w64 (x1 * 10)) + (w64 (w8 ((UInt8.toNat x12 : Int) - 48)))), w64 (x2 + 1))
   else
    some (x1, x2)).bind fun (x10, x11) =>
   S.ParseInt_l1 a1 k x10 x11 (w64 (x3 + 1))
  else
   some (x1, x2)

def S.ParseInt (a1 : Str) : Option (Int × Bool) :=
 (S.ParseInt_l1 a1 FUEL (0 : Int) (0 : Int) (0 : Int)).bind fun (x4, x5) =>
 (if (decide (0 < (List.length a1 : Int))) then
  (idx (α := UInt8) a1 0).bind fun x14 =>
  some (decide ((UInt8.toNat x14 : Int) = 45))
 else
  some false).bind fun x13 =>
 (if x13 then
  some (w64 (0 - x4))
 else
  some x4).bind fun x15 =>
 (if (decide (9 < x5)) then
  some true
 else
  if (decide (10 < (List.length a1 : Int))) then
   some true
  else
   (S.FormatInt x15).bind fun x17 =>
   some (!decide (x17 = a1))).bind fun x16 =>
 if x16 then
  some (0, false)
 else
  some (x15, true)

def S.l2Num (a1 : Str) : Option Int :=
 (S.ParseInt a1).bind fun x1 =>
 if (!x1.2) then
  some (-100000)
 else
  some x1.1

def S.l24Access_l2 (x13 : (List Str)) : Nat → Int → (List Int) → Int → Option ((Int × (List Int)))
 | 0, _, _, _ => none
 | k + 1, x14, x15, x16 =>
  if (decide (x16 < (List.length x13 : Int))) then
   (idx x13 x16).bind fun x19 =>
   (S.l2Num x19).bind fun x20 =>
   (app x15 ([x20])).bind fun x21 =>
   S.l24Access_l2 x13 k x14 x21 (w64 (x16 + 1))
  else
   some (x14, x15)

def S.l24Access_l1 (a1 : Str) : Nat → Int → (List Int) → Int → Option (Sum (Int × (List Int)) (Int × (List Int)))
 | 0, _, _, _ => none
 | k + 1, x1, x2, x3 =>
  if (decide (x3 < (List.length a1 : Int))) then
   ((idx (α := UInt8) a1 x3).bind fun x7 =>
   if (decide ((UInt8.toNat x7 : Int) = 40)) then
    (idx (α := UInt8) a1 (w64 ((List.length a1 : Int) - 1))).bind fun x8 =>
    if (decide ((UInt8.toNat x8 : Int) = 41)) then
     (idx (α := UInt8) a1 0).bind fun x9 =>
     some (decide ((UInt8.toNat x9 : Int) = 109))
    else
     some false
   else
    some false).bind fun x6 =>
   if x6 then
    (subS a1 1 x3).bind fun x10 =>
    (S.l2Num x10).bind fun x11 =>
    (subS a1 (w64 (x3 + 1)) (w64 ((List.length a1 : Int) - 1))).bind fun x12 =>
    if (decide (x12 = (str []))) then
     some (.inr (x11, []))
    else
     (S.l2Cut x12 44).bind fun x13 =>
     (S.l24Access_l2 x13 FUEL x11 ([]) (0 : Int)).bind fun (x17, x18) =>
     some (.inr (x17, x18))
   else
    S.l24Access_l1 a1 k x1 x2 (w64 (x3 + 1))
  else
   some (.inl (x1, x2))

def S.l24Access (a1 : Str) : Option (Int × (List Int)) :=
 (S.l24Access_l1 a1 FUEL (0 : Int) ([]) (0 : Int)).bind fun o => match o with
  | .inl (x4, x5) =>
   some ((-1), [])
  | .inr r => some r

def S.ParseCursor (a1 : Str) : Option (((Int × (List Int)) × Int × Int) × Bool) :=
 (S.l2Cut a1 43).bind fun x1 =>
 if (!decide ((List.length x1 : Int) = 2)) then
  some (((0, []), 0, 0), false)
 else
  (idx x1 1).bind fun x2 =>
  (S.l2Cut x2 64).bind fun x3 =>
  if (!decide ((List.length x3 : Int) = 2)) then
   some (((0, []), 0, 0), false)
  else
   ((idx x1 0).bind fun x8 =>
   (idx x3 0).bind fun x9 =>
   (idx x3 1).bind fun x10 =>
   (S.l24Access x8).bind fun x11 =>
   (S.l2Num x9).bind fun x12 =>
   (S.l2Num x10).bind fun x13 =>
   some (x11.1, x11.2, x12, x13)).bind fun (x4, x5, x6, x7) =>
   (S.FormatCursor ((x4, x5), x6, x7)).bind fun x14 =>
   if (!decide (x14 = a1)) then
    some (((0, []), 0, 0), false)
   else
    some (((x4, x5), x6, x7), true)

def M.within (a1 : Int) (a2 : Int) (a3 : Int) : Option Bool :=
 (if (decide (a2 ≤ a1)) then
  some (decide (a1 ≤ a3))
 else
  some false).bind fun x1 =>
 some x1

def Strconv.Itoa (a1 : Int) : Option Str :=
 itoaF a1

def M.FormatInt (a1 : Int) : Option Str :=
 (Strconv.Itoa a1).bind fun x1 =>
 some x1

def M.isValue (a1 : Int) : Option Bool :=
 (M.within a1 0 9).bind fun x1 =>
 some x1

def M.areValues_c1 (a1 : Int) : Option Bool :=
 (M.isValue a1).bind fun x1 =>
 some (!x1)

def Slices.IndexFunc_Lint_int_M_areValues_c1_l1 (a1 : (List Int)) : Nat → Int → Option (Sum Unit Int)
 | 0, _ => none
 | k + 1, x1 =>
  if (decide (x1 < (List.length a1 : Int))) then
   (idx a1 x1).bind fun x2 =>
   (M.areValues_c1 x2).bind fun x3 =>
   if x3 then
    some (.inr x1)
   else
    Slices.IndexFunc_Lint_int_M_areValues_c1_l1 a1 k (w64 (x1 + 1))
  else
   some (.inl ())

def Slices.IndexFunc_Lint_int_M_areValues_c1 (a1 : (List Int)) : Option Int :=
 (Slices.IndexFunc_Lint_int_M_areValues_c1_l1 a1 FUEL (0 : Int)).bind fun o => match o with
  | .inl () =>
   some (-1)
  | .inr r => some r

def Slices.ContainsFunc_Lint_int_M_areValues_c1 (a1 : (List Int)) : Option Bool :=
 (Slices.IndexFunc_Lint_int_M_areValues_c1 a1).bind fun x1 =>
 some (decide (0 ≤ x1))

def M.areValues (a1 : (List Int)) : Option Bool :=
 (Slices.ContainsFunc_Lint_int_M_areValues_c1 a1).bind fun x1 =>
 some (!x1)

def Strings.Join (a1 : (List Str)) (a2 : Str) : Option Str :=
 joinS a1 a2

def M.joined_l1 (a1 : (List Int)) : Nat → (List Str) → Int → Option ((List Str))
 | 0, _, _ => none
 | k + 1, x1, x2 =>
  if (decide (x2 < (List.length a1 : Int))) then
   (idx a1 x2).bind fun x4 =>
   (M.FormatInt x4).bind fun x5 =>
   (app x1 ([x5])).bind fun x6 =>
   M.joined_l1 a1 k x6 (w64 (x2 + 1))
  else
   some x1

def M.joined (a1 : (List Int)) (a2 : Str) : Option Str :=
 (M.joined_l1 a1 FUEL ([] : List Str) (0 : Int)).bind fun x3 =>
 (Strings.Join x3 a2).bind fun x7 =>
 some x7

def M.FormatAccess (a1 : (Int × (List Int))) : Option Str :=
 ((M.within a1.1 0 4).bind fun x2 =>
 if (!x2) then
  some true
 else
  if (decide (3 < (List.length a1.2 : Int))) then
   some true
  else
   (M.areValues a1.2).bind fun x3 =>
   some (!x3)).bind fun x1 =>
 if x1 then
  some (str [])
 else
  (M.FormatInt a1.1).bind fun x4 =>
  (cat (str [109]) x4).bind fun x5 =>
  (cat x5 (str [40])).bind fun x6 =>
  (M.joined a1.2 (str [44])).bind fun x7 =>
  (cat x6 x7).bind fun x8 =>
  (cat x8 (str [41])).bind fun x9 =>
  some x9

def M.FormatCursor (a1 : ((Int × (List Int)) × Int × Int)) : Option Str :=
 (M.FormatAccess (a1.1.1, a1.1.2)).bind fun x1 =>
 (if (decide (x1 = (str []))) then
  some true
 else
  (M.within a1.2.1 0 1000).bind fun x3 =>
  if (!x3) then
   some true
  else
   (M.within a1.2.2 0 1000).bind fun x4 =>
   some (!x4)).bind fun x2 =>
 if x2 then
  some (str [])
 else
  (cat x1 (str [43])).bind fun x5 =>
  (M.FormatInt a1.2.1).bind fun x6 =>
  (cat x5 x6).bind fun x7 =>
  (cat x7 (str [64])).bind fun x8 =>
  (M.FormatInt a1.2.2).bind fun x9 =>
  (cat x8 x9).bind fun x10 =>
  some x10

def Strings.Cut (a1 : Str) (a2 : Str) : Option (Str × Str × Bool) :=
 cutS a1 a2

def Strconv.Atoi (a1 : Str) : Option (Int × Bool) :=
 atoiP a1

def M.ParseInt (a1 : Str) : Option (Int × Bool) :=
 (Strconv.Atoi a1).bind fun x1 =>
 (if x1.2 then
  some true
 else
  (M.within x1.1 (-999999999) 999999999).bind fun x3 =>
  if (!x3) then
   some true
  else
   (M.FormatInt x1.1).bind fun x4 =>
   some (!decide (x4 = a1))).bind fun x2 =>
 if x2 then
  some (0, false)
 else
  some (x1.1, true)

def Strings.TrimPrefix (a1 : Str) (a2 : Str) : Option Str :=
 trimPrefixS a1 a2

def Strings.HasSuffix (a1 : Str) (a2 : Str) : Option Bool :=
 hasSuffixS a1 a2

def Strings.TrimSuffix (a1 : Str) (a2 : Str) : Option Str :=
 trimSuffixS a1 a2

def Strings.Split (a1 : Str) (a2 : Str) : Option (List Str) :=
 splitS a1 a2

def M.readCall (a1 : Str) (a2 : Str) : Option (Int × (List Str) × Bool) :=
 (Strings.Cut a2 (str [40])).bind fun x1 =>
 (Strings.TrimPrefix x1.1 a1).bind fun x2 =>
 (M.ParseInt x2).bind fun x3 =>
 (if (!x1.2.2) then
  some true
 else
  if (!x3.2) then
   some true
  else
   (Strings.HasSuffix x1.2.1 (str [41])).bind fun x5 =>
   some (!x5)).bind fun x4 =>
 if x4 then
  some (0, [], false)
 else
  (Strings.TrimSuffix x1.2.1 (str [41])).bind fun x6 =>
  if (decide (x6 = (str []))) then
   some (x3.1, [], true)
  else
   (Strings.Split x6 (str [44])).bind fun x7 =>
   some (x3.1, x7, true)

def M.readInts_l1 (a1 : (List Str)) : Nat → (List Int) → Int → Option (Sum (List Int) ((List Int) × Bool))
 | 0, _, _ => none
 | k + 1, x1, x2 =>
  if (decide (x2 < (List.length a1 : Int))) then
   (idx a1 x2).bind fun x4 =>
   (M.ParseInt x4).bind fun x5 =>
   if (!x5.2) then
    some (.inr ([], false))
   else
    (app x1 ([x5.1])).bind fun x6 =>
    M.readInts_l1 a1 k x6 (w64 (x2 + 1))
  else
   some (.inl x1)

def M.readInts (a1 : (List Str)) : Option ((List Int) × Bool) :=
 (M.readInts_l1 a1 FUEL ([] : List Int) (0 : Int)).bind fun o => match o with
  | .inl x3 =>
   some (x3, true)
  | .inr r => some r

def M.readAccess (a1 : Str) : Option ((Int × (List Int)) × Bool) :=
 (M.readCall (str [109]) a1).bind fun x1 =>
 (M.readInts x1.2.1).bind fun x2 =>
 (if x1.2.2 then
  if x2.2 then
   (M.FormatAccess (x1.1, x2.1)).bind fun x6 =>
   some (x1.1, x2.1, (decide (x6 = a1)))
  else
   some (x1.1, x2.1, false)
 else
  some (x1.1, x2.1, false)).bind fun (x3, x4, x5) =>
 some ((x3, x4), x5)

def M.ParseCursor (a1 : Str) : Option (((Int × (List Int)) × Int × Int) × Bool) :=
 (Strings.Cut a1 (str [43])).bind fun x1 =>
 (Strings.Cut x1.2.1 (str [64])).bind fun x2 =>
 (M.readAccess x1.1).bind fun x3 =>
 (M.ParseInt x2.1).bind fun x4 =>
 (M.ParseInt x2.2.1).bind fun x5 =>
 (if (!x3.2) then
  some true
 else
  if (!x4.2) then
   some true
  else
   if (!x5.2) then
    some true
   else
    (M.FormatCursor ((x3.1.1, x3.1.2), x4.1, x5.1)).bind fun x7 =>
    some (!decide (x7 = a1))).bind fun x6 =>
 if x6 then
  some (((0, []), 0, 0), false)
 else
  some (((x3.1.1, x3.1.2), x4.1, x5.1), true)

def Q.big (a1 : (List UInt8)) : Option Bool :=
 some (decide (1048576 < (List.length a1 : Int)))

def S.l1New_l1 (a1 : (List UInt8)) : Nat → Int → Int → Option (Int)
 | 0, _, _ => none
 | k + 1, x1, x2 =>
  (if (decide (x2 < (List.length a1 : Int))) then
   some (decide (x2 < 4000))
  else
   some false).bind fun x4 =>
  if x4 then
   (idx a1 x2).bind fun x5 =>
   S.l1New_l1 a1 k (band (w64 ((w64 ((w64 (x1 * 131)) + (w64 (UInt8.toNat x5 : Int)))) + 7)) 1073741823) (w64 (x2 + 1))
  else
   some x1

def S.l1New (a1 : (List UInt8)) : Option ((List UInt8) × Int × Int) :=
 (S.l1New_l1 a1 FUEL (w64 (10101 + (List.length a1 : Int))) (0 : Int)).bind fun x3 =>
 some (a1, 0, x3)

def S.l1Byte (a1 : ((List UInt8) × Int × Int)) : Option (Int × ((List UInt8) × Int × Int)) :=
 (if (decide (a1.2.1 < (List.length a1.1 : Int))) then
  (idx a1.1 a1.2.1).bind fun x4 =>
  some (w64 (a1.2.1 + 1), w64 ((w64 (a1.2.2 * 6364136223846793005)) + 1442695040888963407), band (w64 ((band (bxor (shr (w64 ((w64 (a1.2.2 * 6364136223846793005)) + 1442695040888963407)) 33) (shr (w64 ((w64 (a1.2.2 * 6364136223846793005)) + 1442695040888963407)) 45)) 255) + (w64 (UInt8.toNat x4 : Int)))) 255)
 else
  some (a1.2.1, w64 ((w64 (a1.2.2 * 6364136223846793005)) + 1442695040888963407), band (bxor (shr (w64 ((w64 (a1.2.2 * 6364136223846793005)) + 1442695040888963407)) 33) (shr (w64 ((w64 (a1.2.2 * 6364136223846793005)) + 1442695040888963407)) 45)) 255)).bind fun (x1, x2, x3) =>
 some (x3, (a1.1, x1, x2))

def S.l1Below (a1 : ((List UInt8) × Int × Int)) (a2 : Int) : Option (Int × ((List UInt8) × Int × Int)) :=
 if (decide (a2 ≤ 0)) then
  some (0, (a1.1, a1.2.1, a1.2.2))
 else
  if (decide (a2 ≤ 256)) then
   (S.l1Byte (a1.1, a1.2.1, a1.2.2)).bind fun x1 =>
   (nz a2).bind fun _ =>
   some (x1.1.tmod a2, (a1.1, x1.2.2.1, x1.2.2.2))
  else
   (S.l1Byte (a1.1, a1.2.1, a1.2.2)).bind fun x2 =>
   (S.l1Byte (a1.1, x2.2.2.1, x2.2.2.2)).bind fun x3 =>
   (S.l1Byte (a1.1, x3.2.2.1, x3.2.2.2)).bind fun x4 =>
   (S.l1Byte (a1.1, x4.2.2.1, x4.2.2.2)).bind fun x5 =>
   (nz a2).bind fun _ =>
   some ((w64 ((w64 ((w64 ((w64 (x2.1 * 16777216)) + (w64 (x3.1 * 65536)))) + (w64 (x4.1 * 256)))) + x5.1)).tmod a2, (a1.1, x5.2.2.1, x5.2.2.2))

def S.l1Once (a1 : ((List UInt8) × Int × Int)) (a2 : Int) : Option (Bool × ((List UInt8) × Int × Int)) :=
 (S.l1Below (a1.1, a1.2.1, a1.2.2) a2).bind fun x1 =>
 some ((decide (x1.1 = 0)), (a1.1, x1.2.2.1, x1.2.2.2))

def S.l2Schema_l1 (a1 : ((List UInt8) × Int × Int)) : Nat → Int → Int → (List Int) → Int → Option ((Int × Int × (List Int)))
 | 0, _, _, _, _ => none
 | k + 1, x2, x3, x4, x5 =>
  if (decide (0 < x5)) then
   (S.l1Below (a1.1, x2, x3) 2).bind fun x9 =>
   (S.l1Once (a1.1, x9.2.2.1, x9.2.2.2) 4).bind fun x10 =>
   (if x10.1 then
    some (3 : Int)
   else
    some (w64 (1 + x9.1))).bind fun x11 =>
   (app x4 ([x11])).bind fun x12 =>
   S.l2Schema_l1 a1 k x10.2.2.1 x10.2.2.2 x12 (w64 (x5 - 1))
  else
   some (x2, x3, x4)

def S.l2Schema (a1 : ((List UInt8) × Int × Int)) : Option ((List Int) × ((List UInt8) × Int × Int)) :=
 (S.l1Below (a1.1, a1.2.1, a1.2.2) 3).bind fun x1 =>
 (S.l2Schema_l1 a1 FUEL x1.2.2.1 x1.2.2.2 ([] : List Int) (w64 (1 + x1.1))).bind fun (x6, x7, x8) =>
 some (x8, (a1.1, x6, x7))

def S.CompareFacts_l1 (a1 : (Int × (List Int))) (a2 : (Int × (List Int))) : Nat → Int → Option (Sum Unit Int)
 | 0, _ => none
 | k + 1, x1 =>
  (if (decide (x1 < (List.length a1.2 : Int))) then
   some (decide (x1 < (List.length a2.2 : Int)))
  else
   some false).bind fun x2 =>
  if x2 then
   (idx a1.2 x1).bind fun x3 =>
   (idx a2.2 x1).bind fun x4 =>
   if (decide (x3 < x4)) then
    some (.inr (-1))
   else
    (idx a1.2 x1).bind fun x5 =>
    (idx a2.2 x1).bind fun x6 =>
    if (decide (x6 < x5)) then
     some (.inr 1)
    else
     S.CompareFacts_l1 a1 a2 k (w64 (x1 + 1))
  else
   some (.inl ())

def S.CompareFacts (a1 : (Int × (List Int))) (a2 : (Int × (List Int))) : Option Int :=
 if (!decide (a1.1 = a2.1)) then
  if (decide (a1.1 < a2.1)) then
   some (-1)
  else
   some 1
 else
  (S.CompareFacts_l1 a1 a2 FUEL (0 : Int)).bind fun o => match o with
   | .inl () =>
    if (decide ((List.length a1.2 : Int) < (List.length a2.2 : Int))) then
     some (-1)
    else
     if (decide ((List.length a2.2 : Int) < (List.length a1.2 : Int))) then
      some 1
     else
      some 0
   | .inr r => some r

def S.l2One (a1 : Int) (a2 : (List Int)) : Option (Int × (List Int)) :=
 (app ([] : List Int) a2).bind fun x1 =>
 some (a1, x1)

def S.HasFact_l1 (a1 : (List (Int × (List Int)))) (a2 : (Int × (List Int))) : Nat → Int → Option (Sum Unit Bool)
 | 0, _ => none
 | k + 1, x1 =>
  if (decide (x1 < (List.length a1 : Int))) then
   (idx a1 x1).bind fun x2 =>
   (S.CompareFacts x2 (a2.1, a2.2)).bind fun x3 =>
   if (decide (x3 = 0)) then
    some (.inr true)
   else
    S.HasFact_l1 a1 a2 k (w64 (x1 + 1))
  else
   some (.inl ())

def S.HasFact (a1 : (List (Int × (List Int)))) (a2 : (Int × (List Int))) : Option Bool :=
 (S.HasFact_l1 a1 a2 FUEL (0 : Int)).bind fun o => match o with
  | .inl () =>
   some false
  | .inr r => some r

def S.AddFact_l1 (a1 : (List (Int × (List Int)))) (a2 : (Int × (List Int))) : Nat → (List (Int × (List Int))) → Bool → Int → Option (((List (Int × (List Int))) × Bool))
 | 0, _, _, _ => none
 | k + 1, x2, x3, x4 =>
  if (decide (x4 < (List.length a1 : Int))) then
   (if (!x3) then
    (idx a1 x4).bind fun x8 =>
    (S.CompareFacts (a2.1, a2.2) x8).bind fun x9 =>
    some (decide (x9 < 0))
   else
    some false).bind fun x7 =>
   (if x7 then
    (S.l2One a2.1 a2.2).bind fun x12 =>
    (app x2 ([(x12.1, x12.2)])).bind fun x13 =>
    some (x13, true)
   else
    some (x2, x3)).bind fun (x10, x11) =>
   (idx a1 x4).bind fun x14 =>
   (idx a1 x4).bind fun x15 =>
   (S.l2One x14.1 x15.2).bind fun x16 =>
   (app x10 ([(x16.1, x16.2)])).bind fun x17 =>
   S.AddFact_l1 a1 a2 k x17 x11 (w64 (x4 + 1))
  else
   some (x2, x3)

def S.AddFact (a1 : (List (Int × (List Int)))) (a2 : (Int × (List Int))) : Option (List (Int × (List Int))) :=
 (S.HasFact a1 (a2.1, a2.2)).bind fun x1 =>
 (S.AddFact_l1 a1 a2 FUEL ([] : List (Int × (List Int))) x1 (0 : Int)).bind fun (x5, x6) =>
 (if (!x6) then
  (S.l2One a2.1 a2.2).bind fun x19 =>
  (app x5 ([(x19.1, x19.2)])).bind fun x20 =>
  some x20
 else
  some x5).bind fun x18 =>
 some x18

def S.l2Fact_l1 (a2 : (List Int)) (a1 : ((List UInt8) × Int × Int)) (a3 : Int) : Nat → Int → (List Int) → Int → Int → Int → Option ((Int × (List Int) × Int × Int))
 | 0, _, _, _, _, _ => none
 | k + 1, x2, x3, x4, x5, x6 =>
  (idx a2 x2).bind fun x11 =>
  if (decide (x6 < x11)) then
   (S.l1Below (a1.1, x4, x5) a3).bind fun x12 =>
   (app x3 ([x12.1])).bind fun x13 =>
   S.l2Fact_l1 a2 a1 a3 k x2 x13 x12.2.2.1 x12.2.2.2 (w64 (x6 + 1))
  else
   some (x2, x3, x4, x5)

def S.l2Fact (a1 : ((List UInt8) × Int × Int)) (a2 : (List Int)) (a3 : Int) : Option ((Int × (List Int)) × ((List UInt8) × Int × Int)) :=
 (S.l1Below (a1.1, a1.2.1, a1.2.2) (List.length a2 : Int)).bind fun x1 =>
 (S.l2Fact_l1 a2 a1 a3 FUEL x1.1 ([]) x1.2.2.1 x1.2.2.2 (0 : Int)).bind fun (x7, x8, x9, x10) =>
 some ((x7, x8), (a1.1, x9, x10))

def S.l2Facts_l1 (a1 : ((List UInt8) × Int × Int)) (a2 : (List Int)) : Nat → Int → Int → (List (Int × (List Int))) → Int → Option ((Int × Int × (List (Int × (List Int)))))
 | 0, _, _, _, _ => none
 | k + 1, x2, x3, x4, x5 =>
  if (decide (0 < x5)) then
   (S.l2Fact (a1.1, x2, x3) a2 4).bind fun x9 =>
   (S.AddFact x4 x9.1).bind fun x10 =>
   S.l2Facts_l1 a1 a2 k x9.2.2.1 x9.2.2.2 x10 (w64 (x5 - 1))
  else
   some (x2, x3, x4)

def S.l2Facts (a1 : ((List UInt8) × Int × Int)) (a2 : (List Int)) (a3 : Int) : Option ((List (Int × (List Int))) × ((List UInt8) × Int × Int)) :=
 (S.l1Below (a1.1, a1.2.1, a1.2.2) (w64 (a3 + 1))).bind fun x1 =>
 (S.l2Facts_l1 a1 a2 FUEL x1.2.2.1 x1.2.2.2 ([] : List (Int × (List Int))) x1.1).bind fun (x6, x7, x8) =>
 some (x8, (a1.1, x6, x7))

def S.l24List (a1 : ((List UInt8) × Int × Int)) : Option ((List (Int × (List Int))) × ((List UInt8) × Int × Int)) :=
 (S.l2Schema (a1.1, a1.2.1, a1.2.2)).bind fun x1 =>
 (S.l2Facts (a1.1, x1.2.2.1, x1.2.2.2) x1.1 10).bind fun x2 =>
 some (x2.1, (a1.1, x2.2.2.1, x2.2.2.2))

def S.DrawPagesOf (a1 : (List UInt8)) : Option ((List (Int × (List Int))) × Int) :=
 (S.l1New a1).bind fun x1 =>
 (S.l24List (a1, x1.2.1, x1.2.2)).bind fun x2 =>
 (S.l1Below (a1, x2.2.2.1, x2.2.2.2) 12).bind fun x3 =>
 some (x2.1, w64 (x3.1 - 1))

def Slices.Clone_Lint_int (a1 : (List Int)) : Option (List Int) :=
 (app ([] : List Int) a1).bind fun x1 =>
 some x1

def M.copyFact (a1 : (Int × (List Int))) : Option (Int × (List Int)) :=
 (Slices.Clone_Lint_int a1.2).bind fun x1 =>
 some (a1.1, x1)

def M.copyFacts_l1 (a1 : (List (Int × (List Int)))) : Nat → (List (Int × (List Int))) → Int → Option ((List (Int × (List Int))))
 | 0, _, _ => none
 | k + 1, x1, x2 =>
  if (decide (x2 < (List.length a1 : Int))) then
   (idx a1 x2).bind fun x4 =>
   (M.copyFact (x4.1, x4.2)).bind fun x5 =>
   (app x1 ([(x5.1, x5.2)])).bind fun x6 =>
   M.copyFacts_l1 a1 k x6 (w64 (x2 + 1))
  else
   some x1

def M.copyFacts (a1 : (List (Int × (List Int)))) : Option (List (Int × (List Int))) :=
 (M.copyFacts_l1 a1 FUEL ([] : List (Int × (List Int))) (0 : Int)).bind fun x3 =>
 some x3

def M.isPage (a1 : Int) : Option Bool :=
 (M.within a1 1 9).bind fun x1 =>
 some x1

def M.PageAt (a1 : (List (Int × (List Int)))) (a2 : Int) (a3 : Int) : Option ((List (Int × (List Int))) × Int × Bool) :=
 ((M.isPage a3).bind fun x2 =>
 if (!x2) then
  some true
 else
  (M.within a2 0 (List.length a1 : Int)).bind fun x3 =>
  some (!x3)).bind fun x1 =>
 if x1 then
  some ([], 0, false)
 else
  (sub a1 a2 (if (w64 (a2 + a3)) < (List.length a1 : Int) then w64 (a2 + a3) else (List.length a1 : Int))).bind fun x4 =>
  (M.copyFacts x4).bind fun x5 =>
  some (x5, if (w64 (a2 + a3)) < (List.length a1 : Int) then w64 (a2 + a3) else (List.length a1 : Int), true)

def M.PagesOf_l1 (a1 : (List (Int × (List Int)))) (a2 : Int) : Nat → (List (List (Int × (List Int)))) → Int → Option (Sum Unit (List (List (Int × (List Int)))))
 | 0, _, _ => none
 | k + 1, x1, x2 =>
  (M.PageAt a1 x2 a2).bind fun x3 =>
  if (!x3.2.2) then
   some (.inr x1)
  else
   (app x1 ([x3.1])).bind fun x4 =>
   if (decide (x3.2.1 = (List.length a1 : Int))) then
    some (.inr x4)
   else
    M.PagesOf_l1 a1 a2 k x4 x3.2.1

def M.PagesOf (a1 : (List (Int × (List Int)))) (a2 : Int) : Option (List (List (Int × (List Int)))) :=
 (M.PagesOf_l1 a1 a2 FUEL ([] : List (List (Int × (List Int)))) (0 : Int)).bind fun o => match o with
  | .inl _ => none
  | .inr r => some r

def S.l2Copy_l1 (a1 : (List (Int × (List Int)))) : Nat → (List (Int × (List Int))) → Int → Option ((List (Int × (List Int))))
 | 0, _, _ => none
 | k + 1, x1, x2 =>
  if (decide (x2 < (List.length a1 : Int))) then
   (idx a1 x2).bind fun x4 =>
   (idx a1 x2).bind fun x5 =>
   (S.l2One x4.1 x5.2).bind fun x6 =>
   (app x1 ([(x6.1, x6.2)])).bind fun x7 =>
   S.l2Copy_l1 a1 k x7 (w64 (x2 + 1))
  else
   some x1

def S.l2Copy (a1 : (List (Int × (List Int)))) : Option (List (Int × (List Int))) :=
 (S.l2Copy_l1 a1 FUEL ([] : List (Int × (List Int))) (0 : Int)).bind fun x3 =>
 some x3

def S.PageAt (a1 : (List (Int × (List Int)))) (a2 : Int) (a3 : Int) : Option ((List (Int × (List Int))) × Int × Bool) :=
 ((S.l1In a3 1 9).bind fun x2 =>
 if (!x2) then
  some true
 else
  (S.l1In a2 0 (List.length a1 : Int)).bind fun x3 =>
  some (!x3)).bind fun x1 =>
 if x1 then
  some (([] : List (Int × (List Int))), 0, false)
 else
  (sub a1 a2 (if (w64 (a2 + a3)) < (List.length a1 : Int) then w64 (a2 + a3) else (List.length a1 : Int))).bind fun x4 =>
  (S.l2Copy x4).bind fun x5 =>
  some (x5, if (w64 (a2 + a3)) < (List.length a1 : Int) then w64 (a2 + a3) else (List.length a1 : Int), true)

def S.PagesOf_l1 (a1 : (List (Int × (List Int)))) (a2 : Int) : Nat → (List (List (Int × (List Int)))) → Int → Option (Sum Unit (List (List (Int × (List Int)))))
 | 0, _, _ => none
 | k + 1, x2, x3 =>
  (S.PageAt a1 x3 a2).bind fun x4 =>
  (app x2 ([x4.1])).bind fun x5 =>
  if (decide (x4.2.1 = (List.length a1 : Int))) then
   some (.inr x5)
  else
   S.PagesOf_l1 a1 a2 k x5 x4.2.1

def S.PagesOf (a1 : (List (Int × (List Int)))) (a2 : Int) : Option (List (List (Int × (List Int)))) :=
 (S.l1In a2 1 9).bind fun x1 =>
 if (!x1) then
  some ([] : List (List (Int × (List Int))))
 else
  (S.PagesOf_l1 a1 a2 FUEL ([] : List (List (Int × (List Int)))) (0 : Int)).bind fun o => match o with
   | .inl _ => none
   | .inr r => some r

def S.SameFacts_l1 (a1 : (List (Int × (List Int)))) (a2 : (List (Int × (List Int)))) : Nat → Int → Option (Sum Unit Bool)
 | 0, _ => none
 | k + 1, x1 =>
  if (decide (x1 < (List.length a1 : Int))) then
   (idx a1 x1).bind fun x2 =>
   (idx a2 x1).bind fun x3 =>
   (S.CompareFacts x2 x3).bind fun x4 =>
   if (!decide (x4 = 0)) then
    some (.inr false)
   else
    S.SameFacts_l1 a1 a2 k (w64 (x1 + 1))
  else
   some (.inl ())

def S.SameFacts (a1 : (List (Int × (List Int)))) (a2 : (List (Int × (List Int)))) : Option Bool :=
 if (!decide ((List.length a1 : Int) = (List.length a2 : Int))) then
  some false
 else
  (S.SameFacts_l1 a1 a2 FUEL (0 : Int)).bind fun o => match o with
   | .inl () =>
    some true
   | .inr r => some r

def M.JoinPages_l1 (a1 : (List (List (Int × (List Int))))) : Nat → (List (Int × (List Int))) → Int → Option ((List (Int × (List Int))))
 | 0, _, _ => none
 | k + 1, x1, x2 =>
  if (decide (x2 < (List.length a1 : Int))) then
   (idx a1 x2).bind fun x4 =>
   (M.copyFacts x4).bind fun x5 =>
   (app x1 x5).bind fun x6 =>
   M.JoinPages_l1 a1 k x6 (w64 (x2 + 1))
  else
   some x1

def M.JoinPages (a1 : (List (List (Int × (List Int))))) : Option (List (Int × (List Int))) :=
 (M.JoinPages_l1 a1 FUEL ([] : List (Int × (List Int))) (0 : Int)).bind fun x3 =>
 some x3

def M.CountPages (a1 : Int) (a2 : Int) : Option Int :=
 ((M.isPage a2).bind fun x2 =>
 if (!x2) then
  some true
 else
  (M.within a1 0 1000000).bind fun x3 =>
  some (!x3)).bind fun x1 =>
 if x1 then
  some (-1)
 else
  (nz a2).bind fun _ =>
  some (if (w64 ((w64 ((w64 (a1 + a2)) - 1)).tdiv a2)) > 1 then w64 ((w64 ((w64 (a1 + a2)) - 1)).tdiv a2) else 1)

def S.DrawPageAt (a1 : (List UInt8)) : Option ((List (Int × (List Int))) × Int × Int) :=
 (S.l1New a1).bind fun x1 =>
 (S.l24List (a1, x1.2.1, x1.2.2)).bind fun x2 =>
 (S.l1Below (a1, x2.2.2.1, x2.2.2.2) 12).bind fun x3 =>
 (S.l1Below (a1, x3.2.2.1, x3.2.2.2) 12).bind fun x4 =>
 some (x2.1, w64 (x3.1 - 1), w64 (x4.1 - 1))

def S.DrawCountPages (a1 : (List UInt8)) : Option (Int × Int) :=
 (S.l1New a1).bind fun x1 =>
 (S.l1Below (a1, x1.2.1, x1.2.2) 30).bind fun x2 =>
 (S.l1Below (a1, x2.2.2.1, x2.2.2.2) 12).bind fun x3 =>
 some (w64 (x2.1 - 1), w64 (x3.1 - 1))

def S.l1PickInt (a1 : ((List UInt8) × Int × Int)) (a2 : (List Int)) : Option (Int × ((List UInt8) × Int × Int)) :=
 (S.l1Below (a1.1, a1.2.1, a1.2.2) (List.length a2 : Int)).bind fun x1 =>
 (idx a2 x1.1).bind fun x2 =>
 some (x2, (a1.1, x1.2.2.1, x1.2.2.2))

def S.l5Method_l1 (a2 : (List Int)) (a1 : ((List UInt8) × Int × Int)) : Nat → Int → (List Int) → Int → Int → Int → Int → Int → Int → Option ((Int × (List Int) × Int × Int × Int × Int × Int))
 | 0, _, _, _, _, _, _, _, _ => none
 | k + 1, x5, x6, x7, x8, x9, x10, x11, x12 =>
  (idx a2 x5).bind fun x20 =>
  if (decide (x12 < x20)) then
   (S.l1Once (a1.1, x10, x11) 3).bind fun x21 =>
   (if x21.1 then
    (app x6 ([x12])).bind fun x27 =>
    some (x5, x27, x7, x8, x9)
   else
    some (x5, x6, x7, x8, x9)).bind fun (x22, x23, x24, x25, x26) =>
   S.l5Method_l1 a2 a1 k x22 x23 x24 x25 x26 x21.2.2.1 x21.2.2.2 (w64 (x12 + 1))
  else
   some (x5, x6, x7, x8, x9, x10, x11)

def S.l5Method (a1 : ((List UInt8) × Int × Int)) (a2 : (List Int)) : Option ((Int × (List Int) × Int × Int × Int) × ((List UInt8) × Int × Int)) :=
 (S.l1Below (a1.1, a1.2.1, a1.2.2) (List.length a2 : Int)).bind fun x1 =>
 (S.l1PickInt (a1.1, x1.2.2.1, x1.2.2.2) ([0, 0, 0, 1, 2])).bind fun x2 =>
 (S.l1Below (a1.1, x2.2.2.1, x2.2.2.2) 5).bind fun x3 =>
 (S.l1Below (a1.1, x3.2.2.1, x3.2.2.2) 6).bind fun x4 =>
 (S.l5Method_l1 a2 a1 FUEL x1.1 ([]) x2.1 x3.1 (w64 (1 + x4.1)) x4.2.2.1 x4.2.2.2 (0 : Int)).bind fun (x13, x14, x15, x16, x17, x18, x19) =>
 some ((x13, x14, x15, x16, x17), (a1.1, x18, x19))

def S.l5Methods_l1 (a1 : ((List UInt8) × Int × Int)) (a2 : (List Int)) : Nat → Int → Int → (List (Int × (List Int) × Int × Int × Int)) → Int → Option ((Int × Int × (List (Int × (List Int) × Int × Int × Int))))
 | 0, _, _, _, _ => none
 | k + 1, x2, x3, x4, x5 =>
  if (decide (0 < x5)) then
   (S.l5Method (a1.1, x2, x3) a2).bind fun x9 =>
   (app x4 ([(x9.1.1, x9.1.2.1, x9.1.2.2.1, x9.1.2.2.2.1, x9.1.2.2.2.2)])).bind fun x10 =>
   S.l5Methods_l1 a1 a2 k x9.2.2.1 x9.2.2.2 x10 (w64 (x5 - 1))
  else
   some (x2, x3, x4)

def S.l5Methods (a1 : ((List UInt8) × Int × Int)) (a2 : (List Int)) : Option ((List (Int × (List Int) × Int × Int × Int)) × ((List UInt8) × Int × Int)) :=
 (S.l1Below (a1.1, a1.2.1, a1.2.2) 4).bind fun x1 =>
 (S.l5Methods_l1 a1 a2 FUEL x1.2.2.1 x1.2.2.2 ([] : List (Int × (List Int) × Int × Int × Int)) (w64 (1 + x1.1))).bind fun (x6, x7, x8) =>
 some (x8, (a1.1, x6, x7))

def S.IsSchema_l1 (a1 : (List Int)) : Nat → Int → Option (Sum Unit Bool)
 | 0, _ => none
 | k + 1, x1 =>
  if (decide (x1 < (List.length a1 : Int))) then
   (idx a1 x1).bind fun x2 =>
   (S.l1In x2 1 3).bind fun x3 =>
   if (!x3) then
    some (.inr false)
   else
    S.IsSchema_l1 a1 k (w64 (x1 + 1))
  else
   some (.inl ())

def S.IsSchema (a1 : (List Int)) : Option Bool :=
 (S.IsSchema_l1 a1 FUEL (0 : Int)).bind fun o => match o with
  | .inl () =>
   (S.l1In (List.length a1 : Int) 1 3).bind fun x4 =>
   some x4
  | .inr r => some r

def S.l5AnyMethod (a1 : ((List UInt8) × Int × Int)) (a2 : (List Int)) : Option ((Int × (List Int) × Int × Int × Int) × ((List UInt8) × Int × Int)) :=
 (S.IsSchema a2).bind fun x1 =>
 (if x1 then
  (S.l5Method (a1.1, a1.2.1, a1.2.2) a2).bind fun x9 =>
  some (x9.1.1, x9.1.2.1, x9.1.2.2.1, x9.1.2.2.2.1, x9.1.2.2.2.2, x9.2.2.1, x9.2.2.2)
 else
  some ((0 : Int), [], (0 : Int), (0 : Int), (1 : Int), a1.2.1, a1.2.2)).bind fun (x2, x3, x4, x5, x6, x7, x8) =>
 (S.l1Below (a1.1, x7, x8) 10).bind fun x10 =>
 (if (decide (x10.1 = 0)) then
  (S.l1PickInt (a1.1, x10.2.2.1, x10.2.2.2) ([(-1), 9, 10])).bind fun x18 =>
  some (x18.2.2.1, x18.2.2.2, x2, x3, x18.1, x5, x6)
 else
  (if (decide (x10.1 = 1)) then
   ((S.l1Below (a1.1, x10.2.2.1, x10.2.2.2) 5).bind fun x33 =>
   (app x3 ([w64 (x33.1 - 1)])).bind fun x34 =>
   some (x33.2.2.1, x33.2.2.2, x2, x34, x4, x5, x6)).bind fun (x26, x27, x28, x29, x30, x31, x32) =>
   some (x26, x27, x28, x29, x30, x31, x32)
  else
   (if (decide (x10.1 = 2)) then
    (S.l1PickInt (a1.1, x10.2.2.1, x10.2.2.2) ([0, 99, 100])).bind fun x42 =>
    some (x42.2.2.1, x42.2.2.2, x2, x3, x4, x5, x42.1)
   else
    (if (decide (x10.1 = 3)) then
     (S.l1PickInt (a1.1, x10.2.2.1, x10.2.2.2) ([(-1), 99, 100])).bind fun x50 =>
     some (x50.2.2.1, x50.2.2.2, x2, x3, x4, x50.1, x6)
    else
     some (x10.2.2.1, x10.2.2.2, x2, x3, x4, x5, x6)).bind fun (x43, x44, x45, x46, x47, x48, x49) =>
    some (x43, x44, x45, x46, x47, x48, x49)).bind fun (x35, x36, x37, x38, x39, x40, x41) =>
   some (x35, x36, x37, x38, x39, x40, x41)).bind fun (x19, x20, x21, x22, x23, x24, x25) =>
  some (x19, x20, x21, x22, x23, x24, x25)).bind fun (x11, x12, x13, x14, x15, x16, x17) =>
 some ((x13, x14, x15, x16, x17), (a1.1, x11, x12))

def S.l2AnyFact (a1 : ((List UInt8) × Int × Int)) (a2 : (List Int)) : Option ((Int × (List Int)) × ((List UInt8) × Int × Int)) :=
 (S.IsSchema a2).bind fun x1 =>
 (if x1 then
  (S.l2Fact (a1.1, a1.2.1, a1.2.2) a2 10).bind fun x6 =>
  some (x6.1.1, x6.1.2, x6.2.2.1, x6.2.2.2)
 else
  some ((0 : Int), [1], a1.2.1, a1.2.2)).bind fun (x2, x3, x4, x5) =>
 (S.l1Below (a1.1, x4, x5) 8).bind fun x7 =>
 (if (decide (x7.1 = 0)) then
  (S.l1Below (a1.1, x7.2.2.1, x7.2.2.2) 5).bind fun x12 =>
  some (x12.2.2.1, x12.2.2.2, w64 (x12.1 - 1), x3)
 else
  (if (decide (x7.1 = 1)) then
   ((S.l1PickInt (a1.1, x7.2.2.1, x7.2.2.2) ([(-1), 9, 10])).bind fun x20 =>
   (idx x3 0).bind fun x21 =>
   some ((List.set x3 (Int.toNat 0) x20.1), x20.2.2.1, x20.2.2.2)).bind fun (x17, x18, x19) =>
   some (x18, x19, x2, x17)
  else
   (if (decide (x7.1 = 2)) then
    (app x3 ([1])).bind fun x24 =>
    some (x2, x24)
   else
    some (x2, x3)).bind fun (x22, x23) =>
   some (x7.2.2.1, x7.2.2.2, x22, x23)).bind fun (x13, x14, x15, x16) =>
  some (x13, x14, x15, x16)).bind fun (x8, x9, x10, x11) =>
 some ((x10, x11), (a1.1, x8, x9))

def S.l2AnyFacts (a1 : ((List UInt8) × Int × Int)) (a2 : (List Int)) : Option ((List (Int × (List Int))) × ((List UInt8) × Int × Int)) :=
 (S.IsSchema a2).bind fun x1 =>
 (if x1 then
  (S.l2Facts (a1.1, a1.2.1, a1.2.2) a2 8).bind fun x5 =>
  some (x5.2.2.1, x5.2.2.2, x5.1)
 else
  some (a1.2.1, a1.2.2, ([] : List (Int × (List Int))))).bind fun (x2, x3, x4) =>
 (S.l1Once (a1.1, x2, x3) 10).bind fun x6 =>
 (if x6.1 then
  (S.l2AnyFact (a1.1, x6.2.2.1, x6.2.2.2) a2).bind fun x10 =>
  (app x4 ([(x10.1.1, x10.1.2)])).bind fun x11 =>
  some (x10.2.2.1, x10.2.2.2, x11)
 else
  some (x6.2.2.1, x6.2.2.2, x4)).bind fun (x7, x8, x9) =>
 some (x9, (a1.1, x7, x8))

def S.l2AnySchema (a1 : ((List UInt8) × Int × Int)) : Option ((List Int) × ((List UInt8) × Int × Int)) :=
 (S.l2Schema (a1.1, a1.2.1, a1.2.2)).bind fun x1 =>
 (S.l1Once (a1.1, x1.2.2.1, x1.2.2.2) 14).bind fun x2 =>
 (if x2.1 then
  (S.l1PickInt (a1.1, x2.2.2.1, x2.2.2.2) ([0, 1, 4])).bind fun x6 =>
  (app x1.1 ([x6.1])).bind fun x7 =>
  some (x6.2.2.1, x6.2.2.2, x7)
 else
  some (x2.2.2.1, x2.2.2.2, x1.1)).bind fun (x3, x4, x5) =>
 some (x5, (a1.1, x3, x4))

def S.l5Draw (a1 : ((List UInt8) × Int × Int)) : Option ((List Int) × (List (Int × (List Int) × Int × Int × Int)) × (List (Int × (List Int))) × ((List UInt8) × Int × Int)) :=
 (S.l2Schema (a1.1, a1.2.1, a1.2.2)).bind fun x1 =>
 (S.l5Methods (a1.1, x1.2.2.1, x1.2.2.2) x1.1).bind fun x2 =>
 (S.l2Facts (a1.1, x2.2.2.1, x2.2.2.2) x1.1 8).bind fun x3 =>
 (S.l1Below (a1.1, x3.2.2.1, x3.2.2.2) 20).bind fun x4 =>
 (if (decide (x4.1 = 0)) then
  (S.l5AnyMethod (a1.1, x4.2.2.1, x4.2.2.2) x1.1).bind fun x10 =>
  (app x2.1 ([(x10.1.1, x10.1.2.1, x10.1.2.2.1, x10.1.2.2.2.1, x10.1.2.2.2.2)])).bind fun x11 =>
  some (x10.2.2.1, x10.2.2.2, x1.1, x11, x3.1)
 else
  (if (decide (x4.1 = 1)) then
   (S.l2AnyFacts (a1.1, x4.2.2.1, x4.2.2.2) x1.1).bind fun x16 =>
   some (x16.2.2.1, x16.2.2.2, x1.1, x16.1)
  else
   (if (decide (x4.1 = 2)) then
    (S.l2AnySchema (a1.1, x4.2.2.1, x4.2.2.2)).bind fun x20 =>
    some (x20.2.2.1, x20.2.2.2, x20.1)
   else
    some (x4.2.2.1, x4.2.2.2, x1.1)).bind fun (x17, x18, x19) =>
   some (x17, x18, x19, x3.1)).bind fun (x12, x13, x14, x15) =>
  some (x12, x13, x14, x2.1, x15)).bind fun (x5, x6, x7, x8, x9) =>
 some (x7, x8, x9, (a1.1, x5, x6))

def S.l5Access_l1 (a2 : (List (Int × (List Int) × Int × Int × Int))) (a1 : ((List UInt8) × Int × Int)) : Nat → Int → (List Int) → Int → Int → Int → Option ((Int × (List Int) × Int × Int))
 | 0, _, _, _, _, _ => none
 | k + 1, x2, x3, x4, x5, x6 =>
  (idx a2 x2).bind fun x11 =>
  if (decide (x6 < (List.length x11.2.1 : Int))) then
   (S.l1Below (a1.1, x4, x5) 4).bind fun x12 =>
   (app x3 ([x12.1])).bind fun x13 =>
   S.l5Access_l1 a2 a1 k x2 x13 x12.2.2.1 x12.2.2.2 (w64 (x6 + 1))
  else
   some (x2, x3, x4, x5)

def S.l5Access (a1 : ((List UInt8) × Int × Int)) (a2 : (List (Int × (List Int) × Int × Int × Int))) : Option ((Int × (List Int)) × ((List UInt8) × Int × Int)) :=
 if (decide ((List.length a2 : Int) = 0)) then
  some ((0, []), (a1.1, a1.2.1, a1.2.2))
 else
  (S.l1Below (a1.1, a1.2.1, a1.2.2) (List.length a2 : Int)).bind fun x1 =>
  (S.l5Access_l1 a2 a1 FUEL x1.1 ([]) x1.2.2.1 x1.2.2.2 (0 : Int)).bind fun (x7, x8, x9, x10) =>
  some ((x7, x8), (a1.1, x9, x10))

def S.l5AnyAccess (a1 : ((List UInt8) × Int × Int)) (a2 : (List (Int × (List Int) × Int × Int × Int))) : Option ((Int × (List Int)) × ((List UInt8) × Int × Int)) :=
 (S.l5Access (a1.1, a1.2.1, a1.2.2) a2).bind fun x1 =>
 (S.l1Below (a1.1, x1.2.2.1, x1.2.2.2) 12).bind fun x2 =>
 (if (decide (x2.1 = 0)) then
  (S.l1Below (a1.1, x2.2.2.1, x2.2.2.2) 7).bind fun x7 =>
  some (x7.2.2.1, x7.2.2.2, w64 (x7.1 - 1), x1.1.2)
 else
  (if (decide (x2.1 = 1)) then
   ((S.l1PickInt (a1.1, x2.2.2.1, x2.2.2.2) ([(-1), 3, 10])).bind fun x16 =>
   (app x1.1.2 ([x16.1])).bind fun x17 =>
   some (x16.2.2.1, x16.2.2.2, x1.1.1, x17)).bind fun (x12, x13, x14, x15) =>
   some (x12, x13, x14, x15)
  else
   some (x2.2.2.1, x2.2.2.2, x1.1.1, x1.1.2)).bind fun (x8, x9, x10, x11) =>
  some (x8, x9, x10, x11)).bind fun (x3, x4, x5, x6) =>
 some ((x5, x6), (a1.1, x3, x4))

def S.l24Cursor (a1 : ((List UInt8) × Int × Int)) : Option (((Int × (List Int)) × Int × Int) × ((List UInt8) × Int × Int)) :=
 (S.l5Draw (a1.1, a1.2.1, a1.2.2)).bind fun x1 =>
 (S.l5AnyAccess (a1.1, x1.2.2.2.2.1, x1.2.2.2.2.2) x1.2.1).bind fun x2 =>
 (S.l1Below (a1.1, x2.2.2.1, x2.2.2.2) 9).bind fun x3 =>
 (S.l1Below (a1.1, x3.2.2.1, x3.2.2.2) 4).bind fun x4 =>
 (S.l1Below (a1.1, x4.2.2.1, x4.2.2.2) 10).bind fun x5 =>
 (if (decide (x5.1 = 0)) then
  (S.l1PickInt (a1.1, x5.2.2.1, x5.2.2.2) ([(-1), 1000, 1001])).bind fun x12 =>
  some (x12.2.2.1, x12.2.2.2, x2.1.1, x2.1.2, x12.1, x4.1)
 else
  (if (decide (x5.1 = 1)) then
   (S.l1PickInt (a1.1, x5.2.2.1, x5.2.2.2) ([(-1), 1000, 1001])).bind fun x19 =>
   some (x19.2.2.1, x19.2.2.2, x2.1.1, x2.1.2, x3.1, x19.1)
  else
   some (x5.2.2.1, x5.2.2.2, x2.1.1, x2.1.2, x3.1, x4.1)).bind fun (x13, x14, x15, x16, x17, x18) =>
  some (x13, x14, x15, x16, x17, x18)).bind fun (x6, x7, x8, x9, x10, x11) =>
 some (((x8, x9), x10, x11), (a1.1, x6, x7))

def S.DrawFormatCursor (a1 : (List UInt8)) : Option ((Int × (List Int)) × Int × Int) :=
 (S.l1New a1).bind fun x1 =>
 (S.l24Cursor (a1, x1.2.1, x1.2.2)).bind fun x2 =>
 some ((x2.1.1.1, x2.1.1.2), x2.1.2.1, x2.1.2.2)

def S.l1Text_l1 (a1 : ((List UInt8) × Int × Int)) (x1 : (Int × ((List UInt8) × Int × Int))) : Nat → Int → Int → (List UInt8) → Int → Option ((Int × Int × (List UInt8)))
 | 0, _, _, _, _ => none
 | k + 1, x3, x4, x5, x6 =>
  if (decide (0 < x6)) then
   (S.l1Byte (a1.1, x3, x4)).bind fun x10 =>
   (if (decide (x1.1 = 1)) then
    some (x10.1.tmod 2)
   else
    some x10.1).bind fun x11 =>
   (if (decide (x1.1 = 2)) then
    some (w64 (97 + (x11.tmod 4)))
   else
    some x11).bind fun x12 =>
   (app x5 ([(u8 x12)])).bind fun x13 =>
   S.l1Text_l1 a1 x1 k x10.2.2.1 x10.2.2.2 x13 (w64 (x6 - 1))
  else
   some (x3, x4, x5)

def S.l1Text (a1 : ((List UInt8) × Int × Int)) (a2 : Int) : Option (Str × ((List UInt8) × Int × Int)) :=
 (S.l1Below (a1.1, a1.2.1, a1.2.2) 4).bind fun x1 =>
 (S.l1Below (a1.1, x1.2.2.1, x1.2.2.2) (w64 (a2 + 1))).bind fun x2 =>
 (S.l1Text_l1 a1 x1 FUEL x2.2.2.1 x2.2.2.2 ([] : List UInt8) x2.1).bind fun (x7, x8, x9) =>
 some ((Str.of x9), (a1.1, x7, x8))

def S.l1Spoil (a1 : ((List UInt8) × Int × Int)) (a2 : Str) : Option (Str × ((List UInt8) × Int × Int)) :=
 if (decide ((List.length a2 : Int) = 0)) then
  (S.l1Text (a1.1, a1.2.1, a1.2.2) 3).bind fun x1 =>
  some (x1.1, (a1.1, x1.2.2.1, x1.2.2.2))
 else
  (S.l1Below (a1.1, a1.2.1, a1.2.2) (List.length a2 : Int)).bind fun x2 =>
  (S.l1Below (a1.1, x2.2.2.1, x2.2.2.2) 4).bind fun x3 =>
  if (decide (x3.1 = 0)) then
   (subS a2 0 x2.1).bind fun x4 =>
   (subS a2 (w64 (x2.1 + 1)) (List.length a2 : Int)).bind fun x5 =>
   (cat x4 x5).bind fun x6 =>
   some (x6, (a1.1, x3.2.2.1, x3.2.2.2))
  else
   if (decide (x3.1 = 1)) then
    (subS a2 0 x2.1).bind fun x7 =>
    (subS a2 x2.1 (List.length a2 : Int)).bind fun x8 =>
    (S.l1Byte (a1.1, x3.2.2.1, x3.2.2.2)).bind fun x9 =>
    (cat x7 (Str.of ([(u8 x9.1)]))).bind fun x10 =>
    (cat x10 x8).bind fun x11 =>
    some (x11, (a1.1, x9.2.2.1, x9.2.2.2))
   else
    if (decide (x3.1 = 2)) then
     (subS a2 0 x2.1).bind fun x12 =>
     some (x12, (a1.1, x3.2.2.1, x3.2.2.2))
    else
     (subS a2 0 x2.1).bind fun x13 =>
     (idx (α := UInt8) a2 x2.1).bind fun x14 =>
     (subS a2 (w64 (x2.1 + 1)) (List.length a2 : Int)).bind fun x15 =>
     (S.l1Below (a1.1, x3.2.2.1, x3.2.2.2) 255).bind fun x16 =>
     (cat x13 (Str.of ([(u8 (bxor (w64 (UInt8.toNat x14 : Int)) (w64 (1 + x16.1))))]))).bind fun x17 =>
     (cat x17 x15).bind fun x18 =>
     some (x18, (a1.1, x16.2.2.1, x16.2.2.2))

def S.l1Pick (a1 : ((List UInt8) × Int × Int)) (a2 : (List Str)) : Option (Str × ((List UInt8) × Int × Int)) :=
 (S.l1Below (a1.1, a1.2.1, a1.2.2) (List.length a2 : Int)).bind fun x1 =>
 (idx a2 x1.1).bind fun x2 =>
 some (x2, (a1.1, x1.2.2.1, x1.2.2.2))

def S.DrawParseCursor (a1 : (List UInt8)) : Option Str :=
 (S.l1New a1).bind fun x1 =>
 (S.l24Cursor (a1, x1.2.1, x1.2.2)).bind fun x2 =>
 (S.FormatCursor x2.1).bind fun x3 =>
 (S.l1Below (a1, x2.2.2.1, x2.2.2.2) 4).bind fun x4 =>
 if (decide (x4.1 = 0)) then
  (S.l1Spoil (a1, x4.2.2.1, x4.2.2.2) x3).bind fun x5 =>
  some x5.1
 else
  if (decide (x4.1 = 1)) then
   (S.l1Pick (a1, x4.2.2.1, x4.2.2.2) ([(str []), (str [109, 48, 40, 41, 43, 48, 64, 48]), (str [109, 48, 40, 49, 44, 50, 41, 43, 51, 64, 49]), (str [109, 53, 40, 41, 43, 48, 64, 48]), (str [109, 48, 40, 41, 43, 48]), (str [109, 48, 40, 41, 64, 48, 43, 48]), (str [109, 48, 40, 44, 41, 43, 48, 64, 48]), (str [109, 48, 40, 41, 43, 48, 49, 64, 48])])).bind fun x6 =>
   some x6.1
  else
   some x3

def S.CountPages (a1 : Int) (a2 : Int) : Option Int :=
 ((S.l1In a2 1 9).bind fun x2 =>
 if (!x2) then
  some true
 else
  (S.l1In a1 0 1000000).bind fun x3 =>
  some (!x3)).bind fun x1 =>
 if x1 then
  some (-1)
 else
  if (decide (a1 = 0)) then
   some 1
  else
   (nz a2).bind fun _ =>
   some (w64 ((w64 ((w64 (a1 + a2)) - 1)).tdiv a2))

def Q.FnPages_l1 (x3 : (List (List (Int × (List Int))))) (x4 : (List (List (Int × (List Int))))) (x2 : ((List (Int × (List Int))) × Int)) : Nat → Int → Option (Sum Unit Bool)
 | 0, _ => none
 | k + 1, x9 =>
  if (decide (x9 < (List.length x3 : Int))) then
   ((idx x3 x9).bind fun x11 =>
   (idx x4 x9).bind fun x12 =>
   (S.SameFacts x11 x12).bind fun x13 =>
   if (!x13) then
    some true
   else
    if (decide ((w64 (x9 + 1)) < (List.length x3 : Int))) then
     (idx x3 x9).bind fun x14 =>
     if (!decide ((List.length x14 : Int) = x2.2)) then
      some true
     else
      (idx x3 x9).bind fun x15 =>
      some (decide (x2.2 < (List.length x15 : Int)))
    else
     (idx x3 x9).bind fun x16 =>
     some (decide (x2.2 < (List.length x16 : Int)))).bind fun x10 =>
   if x10 then
    some (.inr false)
   else
    Q.FnPages_l1 x3 x4 x2 k (w64 (x9 + 1))
  else
   some (.inl ())

def Q.FnPages (a1 : (List UInt8)) : Option Bool :=
 (Q.big a1).bind fun x1 =>
 if x1 then
  some true
 else
  (S.DrawPagesOf a1).bind fun x2 =>
  (M.PagesOf x2.1 x2.2).bind fun x3 =>
  (S.PagesOf x2.1 x2.2).bind fun x4 =>
  (if (!decide ((List.length x3 : Int) = (List.length x4 : Int))) then
   some true
  else
   if (decide (0 < (List.length x4 : Int))) then
    (M.JoinPages x4).bind fun x6 =>
    (S.SameFacts x6 x2.1).bind fun x7 =>
    if (!x7) then
     some true
    else
     (M.CountPages (List.length x2.1 : Int) x2.2).bind fun x8 =>
     some (!decide ((List.length x4 : Int) = x8))
   else
    some false).bind fun x5 =>
  if x5 then
   some false
  else
   (Q.FnPages_l1 x3 x4 x2 FUEL (0 : Int)).bind fun o => match o with
    | .inl () =>
     (S.DrawPageAt a1).bind fun x17 =>
     (M.PageAt x17.1 x17.2.1 x17.2.2).bind fun x18 =>
     (S.PageAt x17.1 x17.2.1 x17.2.2).bind fun x19 =>
     (S.DrawCountPages a1).bind fun x20 =>
     (S.DrawFormatCursor a1).bind fun x21 =>
     (M.FormatCursor ((x21.1.1, x21.1.2), x21.2.1, x21.2.2)).bind fun x22 =>
     (M.ParseCursor x22).bind fun x23 =>
     (S.DrawParseCursor a1).bind fun x24 =>
     (M.ParseCursor x24).bind fun x25 =>
     (S.ParseCursor x24).bind fun x26 =>
     (if (decide (x18.2.2 = x19.2.2)) then
      if (decide (x18.2.1 = x19.2.1)) then
       (S.SameFacts x18.1 x19.1).bind fun x28 =>
       if x28 then
        (M.CountPages x20.1 x20.2).bind fun x29 =>
        (S.CountPages x20.1 x20.2).bind fun x30 =>
        if (decide (x29 = x30)) then
         (S.FormatCursor ((x21.1.1, x21.1.2), x21.2.1, x21.2.2)).bind fun x31 =>
         if (decide (x22 = x31)) then
          (S.FormatCursor ((x21.1.1, x21.1.2), x21.2.1, x21.2.2)).bind fun x32 =>
          if (decide (x23.2 = (!decide (x32 = (str []))))) then
           if (!x23.2) then
            some (decide (x25.2 = x26.2))
           else
            (M.FormatCursor ((x23.1.1.1, x23.1.1.2), x23.1.2.1, x23.1.2.2)).bind fun x33 =>
            if (decide (x33 = x22)) then
             some (decide (x25.2 = x26.2))
            else
             some false
          else
           some false
         else
          some false
        else
         some false
       else
        some false
      else
       some false
     else
      some false).bind fun x27 =>
     some x27
    | .inr r => some r

end Go.Gx.Px
