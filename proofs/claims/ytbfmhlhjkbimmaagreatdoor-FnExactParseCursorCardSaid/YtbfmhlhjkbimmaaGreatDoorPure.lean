/- The Go functions as pure Lean functions, printed by program. Conditions: none. -/
import Derived.Test.YtbfmhlhjkbimmaaGreatDoorGxHo
import Derived.Test.YtbfmhlhjkbimmaaGreatDoorGxTd
set_option linter.unusedVariables false
namespace Go.Gx.Px

def S.l1In (a1 : Int) (a2 : Int) (a3 : Int) : Option Bool :=
 (if (decide (a2 ≤ a1)) then
  some (decide (a1 ≤ a3))
 else
  some false).bind fun x1 =>
 some x1

def S.FormatInt_l1  : Nat → Int → Str → Option (Str)
 | 0, _, _ => none
 | k + 1, x1, x2 =>
  if (!decide (x1 = 0)) then
   (if (decide ((x1.tmod 10) < 0)) then
    some (w64 (0 - (x1.tmod 10)))
   else
    some (x1.tmod 10)).bind fun x4 =>
   (cat (Str.of ([(u8 (w64 (48 + x4)))])) x2).bind fun x5 =>
   S.FormatInt_l1 k (w64 (x1.tdiv 10)) x5
  else
   some x2

def S.FormatInt (a1 : Int) : Option Str :=
 if (decide (a1 = 0)) then
  some (str [48])
 else
  (S.FormatInt_l1 FUEL a1 (str [])).bind fun x3 =>
  if (decide (a1 < 0)) then
   (cat (str [45]) x3).bind fun x6 =>
   some x6
  else
   some x3

def S.l2List_l1 (a1 : (List Int)) : Nat → Str → Int → Option (Str)
 | 0, _, _ => none
 | k + 1, x1, x2 =>
  if (decide (x2 < (List.length a1 : Int))) then
   (if (decide (0 < x2)) then
    (cat x1 (str [44])).bind fun x5 =>
    some x5
   else
    some x1).bind fun x4 =>
   (idx a1 x2).bind fun x6 =>
   (S.FormatInt x6).bind fun x7 =>
   (cat x4 x7).bind fun x8 =>
   S.l2List_l1 a1 k x8 (w64 (x2 + 1))
  else
   some x1

def S.l2List (a1 : (List Int)) : Option Str :=
 (S.l2List_l1 a1 FUEL (str []) (0 : Int)).bind fun x3 =>
 some x3

def S.FormatAccess_l1 (a1 : (Int × (List Int))) : Nat → Int → Option (Sum Unit Str)
 | 0, _ => none
 | k + 1, x3 =>
  if (decide (x3 < (List.length a1.2 : Int))) then
   (idx a1.2 x3).bind fun x4 =>
   (S.l1In x4 0 9).bind fun x5 =>
   if (!x5) then
    some (.inr (str []))
   else
    S.FormatAccess_l1 a1 k (w64 (x3 + 1))
  else
   some (.inl ())

def S.FormatAccess (a1 : (Int × (List Int))) : Option Str :=
 ((S.l1In a1.1 0 4).bind fun x2 =>
 if (!x2) then
  some true
 else
  some (decide (3 < (List.length a1.2 : Int)))).bind fun x1 =>
 if x1 then
  some (str [])
 else
  (S.FormatAccess_l1 a1 FUEL (0 : Int)).bind fun o => match o with
   | .inl () =>
    (S.FormatInt a1.1).bind fun x6 =>
    (cat (str [109]) x6).bind fun x7 =>
    (cat x7 (str [40])).bind fun x8 =>
    (S.l2List a1.2).bind fun x9 =>
    (cat x8 x9).bind fun x10 =>
    (cat x10 (str [41])).bind fun x11 =>
    some x11
   | .inr r => some r

def S.FormatCursor (a1 : ((Int × (List Int)) × Int × Int)) : Option Str :=
 (S.FormatAccess (a1.1.1, a1.1.2)).bind fun x1 =>
 (if (decide (x1 = (str []))) then
  some true
 else
  (S.l1In a1.2.1 0 1000).bind fun x3 =>
  if (!x3) then
   some true
  else
   (S.l1In a1.2.2 0 1000).bind fun x4 =>
   some (!x4)).bind fun x2 =>
 if x2 then
  some (str [])
 else
  (cat x1 (str [43])).bind fun x5 =>
  (S.FormatInt a1.2.1).bind fun x6 =>
  (cat x5 x6).bind fun x7 =>
  (cat x7 (str [64])).bind fun x8 =>
  (S.FormatInt a1.2.2).bind fun x9 =>
  (cat x8 x9).bind fun x10 =>
  some x10

def S.l2Cut_l1 (a1 : Str) (a2 : Int) : Nat → (List Str) → Str → Int → Option (((List Str) × Str))
 | 0, _, _, _ => none
 | k + 1, x1, x2, x3 =>
  if (decide (x3 < (List.length a1 : Int))) then
   (idx (α := UInt8) a1 x3).bind fun x6 =>
   (if (decide ((UInt8.toNat x6 : Int) = a2)) then
    (app x1 ([x2])).bind fun x9 =>
    some (x9, (str []))
   else
    (subS a1 x3 (w64 (x3 + 1))).bind fun x10 =>
    (cat x2 x10).bind fun x11 =>
    some (x1, x11)).bind fun (x7, x8) =>
   S.l2Cut_l1 a1 a2 k x7 x8 (w64 (x3 + 1))
  else
   some (x1, x2)

def S.l2Cut (a1 : Str) (a2 : Int) : Option (List Str) :=
 (S.l2Cut_l1 a1 a2 FUEL ([] : List Str) (str []) (0 : Int)).bind fun (x4, x5) =>
 (app x4 ([x5])).bind fun x12 =>
 some x12

def S.ParseInt_l1 (a1 : Str) : Nat → Int → Int → Int → Option ((Int × Int))
 | 0, _, _, _ => none
 | k + 1, x1, x2, x3 =>
  (if (decide (x3 < (List.length a1 : Int))) then
   some (decide (x3 < 11))
  else
   some false).bind fun x6 =>
  if x6 then
   ((idx (α := UInt8) a1 x3).bind fun x8 =>
   if (decide (48 ≤ (UInt8.toNat x8 : Int))) then
    (idx (α := UInt8) a1 x3).bind fun x9 =>
    some (decide ((UInt8.toNat x9 : Int) ≤ 57))
   else
    some false).bind fun x7 =>
   (if x7 then
    (idx (α := UInt8) a1 x3).bind fun x12 =>
    some (w64 ((w64 (x1 * 10)) + (w64 (w8 ((UInt8.toNat x12 : Int) - 48)))), w64 (x2 + 1))
   else
    some (x1, x2)).bind fun (x10, x11) =>
   S.ParseInt_l1 a1 k x10 x11 (w64 (x3 + 1))
  else
   some (x1, x2)

def S.ParseInt (a1 : Str) : Option (Int × Bool) :=
 (S.ParseInt_l1 a1 FUEL (0 : Int) (0 : Int) (0 : Int)).bind fun (x4, x5) =>
 (if (decide (0 < (List.length a1 : Int))) then
  (idx (α := UInt8) a1 0).bind fun x14 =>
  some (decide ((UInt8.toNat x14 : Int) = 45))
 else
  some false).bind fun x13 =>
 (if x13 then
  some (w64 (0 - x4))
 else
  some x4).bind fun x15 =>
 (if (decide (9 < x5)) then
  some true
 else
  if (decide (10 < (List.length a1 : Int))) then
   some true
  else
   (S.FormatInt x15).bind fun x17 =>
   some (!decide (x17 = a1))).bind fun x16 =>
 if x16 then
  some (0, false)
 else
  some (x15, true)

def S.l2Num (a1 : Str) : Option Int :=
 (S.ParseInt a1).bind fun x1 =>
 if (!x1.2) then
  some (-100000)
 else
  some x1.1

def S.l24Access_l2 (x13 : (List Str)) : Nat → Int → (List Int) → Int → Option ((Int × (List Int)))
 | 0, _, _, _ => none
 | k + 1, x14, x15, x16 =>
  if (decide (x16 < (List.length x13 : Int))) then
   (idx x13 x16).bind fun x19 =>
   (S.l2Num x19).bind fun x20 =>
   (app x15 ([x20])).bind fun x21 =>
   S.l24Access_l2 x13 k x14 x21 (w64 (x16 + 1))
  else
   some (x14, x15)

def S.l24Access_l1 (a1 : Str) : Nat → Int → (List Int) → Int → Option (Sum (Int × (List Int)) (Int × (List Int)))
 | 0, _, _, _ => none
 | k + 1, x1, x2, x3 =>
  if (decide (x3 < (List.length a1 : Int))) then
   ((idx (α := UInt8) a1 x3).bind fun x7 =>
   if (decide ((UInt8.toNat x7 : Int) = 40)) then
    (idx (α := UInt8) a1 (w64 ((List.length a1 : Int) - 1))).bind fun x8 =>
    if (decide ((UInt8.toNat x8 : Int) = 41)) then
     (idx (α := UInt8) a1 0).bind fun x9 =>
     some (decide ((UInt8.toNat x9 : Int) = 109))
    else
     some false
   else
    some false).bind fun x6 =>
   if x6 then
    (subS a1 1 x3).bind fun x10 =>
    (S.l2Num x10).bind fun x11 =>
    (subS a1 (w64 (x3 + 1)) (w64 ((List.length a1 : Int) - 1))).bind fun x12 =>
    if (decide (x12 = (str []))) then
     some (.inr (x11, []))
    else
     (S.l2Cut x12 44).bind fun x13 =>
     (S.l24Access_l2 x13 FUEL x11 ([]) (0 : Int)).bind fun (x17, x18) =>
     some (.inr (x17, x18))
   else
    S.l24Access_l1 a1 k x1 x2 (w64 (x3 + 1))
  else
   some (.inl (x1, x2))

def S.l24Access (a1 : Str) : Option (Int × (List Int)) :=
 (S.l24Access_l1 a1 FUEL (0 : Int) ([]) (0 : Int)).bind fun o => match o with
  | .inl (x4, x5) =>
   some ((-1), [])
  | .inr r => some r

def S.ParseCursor (a1 : Str) : Option (((Int × (List Int)) × Int × Int) × Bool) :=
 (S.l2Cut a1 43).bind fun x1 =>
 if (!decide ((List.length x1 : Int) = 2)) then
  some (((0, []), 0, 0), false)
 else
  (idx x1 1).bind fun x2 =>
  (S.l2Cut x2 64).bind fun x3 =>
  if (!decide ((List.length x3 : Int) = 2)) then
   some (((0, []), 0, 0), false)
  else
   ((idx x1 0).bind fun x8 =>
   (idx x3 0).bind fun x9 =>
   (idx x3 1).bind fun x10 =>
   (S.l24Access x8).bind fun x11 =>
   (S.l2Num x9).bind fun x12 =>
   (S.l2Num x10).bind fun x13 =>
   some (x11.1, x11.2, x12, x13)).bind fun (x4, x5, x6, x7) =>
   (S.FormatCursor ((x4, x5), x6, x7)).bind fun x14 =>
   if (!decide (x14 = a1)) then
    some (((0, []), 0, 0), false)
   else
    some (((x4, x5), x6, x7), true)

def M.within (a1 : Int) (a2 : Int) (a3 : Int) : Option Bool :=
 (if (decide (a2 ≤ a1)) then
  some (decide (a1 ≤ a3))
 else
  some false).bind fun x1 =>
 some x1

def Strconv.Itoa (a1 : Int) : Option Str :=
 itoaF a1

def M.FormatInt (a1 : Int) : Option Str :=
 (Strconv.Itoa a1).bind fun x1 =>
 some x1

def M.isValue (a1 : Int) : Option Bool :=
 (M.within a1 0 9).bind fun x1 =>
 some x1

def M.areValues_c1 (a1 : Int) : Option Bool :=
 (M.isValue a1).bind fun x1 =>
 some (!x1)

def Slices.IndexFunc_Lint_int_M_areValues_c1_l1 (a1 : (List Int)) : Nat → Int → Option (Sum Unit Int)
 | 0, _ => none
 | k + 1, x1 =>
  if (decide (x1 < (List.length a1 : Int))) then
   (idx a1 x1).bind fun x2 =>
   (M.areValues_c1 x2).bind fun x3 =>
   if x3 then
    some (.inr x1)
   else
    Slices.IndexFunc_Lint_int_M_areValues_c1_l1 a1 k (w64 (x1 + 1))
  else
   some (.inl ())

def Slices.IndexFunc_Lint_int_M_areValues_c1 (a1 : (List Int)) : Option Int :=
 (Slices.IndexFunc_Lint_int_M_areValues_c1_l1 a1 FUEL (0 : Int)).bind fun o => match o with
  | .inl () =>
   some (-1)
  | .inr r => some r

def Slices.ContainsFunc_Lint_int_M_areValues_c1 (a1 : (List Int)) : Option Bool :=
 (Slices.IndexFunc_Lint_int_M_areValues_c1 a1).bind fun x1 =>
 some (decide (0 ≤ x1))

def M.areValues (a1 : (List Int)) : Option Bool :=
 (Slices.ContainsFunc_Lint_int_M_areValues_c1 a1).bind fun x1 =>
 some (!x1)

def Strings.Join (a1 : (List Str)) (a2 : Str) : Option Str :=
 joinS a1 a2

def M.joined_l1 (a1 : (List Int)) : Nat → (List Str) → Int → Option ((List Str))
 | 0, _, _ => none
 | k + 1, x1, x2 =>
  if (decide (x2 < (List.length a1 : Int))) then
   (idx a1 x2).bind fun x4 =>
   (M.FormatInt x4).bind fun x5 =>
   (app x1 ([x5])).bind fun x6 =>
   M.joined_l1 a1 k x6 (w64 (x2 + 1))
  else
   some x1

def M.joined (a1 : (List Int)) (a2 : Str) : Option Str :=
 (M.joined_l1 a1 FUEL ([] : List Str) (0 : Int)).bind fun x3 =>
 (Strings.Join x3 a2).bind fun x7 =>
 some x7

def M.FormatAccess (a1 : (Int × (List Int))) : Option Str :=
 ((M.within a1.1 0 4).bind fun x2 =>
 if (!x2) then
  some true
 else
  if (decide (3 < (List.length a1.2 : Int))) then
   some true
  else
   (M.areValues a1.2).bind fun x3 =>
   some (!x3)).bind fun x1 =>
 if x1 then
  some (str [])
 else
  (M.FormatInt a1.1).bind fun x4 =>
  (cat (str [109]) x4).bind fun x5 =>
  (cat x5 (str [40])).bind fun x6 =>
  (M.joined a1.2 (str [44])).bind fun x7 =>
  (cat x6 x7).bind fun x8 =>
  (cat x8 (str [41])).bind fun x9 =>
  some x9

def M.FormatCursor (a1 : ((Int × (List Int)) × Int × Int)) : Option Str :=
 (M.FormatAccess (a1.1.1, a1.1.2)).bind fun x1 =>
 (if (decide (x1 = (str []))) then
  some true
 else
  (M.within a1.2.1 0 1000).bind fun x3 =>
  if (!x3) then
   some true
  else
   (M.within a1.2.2 0 1000).bind fun x4 =>
   some (!x4)).bind fun x2 =>
 if x2 then
  some (str [])
 else
  (cat x1 (str [43])).bind fun x5 =>
  (M.FormatInt a1.2.1).bind fun x6 =>
  (cat x5 x6).bind fun x7 =>
  (cat x7 (str [64])).bind fun x8 =>
  (M.FormatInt a1.2.2).bind fun x9 =>
  (cat x8 x9).bind fun x10 =>
  some x10

def Strings.Cut (a1 : Str) (a2 : Str) : Option (Str × Str × Bool) :=
 cutS a1 a2

def Strconv.Atoi (a1 : Str) : Option (Int × Bool) :=
 atoiP a1

def M.ParseInt (a1 : Str) : Option (Int × Bool) :=
 (Strconv.Atoi a1).bind fun x1 =>
 (if x1.2 then
  some true
 else
  (M.within x1.1 (-999999999) 999999999).bind fun x3 =>
  if (!x3) then
   some true
  else
   (M.FormatInt x1.1).bind fun x4 =>
   some (!decide (x4 = a1))).bind fun x2 =>
 if x2 then
  some (0, false)
 else
  some (x1.1, true)

def Strings.TrimPrefix (a1 : Str) (a2 : Str) : Option Str :=
 trimPrefixS a1 a2

def Strings.HasSuffix (a1 : Str) (a2 : Str) : Option Bool :=
 hasSuffixS a1 a2

def Strings.TrimSuffix (a1 : Str) (a2 : Str) : Option Str :=
 trimSuffixS a1 a2

def Strings.Split (a1 : Str) (a2 : Str) : Option (List Str) :=
 splitS a1 a2

def M.readCall (a1 : Str) (a2 : Str) : Option (Int × (List Str) × Bool) :=
 (Strings.Cut a2 (str [40])).bind fun x1 =>
 (Strings.TrimPrefix x1.1 a1).bind fun x2 =>
 (M.ParseInt x2).bind fun x3 =>
 (if (!x1.2.2) then
  some true
 else
  if (!x3.2) then
   some true
  else
   (Strings.HasSuffix x1.2.1 (str [41])).bind fun x5 =>
   some (!x5)).bind fun x4 =>
 if x4 then
  some (0, [], false)
 else
  (Strings.TrimSuffix x1.2.1 (str [41])).bind fun x6 =>
  if (decide (x6 = (str []))) then
   some (x3.1, [], true)
  else
   (Strings.Split x6 (str [44])).bind fun x7 =>
   some (x3.1, x7, true)

def M.readInts_l1 (a1 : (List Str)) : Nat → (List Int) → Int → Option (Sum (List Int) ((List Int) × Bool))
 | 0, _, _ => none
 | k + 1, x1, x2 =>
  if (decide (x2 < (List.length a1 : Int))) then
   (idx a1 x2).bind fun x4 =>
   (M.ParseInt x4).bind fun x5 =>
   if (!x5.2) then
    some (.inr ([], false))
   else
    (app x1 ([x5.1])).bind fun x6 =>
    M.readInts_l1 a1 k x6 (w64 (x2 + 1))
  else
   some (.inl x1)

def M.readInts (a1 : (List Str)) : Option ((List Int) × Bool) :=
 (M.readInts_l1 a1 FUEL ([] : List Int) (0 : Int)).bind fun o => match o with
  | .inl x3 =>
   some (x3, true)
  | .inr r => some r

def M.readAccess (a1 : Str) : Option ((Int × (List Int)) × Bool) :=
 (M.readCall (str [109]) a1).bind fun x1 =>
 (M.readInts x1.2.1).bind fun x2 =>
 (if x1.2.2 then
  if x2.2 then
   (M.FormatAccess (x1.1, x2.1)).bind fun x6 =>
   some (x1.1, x2.1, (decide (x6 = a1)))
  else
   some (x1.1, x2.1, false)
 else
  some (x1.1, x2.1, false)).bind fun (x3, x4, x5) =>
 some ((x3, x4), x5)

def M.ParseCursor (a1 : Str) : Option (((Int × (List Int)) × Int × Int) × Bool) :=
 (Strings.Cut a1 (str [43])).bind fun x1 =>
 (Strings.Cut x1.2.1 (str [64])).bind fun x2 =>
 (M.readAccess x1.1).bind fun x3 =>
 (M.ParseInt x2.1).bind fun x4 =>
 (M.ParseInt x2.2.1).bind fun x5 =>
 (if (!x3.2) then
  some true
 else
  if (!x4.2) then
   some true
  else
   if (!x5.2) then
    some true
   else
    (M.FormatCursor ((x3.1.1, x3.1.2), x4.1, x5.1)).bind fun x7 =>
    some (!decide (x7 = a1))).bind fun x6 =>
 if x6 then
  some (((0, []), 0, 0), false)
 else
  some (((x3.1.1, x3.1.2), x4.1, x5.1), true)

def Q.eqIntS_l1 (a1 : (List Int)) (a2 : (List Int)) : Nat → Int → Option (Sum Unit Bool)
 | 0, _ => none
 | k + 1, x1 =>
  if (decide (x1 < (List.length a1 : Int))) then
   (idx a1 x1).bind fun x2 =>
   (idx a2 x1).bind fun x3 =>
   if (!decide (x2 = x3)) then
    some (.inr false)
   else
    Q.eqIntS_l1 a1 a2 k (w64 (x1 + 1))
  else
   some (.inl ())

def Q.eqIntS (a1 : (List Int)) (a2 : (List Int)) : Option Bool :=
 if (!decide ((List.length a1 : Int) = (List.length a2 : Int))) then
  some false
 else
  (Q.eqIntS_l1 a1 a2 FUEL (0 : Int)).bind fun o => match o with
   | .inl () =>
    some true
   | .inr r => some r

def Q.eqAccess (a1 : (Int × (List Int))) (a2 : (Int × (List Int))) : Option Bool :=
 if (!decide (a1.1 = a2.1)) then
  some false
 else
  (Q.eqIntS a1.2 a2.2).bind fun x1 =>
  if (!x1) then
   some false
  else
   some true

def Q.eqCursor (a1 : ((Int × (List Int)) × Int × Int)) (a2 : ((Int × (List Int)) × Int × Int)) : Option Bool :=
 (Q.eqAccess (a1.1.1, a1.1.2) (a2.1.1, a2.1.2)).bind fun x1 =>
 if (!x1) then
  some false
 else
  if (!decide (a1.2.1 = a2.2.1)) then
   some false
  else
   if (!decide (a1.2.2 = a2.2.2)) then
    some false
   else
    some true

def Q.markIntS_l1  : Nat → (List Int) → Int → Int → Option (((List Int) × Int))
 | 0, _, _, _ => none
 | k + 1, x1, x2, x3 =>
  if (decide (x3 < (List.length x1 : Int))) then
   (idx x1 x3).bind fun x6 =>
   Q.markIntS_l1 k (List.set x1 (Int.toNat x3) x2) (w64 (x2 + 1)) (w64 (x3 + 1))
  else
   some (x1, x2)

def Q.markIntS (a1 : (List Int)) (a2 : Int) : Option (Int × (List Int)) :=
 (Q.markIntS_l1 FUEL a1 a2 (0 : Int)).bind fun (x4, x5) =>
 some (x5, x4)

def Q.markAccess (a1 : (Int × (List Int))) (a2 : Int) : Option (Int × (Int × (List Int))) :=
 (Q.markIntS a1.2 a2).bind fun x1 =>
 some (x1.1, (a1.1, x1.2))

def Q.markCursor (a1 : ((Int × (List Int)) × Int × Int)) (a2 : Int) : Option (Int × ((Int × (List Int)) × Int × Int)) :=
 (Q.markAccess (a1.1.1, a1.1.2) a2).bind fun x1 =>
 some (x1.1, ((a1.1.1, x1.2.2), a1.2.1, a1.2.2))

def Q.heldIntS_l1 (a1 : (List Int)) : Nat → Int → Int → Option (Sum Int Int)
 | 0, _, _ => none
 | k + 1, x1, x2 =>
  if (decide (x2 < (List.length a1 : Int))) then
   (idx a1 x2).bind fun x4 =>
   if (!decide (x4 = x1)) then
    some (.inr (-1))
   else
    Q.heldIntS_l1 a1 k (w64 (x1 + 1)) (w64 (x2 + 1))
  else
   some (.inl x1)

def Q.heldIntS (a1 : (List Int)) (a2 : Int) : Option Int :=
 (Q.heldIntS_l1 a1 FUEL a2 (0 : Int)).bind fun o => match o with
  | .inl x3 =>
   some x3
  | .inr r => some r

def Q.heldAccess (a1 : (Int × (List Int))) (a2 : Int) : Option Int :=
 (Q.heldIntS a1.2 a2).bind fun x1 =>
 if (decide (x1 < 0)) then
  some (-1)
 else
  some x1

def Q.heldCursor (a1 : ((Int × (List Int)) × Int × Int)) (a2 : Int) : Option Int :=
 (Q.heldAccess (a1.1.1, a1.1.2) a2).bind fun x1 =>
 if (decide (x1 < 0)) then
  some (-1)
 else
  some x1

def Q.FnExactParseCursor (a1 : Str) : Option Bool :=
 if (decide (1048576 < (List.length a1 : Int))) then
  some true
 else
  (S.ParseCursor a1).bind fun x1 =>
  (M.ParseCursor a1).bind fun x2 =>
  ((Q.eqCursor ((x2.1.1.1, x2.1.1.2), x2.1.2.1, x2.1.2.2) ((x1.1.1.1, x1.1.1.2), x1.1.2.1, x1.1.2.2)).bind fun x4 =>
  if (!x4) then
   some true
  else
   some (!decide (x2.2 = x1.2))).bind fun x3 =>
  if x3 then
   some false
  else
   (Q.markCursor ((x2.1.1.1, x2.1.1.2), x2.1.2.1, x2.1.2.2) 1).bind fun x5 =>
   (Q.heldCursor ((x2.1.1.1, x5.2.1.2), x2.1.2.1, x2.1.2.2) 1).bind fun x6 =>
   if (decide (x6 < 0)) then
    some false
   else
    if (!decide (x6 = x5.1)) then
     some false
    else
     (M.ParseCursor a1).bind fun x7 =>
     ((Q.eqCursor ((x7.1.1.1, x7.1.1.2), x7.1.2.1, x7.1.2.2) ((x1.1.1.1, x1.1.1.2), x1.1.2.1, x1.1.2.2)).bind fun x9 =>
     if (!x9) then
      some true
     else
      some (!decide (x7.2 = x1.2))).bind fun x8 =>
     if x8 then
      some false
     else
      (Q.heldCursor ((x2.1.1.1, x5.2.1.2), x2.1.2.1, x2.1.2.2) 1).bind fun x10 =>
      if (decide (x10 < 0)) then
       some false
      else
       if (!decide (x10 = x5.1)) then
        some false
       else
        some true

end Go.Gx.Px
