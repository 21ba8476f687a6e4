/- The Go functions as pure Lean functions, printed by program. Conditions: none. -/
import Derived.Test.YtbgcgjhbnclpdaaDoorGxHo
import Derived.Test.YtbgcgjhbnclpdaaDoorGxSd
set_option linter.unusedVariables false
namespace Go.Gx.Px

def Q.szIntS (a1 : (List Int)) (a2 : Int) : Option Int :=
 if (decide ((w64 (a2 - (List.length a1 : Int))) < 0)) then
  some (-1)
 else
  some (w64 (a2 - (List.length a1 : Int)))

def Q.szAccess (a1 : (Int × (List Int))) (a2 : Int) : Option Int :=
 (Q.szIntS a1.2 a2).bind fun x1 =>
 if (decide (x1 < 0)) then
  some (-1)
 else
  some x1

def Q.szCursor (a1 : ((Int × (List Int)) × Int × Int)) (a2 : Int) : Option Int :=
 (Q.szAccess (a1.1.1, a1.1.2) a2).bind fun x1 =>
 if (decide (x1 < 0)) then
  some (-1)
 else
  some x1

def S.l1In (a1 : Int) (a2 : Int) (a3 : Int) : Option Bool :=
 (if (decide (a2 ≤ a1)) then
  some (decide (a1 ≤ a3))
 else
  some false).bind fun x1 =>
 some x1

def S.FormatInt_l1  : Nat → Int → Str → Option (Str)
 | 0, _, _ => none
 | k + 1, x1, x2 =>
  if (!decide (x1 = 0)) then
   (if (decide ((x1.tmod 10) < 0)) then
    some (w64 (0 - (x1.tmod 10)))
   else
    some (x1.tmod 10)).bind fun x4 =>
   (cat (Str.of ([(u8 (w64 (48 + x4)))])) x2).bind fun x5 =>
   S.FormatInt_l1 k (w64 (x1.tdiv 10)) x5
  else
   some x2

def S.FormatInt (a1 : Int) : Option Str :=
 if (decide (a1 = 0)) then
  some (str [48])
 else
  (S.FormatInt_l1 FUEL a1 (str [])).bind fun x3 =>
  if (decide (a1 < 0)) then
   (cat (str [45]) x3).bind fun x6 =>
   some x6
  else
   some x3

def S.l2List_l1 (a1 : (List Int)) : Nat → Str → Int → Option (Str)
 | 0, _, _ => none
 | k + 1, x1, x2 =>
  if (decide (x2 < (List.length a1 : Int))) then
   (if (decide (0 < x2)) then
    (cat x1 (str [44])).bind fun x5 =>
    some x5
   else
    some x1).bind fun x4 =>
   (idx a1 x2).bind fun x6 =>
   (S.FormatInt x6).bind fun x7 =>
   (cat x4 x7).bind fun x8 =>
   S.l2List_l1 a1 k x8 (w64 (x2 + 1))
  else
   some x1

def S.l2List (a1 : (List Int)) : Option Str :=
 (S.l2List_l1 a1 FUEL (str []) (0 : Int)).bind fun x3 =>
 some x3

def S.FormatAccess_l1 (a1 : (Int × (List Int))) : Nat → Int → Option (Sum Unit Str)
 | 0, _ => none
 | k + 1, x3 =>
  if (decide (x3 < (List.length a1.2 : Int))) then
   (idx a1.2 x3).bind fun x4 =>
   (S.l1In x4 0 9).bind fun x5 =>
   if (!x5) then
    some (.inr (str []))
   else
    S.FormatAccess_l1 a1 k (w64 (x3 + 1))
  else
   some (.inl ())

def S.FormatAccess (a1 : (Int × (List Int))) : Option Str :=
 ((S.l1In a1.1 0 4).bind fun x2 =>
 if (!x2) then
  some true
 else
  some (decide (3 < (List.length a1.2 : Int)))).bind fun x1 =>
 if x1 then
  some (str [])
 else
  (S.FormatAccess_l1 a1 FUEL (0 : Int)).bind fun o => match o with
   | .inl () =>
    (S.FormatInt a1.1).bind fun x6 =>
    (cat (str [109]) x6).bind fun x7 =>
    (cat x7 (str [40])).bind fun x8 =>
    (S.l2List a1.2).bind fun x9 =>
    (cat x8 x9).bind fun x10 =>
    (cat x10 (str [41])).bind fun x11 =>
    some x11
   | .inr r => some r

def S.FormatCursor (a1 : ((Int × (List Int)) × Int × Int)) : Option Str :=
 (S.FormatAccess (a1.1.1, a1.1.2)).bind fun x1 =>
 (if (decide (x1 = (str []))) then
  some true
 else
  (S.l1In a1.2.1 0 1000).bind fun x3 =>
  if (!x3) then
   some true
  else
   (S.l1In a1.2.2 0 1000).bind fun x4 =>
   some (!x4)).bind fun x2 =>
 if x2 then
  some (str [])
 else
  (cat x1 (str [43])).bind fun x5 =>
  (S.FormatInt a1.2.1).bind fun x6 =>
  (cat x5 x6).bind fun x7 =>
  (cat x7 (str [64])).bind fun x8 =>
  (S.FormatInt a1.2.2).bind fun x9 =>
  (cat x8 x9).bind fun x10 =>
  some x10

def Q.toIntS_l1 (a1 : (List Int)) : Nat → (List Int) → Int → Option ((List Int))
 | 0, _, _ => none
 | k + 1, x2, x3 =>
  if (decide (x3 < (List.length a1 : Int))) then
   (idx a1 x3).bind fun x5 =>
   (idx x2 x3).bind fun x6 =>
   Q.toIntS_l1 a1 k (List.set x2 (Int.toNat x3) x5) (w64 (x3 + 1))
  else
   some x2

def Q.toIntS (a1 : (List Int)) : Option (List Int) :=
 (mk (List.length a1 : Int) (0 : Int)).bind fun x1 =>
 (Q.toIntS_l1 a1 FUEL x1 (0 : Int)).bind fun x4 =>
 some x4

def Q.toAccess (a1 : (Int × (List Int))) : Option (Int × (List Int)) :=
 (Q.toIntS a1.2).bind fun x1 =>
 some (a1.1, x1)

def Q.toCursor (a1 : ((Int × (List Int)) × Int × Int)) : Option ((Int × (List Int)) × Int × Int) :=
 (Q.toAccess (a1.1.1, a1.1.2)).bind fun x1 =>
 some ((x1.1, x1.2), a1.2.1, a1.2.2)

def M.within (a1 : Int) (a2 : Int) (a3 : Int) : Option Bool :=
 (if (decide (a2 ≤ a1)) then
  some (decide (a1 ≤ a3))
 else
  some false).bind fun x1 =>
 some x1

def Strconv.Itoa (a1 : Int) : Option Str :=
 itoaF a1

def M.FormatInt (a1 : Int) : Option Str :=
 (Strconv.Itoa a1).bind fun x1 =>
 some x1

def M.isValue (a1 : Int) : Option Bool :=
 (M.within a1 0 9).bind fun x1 =>
 some x1

def M.areValues_c1 (a1 : Int) : Option Bool :=
 (M.isValue a1).bind fun x1 =>
 some (!x1)

def Slices.IndexFunc_Lint_int_M_areValues_c1_l1 (a1 : (List Int)) : Nat → Int → Option (Sum Unit Int)
 | 0, _ => none
 | k + 1, x1 =>
  if (decide (x1 < (List.length a1 : Int))) then
   (idx a1 x1).bind fun x2 =>
   (M.areValues_c1 x2).bind fun x3 =>
   if x3 then
    some (.inr x1)
   else
    Slices.IndexFunc_Lint_int_M_areValues_c1_l1 a1 k (w64 (x1 + 1))
  else
   some (.inl ())

def Slices.IndexFunc_Lint_int_M_areValues_c1 (a1 : (List Int)) : Option Int :=
 (Slices.IndexFunc_Lint_int_M_areValues_c1_l1 a1 FUEL (0 : Int)).bind fun o => match o with
  | .inl () =>
   some (-1)
  | .inr r => some r

def Slices.ContainsFunc_Lint_int_M_areValues_c1 (a1 : (List Int)) : Option Bool :=
 (Slices.IndexFunc_Lint_int_M_areValues_c1 a1).bind fun x1 =>
 some (decide (0 ≤ x1))

def M.areValues (a1 : (List Int)) : Option Bool :=
 (Slices.ContainsFunc_Lint_int_M_areValues_c1 a1).bind fun x1 =>
 some (!x1)

def Strings.Join (a1 : (List Str)) (a2 : Str) : Option Str :=
 joinS a1 a2

def M.joined_l1 (a1 : (List Int)) : Nat → (List Str) → Int → Option ((List Str))
 | 0, _, _ => none
 | k + 1, x1, x2 =>
  if (decide (x2 < (List.length a1 : Int))) then
   (idx a1 x2).bind fun x4 =>
   (M.FormatInt x4).bind fun x5 =>
   (app x1 ([x5])).bind fun x6 =>
   M.joined_l1 a1 k x6 (w64 (x2 + 1))
  else
   some x1

def M.joined (a1 : (List Int)) (a2 : Str) : Option Str :=
 (M.joined_l1 a1 FUEL ([] : List Str) (0 : Int)).bind fun x3 =>
 (Strings.Join x3 a2).bind fun x7 =>
 some x7

def M.FormatAccess (a1 : (Int × (List Int))) : Option Str :=
 ((M.within a1.1 0 4).bind fun x2 =>
 if (!x2) then
  some true
 else
  if (decide (3 < (List.length a1.2 : Int))) then
   some true
  else
   (M.areValues a1.2).bind fun x3 =>
   some (!x3)).bind fun x1 =>
 if x1 then
  some (str [])
 else
  (M.FormatInt a1.1).bind fun x4 =>
  (cat (str [109]) x4).bind fun x5 =>
  (cat x5 (str [40])).bind fun x6 =>
  (M.joined a1.2 (str [44])).bind fun x7 =>
  (cat x6 x7).bind fun x8 =>
  (cat x8 (str [41])).bind fun x9 =>
  some x9

def M.FormatCursor (a1 : ((Int × (List Int)) × Int × Int)) : Option Str :=
 (M.FormatAccess (a1.1.1, a1.1.2)).bind fun x1 =>
 (if (decide (x1 = (str []))) then
  some true
 else
  (M.within a1.2.1 0 1000).bind fun x3 =>
  if (!x3) then
   some true
  else
   (M.within a1.2.2 0 1000).bind fun x4 =>
   some (!x4)).bind fun x2 =>
 if x2 then
  some (str [])
 else
  (cat x1 (str [43])).bind fun x5 =>
  (M.FormatInt a1.2.1).bind fun x6 =>
  (cat x5 x6).bind fun x7 =>
  (cat x7 (str [64])).bind fun x8 =>
  (M.FormatInt a1.2.2).bind fun x9 =>
  (cat x8 x9).bind fun x10 =>
  some x10

def Q.eqIntS_l1 (a1 : (List Int)) (a2 : (List Int)) : Nat → Int → Option (Sum Unit Bool)
 | 0, _ => none
 | k + 1, x1 =>
  if (decide (x1 < (List.length a1 : Int))) then
   (idx a1 x1).bind fun x2 =>
   (idx a2 x1).bind fun x3 =>
   if (!decide (x2 = x3)) then
    some (.inr false)
   else
    Q.eqIntS_l1 a1 a2 k (w64 (x1 + 1))
  else
   some (.inl ())

def Q.eqIntS (a1 : (List Int)) (a2 : (List Int)) : Option Bool :=
 if (!decide ((List.length a1 : Int) = (List.length a2 : Int))) then
  some false
 else
  (Q.eqIntS_l1 a1 a2 FUEL (0 : Int)).bind fun o => match o with
   | .inl () =>
    some true
   | .inr r => some r

def Q.eqAccess (a1 : (Int × (List Int))) (a2 : (Int × (List Int))) : Option Bool :=
 if (!decide (a1.1 = a2.1)) then
  some false
 else
  (Q.eqIntS a1.2 a2.2).bind fun x1 =>
  if (!x1) then
   some false
  else
   some true

def Q.eqCursor (a1 : ((Int × (List Int)) × Int × Int)) (a2 : ((Int × (List Int)) × Int × Int)) : Option Bool :=
 (Q.eqAccess (a1.1.1, a1.1.2) (a2.1.1, a2.1.2)).bind fun x1 =>
 if (!x1) then
  some false
 else
  if (!decide (a1.2.1 = a2.2.1)) then
   some false
  else
   if (!decide (a1.2.2 = a2.2.2)) then
    some false
   else
    some true

def Q.FnExactFormatCursor (a1 : ((Int × (List Int)) × Int × Int)) : Option Bool :=
 (Q.szCursor ((a1.1.1, a1.1.2), a1.2.1, a1.2.2) 1048576).bind fun x1 =>
 if (decide (x1 < 0)) then
  some true
 else
  (Q.toCursor ((a1.1.1, a1.1.2), a1.2.1, a1.2.2)).bind fun x2 =>
  (S.FormatCursor x2).bind fun x3 =>
  (Q.toCursor ((a1.1.1, a1.1.2), a1.2.1, a1.2.2)).bind fun x4 =>
  (M.FormatCursor ((x4.1.1, x4.1.2), x4.2.1, x4.2.2)).bind fun x5 =>
  if (!decide (x5 = x3)) then
   some false
  else
   (Q.toCursor ((a1.1.1, a1.1.2), a1.2.1, a1.2.2)).bind fun x6 =>
   (Q.eqCursor ((x4.1.1, x4.1.2), x4.2.1, x4.2.2) x6).bind fun x7 =>
   if (!x7) then
    some false
   else
    some true

end Go.Gx.Px
