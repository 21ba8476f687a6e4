/- The Go functions as pure Lean functions, printed by program. Conditions: none. -/
import Derived.Test.YtbgcgjhbnclpdaaDoorGxHo
import Derived.Test.YtbgcgjhbnclpdaaDoorGxSd
set_option linter.unusedVariables false
namespace Go.Gx.Px

def Q.eqIntS_l1 (a1 : (List Int)) (a2 : (List Int)) : Nat → Int → Option (Sum Unit Bool)
 | 0, _ => none
 | k + 1, x1 =>
  if (decide (x1 < (List.length a1 : Int))) then
   (idx a1 x1).bind fun x2 =>
   (idx a2 x1).bind fun x3 =>
   if (!decide (x2 = x3)) then
    some (.inr false)
   else
    Q.eqIntS_l1 a1 a2 k (w64 (x1 + 1))
  else
   some (.inl ())

def Q.eqIntS (a1 : (List Int)) (a2 : (List Int)) : Option Bool :=
 if (!decide ((List.length a1 : Int) = (List.length a2 : Int))) then
  some false
 else
  (Q.eqIntS_l1 a1 a2 FUEL (0 : Int)).bind fun o => match o with
   | .inl () =>
    some true
   | .inr r => some r

def Q.eqFact (a1 : (Int × (List Int))) (a2 : (Int × (List Int))) : Option Bool :=
 if (!decide (a1.1 = a2.1)) then
  some false
 else
  (Q.eqIntS a1.2 a2.2).bind fun x1 =>
  if (!x1) then
   some false
  else
   some true

def Q.eqFactS_l1 (a1 : (List (Int × (List Int)))) (a2 : (List (Int × (List Int)))) : Nat → Int → Option (Sum Unit Bool)
 | 0, _ => none
 | k + 1, x1 =>
  if (decide (x1 < (List.length a1 : Int))) then
   (idx a1 x1).bind fun x2 =>
   (idx a2 x1).bind fun x3 =>
   (Q.eqFact x2 x3).bind fun x4 =>
   if (!x4) then
    some (.inr false)
   else
    Q.eqFactS_l1 a1 a2 k (w64 (x1 + 1))
  else
   some (.inl ())

def Q.eqFactS (a1 : (List (Int × (List Int)))) (a2 : (List (Int × (List Int)))) : Option Bool :=
 if (!decide ((List.length a1 : Int) = (List.length a2 : Int))) then
  some false
 else
  (Q.eqFactS_l1 a1 a2 FUEL (0 : Int)).bind fun o => match o with
   | .inl () =>
    some true
   | .inr r => some r

def S.l1In (a1 : Int) (a2 : Int) (a3 : Int) : Option Bool :=
 (if (decide (a2 ≤ a1)) then
  some (decide (a1 ≤ a3))
 else
  some false).bind fun x1 =>
 some x1

def S.EncodeVarint_l1  : Nat → Int → (List UInt8) → Option ((Int × (List UInt8)))
 | 0, _, _ => none
 | k + 1, x2, x3 =>
  if (decide (128 ≤ x2)) then
   (app x3 ([(u8 (w64 (128 + (x2.tmod 128))))])).bind fun x6 =>
   S.EncodeVarint_l1 k (w64 (x2.tdiv 128)) x6
  else
   some (x2, x3)

def S.EncodeVarint (a1 : Int) : Option Str :=
 (S.l1In a1 0 562949953421311).bind fun x1 =>
 if (!x1) then
  some (str [])
 else
  (S.EncodeVarint_l1 FUEL a1 ([] : List UInt8)).bind fun (x4, x5) =>
  (app x5 ([(u8 x4)])).bind fun x7 =>
  some (Str.of x7)

def S.FormatInt_l1  : Nat → Int → Str → Option (Str)
 | 0, _, _ => none
 | k + 1, x1, x2 =>
  if (!decide (x1 = 0)) then
   (if (decide ((x1.tmod 10) < 0)) then
    some (w64 (0 - (x1.tmod 10)))
   else
    some (x1.tmod 10)).bind fun x4 =>
   (cat (Str.of ([(u8 (w64 (48 + x4)))])) x2).bind fun x5 =>
   S.FormatInt_l1 k (w64 (x1.tdiv 10)) x5
  else
   some x2

def S.FormatInt (a1 : Int) : Option Str :=
 if (decide (a1 = 0)) then
  some (str [48])
 else
  (S.FormatInt_l1 FUEL a1 (str [])).bind fun x3 =>
  if (decide (a1 < 0)) then
   (cat (str [45]) x3).bind fun x6 =>
   some x6
  else
   some x3

def S.l2List_l1 (a1 : (List Int)) : Nat → Str → Int → Option (Str)
 | 0, _, _ => none
 | k + 1, x1, x2 =>
  if (decide (x2 < (List.length a1 : Int))) then
   (if (decide (0 < x2)) then
    (cat x1 (str [44])).bind fun x5 =>
    some x5
   else
    some x1).bind fun x4 =>
   (idx a1 x2).bind fun x6 =>
   (S.FormatInt x6).bind fun x7 =>
   (cat x4 x7).bind fun x8 =>
   S.l2List_l1 a1 k x8 (w64 (x2 + 1))
  else
   some x1

def S.l2List (a1 : (List Int)) : Option Str :=
 (S.l2List_l1 a1 FUEL (str []) (0 : Int)).bind fun x3 =>
 some x3

def S.FormatFact_l1 (a1 : (Int × (List Int))) : Nat → Int → Option (Sum Unit Str)
 | 0, _ => none
 | k + 1, x4 =>
  if (decide (x4 < (List.length a1.2 : Int))) then
   (idx a1.2 x4).bind fun x5 =>
   (S.l1In x5 0 9).bind fun x6 =>
   if (!x6) then
    some (.inr (str []))
   else
    S.FormatFact_l1 a1 k (w64 (x4 + 1))
  else
   some (.inl ())

def S.FormatFact (a1 : (Int × (List Int))) : Option Str :=
 ((S.l1In a1.1 0 2).bind fun x2 =>
 if (!x2) then
  some true
 else
  (S.l1In (List.length a1.2 : Int) 1 3).bind fun x3 =>
  some (!x3)).bind fun x1 =>
 if x1 then
  some (str [])
 else
  (S.FormatFact_l1 a1 FUEL (0 : Int)).bind fun o => match o with
   | .inl () =>
    (S.FormatInt a1.1).bind fun x7 =>
    (cat (str [114]) x7).bind fun x8 =>
    (cat x8 (str [40])).bind fun x9 =>
    (S.l2List a1.2).bind fun x10 =>
    (cat x9 x10).bind fun x11 =>
    (cat x11 (str [41])).bind fun x12 =>
    some x12
   | .inr r => some r

def S.EncodeReply_l2 (a1 : (List (Int × (List Int)))) (x3 : Int) : Nat → Str → Int → Option (Str)
 | 0, _, _ => none
 | k + 1, x13, x14 =>
  (idx a1 x3).bind fun x16 =>
  if (decide (x14 < (List.length x16.2 : Int))) then
   (idx a1 x3).bind fun x17 =>
   (idx x17.2 x14).bind fun x18 =>
   (S.EncodeVarint x18).bind fun x19 =>
   (cat x13 x19).bind fun x20 =>
   S.EncodeReply_l2 a1 x3 k x20 (w64 (x14 + 1))
  else
   some x13

def S.EncodeReply_l1 (a1 : (List (Int × (List Int)))) : Nat → Str → Int → Option (Sum Str Str)
 | 0, _, _ => none
 | k + 1, x2, x3 =>
  if (decide (x3 < (List.length a1 : Int))) then
   (idx a1 x3).bind fun x5 =>
   (S.FormatFact x5).bind fun x6 =>
   if (decide (x6 = (str []))) then
    some (.inr (str []))
   else
    (idx a1 x3).bind fun x7 =>
    (idx a1 x3).bind fun x8 =>
    (S.EncodeVarint x7.1).bind fun x9 =>
    (cat x2 x9).bind fun x10 =>
    (S.EncodeVarint (List.length x8.2 : Int)).bind fun x11 =>
    (cat x10 x11).bind fun x12 =>
    (S.EncodeReply_l2 a1 x3 FUEL x12 (0 : Int)).bind fun x15 =>
    S.EncodeReply_l1 a1 k x15 (w64 (x3 + 1))
  else
   some (.inl x2)

def S.EncodeReply (a1 : (List (Int × (List Int)))) : Option Str :=
 if (decide (24 < (List.length a1 : Int))) then
  some (str [])
 else
  (S.EncodeVarint (List.length a1 : Int)).bind fun x1 =>
  (S.EncodeReply_l1 a1 FUEL x1 (0 : Int)).bind fun o => match o with
   | .inl x4 =>
    some x4
   | .inr r => some r

def S.DecodeVarint_l2 (a1 : Str) : Nat → Int → Int → Option (Int)
 | 0, _, _ => none
 | k + 1, x3, x4 =>
  if (decide (0 ≤ x4)) then
   (idx (α := UInt8) a1 x4).bind fun x6 =>
   S.DecodeVarint_l2 a1 k (w64 ((w64 (x3 * 128)) + ((w64 (UInt8.toNat x6 : Int)).tmod 128))) (w64 (x4 - 1))
  else
   some x3

def S.DecodeVarint_l1 (a1 : Str) : Nat → Int → Option (Sum Unit (Int × Int))
 | 0, _ => none
 | k + 1, x1 =>
  (if (decide (x1 ≤ 7)) then
   some (decide (x1 ≤ (List.length a1 : Int)))
  else
   some false).bind fun x2 =>
  if x2 then
   (S.DecodeVarint_l2 a1 FUEL (0 : Int) (w64 (x1 - 1))).bind fun x5 =>
   (subS a1 0 x1).bind fun x7 =>
   (S.EncodeVarint x5).bind fun x8 =>
   if (decide (x8 = x7)) then
    some (.inr (x5, x1))
   else
    S.DecodeVarint_l1 a1 k (w64 (x1 + 1))
  else
   some (.inl ())

def S.DecodeVarint (a1 : Str) : Option (Int × Int) :=
 (S.DecodeVarint_l1 a1 FUEL (1 : Int)).bind fun o => match o with
  | .inl () =>
   some (0, 0)
  | .inr r => some r

def S.l26Numbers_l1  : Nat → Str → (List Int) → Option (Sum (List Int) ((List Int) × Bool))
 | 0, _, _ => none
 | k + 1, x1, x2 =>
  if (decide (0 < (List.length x1 : Int))) then
   (S.DecodeVarint x1).bind fun x4 =>
   if (decide (x4.2 = 0)) then
    some (.inr (([] : List Int), false))
   else
    (app x2 ([x4.1])).bind fun x5 =>
    (subS x1 x4.2 (List.length x1 : Int)).bind fun x6 =>
    S.l26Numbers_l1 k x6 x5
  else
   some (.inl x2)

def S.l26Numbers (a1 : Str) : Option ((List Int) × Bool) :=
 (S.l26Numbers_l1 FUEL a1 ([] : List Int)).bind fun o => match o with
  | .inl x3 =>
   some (x3, true)
  | .inr r => some r

def S.l2One (a1 : Int) (a2 : (List Int)) : Option (Int × (List Int)) :=
 (app ([] : List Int) a2).bind fun x1 =>
 some (a1, x1)

def S.DecodeReply_l1 (x1 : ((List Int) × Bool)) : Nat → (List (Int × (List Int))) → Int → Int → Option (Sum (List (Int × (List Int))) ((List (Int × (List Int))) × Bool))
 | 0, _, _, _ => none
 | k + 1, x4, x5, x6 =>
  (idx x1.1 0).bind fun x8 =>
  if (decide (x6 < x8)) then
   (if (decide ((List.length x1.1 : Int) < (w64 (x5 + 2)))) then
    some true
   else
    (idx x1.1 (w64 (x5 + 1))).bind fun x10 =>
    if (decide (3 < x10)) then
     some true
    else
     (idx x1.1 (w64 (x5 + 1))).bind fun x11 =>
     some (decide ((List.length x1.1 : Int) < (w64 ((w64 (x5 + 2)) + x11))))).bind fun x9 =>
   if x9 then
    some (.inr (([] : List (Int × (List Int))), false))
   else
    ((idx x1.1 x5).bind fun x13 =>
    (idx x1.1 (w64 (x5 + 1))).bind fun x14 =>
    (sub x1.1 (w64 (x5 + 2)) (w64 ((w64 (x5 + 2)) + x14))).bind fun x15 =>
    (S.l2One x13 x15).bind fun x16 =>
    (app x4 ([(x16.1, x16.2)])).bind fun x17 =>
    some x17).bind fun x12 =>
    (idx x1.1 (w64 (x5 + 1))).bind fun x18 =>
    S.DecodeReply_l1 x1 k x12 (w64 ((w64 (x5 + 2)) + x18)) (w64 (x6 + 1))
  else
   some (.inl x4)

def S.DecodeReply (a1 : Str) : Option ((List (Int × (List Int))) × Bool) :=
 (S.l26Numbers a1).bind fun x1 =>
 (if (!x1.2) then
  some true
 else
  if (decide ((List.length x1.1 : Int) < 1)) then
   some true
  else
   (idx x1.1 0).bind fun x3 =>
   some (decide (24 < x3))).bind fun x2 =>
 if x2 then
  some (([] : List (Int × (List Int))), false)
 else
  (S.DecodeReply_l1 x1 FUEL ([] : List (Int × (List Int))) (1 : Int) (0 : Int)).bind fun o => match o with
   | .inl x7 =>
    (S.EncodeReply x7).bind fun x19 =>
    if (!decide (x19 = a1)) then
     some (([] : List (Int × (List Int))), false)
    else
     some (x7, true)
   | .inr r => some r

def M.within (a1 : Int) (a2 : Int) (a3 : Int) : Option Bool :=
 (if (decide (a2 ≤ a1)) then
  some (decide (a1 ≤ a3))
 else
  some false).bind fun x1 =>
 some x1

def M.EncodeVarint_l1  : Nat → Int → (List UInt8) → Option ((Int × (List UInt8)))
 | 0, _, _ => none
 | k + 1, x2, x3 =>
  if (decide (128 ≤ x2)) then
   (app x3 ([(UInt8.ofNat (Int.toNat (bor8 (w8 x2) 128)))])).bind fun x6 =>
   M.EncodeVarint_l1 k (shr x2 7) x6
  else
   some (x2, x3)

def M.EncodeVarint (a1 : Int) : Option Str :=
 (M.within a1 0 562949953421311).bind fun x1 =>
 if (!x1) then
  some (str [])
 else
  (M.EncodeVarint_l1 FUEL a1 ([] : List UInt8)).bind fun (x4, x5) =>
  (app x5 ([(u8 x4)])).bind fun x7 =>
  some (Str.of x7)

def M.varints_l (o : Str) : List Int → Option Str
 | [] => some o
 | n :: l => (M.EncodeVarint n).bind fun x => if List.length o + List.length x ≤ 1000000 then M.varints_l (List.append o x) l else none
def M.varints (a1 : (List Int)) : Option Str :=
 M.varints_l (str []) a1

def Strconv.Itoa (a1 : Int) : Option Str :=
 itoaS a1

def M.FormatInt (a1 : Int) : Option Str :=
 (Strconv.Itoa a1).bind fun x1 =>
 some x1

def M.isValue (a1 : Int) : Option Bool :=
 (M.within a1 0 9).bind fun x1 =>
 some x1

def M.areValues_c1 (a1 : Int) : Option Bool :=
 (M.isValue a1).bind fun x1 =>
 some (!x1)

def Slices.IndexFunc_Lint_int_M_areValues_c1_l1 (a1 : (List Int)) : Nat → Int → Option (Sum Unit Int)
 | 0, _ => none
 | k + 1, x1 =>
  if (decide (x1 < (List.length a1 : Int))) then
   (idx a1 x1).bind fun x2 =>
   (M.areValues_c1 x2).bind fun x3 =>
   if x3 then
    some (.inr x1)
   else
    Slices.IndexFunc_Lint_int_M_areValues_c1_l1 a1 k (w64 (x1 + 1))
  else
   some (.inl ())

def Slices.IndexFunc_Lint_int_M_areValues_c1 (a1 : (List Int)) : Option Int :=
 (Slices.IndexFunc_Lint_int_M_areValues_c1_l1 a1 FUEL (0 : Int)).bind fun o => match o with
  | .inl () =>
   some (-1)
  | .inr r => some r

def Slices.ContainsFunc_Lint_int_M_areValues_c1 (a1 : (List Int)) : Option Bool :=
 (Slices.IndexFunc_Lint_int_M_areValues_c1 a1).bind fun x1 =>
 some (decide (0 ≤ x1))

def M.areValues (a1 : (List Int)) : Option Bool :=
 (Slices.ContainsFunc_Lint_int_M_areValues_c1 a1).bind fun x1 =>
 some (!x1)

def Strings.Join (a1 : (List Str)) (a2 : Str) : Option Str :=
 joinS a1 a2

def M.joined_l1 (a1 : (List Int)) : Nat → (List Str) → Int → Option ((List Str))
 | 0, _, _ => none
 | k + 1, x1, x2 =>
  if (decide (x2 < (List.length a1 : Int))) then
   (idx a1 x2).bind fun x4 =>
   (M.FormatInt x4).bind fun x5 =>
   (app x1 ([x5])).bind fun x6 =>
   M.joined_l1 a1 k x6 (w64 (x2 + 1))
  else
   some x1

def M.joined (a1 : (List Int)) (a2 : Str) : Option Str :=
 (M.joined_l1 a1 FUEL ([] : List Str) (0 : Int)).bind fun x3 =>
 (Strings.Join x3 a2).bind fun x7 =>
 some x7

def M.isRel (a1 : Int) : Option Bool :=
 (M.within a1 0 2).bind fun x1 =>
 some x1

def M.FormatFact (a1 : (Int × (List Int))) : Option Str :=
 ((M.isRel a1.1).bind fun x2 =>
 if (!x2) then
  some true
 else
  (M.within (List.length a1.2 : Int) 1 3).bind fun x3 =>
  if (!x3) then
   some true
  else
   (M.areValues a1.2).bind fun x4 =>
   some (!x4)).bind fun x1 =>
 if x1 then
  some (str [])
 else
  (M.FormatInt a1.1).bind fun x5 =>
  (cat (str [114]) x5).bind fun x6 =>
  (cat x6 (str [40])).bind fun x7 =>
  (M.joined a1.2 (str [44])).bind fun x8 =>
  (cat x7 x8).bind fun x9 =>
  (cat x9 (str [41])).bind fun x10 =>
  some x10

def M.EncodeReply_l1 (a1 : (List (Int × (List Int)))) : Nat → Str → Int → Option (Sum Str Str)
 | 0, _, _ => none
 | k + 1, x2, x3 =>
  if (decide (x3 < (List.length a1 : Int))) then
   (idx a1 x3).bind fun x5 =>
   (M.FormatFact (x5.1, x5.2)).bind fun x6 =>
   if (decide (x6 = (str []))) then
    some (.inr (str []))
   else
    (M.varints ([x5.1, (List.length x5.2 : Int)])).bind fun x7 =>
    (M.varints x5.2).bind fun x8 =>
    (cat x7 x8).bind fun x9 =>
    (cat x2 x9).bind fun x10 =>
    M.EncodeReply_l1 a1 k x10 (w64 (x3 + 1))
  else
   some (.inl x2)

def M.EncodeReply (a1 : (List (Int × (List Int)))) : Option Str :=
 if (decide (24 < (List.length a1 : Int))) then
  some (str [])
 else
  (M.varints ([(List.length a1 : Int)])).bind fun x1 =>
  (M.EncodeReply_l1 a1 FUEL x1 (0 : Int)).bind fun o => match o with
   | .inl x4 =>
    some x4
   | .inr r => some r

def M.DecodeVarint_l1 (a1 : Str) : Nat → Int → Int → Option (Sum Unit (Int × Int))
 | 0, _, _ => none
 | k + 1, x1, x2 =>
  if (decide (x2 < (if (List.length a1 : Int) < 7 then (List.length a1 : Int) else 7))) then
   (idx (α := UInt8) a1 x2).bind fun x3 =>
   (nn (w64 (7 * x2))).bind fun _ =>
   (idx (α := UInt8) a1 x2).bind fun x4 =>
   if (decide (128 ≤ (UInt8.toNat x4 : Int))) then
    M.DecodeVarint_l1 a1 k (bor x1 (shl (w64 (band8 (UInt8.toNat x3 : Int) 127)) (w64 (7 * x2)))) (w64 (x2 + 1))
   else
    (if (decide (0 < x2)) then
     (idx (α := UInt8) a1 x2).bind fun x6 =>
     some (decide ((UInt8.toNat x6 : Int) = 0))
    else
     some false).bind fun x5 =>
    if x5 then
     some (.inr (0, 0))
    else
     some (.inr (bor x1 (shl (w64 (band8 (UInt8.toNat x3 : Int) 127)) (w64 (7 * x2))), w64 (x2 + 1)))
  else
   some (.inl ())

def M.DecodeVarint (a1 : Str) : Option (Int × Int) :=
 (M.DecodeVarint_l1 a1 FUEL (0 : Int) (0 : Int)).bind fun o => match o with
  | .inl () =>
   some (0, 0)
  | .inr r => some r

def M.varintReader_next (a1 : (Str × Bool)) : Option (Int × (Str × Bool)) :=
 (M.DecodeVarint a1.1).bind fun x1 =>
 (if a1.2 then
  some (a1.1, true)
 else
  some (a1.1, (decide (x1.2 = 0)))).bind fun (x2, x3) =>
 (subS x2 x1.2 (List.length x2 : Int)).bind fun x4 =>
 some (x1.1, (x4, x3))

def M.varintReader_list_l1 (a2 : Int) : Nat → Str → Bool → (List Int) → Int → Option ((Str × Bool × (List Int)))
 | 0, _, _, _, _ => none
 | k + 1, x1, x2, x3, x4 =>
  if (decide (x4 < a2)) then
   if x2 then
    some (x1, x2, x3)
   else
    (M.varintReader_next (x1, x2)).bind fun x8 =>
    (app x3 ([x8.1])).bind fun x9 =>
    M.varintReader_list_l1 a2 k x8.2.1 x8.2.2 x9 (w64 (x4 + 1))
  else
   some (x1, x2, x3)

def M.varintReader_list (a1 : (Str × Bool)) (a2 : Int) : Option ((List Int) × (Str × Bool)) :=
 (M.varintReader_list_l1 a2 FUEL a1.1 a1.2 ([] : List Int) (0 : Int)).bind fun (x5, x6, x7) =>
 some (x7, (x5, x6))

def M.DecodeReply_l1 (x1 : (Int × (Str × Bool))) : Nat → Str → Bool → (List (Int × (List Int))) → Int → Option (Sum (Str × Bool × (List (Int × (List Int)))) ((List (Int × (List Int))) × Bool))
 | 0, _, _, _, _ => none
 | k + 1, x3, x4, x5, x6 =>
  if (decide (x6 < x1.1)) then
   (M.varintReader_list (x3, x4) 2).bind fun x10 =>
   (if x10.2.2 then
    some true
   else
    (idx x10.1 1).bind fun x12 =>
    some (decide (3 < x12))).bind fun x11 =>
   if x11 then
    some (.inr ([], false))
   else
    ((idx x10.1 0).bind fun x16 =>
    (idx x10.1 1).bind fun x17 =>
    (M.varintReader_list (x10.2.1, x10.2.2) x17).bind fun x18 =>
    (app x5 ([(x16, x18.1)])).bind fun x19 =>
    some (x18.2.1, x18.2.2, x19)).bind fun (x13, x14, x15) =>
    M.DecodeReply_l1 x1 k x13 x14 x15 (w64 (x6 + 1))
  else
   some (.inl (x3, x4, x5))

def M.DecodeReply (a1 : Str) : Option ((List (Int × (List Int))) × Bool) :=
 (M.varintReader_next (a1, false)).bind fun x1 =>
 (if x1.2.2 then
  some true
 else
  some (decide (24 < x1.1))).bind fun x2 =>
 if x2 then
  some ([], false)
 else
  (M.DecodeReply_l1 x1 FUEL x1.2.1 x1.2.2 ([] : List (Int × (List Int))) (0 : Int)).bind fun o => match o with
   | .inl (x7, x8, x9) =>
    (M.EncodeReply x9).bind fun x20 =>
    (if x8 then
     some true
    else
     if (decide (x20 = (str []))) then
      some true
     else
      some (!decide (x20 = a1))).bind fun x21 =>
    if x21 then
     some ([], false)
    else
     some (x9, true)
   | .inr r => some r

def Q.markIntS_l1  : Nat → (List Int) → Int → Int → Option (((List Int) × Int))
 | 0, _, _, _ => none
 | k + 1, x1, x2, x3 =>
  if (decide (x3 < (List.length x1 : Int))) then
   (idx x1 x3).bind fun x6 =>
   Q.markIntS_l1 k (List.set x1 (Int.toNat x3) x2) (w64 (x2 + 1)) (w64 (x3 + 1))
  else
   some (x1, x2)

def Q.markIntS (a1 : (List Int)) (a2 : Int) : Option (Int × (List Int)) :=
 (Q.markIntS_l1 FUEL a1 a2 (0 : Int)).bind fun (x4, x5) =>
 some (x5, x4)

def Q.markFactS_l1  : Nat → (List (Int × (List Int))) → Int → Int → Option (((List (Int × (List Int))) × Int))
 | 0, _, _, _ => none
 | k + 1, x1, x2, x3 =>
  if (decide (x3 < (List.length x1 : Int))) then
   (idx x1 x3).bind fun x6 =>
   (idx (List.set x1 (Int.toNat x3) (x2, x6.2)) x3).bind fun x7 =>
   (Q.markIntS x7.2 (w64 (x2 + 1))).bind fun x8 =>
   Q.markFactS_l1 k (List.set (List.set x1 (Int.toNat x3) (x2, x6.2)) (Int.toNat x3) (x7.1, x8.2)) x8.1 (w64 (x3 + 1))
  else
   some (x1, x2)

def Q.markFactS (a1 : (List (Int × (List Int)))) (a2 : Int) : Option (Int × (List (Int × (List Int)))) :=
 (Q.markFactS_l1 FUEL a1 a2 (0 : Int)).bind fun (x4, x5) =>
 some (x5, x4)

def Q.heldIntS_l1 (a1 : (List Int)) : Nat → Int → Int → Option (Sum Int Int)
 | 0, _, _ => none
 | k + 1, x1, x2 =>
  if (decide (x2 < (List.length a1 : Int))) then
   (idx a1 x2).bind fun x4 =>
   if (!decide (x4 = x1)) then
    some (.inr (-1))
   else
    Q.heldIntS_l1 a1 k (w64 (x1 + 1)) (w64 (x2 + 1))
  else
   some (.inl x1)

def Q.heldIntS (a1 : (List Int)) (a2 : Int) : Option Int :=
 (Q.heldIntS_l1 a1 FUEL a2 (0 : Int)).bind fun o => match o with
  | .inl x3 =>
   some x3
  | .inr r => some r

def Q.heldFactS_l1 (a1 : (List (Int × (List Int)))) : Nat → Int → Int → Option (Sum Int Int)
 | 0, _, _ => none
 | k + 1, x1, x2 =>
  if (decide (x2 < (List.length a1 : Int))) then
   (idx a1 x2).bind fun x4 =>
   if (!decide (x4.1 = x1)) then
    some (.inr (-1))
   else
    (idx a1 x2).bind fun x5 =>
    (Q.heldIntS x5.2 (w64 (x1 + 1))).bind fun x6 =>
    if (decide (x6 < 0)) then
     some (.inr (-1))
    else
     Q.heldFactS_l1 a1 k x6 (w64 (x2 + 1))
  else
   some (.inl x1)

def Q.heldFactS (a1 : (List (Int × (List Int)))) (a2 : Int) : Option Int :=
 (Q.heldFactS_l1 a1 FUEL a2 (0 : Int)).bind fun o => match o with
  | .inl x3 =>
   some x3
  | .inr r => some r

def Q.FnExactDecodeReply (a1 : Str) : Option Bool :=
 if (decide (1048576 < (List.length a1 : Int))) then
  some true
 else
  (S.DecodeReply a1).bind fun x1 =>
  (M.DecodeReply a1).bind fun x2 =>
  ((Q.eqFactS x2.1 x1.1).bind fun x4 =>
  if (!x4) then
   some true
  else
   some (!decide (x2.2 = x1.2))).bind fun x3 =>
  if x3 then
   some false
  else
   (Q.markFactS x2.1 1).bind fun x5 =>
   (Q.heldFactS x5.2 1).bind fun x6 =>
   if (decide (x6 < 0)) then
    some false
   else
    if (!decide (x6 = x5.1)) then
     some false
    else
     (M.DecodeReply a1).bind fun x7 =>
     ((Q.eqFactS x7.1 x1.1).bind fun x9 =>
     if (!x9) then
      some true
     else
      some (!decide (x7.2 = x1.2))).bind fun x8 =>
     if x8 then
      some false
     else
      (Q.heldFactS x5.2 1).bind fun x10 =>
      if (decide (x10 < 0)) then
       some false
      else
       if (!decide (x10 = x5.1)) then
        some false
       else
        some true

end Go.Gx.Px
