/- The Go functions as pure Lean functions, printed by program. Conditions: none. -/
import Derived.Test.YtnccdhglieidhaaGxK
set_option linter.unusedVariables false
namespace Go.Gx.Px

def S.CheckByte_l1 (a1 : Str) : Nat → Int → Int → Option (Int)
  | 0, _, _ => none
  | k + 1, x1, x2 =>
    if (decide (x2 < (List.length a1 : Int))) then
      (idx (α := UInt8) a1 x2).bind fun x4 =>
      S.CheckByte_l1 a1 k ((w64 ((w64 (x1 * 31)) + (w64 (UInt8.toNat x4 : Int)))).tmod 251) (w64 (x2 + 1))
    else
      some x1

def S.CheckByte (a1 : Str) : Option Int :=
  (S.CheckByte_l1 a1 FUEL 7 0).bind fun x3 =>
  some x3

def S.l1In (a1 : Int) (a2 : Int) (a3 : Int) : Option Bool :=
  (if (decide (a2 ≤ a1)) then
    some (decide (a1 ≤ a3))
  else
    some false).bind fun x1 =>
  some x1

def S.EncodeVarint_l1  : Nat → Int → (List UInt8) → Option ((Int × (List UInt8)))
  | 0, _, _ => none
  | k + 1, x2, x3 =>
    if (decide (128 ≤ x2)) then
      (app x3 ([(u8 (w64 (128 + (x2.tmod 128))))])).bind fun x6 =>
      S.EncodeVarint_l1 k (w64 (x2.tdiv 128)) x6
    else
      some (x2, x3)

def S.EncodeVarint (a1 : Int) : Option Str :=
  (S.l1In a1 0 562949953421311).bind fun x1 =>
  if (!x1) then
    some (str [])
  else
    (S.EncodeVarint_l1 FUEL a1 ([] : List UInt8)).bind fun (x4, x5) =>
    (app x5 ([(u8 x4)])).bind fun x7 =>
    some (Str.of x7)

def S.EncodeFixed_l1 (a2 : Int) : Nat → Int → Str → Int → Option ((Int × Str))
  | 0, _, _, _ => none
  | k + 1, x3, x4, x5 =>
    if (decide (x5 < a2)) then
      (cat (Str.of ([(u8 (x3.tmod 256))])) x4).bind fun x8 =>
      S.EncodeFixed_l1 a2 k (w64 (x3.tdiv 256)) x8 (w64 (x5 + 1))
    else
      some (x3, x4)

def S.EncodeFixed (a1 : Int) (a2 : Int) : Option Str :=
  ((S.l1In a2 1 7).bind fun x2 =>
  if (!x2) then
    some true
  else
    some (decide (a1 < 0))).bind fun x1 =>
  if x1 then
    some (str [])
  else
    (S.EncodeFixed_l1 a2 FUEL a1 (str []) 0).bind fun (x6, x7) =>
    if (decide (0 < x6)) then
      some (str [])
    else
      some x7

def S.FrameOf (a1 : Str) : Option Str :=
  if (decide (200 < (List.length a1 : Int))) then
    some (str [])
  else
    (S.EncodeVarint (List.length a1 : Int)).bind fun x1 =>
    (cat x1 a1).bind fun x2 =>
    (S.CheckByte a1).bind fun x3 =>
    (S.EncodeFixed x3 1).bind fun x4 =>
    (cat x2 x4).bind fun x5 =>
    some x5

def M.CheckByte_l1 (a1 : Str) : Nat → Int → Int → Option (Int)
  | 0, _, _ => none
  | k + 1, x1, x2 =>
    if (decide (x2 < (List.length a1 : Int))) then
      (idx (α := UInt8) a1 x2).bind fun x4 =>
      M.CheckByte_l1 a1 k ((w64 ((w64 (31 * x1)) + (w64 (UInt8.toNat x4 : Int)))).tmod 251) (w64 (x2 + 1))
    else
      some x1

def M.CheckByte (a1 : Str) : Option Int :=
  (M.CheckByte_l1 a1 FUEL 7 0).bind fun x3 =>
  some x3

def M.within (a1 : Int) (a2 : Int) (a3 : Int) : Option Bool :=
  (if (decide (a2 ≤ a1)) then
    some (decide (a1 ≤ a3))
  else
    some false).bind fun x1 =>
  some x1

def M.EncodeVarint_l1  : Nat → Int → (List UInt8) → Option ((Int × (List UInt8)))
  | 0, _, _ => none
  | k + 1, x2, x3 =>
    if (decide (128 ≤ x2)) then
      (app x3 ([(UInt8.ofNat (Int.toNat (bor8 (w8 x2) 128)))])).bind fun x6 =>
      M.EncodeVarint_l1 k (shr x2 7) x6
    else
      some (x2, x3)

def M.EncodeVarint (a1 : Int) : Option Str :=
  (M.within a1 0 562949953421311).bind fun x1 =>
  if (!x1) then
    some (str [])
  else
    (M.EncodeVarint_l1 FUEL a1 ([] : List UInt8)).bind fun (x4, x5) =>
    (app x5 ([(u8 x4)])).bind fun x7 =>
    some (Str.of x7)

def M.FrameOf (a1 : Str) : Option Str :=
  if (decide (200 < (List.length a1 : Int))) then
    some (str [])
  else
    (M.EncodeVarint (List.length a1 : Int)).bind fun x1 =>
    (cat x1 a1).bind fun x2 =>
    (M.CheckByte a1).bind fun x3 =>
    (cat x2 (Str.of ([(u8 x3)]))).bind fun x4 =>
    some x4

def Q.FnExactFrameOf (a1 : Str) : Option Bool :=
  if (decide (1048576 < (List.length a1 : Int))) then
    some true
  else
    (S.FrameOf a1).bind fun x1 =>
    (M.FrameOf a1).bind fun x2 =>
    if (!decide (x2 = x1)) then
      some false
    else
      some true

def Q.FnExactCheckByte (a1 : Str) : Option Bool :=
  if (decide (1048576 < (List.length a1 : Int))) then
    some true
  else
    (S.CheckByte a1).bind fun x1 =>
    (M.CheckByte a1).bind fun x2 =>
    if (!decide (x2 = x1)) then
      some false
    else
      some true

end Go.Gx.Px
