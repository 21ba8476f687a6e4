/- The Go functions as pure Lean functions, printed by program. Conditions: none. -/
import Derived.Test.YtnccdhglieidhaaGxX
set_option linter.unusedVariables false
namespace Go.Gx.Px

def S.CheckByte_l1 (a1 : Str) : Nat → Int → Int → Option (Int)
  | 0, _, _ => none
  | k + 1, x1, x2 =>
    if (decide (x2 < (List.length a1 : Int))) then
      (idx (α := UInt8) a1 x2).bind fun x4 =>
      S.CheckByte_l1 a1 k ((w64 ((w64 (x1 * 31)) + (w64 (UInt8.toNat x4 : Int)))).tmod 251) (w64 (x2 + 1))
    else
      some x1

def S.CheckByte (a1 : Str) : Option Int :=
  (S.CheckByte_l1 a1 FUEL (7 : Int) (0 : Int)).bind fun x3 =>
  some x3

def S.l1In (a1 : Int) (a2 : Int) (a3 : Int) : Option Bool :=
  (if (decide (a2 ≤ a1)) then
    some (decide (a1 ≤ a3))
  else
    some false).bind fun x1 =>
  some x1

def S.EncodeFixed_l1 (a2 : Int) : Nat → Int → Str → Int → Option ((Int × Str))
  | 0, _, _, _ => none
  | k + 1, x3, x4, x5 =>
    if (decide (x5 < a2)) then
      (cat (Str.of ([(u8 (x3.tmod 256))])) x4).bind fun x8 =>
      S.EncodeFixed_l1 a2 k (w64 (x3.tdiv 256)) x8 (w64 (x5 + 1))
    else
      some (x3, x4)

def S.EncodeFixed (a1 : Int) (a2 : Int) : Option Str :=
  ((S.l1In a2 1 7).bind fun x2 =>
  if (!x2) then
    some true
  else
    some (decide (a1 < 0))).bind fun x1 =>
  if x1 then
    some (str [])
  else
    (S.EncodeFixed_l1 a2 FUEL a1 (str []) (0 : Int)).bind fun (x6, x7) =>
    if (decide (0 < x6)) then
      some (str [])
    else
      some x7

def S.EncodeVarint_l1  : Nat → Int → (List UInt8) → Option ((Int × (List UInt8)))
  | 0, _, _ => none
  | k + 1, x2, x3 =>
    if (decide (128 ≤ x2)) then
      (app x3 ([(u8 (w64 (128 + (x2.tmod 128))))])).bind fun x6 =>
      S.EncodeVarint_l1 k (w64 (x2.tdiv 128)) x6
    else
      some (x2, x3)

def S.EncodeVarint (a1 : Int) : Option Str :=
  (S.l1In a1 0 562949953421311).bind fun x1 =>
  if (!x1) then
    some (str [])
  else
    (S.EncodeVarint_l1 FUEL a1 ([] : List UInt8)).bind fun (x4, x5) =>
    (app x5 ([(u8 x4)])).bind fun x7 =>
    some (Str.of x7)

def S.DecodeVarint_l2 (a1 : Str) : Nat → Int → Int → Option (Int)
  | 0, _, _ => none
  | k + 1, x3, x4 =>
    if (decide (0 ≤ x4)) then
      (idx (α := UInt8) a1 x4).bind fun x6 =>
      S.DecodeVarint_l2 a1 k (w64 ((w64 (x3 * 128)) + ((w64 (UInt8.toNat x6 : Int)).tmod 128))) (w64 (x4 - 1))
    else
      some x3

def S.DecodeVarint_l1 (a1 : Str) : Nat → Int → Option (Sum Unit (Int × Int))
  | 0, _ => none
  | k + 1, x1 =>
    (if (decide (x1 ≤ 7)) then
      some (decide (x1 ≤ (List.length a1 : Int)))
    else
      some false).bind fun x2 =>
    if x2 then
      (S.DecodeVarint_l2 a1 FUEL (0 : Int) (w64 (x1 - 1))).bind fun x5 =>
      (subS a1 0 x1).bind fun x7 =>
      (S.EncodeVarint x5).bind fun x8 =>
      if (decide (x8 = x7)) then
        some (.inr (x5, x1))
      else
        S.DecodeVarint_l1 a1 k (w64 (x1 + 1))
    else
      some (.inl ())

def S.DecodeVarint (a1 : Str) : Option (Int × Int) :=
  (S.DecodeVarint_l1 a1 FUEL (1 : Int)).bind fun o => match o with
    | .inl () =>
      some (0, 0)
    | .inr r => some r

def S.l26Open_l1 (a1 : Str) : Nat → Int → Option (Sum Unit Bool)
  | 0, _ => none
  | k + 1, x1 =>
    if (decide (x1 < (List.length a1 : Int))) then
      (idx (α := UInt8) a1 x1).bind fun x2 =>
      if (decide ((UInt8.toNat x2 : Int) < 128)) then
        some (.inr false)
      else
        S.l26Open_l1 a1 k (w64 (x1 + 1))
    else
      some (.inl ())

def S.l26Open (a1 : Str) : Option Bool :=
  (S.l26Open_l1 a1 FUEL (0 : Int)).bind fun o => match o with
    | .inl () =>
      some true
    | .inr r => some r

def S.SplitFrames_l1  : Nat → Str → (List Str) → Option (Sum (List Str) ((List Str) × Str × Bool))
  | 0, _, _ => none
  | k + 1, x1, x2 =>
    if (decide (0 < (List.length x1 : Int))) then
      (S.DecodeVarint x1).bind fun x4 =>
      if (decide (x4.2 = 0)) then
        (if (decide ((List.length x1 : Int) < 4)) then
          (S.l26Open x1).bind fun x6 =>
          some x6
        else
          some false).bind fun x5 =>
        if x5 then
          some (.inr (x2, x1, true))
        else
          some (.inr (x2, x1, false))
      else
        if (decide (200 < x4.1)) then
          some (.inr (x2, x1, false))
        else
          if (decide ((List.length x1 : Int) < (w64 ((w64 (x4.2 + x4.1)) + 1)))) then
            some (.inr (x2, x1, true))
          else
            (subS x1 x4.2 (w64 (x4.2 + x4.1))).bind fun x7 =>
            (subS x1 x4.2 (w64 ((w64 (x4.2 + x4.1)) + 1))).bind fun x8 =>
            (S.CheckByte x7).bind fun x9 =>
            (S.EncodeFixed x9 1).bind fun x10 =>
            (cat x7 x10).bind fun x11 =>
            if (!decide (x8 = x11)) then
              some (.inr (x2, x1, false))
            else
              (app x2 ([x7])).bind fun x12 =>
              (subS x1 (w64 ((w64 (x4.2 + x4.1)) + 1)) (List.length x1 : Int)).bind fun x13 =>
              S.SplitFrames_l1 k x13 x12
    else
      some (.inl x2)

def S.SplitFrames (a1 : Str) : Option ((List Str) × Str × Bool) :=
  (S.SplitFrames_l1 FUEL a1 ([] : List Str)).bind fun o => match o with
    | .inl x3 =>
      some (x3, (str []), true)
    | .inr r => some r

def M.CheckByte_l1 (a1 : Str) : Nat → Int → Int → Option (Int)
  | 0, _, _ => none
  | k + 1, x1, x2 =>
    if (decide (x2 < (List.length a1 : Int))) then
      (idx (α := UInt8) a1 x2).bind fun x4 =>
      M.CheckByte_l1 a1 k ((w64 ((w64 (31 * x1)) + (w64 (UInt8.toNat x4 : Int)))).tmod 251) (w64 (x2 + 1))
    else
      some x1

def M.CheckByte (a1 : Str) : Option Int :=
  (M.CheckByte_l1 a1 FUEL (7 : Int) (0 : Int)).bind fun x3 =>
  some x3

def M.DecodeVarint_l1 (a1 : Str) : Nat → Int → Int → Option (Sum Unit (Int × Int))
  | 0, _, _ => none
  | k + 1, x1, x2 =>
    if (decide (x2 < (if (List.length a1 : Int) < 7 then (List.length a1 : Int) else 7))) then
      (idx (α := UInt8) a1 x2).bind fun x3 =>
      (nn (w64 (7 * x2))).bind fun _ =>
      (idx (α := UInt8) a1 x2).bind fun x4 =>
      if (decide (128 ≤ (UInt8.toNat x4 : Int))) then
        M.DecodeVarint_l1 a1 k (bor x1 (shl (w64 (band8 (UInt8.toNat x3 : Int) 127)) (w64 (7 * x2)))) (w64 (x2 + 1))
      else
        (if (decide (0 < x2)) then
          (idx (α := UInt8) a1 x2).bind fun x6 =>
          some (decide ((UInt8.toNat x6 : Int) = 0))
        else
          some false).bind fun x5 =>
        if x5 then
          some (.inr (0, 0))
        else
          some (.inr (bor x1 (shl (w64 (band8 (UInt8.toNat x3 : Int) 127)) (w64 (7 * x2))), w64 (x2 + 1)))
    else
      some (.inl ())

def M.DecodeVarint (a1 : Str) : Option (Int × Int) :=
  (M.DecodeVarint_l1 a1 FUEL (0 : Int) (0 : Int)).bind fun o => match o with
    | .inl () =>
      some (0, 0)
    | .inr r => some r

def M.isOpenLength_l1 (a1 : Str) : Nat → Int → Option (Sum Unit Bool)
  | 0, _ => none
  | k + 1, x1 =>
    if (decide (x1 < (List.length a1 : Int))) then
      (idx (α := UInt8) a1 x1).bind fun x2 =>
      if (decide ((UInt8.toNat x2 : Int) < 128)) then
        some (.inr false)
      else
        M.isOpenLength_l1 a1 k (w64 (x1 + 1))
    else
      some (.inl ())

def M.isOpenLength (a1 : Str) : Option Bool :=
  (M.isOpenLength_l1 a1 FUEL (0 : Int)).bind fun o => match o with
    | .inl () =>
      some (decide ((List.length a1 : Int) ≤ 3))
    | .inr r => some r

def M.SplitFrames_l1  : Nat → Str → (List Str) → Option (Sum (Str × (List Str)) ((List Str) × Str × Bool))
  | 0, _, _ => none
  | k + 1, x1, x2 =>
    if (!decide (x1 = (str []))) then
      (M.DecodeVarint x1).bind fun x5 =>
      if (decide (x5.2 = 0)) then
        (M.isOpenLength x1).bind fun x6 =>
        some (.inr (x2, x1, x6))
      else
        if (decide (200 < x5.1)) then
          some (.inr (x2, x1, false))
        else
          if (decide ((List.length x1 : Int) < (w64 ((w64 (x5.2 + x5.1)) + 1)))) then
            some (.inr (x2, x1, true))
          else
            (subS x1 x5.2 (w64 (x5.2 + x5.1))).bind fun x7 =>
            (idx (α := UInt8) x1 (w64 (x5.2 + x5.1))).bind fun x8 =>
            (M.CheckByte x7).bind fun x9 =>
            if (!decide ((w64 (UInt8.toNat x8 : Int)) = x9)) then
              some (.inr (x2, x1, false))
            else
              (app x2 ([x7])).bind fun x10 =>
              (subS x1 (w64 ((w64 (x5.2 + x5.1)) + 1)) (List.length x1 : Int)).bind fun x11 =>
              M.SplitFrames_l1 k x11 x10
    else
      some (.inl (x1, x2))

def M.SplitFrames (a1 : Str) : Option ((List Str) × Str × Bool) :=
  (M.SplitFrames_l1 FUEL a1 ([] : List Str)).bind fun o => match o with
    | .inl (x3, x4) =>
      some (x4, x3, true)
    | .inr r => some r

def Q.eqStringS_l1 (a1 : (List Str)) (a2 : (List Str)) : Nat → Int → Option (Sum Unit Bool)
  | 0, _ => none
  | k + 1, x1 =>
    if (decide (x1 < (List.length a1 : Int))) then
      (idx a1 x1).bind fun x2 =>
      (idx a2 x1).bind fun x3 =>
      if (!decide (x2 = x3)) then
        some (.inr false)
      else
        Q.eqStringS_l1 a1 a2 k (w64 (x1 + 1))
    else
      some (.inl ())

def Q.eqStringS (a1 : (List Str)) (a2 : (List Str)) : Option Bool :=
  if (!decide ((List.length a1 : Int) = (List.length a2 : Int))) then
    some false
  else
    (Q.eqStringS_l1 a1 a2 FUEL (0 : Int)).bind fun o => match o with
      | .inl () =>
        some true
      | .inr r => some r

def Q.markText_l1  : Nat → Int → Str → Option (Str)
  | 0, _, _ => none
  | k + 1, x1, x2 =>
    if (decide (0 < x1)) then
      (cat (Str.of ([(u8 (w64 (48 + (x1.tmod 10))))])) x2).bind fun x4 =>
      Q.markText_l1 k (w64 (x1.tdiv 10)) x4
    else
      some x2

def Q.markText (a1 : Int) : Option Str :=
  if (decide (a1 ≤ 0)) then
    some (str [109, 48])
  else
    (Q.markText_l1 FUEL a1 (str [])).bind fun x3 =>
    (cat (str [109]) x3).bind fun x5 =>
    some x5

def Q.markStringS_l1  : Nat → (List Str) → Int → Int → Option (((List Str) × Int))
  | 0, _, _, _ => none
  | k + 1, x1, x2, x3 =>
    if (decide (x3 < (List.length x1 : Int))) then
      (Q.markText x2).bind fun x6 =>
      (idx x1 x3).bind fun x7 =>
      Q.markStringS_l1 k (List.set x1 (Int.toNat x3) x6) (w64 (x2 + 1)) (w64 (x3 + 1))
    else
      some (x1, x2)

def Q.markStringS (a1 : (List Str)) (a2 : Int) : Option (Int × (List Str)) :=
  (Q.markStringS_l1 FUEL a1 a2 (0 : Int)).bind fun (x4, x5) =>
  some (x5, x4)

def Q.heldStringS_l1 (a1 : (List Str)) : Nat → Int → Int → Option (Sum Int Int)
  | 0, _, _ => none
  | k + 1, x1, x2 =>
    if (decide (x2 < (List.length a1 : Int))) then
      (idx a1 x2).bind fun x4 =>
      (Q.markText x1).bind fun x5 =>
      if (!decide (x4 = x5)) then
        some (.inr (-1))
      else
        Q.heldStringS_l1 a1 k (w64 (x1 + 1)) (w64 (x2 + 1))
    else
      some (.inl x1)

def Q.heldStringS (a1 : (List Str)) (a2 : Int) : Option Int :=
  (Q.heldStringS_l1 a1 FUEL a2 (0 : Int)).bind fun o => match o with
    | .inl x3 =>
      some x3
    | .inr r => some r

def Q.FnExactSplitFrames (a1 : Str) : Option Bool :=
  if (decide (1048576 < (List.length a1 : Int))) then
    some true
  else
    (S.SplitFrames a1).bind fun x1 =>
    (M.SplitFrames a1).bind fun x2 =>
    ((Q.eqStringS x2.1 x1.1).bind fun x4 =>
    if (!x4) then
      some true
    else
      if (!decide (x2.2.1 = x1.2.1)) then
        some true
      else
        some (!decide (x2.2.2 = x1.2.2))).bind fun x3 =>
    if x3 then
      some false
    else
      (Q.markStringS x2.1 1).bind fun x5 =>
      (Q.heldStringS x5.2 1).bind fun x6 =>
      if (decide (x6 < 0)) then
        some false
      else
        if (!decide (x6 = x5.1)) then
          some false
        else
          (M.SplitFrames a1).bind fun x7 =>
          ((Q.eqStringS x7.1 x1.1).bind fun x9 =>
          if (!x9) then
            some true
          else
            if (!decide (x7.2.1 = x1.2.1)) then
              some true
            else
              some (!decide (x7.2.2 = x1.2.2))).bind fun x8 =>
          if x8 then
            some false
          else
            (Q.heldStringS x5.2 1).bind fun x10 =>
            if (decide (x10 < 0)) then
              some false
            else
              if (!decide (x10 = x5.1)) then
                some false
              else
                some true

def S.FrameOf (a1 : Str) : Option Str :=
  if (decide (200 < (List.length a1 : Int))) then
    some (str [])
  else
    (S.EncodeVarint (List.length a1 : Int)).bind fun x1 =>
    (cat x1 a1).bind fun x2 =>
    (S.CheckByte a1).bind fun x3 =>
    (S.EncodeFixed x3 1).bind fun x4 =>
    (cat x2 x4).bind fun x5 =>
    some x5

def M.within (a1 : Int) (a2 : Int) (a3 : Int) : Option Bool :=
  (if (decide (a2 ≤ a1)) then
    some (decide (a1 ≤ a3))
  else
    some false).bind fun x1 =>
  some x1

def M.EncodeVarint_l1  : Nat → Int → (List UInt8) → Option ((Int × (List UInt8)))
  | 0, _, _ => none
  | k + 1, x2, x3 =>
    if (decide (128 ≤ x2)) then
      (app x3 ([(UInt8.ofNat (Int.toNat (bor8 (w8 x2) 128)))])).bind fun x6 =>
      M.EncodeVarint_l1 k (shr x2 7) x6
    else
      some (x2, x3)

def M.EncodeVarint (a1 : Int) : Option Str :=
  (M.within a1 0 562949953421311).bind fun x1 =>
  if (!x1) then
    some (str [])
  else
    (M.EncodeVarint_l1 FUEL a1 ([] : List UInt8)).bind fun (x4, x5) =>
    (app x5 ([(u8 x4)])).bind fun x7 =>
    some (Str.of x7)

def M.FrameOf (a1 : Str) : Option Str :=
  if (decide (200 < (List.length a1 : Int))) then
    some (str [])
  else
    (M.EncodeVarint (List.length a1 : Int)).bind fun x1 =>
    (cat x1 a1).bind fun x2 =>
    (M.CheckByte a1).bind fun x3 =>
    (cat x2 (Str.of ([(u8 x3)]))).bind fun x4 =>
    some x4

def Q.FnExactFrameOf (a1 : Str) : Option Bool :=
  if (decide (1048576 < (List.length a1 : Int))) then
    some true
  else
    (S.FrameOf a1).bind fun x1 =>
    (M.FrameOf a1).bind fun x2 =>
    if (!decide (x2 = x1)) then
      some false
    else
      some true

end Go.Gx.Px
