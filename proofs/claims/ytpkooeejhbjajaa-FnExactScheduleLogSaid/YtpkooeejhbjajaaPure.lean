/- The Go functions as pure Lean functions, printed by program. Conditions: none. -/
import Derived.Test.YtpkooeejhbjajaaGxMp
set_option linter.unusedVariables false
namespace Go.Gx.Px

def Q.szIntS (a1 : (List Int)) (a2 : Int) : Option Int :=
 if (decide ((w64 (a2 - (List.length a1 : Int))) < 0)) then
  some (-1)
 else
  some (w64 (a2 - (List.length a1 : Int)))

def Q.szMethod (a1 : (Int × (List Int) × Int × Int × Int)) (a2 : Int) : Option Int :=
 (Q.szIntS a1.2.1 a2).bind fun x1 =>
 if (decide (x1 < 0)) then
  some (-1)
 else
  some x1

def Q.szMethodS_l1 (a1 : (List (Int × (List Int) × Int × Int × Int))) : Nat → Int → Int → Option (Sum Int Int)
 | 0, _, _ => none
 | k + 1, x1, x2 =>
  if (decide (x2 < (List.length a1 : Int))) then
   (idx a1 x2).bind fun x4 =>
   (Q.szMethod x4 x1).bind fun x5 =>
   if (decide (x5 < 0)) then
    some (.inr (-1))
   else
    Q.szMethodS_l1 a1 k x5 (w64 (x2 + 1))
  else
   some (.inl x1)

def Q.szMethodS (a1 : (List (Int × (List Int) × Int × Int × Int))) (a2 : Int) : Option Int :=
 if (decide ((w64 (a2 - (List.length a1 : Int))) < 0)) then
  some (-1)
 else
  (Q.szMethodS_l1 a1 FUEL (w64 (a2 - (List.length a1 : Int))) (0 : Int)).bind fun o => match o with
   | .inl x3 =>
    some x3
   | .inr r => some r

def Q.szAccess (a1 : (Int × (List Int))) (a2 : Int) : Option Int :=
 (Q.szIntS a1.2 a2).bind fun x1 =>
 if (decide (x1 < 0)) then
  some (-1)
 else
  some x1

def Q.szAccessS_l1 (a1 : (List (Int × (List Int)))) : Nat → Int → Int → Option (Sum Int Int)
 | 0, _, _ => none
 | k + 1, x1, x2 =>
  if (decide (x2 < (List.length a1 : Int))) then
   (idx a1 x2).bind fun x4 =>
   (Q.szAccess x4 x1).bind fun x5 =>
   if (decide (x5 < 0)) then
    some (.inr (-1))
   else
    Q.szAccessS_l1 a1 k x5 (w64 (x2 + 1))
  else
   some (.inl x1)

def Q.szAccessS (a1 : (List (Int × (List Int)))) (a2 : Int) : Option Int :=
 if (decide ((w64 (a2 - (List.length a1 : Int))) < 0)) then
  some (-1)
 else
  (Q.szAccessS_l1 a1 FUEL (w64 (a2 - (List.length a1 : Int))) (0 : Int)).bind fun o => match o with
   | .inl x3 =>
    some x3
   | .inr r => some r

def S.l1In (a1 : Int) (a2 : Int) (a3 : Int) : Option Bool :=
 (if (decide (a2 ≤ a1)) then
  some (decide (a1 ≤ a3))
 else
  some false).bind fun x1 =>
 some x1

def S.l18Times_l1 (a1 : (List Int)) : Nat → Int → Option (Sum Unit Bool)
 | 0, _ => none
 | k + 1, x1 =>
  if (decide (x1 < (List.length a1 : Int))) then
   ((idx a1 x1).bind fun x3 =>
   (S.l1In x3 0 10000).bind fun x4 =>
   if (!x4) then
    some true
   else
    if (decide (0 < x1)) then
     (idx a1 x1).bind fun x5 =>
     (idx a1 (w64 (x1 - 1))).bind fun x6 =>
     some (decide (x5 < x6))
    else
     some false).bind fun x2 =>
   if x2 then
    some (.inr false)
   else
    S.l18Times_l1 a1 k (w64 (x1 + 1))
  else
   some (.inl ())

def S.l18Times (a1 : (List Int)) : Option Bool :=
 (S.l18Times_l1 a1 FUEL (0 : Int)).bind fun o => match o with
  | .inl () =>
   some (decide ((List.length a1 : Int) ≤ 1000))
  | .inr r => some r

def S.IsWindow (a1 : (Int × Int)) : Option Bool :=
 ((S.l1In a1.1 1 100).bind fun x2 =>
 if x2 then
  (S.l1In a1.2 1 99).bind fun x3 =>
  some x3
 else
  some false).bind fun x1 =>
 some x1

def S.CallsIn_l1 (a1 : (List Int)) (a2 : Int) (a3 : Int) : Nat → Int → Int → Option (Int)
 | 0, _, _ => none
 | k + 1, x1, x2 =>
  if (decide (x2 < (List.length a1 : Int))) then
   ((idx a1 x2).bind fun x5 =>
   if (decide (a2 ≤ x5)) then
    (idx a1 x2).bind fun x6 =>
    if (decide ((w64 (x6 - a2)) < a3)) then
     (idx a1 x2).bind fun x7 =>
     if (decide (0 ≤ x7)) then
      some (decide (0 ≤ a2))
     else
      some false
    else
     some false
   else
    some false).bind fun x4 =>
   (if x4 then
    some (w64 (x1 + 1))
   else
    some x1).bind fun x8 =>
   S.CallsIn_l1 a1 a2 a3 k x8 (w64 (x2 + 1))
  else
   some x1

def S.CallsIn (a1 : (List Int)) (a2 : Int) (a3 : Int) : Option Int :=
 (S.CallsIn_l1 a1 a2 a3 FUEL (0 : Int) (0 : Int)).bind fun x3 =>
 some x3

def S.IsKept_l1 (a1 : (List Int)) (a2 : (Int × Int)) : Nat → Int → Option (Sum Unit Bool)
 | 0, _ => none
 | k + 1, x4 =>
  if (decide (x4 < (List.length a1 : Int))) then
   (idx a1 x4).bind fun x5 =>
   (S.CallsIn a1 x5 a2.1).bind fun x6 =>
   if (decide (a2.2 < x6)) then
    some (.inr false)
   else
    S.IsKept_l1 a1 a2 k (w64 (x4 + 1))
  else
   some (.inl ())

def S.IsKept (a1 : (List Int)) (a2 : (Int × Int)) : Option Bool :=
 ((S.l18Times a1).bind fun x2 =>
 if (!x2) then
  some true
 else
  (S.IsWindow (a2.1, a2.2)).bind fun x3 =>
  some (!x3)).bind fun x1 =>
 if x1 then
  some false
 else
  (S.IsKept_l1 a1 a2 FUEL (0 : Int)).bind fun o => match o with
   | .inl () =>
    some true
   | .inr r => some r

def S.NextTime (a1 : (List Int)) (a2 : (Int × Int)) (a3 : Int) : Option (Int × Bool) :=
 ((S.IsKept a1 (a2.1, a2.2)).bind fun x2 =>
 if (!x2) then
  some true
 else
  (S.l1In a3 0 10000).bind fun x3 =>
  some (!x3)).bind fun x1 =>
 if x1 then
  some (0, false)
 else
  (if (decide (0 < (List.length a1 : Int))) then
   (idx a1 (w64 ((List.length a1 : Int) - 1))).bind fun x5 =>
   some (if x5 > a3 then x5 else a3)
  else
   some a3).bind fun x4 =>
  (if (decide (a2.2 ≤ (List.length a1 : Int))) then
   (idx a1 (w64 ((List.length a1 : Int) - a2.2))).bind fun x7 =>
   some (if (w64 (x7 + a2.1)) > x4 then w64 (x7 + a2.1) else x4)
  else
   some x4).bind fun x6 =>
  if (decide (10000 < x6)) then
   some (0, false)
  else
   some (x6, true)

def S.ScheduleLog_l2 (x6 : Int) (a2 : (List (Int × (List Int)))) (x4 : (List Int)) : Nat → (List Int) → Int → Option ((List Int))
 | 0, _, _ => none
 | k + 1, x14, x15 =>
  if (decide (x15 < x6)) then
   (idx a2 x15).bind fun x17 =>
   (idx a2 x6).bind fun x18 =>
   (if (decide (x17.1 = x18.1)) then
    (idx x4 x15).bind fun x20 =>
    (app x14 ([x20])).bind fun x21 =>
    some x21
   else
    some x14).bind fun x19 =>
   S.ScheduleLog_l2 x6 a2 x4 k x19 (w64 (x15 + 1))
  else
   some x14

def S.ScheduleLog_l1 (a2 : (List (Int × (List Int)))) (a1 : (List (Int × (List Int) × Int × Int × Int))) (a3 : Int) : Nat → (List Int) → Int → Int → Option (Sum (List Int) ((List Int) × Bool))
 | 0, _, _, _ => none
 | k + 1, x4, x5, x6 =>
  if (decide (x6 < (List.length a2 : Int))) then
   ((idx a2 x6).bind fun x9 =>
   (S.l1In x9.1 0 (w64 ((List.length a1 : Int) - 1))).bind fun x10 =>
   if (!x10) then
    some true
   else
    (idx a2 x6).bind fun x11 =>
    (idx a1 x11.1).bind fun x12 =>
    (S.l1In x12.2.2.2.2 1 99).bind fun x13 =>
    some (!x13)).bind fun x8 =>
   if x8 then
    some (.inr (([] : List Int), false))
   else
    (S.ScheduleLog_l2 x6 a2 x4 FUEL ([] : List Int) (0 : Int)).bind fun x16 =>
    (idx a2 x6).bind fun x22 =>
    (idx a1 x22.1).bind fun x23 =>
    (S.NextTime x16 (a3, x23.2.2.2.2) x5).bind fun x24 =>
    if (!x24.2) then
     some (.inr (([] : List Int), false))
    else
     (app x4 ([x24.1])).bind fun x25 =>
     S.ScheduleLog_l1 a2 a1 a3 k x25 x24.1 (w64 (x6 + 1))
  else
   some (.inl x4)

def S.ScheduleLog (a1 : (List (Int × (List Int) × Int × Int × Int))) (a2 : (List (Int × (List Int)))) (a3 : Int) (a4 : Int) : Option ((List Int) × Bool) :=
 ((S.l1In a3 1 100).bind fun x2 =>
 if (!x2) then
  some true
 else
  (S.l1In a4 0 10000).bind fun x3 =>
  if (!x3) then
   some true
  else
   some (decide (100 < (List.length a2 : Int)))).bind fun x1 =>
 if x1 then
  some (([] : List Int), false)
 else
  (S.ScheduleLog_l1 a2 a1 a3 FUEL ([] : List Int) a4 (0 : Int)).bind fun o => match o with
   | .inl x7 =>
    some (x7, true)
   | .inr r => some r

def Q.toIntS_l1 (a1 : (List Int)) : Nat → (List Int) → Int → Option ((List Int))
 | 0, _, _ => none
 | k + 1, x2, x3 =>
  if (decide (x3 < (List.length a1 : Int))) then
   (idx a1 x3).bind fun x5 =>
   (idx x2 x3).bind fun x6 =>
   Q.toIntS_l1 a1 k (List.set x2 (Int.toNat x3) x5) (w64 (x3 + 1))
  else
   some x2

def Q.toIntS (a1 : (List Int)) : Option (List Int) :=
 (mk (List.length a1 : Int) (0 : Int)).bind fun x1 =>
 (Q.toIntS_l1 a1 FUEL x1 (0 : Int)).bind fun x4 =>
 some x4

def Q.toMethod (a1 : (Int × (List Int) × Int × Int × Int)) : Option (Int × (List Int) × Int × Int × Int) :=
 (Q.toIntS a1.2.1).bind fun x1 =>
 some (a1.1, x1, a1.2.2.1, a1.2.2.2.1, a1.2.2.2.2)

def Q.toMethodS_l1 (a1 : (List (Int × (List Int) × Int × Int × Int))) : Nat → (List (Int × (List Int) × Int × Int × Int)) → Int → Option ((List (Int × (List Int) × Int × Int × Int)))
 | 0, _, _ => none
 | k + 1, x2, x3 =>
  if (decide (x3 < (List.length a1 : Int))) then
   (idx a1 x3).bind fun x5 =>
   (Q.toMethod x5).bind fun x6 =>
   (idx x2 x3).bind fun x7 =>
   Q.toMethodS_l1 a1 k (List.set x2 (Int.toNat x3) (x6.1, x6.2.1, x6.2.2.1, x6.2.2.2.1, x6.2.2.2.2)) (w64 (x3 + 1))
  else
   some x2

def Q.toMethodS (a1 : (List (Int × (List Int) × Int × Int × Int))) : Option (List (Int × (List Int) × Int × Int × Int)) :=
 (mk (List.length a1 : Int) (0, [], 0, 0, 0)).bind fun x1 =>
 (Q.toMethodS_l1 a1 FUEL x1 (0 : Int)).bind fun x4 =>
 some x4

def Q.toAccess (a1 : (Int × (List Int))) : Option (Int × (List Int)) :=
 (Q.toIntS a1.2).bind fun x1 =>
 some (a1.1, x1)

def Q.toAccessS_l1 (a1 : (List (Int × (List Int)))) : Nat → (List (Int × (List Int))) → Int → Option ((List (Int × (List Int))))
 | 0, _, _ => none
 | k + 1, x2, x3 =>
  if (decide (x3 < (List.length a1 : Int))) then
   (idx a1 x3).bind fun x5 =>
   (Q.toAccess x5).bind fun x6 =>
   (idx x2 x3).bind fun x7 =>
   Q.toAccessS_l1 a1 k (List.set x2 (Int.toNat x3) (x6.1, x6.2)) (w64 (x3 + 1))
  else
   some x2

def Q.toAccessS (a1 : (List (Int × (List Int)))) : Option (List (Int × (List Int))) :=
 (mk (List.length a1 : Int) (0, [])).bind fun x1 =>
 (Q.toAccessS_l1 a1 FUEL x1 (0 : Int)).bind fun x4 =>
 some x4

def M.within (a1 : Int) (a2 : Int) (a3 : Int) : Option Bool :=
 (if (decide (a2 ≤ a1)) then
  some (decide (a1 ≤ a3))
 else
  some false).bind fun x1 =>
 some x1

def M.isTime (a1 : Int) : Option Bool :=
 (M.within a1 0 10000).bind fun x1 =>
 some x1

def M.Window_next (a1 : (Int × Int)) (a2 : (List Int)) (a3 : Int) : Option (Int × Bool) :=
 (if (decide (0 < (List.length a2 : Int))) then
  (idx a2 (w64 ((List.length a2 : Int) - 1))).bind fun x2 =>
  some (if x2 > a3 then x2 else a3)
 else
  some a3).bind fun x1 =>
 (if (decide (a1.2 ≤ (List.length a2 : Int))) then
  (idx a2 (w64 ((List.length a2 : Int) - a1.2))).bind fun x4 =>
  some (if (w64 (x4 + a1.1)) > x1 then w64 (x4 + a1.1) else x1)
 else
  some x1).bind fun x3 =>
 if (decide (10000 < x3)) then
  some (0, false)
 else
  some (x3, true)

def M.ScheduleLog_l1 (a2 : (List (Int × (List Int)))) (a1 : (List (Int × (List Int) × Int × Int × Int))) (a3 : Int) : Nat → (List (Int × List Int)) → Int → (List Int) → Int → Option (Sum ((List (Int × List Int)) × (List Int)) ((List Int) × Bool))
 | 0, _, _, _, _ => none
 | k + 1, x4, x5, x6, x7 =>
  if (decide (x7 < (List.length a2 : Int))) then
   (idx a2 x7).bind fun x10 =>
   ((M.within x10.1 0 (w64 ((List.length a1 : Int) - 1))).bind fun x12 =>
   if (!x12) then
    some true
   else
    (idx a1 x10.1).bind fun x13 =>
    (M.within x13.2.2.2.2 1 99).bind fun x14 =>
    some (!x14)).bind fun x11 =>
   if x11 then
    some (.inr ([], false))
   else
    (idx a1 x10.1).bind fun x15 =>
    (M.Window_next (a3, x15.2.2.2.2) (mget x4 x10.1) x5).bind fun x16 =>
    if (!x16.2) then
     some (.inr ([], false))
    else
     ((app (mget x4 x10.1) ([x16.1])).bind fun x18 =>
     some (mset x4 x10.1 x18)).bind fun x17 =>
     (app x6 ([x16.1])).bind fun x19 =>
     M.ScheduleLog_l1 a2 a1 a3 k x17 x16.1 x19 (w64 (x7 + 1))
  else
   some (.inl (x4, x6))

def M.ScheduleLog (a1 : (List (Int × (List Int) × Int × Int × Int))) (a2 : (List (Int × (List Int)))) (a3 : Int) (a4 : Int) : Option ((List Int) × Bool) :=
 ((M.within a3 1 100).bind fun x2 =>
 if (!x2) then
  some true
 else
  (M.isTime a4).bind fun x3 =>
  if (!x3) then
   some true
  else
   some (decide (100 < (List.length a2 : Int)))).bind fun x1 =>
 if x1 then
  some ([], false)
 else
  (M.ScheduleLog_l1 a2 a1 a3 FUEL ([] : (List (Int × List Int))) a4 ([] : List Int) (0 : Int)).bind fun o => match o with
   | .inl (x8, x9) =>
    some (x9, true)
   | .inr r => some r

def Q.eqIntS_l1 (a1 : (List Int)) (a2 : (List Int)) : Nat → Int → Option (Sum Unit Bool)
 | 0, _ => none
 | k + 1, x1 =>
  if (decide (x1 < (List.length a1 : Int))) then
   (idx a1 x1).bind fun x2 =>
   (idx a2 x1).bind fun x3 =>
   if (!decide (x2 = x3)) then
    some (.inr false)
   else
    Q.eqIntS_l1 a1 a2 k (w64 (x1 + 1))
  else
   some (.inl ())

def Q.eqIntS (a1 : (List Int)) (a2 : (List Int)) : Option Bool :=
 if (!decide ((List.length a1 : Int) = (List.length a2 : Int))) then
  some false
 else
  (Q.eqIntS_l1 a1 a2 FUEL (0 : Int)).bind fun o => match o with
   | .inl () =>
    some true
   | .inr r => some r

def Q.eqMethod (a1 : (Int × (List Int) × Int × Int × Int)) (a2 : (Int × (List Int) × Int × Int × Int)) : Option Bool :=
 if (!decide (a1.1 = a2.1)) then
  some false
 else
  (Q.eqIntS a1.2.1 a2.2.1).bind fun x1 =>
  if (!x1) then
   some false
  else
   if (!decide (a1.2.2.1 = a2.2.2.1)) then
    some false
   else
    if (!decide (a1.2.2.2.1 = a2.2.2.2.1)) then
     some false
    else
     if (!decide (a1.2.2.2.2 = a2.2.2.2.2)) then
      some false
     else
      some true

def Q.eqMethodS_l1 (a1 : (List (Int × (List Int) × Int × Int × Int))) (a2 : (List (Int × (List Int) × Int × Int × Int))) : Nat → Int → Option (Sum Unit Bool)
 | 0, _ => none
 | k + 1, x1 =>
  if (decide (x1 < (List.length a1 : Int))) then
   (idx a1 x1).bind fun x2 =>
   (idx a2 x1).bind fun x3 =>
   (Q.eqMethod x2 x3).bind fun x4 =>
   if (!x4) then
    some (.inr false)
   else
    Q.eqMethodS_l1 a1 a2 k (w64 (x1 + 1))
  else
   some (.inl ())

def Q.eqMethodS (a1 : (List (Int × (List Int) × Int × Int × Int))) (a2 : (List (Int × (List Int) × Int × Int × Int))) : Option Bool :=
 if (!decide ((List.length a1 : Int) = (List.length a2 : Int))) then
  some false
 else
  (Q.eqMethodS_l1 a1 a2 FUEL (0 : Int)).bind fun o => match o with
   | .inl () =>
    some true
   | .inr r => some r

def Q.eqAccess (a1 : (Int × (List Int))) (a2 : (Int × (List Int))) : Option Bool :=
 if (!decide (a1.1 = a2.1)) then
  some false
 else
  (Q.eqIntS a1.2 a2.2).bind fun x1 =>
  if (!x1) then
   some false
  else
   some true

def Q.eqAccessS_l1 (a1 : (List (Int × (List Int)))) (a2 : (List (Int × (List Int)))) : Nat → Int → Option (Sum Unit Bool)
 | 0, _ => none
 | k + 1, x1 =>
  if (decide (x1 < (List.length a1 : Int))) then
   (idx a1 x1).bind fun x2 =>
   (idx a2 x1).bind fun x3 =>
   (Q.eqAccess x2 x3).bind fun x4 =>
   if (!x4) then
    some (.inr false)
   else
    Q.eqAccessS_l1 a1 a2 k (w64 (x1 + 1))
  else
   some (.inl ())

def Q.eqAccessS (a1 : (List (Int × (List Int)))) (a2 : (List (Int × (List Int)))) : Option Bool :=
 if (!decide ((List.length a1 : Int) = (List.length a2 : Int))) then
  some false
 else
  (Q.eqAccessS_l1 a1 a2 FUEL (0 : Int)).bind fun o => match o with
   | .inl () =>
    some true
   | .inr r => some r

def Q.markIntS_l1  : Nat → (List Int) → Int → Int → Option (((List Int) × Int))
 | 0, _, _, _ => none
 | k + 1, x1, x2, x3 =>
  if (decide (x3 < (List.length x1 : Int))) then
   (idx x1 x3).bind fun x6 =>
   Q.markIntS_l1 k (List.set x1 (Int.toNat x3) x2) (w64 (x2 + 1)) (w64 (x3 + 1))
  else
   some (x1, x2)

def Q.markIntS (a1 : (List Int)) (a2 : Int) : Option (Int × (List Int)) :=
 (Q.markIntS_l1 FUEL a1 a2 (0 : Int)).bind fun (x4, x5) =>
 some (x5, x4)

def Q.markMethodS_l1  : Nat → (List (Int × (List Int) × Int × Int × Int)) → Int → Int → Option (((List (Int × (List Int) × Int × Int × Int)) × Int))
 | 0, _, _, _ => none
 | k + 1, x1, x2, x3 =>
  if (decide (x3 < (List.length x1 : Int))) then
   (idx x1 x3).bind fun x6 =>
   (idx (List.set x1 (Int.toNat x3) (x2, x6.2.1, x6.2.2.1, x6.2.2.2.1, x6.2.2.2.2)) x3).bind fun x7 =>
   (Q.markIntS x7.2.1 (w64 (x2 + 1))).bind fun x8 =>
   (idx (List.set (List.set x1 (Int.toNat x3) (x2, x6.2.1, x6.2.2.1, x6.2.2.2.1, x6.2.2.2.2)) (Int.toNat x3) (x7.1, x8.2, x7.2.2.1, x7.2.2.2.1, x7.2.2.2.2)) x3).bind fun x9 =>
   (idx (List.set (List.set (List.set x1 (Int.toNat x3) (x2, x6.2.1, x6.2.2.1, x6.2.2.2.1, x6.2.2.2.2)) (Int.toNat x3) (x7.1, x8.2, x7.2.2.1, x7.2.2.2.1, x7.2.2.2.2)) (Int.toNat x3) (x9.1, x9.2.1, x8.1, x9.2.2.2.1, x9.2.2.2.2)) x3).bind fun x10 =>
   (idx (List.set (List.set (List.set (List.set x1 (Int.toNat x3) (x2, x6.2.1, x6.2.2.1, x6.2.2.2.1, x6.2.2.2.2)) (Int.toNat x3) (x7.1, x8.2, x7.2.2.1, x7.2.2.2.1, x7.2.2.2.2)) (Int.toNat x3) (x9.1, x9.2.1, x8.1, x9.2.2.2.1, x9.2.2.2.2)) (Int.toNat x3) (x10.1, x10.2.1, x10.2.2.1, w64 (x8.1 + 1), x10.2.2.2.2)) x3).bind fun x11 =>
   Q.markMethodS_l1 k (List.set (List.set (List.set (List.set (List.set x1 (Int.toNat x3) (x2, x6.2.1, x6.2.2.1, x6.2.2.2.1, x6.2.2.2.2)) (Int.toNat x3) (x7.1, x8.2, x7.2.2.1, x7.2.2.2.1, x7.2.2.2.2)) (Int.toNat x3) (x9.1, x9.2.1, x8.1, x9.2.2.2.1, x9.2.2.2.2)) (Int.toNat x3) (x10.1, x10.2.1, x10.2.2.1, w64 (x8.1 + 1), x10.2.2.2.2)) (Int.toNat x3) (x11.1, x11.2.1, x11.2.2.1, x11.2.2.2.1, w64 ((w64 (x8.1 + 1)) + 1))) (w64 ((w64 ((w64 (x8.1 + 1)) + 1)) + 1)) (w64 (x3 + 1))
  else
   some (x1, x2)

def Q.markMethodS (a1 : (List (Int × (List Int) × Int × Int × Int))) (a2 : Int) : Option (Int × (List (Int × (List Int) × Int × Int × Int))) :=
 (Q.markMethodS_l1 FUEL a1 a2 (0 : Int)).bind fun (x4, x5) =>
 some (x5, x4)

def Q.markAccessS_l1  : Nat → (List (Int × (List Int))) → Int → Int → Option (((List (Int × (List Int))) × Int))
 | 0, _, _, _ => none
 | k + 1, x1, x2, x3 =>
  if (decide (x3 < (List.length x1 : Int))) then
   (idx x1 x3).bind fun x6 =>
   (idx (List.set x1 (Int.toNat x3) (x2, x6.2)) x3).bind fun x7 =>
   (Q.markIntS x7.2 (w64 (x2 + 1))).bind fun x8 =>
   Q.markAccessS_l1 k (List.set (List.set x1 (Int.toNat x3) (x2, x6.2)) (Int.toNat x3) (x7.1, x8.2)) x8.1 (w64 (x3 + 1))
  else
   some (x1, x2)

def Q.markAccessS (a1 : (List (Int × (List Int)))) (a2 : Int) : Option (Int × (List (Int × (List Int)))) :=
 (Q.markAccessS_l1 FUEL a1 a2 (0 : Int)).bind fun (x4, x5) =>
 some (x5, x4)

def Q.heldIntS_l1 (a1 : (List Int)) : Nat → Int → Int → Option (Sum Int Int)
 | 0, _, _ => none
 | k + 1, x1, x2 =>
  if (decide (x2 < (List.length a1 : Int))) then
   (idx a1 x2).bind fun x4 =>
   if (!decide (x4 = x1)) then
    some (.inr (-1))
   else
    Q.heldIntS_l1 a1 k (w64 (x1 + 1)) (w64 (x2 + 1))
  else
   some (.inl x1)

def Q.heldIntS (a1 : (List Int)) (a2 : Int) : Option Int :=
 (Q.heldIntS_l1 a1 FUEL a2 (0 : Int)).bind fun o => match o with
  | .inl x3 =>
   some x3
  | .inr r => some r

def Q.FnExactScheduleLog (a1 : (List (Int × (List Int) × Int × Int × Int))) (a2 : (List (Int × (List Int)))) (a3 : Int) (a4 : Int) : Option Bool :=
 (Q.szMethodS a1 1048576).bind fun x1 =>
 if (decide (x1 < 0)) then
  some true
 else
  (Q.szAccessS a2 x1).bind fun x2 =>
  if (decide (x2 < 0)) then
   some true
  else
   (Q.toMethodS a1).bind fun x3 =>
   (Q.toAccessS a2).bind fun x4 =>
   (S.ScheduleLog x3 x4 a3 a4).bind fun x5 =>
   (Q.toMethodS a1).bind fun x6 =>
   (Q.toAccessS a2).bind fun x7 =>
   (M.ScheduleLog x6 x7 a3 a4).bind fun x8 =>
   ((Q.eqIntS x8.1 x5.1).bind fun x10 =>
   if (!x10) then
    some true
   else
    some (!decide (x8.2 = x5.2))).bind fun x9 =>
   if x9 then
    some false
   else
    (Q.toMethodS a1).bind fun x11 =>
    (Q.eqMethodS x6 x11).bind fun x12 =>
    if (!x12) then
     some false
    else
     (Q.toAccessS a2).bind fun x13 =>
     (Q.eqAccessS x7 x13).bind fun x14 =>
     if (!x14) then
      some false
     else
      (Q.markMethodS x6 1).bind fun x15 =>
      (Q.markAccessS x7 x15.1).bind fun x16 =>
      (if (decide (x16.1 < 0)) then
       some true
      else
       (Q.eqIntS x8.1 x5.1).bind fun x18 =>
       if (!x18) then
        some true
       else
        some (!decide (x8.2 = x5.2))).bind fun x17 =>
      if x17 then
       some false
      else
       (Q.markIntS x8.1 1).bind fun x19 =>
       (Q.heldIntS x19.2 1).bind fun x20 =>
       if (decide (x20 < 0)) then
        some false
       else
        if (!decide (x20 = x19.1)) then
         some false
        else
         (Q.toMethodS a1).bind fun x21 =>
         (Q.toAccessS a2).bind fun x22 =>
         (M.ScheduleLog x21 x22 a3 a4).bind fun x23 =>
         ((Q.eqIntS x23.1 x5.1).bind fun x25 =>
         if (!x25) then
          some true
         else
          some (!decide (x23.2 = x5.2))).bind fun x24 =>
         if x24 then
          some false
         else
          (Q.heldIntS x19.2 1).bind fun x26 =>
          if (decide (x26 < 0)) then
           some false
          else
           if (!decide (x26 = x19.1)) then
            some false
           else
            some true

def Q.big (a1 : (List UInt8)) : Option Bool :=
 some (decide (1048576 < (List.length a1 : Int)))

def S.l1New_l1 (a1 : (List UInt8)) : Nat → Int → Int → Option (Int)
 | 0, _, _ => none
 | k + 1, x1, x2 =>
  (if (decide (x2 < (List.length a1 : Int))) then
   some (decide (x2 < 4000))
  else
   some false).bind fun x4 =>
  if x4 then
   (idx a1 x2).bind fun x5 =>
   S.l1New_l1 a1 k (band (w64 ((w64 ((w64 (x1 * 131)) + (w64 (UInt8.toNat x5 : Int)))) + 7)) 1073741823) (w64 (x2 + 1))
  else
   some x1

def S.l1New (a1 : (List UInt8)) : Option ((List UInt8) × Int × Int) :=
 (S.l1New_l1 a1 FUEL (w64 (10101 + (List.length a1 : Int))) (0 : Int)).bind fun x3 =>
 some (a1, 0, x3)

def S.l1Byte (a1 : ((List UInt8) × Int × Int)) : Option (Int × ((List UInt8) × Int × Int)) :=
 (if (decide (a1.2.1 < (List.length a1.1 : Int))) then
  (idx a1.1 a1.2.1).bind fun x4 =>
  some (w64 (a1.2.1 + 1), w64 ((w64 (a1.2.2 * 6364136223846793005)) + 1442695040888963407), band (w64 ((band (bxor (shr (w64 ((w64 (a1.2.2 * 6364136223846793005)) + 1442695040888963407)) 33) (shr (w64 ((w64 (a1.2.2 * 6364136223846793005)) + 1442695040888963407)) 45)) 255) + (w64 (UInt8.toNat x4 : Int)))) 255)
 else
  some (a1.2.1, w64 ((w64 (a1.2.2 * 6364136223846793005)) + 1442695040888963407), band (bxor (shr (w64 ((w64 (a1.2.2 * 6364136223846793005)) + 1442695040888963407)) 33) (shr (w64 ((w64 (a1.2.2 * 6364136223846793005)) + 1442695040888963407)) 45)) 255)).bind fun (x1, x2, x3) =>
 some (x3, (a1.1, x1, x2))

def S.l1Below (a1 : ((List UInt8) × Int × Int)) (a2 : Int) : Option (Int × ((List UInt8) × Int × Int)) :=
 if (decide (a2 ≤ 0)) then
  some (0, (a1.1, a1.2.1, a1.2.2))
 else
  if (decide (a2 ≤ 256)) then
   (S.l1Byte (a1.1, a1.2.1, a1.2.2)).bind fun x1 =>
   (nz a2).bind fun _ =>
   some (x1.1.tmod a2, (a1.1, x1.2.2.1, x1.2.2.2))
  else
   (S.l1Byte (a1.1, a1.2.1, a1.2.2)).bind fun x2 =>
   (S.l1Byte (a1.1, x2.2.2.1, x2.2.2.2)).bind fun x3 =>
   (S.l1Byte (a1.1, x3.2.2.1, x3.2.2.2)).bind fun x4 =>
   (S.l1Byte (a1.1, x4.2.2.1, x4.2.2.2)).bind fun x5 =>
   (nz a2).bind fun _ =>
   some ((w64 ((w64 ((w64 ((w64 (x2.1 * 16777216)) + (w64 (x3.1 * 65536)))) + (w64 (x4.1 * 256)))) + x5.1)).tmod a2, (a1.1, x5.2.2.1, x5.2.2.2))

def S.l1Once (a1 : ((List UInt8) × Int × Int)) (a2 : Int) : Option (Bool × ((List UInt8) × Int × Int)) :=
 (S.l1Below (a1.1, a1.2.1, a1.2.2) a2).bind fun x1 =>
 some ((decide (x1.1 = 0)), (a1.1, x1.2.2.1, x1.2.2.2))

def S.l2Schema_l1 (a1 : ((List UInt8) × Int × Int)) : Nat → Int → Int → (List Int) → Int → Option ((Int × Int × (List Int)))
 | 0, _, _, _, _ => none
 | k + 1, x2, x3, x4, x5 =>
  if (decide (0 < x5)) then
   (S.l1Below (a1.1, x2, x3) 2).bind fun x9 =>
   (S.l1Once (a1.1, x9.2.2.1, x9.2.2.2) 4).bind fun x10 =>
   (if x10.1 then
    some (3 : Int)
   else
    some (w64 (1 + x9.1))).bind fun x11 =>
   (app x4 ([x11])).bind fun x12 =>
   S.l2Schema_l1 a1 k x10.2.2.1 x10.2.2.2 x12 (w64 (x5 - 1))
  else
   some (x2, x3, x4)

def S.l2Schema (a1 : ((List UInt8) × Int × Int)) : Option ((List Int) × ((List UInt8) × Int × Int)) :=
 (S.l1Below (a1.1, a1.2.1, a1.2.2) 3).bind fun x1 =>
 (S.l2Schema_l1 a1 FUEL x1.2.2.1 x1.2.2.2 ([] : List Int) (w64 (1 + x1.1))).bind fun (x6, x7, x8) =>
 some (x8, (a1.1, x6, x7))

def S.l1PickInt (a1 : ((List UInt8) × Int × Int)) (a2 : (List Int)) : Option (Int × ((List UInt8) × Int × Int)) :=
 (S.l1Below (a1.1, a1.2.1, a1.2.2) (List.length a2 : Int)).bind fun x1 =>
 (idx a2 x1.1).bind fun x2 =>
 some (x2, (a1.1, x1.2.2.1, x1.2.2.2))

def S.l5Method_l1 (a2 : (List Int)) (a1 : ((List UInt8) × Int × Int)) : Nat → Int → (List Int) → Int → Int → Int → Int → Int → Int → Option ((Int × (List Int) × Int × Int × Int × Int × Int))
 | 0, _, _, _, _, _, _, _, _ => none
 | k + 1, x5, x6, x7, x8, x9, x10, x11, x12 =>
  (idx a2 x5).bind fun x20 =>
  if (decide (x12 < x20)) then
   (S.l1Once (a1.1, x10, x11) 3).bind fun x21 =>
   (if x21.1 then
    (app x6 ([x12])).bind fun x27 =>
    some (x5, x27, x7, x8, x9)
   else
    some (x5, x6, x7, x8, x9)).bind fun (x22, x23, x24, x25, x26) =>
   S.l5Method_l1 a2 a1 k x22 x23 x24 x25 x26 x21.2.2.1 x21.2.2.2 (w64 (x12 + 1))
  else
   some (x5, x6, x7, x8, x9, x10, x11)

def S.l5Method (a1 : ((List UInt8) × Int × Int)) (a2 : (List Int)) : Option ((Int × (List Int) × Int × Int × Int) × ((List UInt8) × Int × Int)) :=
 (S.l1Below (a1.1, a1.2.1, a1.2.2) (List.length a2 : Int)).bind fun x1 =>
 (S.l1PickInt (a1.1, x1.2.2.1, x1.2.2.2) ([0, 0, 0, 1, 2])).bind fun x2 =>
 (S.l1Below (a1.1, x2.2.2.1, x2.2.2.2) 5).bind fun x3 =>
 (S.l1Below (a1.1, x3.2.2.1, x3.2.2.2) 6).bind fun x4 =>
 (S.l5Method_l1 a2 a1 FUEL x1.1 ([]) x2.1 x3.1 (w64 (1 + x4.1)) x4.2.2.1 x4.2.2.2 (0 : Int)).bind fun (x13, x14, x15, x16, x17, x18, x19) =>
 some ((x13, x14, x15, x16, x17), (a1.1, x18, x19))

def S.l5Methods_l1 (a1 : ((List UInt8) × Int × Int)) (a2 : (List Int)) : Nat → Int → Int → (List (Int × (List Int) × Int × Int × Int)) → Int → Option ((Int × Int × (List (Int × (List Int) × Int × Int × Int))))
 | 0, _, _, _, _ => none
 | k + 1, x2, x3, x4, x5 =>
  if (decide (0 < x5)) then
   (S.l5Method (a1.1, x2, x3) a2).bind fun x9 =>
   (app x4 ([(x9.1.1, x9.1.2.1, x9.1.2.2.1, x9.1.2.2.2.1, x9.1.2.2.2.2)])).bind fun x10 =>
   S.l5Methods_l1 a1 a2 k x9.2.2.1 x9.2.2.2 x10 (w64 (x5 - 1))
  else
   some (x2, x3, x4)

def S.l5Methods (a1 : ((List UInt8) × Int × Int)) (a2 : (List Int)) : Option ((List (Int × (List Int) × Int × Int × Int)) × ((List UInt8) × Int × Int)) :=
 (S.l1Below (a1.1, a1.2.1, a1.2.2) 4).bind fun x1 =>
 (S.l5Methods_l1 a1 a2 FUEL x1.2.2.1 x1.2.2.2 ([] : List (Int × (List Int) × Int × Int × Int)) (w64 (1 + x1.1))).bind fun (x6, x7, x8) =>
 some (x8, (a1.1, x6, x7))

def S.CompareFacts_l1 (a1 : (Int × (List Int))) (a2 : (Int × (List Int))) : Nat → Int → Option (Sum Unit Int)
 | 0, _ => none
 | k + 1, x1 =>
  (if (decide (x1 < (List.length a1.2 : Int))) then
   some (decide (x1 < (List.length a2.2 : Int)))
  else
   some false).bind fun x2 =>
  if x2 then
   (idx a1.2 x1).bind fun x3 =>
   (idx a2.2 x1).bind fun x4 =>
   if (decide (x3 < x4)) then
    some (.inr (-1))
   else
    (idx a1.2 x1).bind fun x5 =>
    (idx a2.2 x1).bind fun x6 =>
    if (decide (x6 < x5)) then
     some (.inr 1)
    else
     S.CompareFacts_l1 a1 a2 k (w64 (x1 + 1))
  else
   some (.inl ())

def S.CompareFacts (a1 : (Int × (List Int))) (a2 : (Int × (List Int))) : Option Int :=
 if (!decide (a1.1 = a2.1)) then
  if (decide (a1.1 < a2.1)) then
   some (-1)
  else
   some 1
 else
  (S.CompareFacts_l1 a1 a2 FUEL (0 : Int)).bind fun o => match o with
   | .inl () =>
    if (decide ((List.length a1.2 : Int) < (List.length a2.2 : Int))) then
     some (-1)
    else
     if (decide ((List.length a2.2 : Int) < (List.length a1.2 : Int))) then
      some 1
     else
      some 0
   | .inr r => some r

def S.HasFact_l1 (a1 : (List (Int × (List Int)))) (a2 : (Int × (List Int))) : Nat → Int → Option (Sum Unit Bool)
 | 0, _ => none
 | k + 1, x1 =>
  if (decide (x1 < (List.length a1 : Int))) then
   (idx a1 x1).bind fun x2 =>
   (S.CompareFacts x2 (a2.1, a2.2)).bind fun x3 =>
   if (decide (x3 = 0)) then
    some (.inr true)
   else
    S.HasFact_l1 a1 a2 k (w64 (x1 + 1))
  else
   some (.inl ())

def S.HasFact (a1 : (List (Int × (List Int)))) (a2 : (Int × (List Int))) : Option Bool :=
 (S.HasFact_l1 a1 a2 FUEL (0 : Int)).bind fun o => match o with
  | .inl () =>
   some false
  | .inr r => some r

def S.l2One (a1 : Int) (a2 : (List Int)) : Option (Int × (List Int)) :=
 (app ([] : List Int) a2).bind fun x1 =>
 some (a1, x1)

def S.AddFact_l1 (a1 : (List (Int × (List Int)))) (a2 : (Int × (List Int))) : Nat → (List (Int × (List Int))) → Bool → Int → Option (((List (Int × (List Int))) × Bool))
 | 0, _, _, _ => none
 | k + 1, x2, x3, x4 =>
  if (decide (x4 < (List.length a1 : Int))) then
   (if (!x3) then
    (idx a1 x4).bind fun x8 =>
    (S.CompareFacts (a2.1, a2.2) x8).bind fun x9 =>
    some (decide (x9 < 0))
   else
    some false).bind fun x7 =>
   (if x7 then
    (S.l2One a2.1 a2.2).bind fun x12 =>
    (app x2 ([(x12.1, x12.2)])).bind fun x13 =>
    some (x13, true)
   else
    some (x2, x3)).bind fun (x10, x11) =>
   (idx a1 x4).bind fun x14 =>
   (idx a1 x4).bind fun x15 =>
   (S.l2One x14.1 x15.2).bind fun x16 =>
   (app x10 ([(x16.1, x16.2)])).bind fun x17 =>
   S.AddFact_l1 a1 a2 k x17 x11 (w64 (x4 + 1))
  else
   some (x2, x3)

def S.AddFact (a1 : (List (Int × (List Int)))) (a2 : (Int × (List Int))) : Option (List (Int × (List Int))) :=
 (S.HasFact a1 (a2.1, a2.2)).bind fun x1 =>
 (S.AddFact_l1 a1 a2 FUEL ([] : List (Int × (List Int))) x1 (0 : Int)).bind fun (x5, x6) =>
 (if (!x6) then
  (S.l2One a2.1 a2.2).bind fun x19 =>
  (app x5 ([(x19.1, x19.2)])).bind fun x20 =>
  some x20
 else
  some x5).bind fun x18 =>
 some x18

def S.l2Fact_l1 (a2 : (List Int)) (a1 : ((List UInt8) × Int × Int)) (a3 : Int) : Nat → Int → (List Int) → Int → Int → Int → Option ((Int × (List Int) × Int × Int))
 | 0, _, _, _, _, _ => none
 | k + 1, x2, x3, x4, x5, x6 =>
  (idx a2 x2).bind fun x11 =>
  if (decide (x6 < x11)) then
   (S.l1Below (a1.1, x4, x5) a3).bind fun x12 =>
   (app x3 ([x12.1])).bind fun x13 =>
   S.l2Fact_l1 a2 a1 a3 k x2 x13 x12.2.2.1 x12.2.2.2 (w64 (x6 + 1))
  else
   some (x2, x3, x4, x5)

def S.l2Fact (a1 : ((List UInt8) × Int × Int)) (a2 : (List Int)) (a3 : Int) : Option ((Int × (List Int)) × ((List UInt8) × Int × Int)) :=
 (S.l1Below (a1.1, a1.2.1, a1.2.2) (List.length a2 : Int)).bind fun x1 =>
 (S.l2Fact_l1 a2 a1 a3 FUEL x1.1 ([]) x1.2.2.1 x1.2.2.2 (0 : Int)).bind fun (x7, x8, x9, x10) =>
 some ((x7, x8), (a1.1, x9, x10))

def S.l2Facts_l1 (a1 : ((List UInt8) × Int × Int)) (a2 : (List Int)) : Nat → Int → Int → (List (Int × (List Int))) → Int → Option ((Int × Int × (List (Int × (List Int)))))
 | 0, _, _, _, _ => none
 | k + 1, x2, x3, x4, x5 =>
  if (decide (0 < x5)) then
   (S.l2Fact (a1.1, x2, x3) a2 4).bind fun x9 =>
   (S.AddFact x4 x9.1).bind fun x10 =>
   S.l2Facts_l1 a1 a2 k x9.2.2.1 x9.2.2.2 x10 (w64 (x5 - 1))
  else
   some (x2, x3, x4)

def S.l2Facts (a1 : ((List UInt8) × Int × Int)) (a2 : (List Int)) (a3 : Int) : Option ((List (Int × (List Int))) × ((List UInt8) × Int × Int)) :=
 (S.l1Below (a1.1, a1.2.1, a1.2.2) (w64 (a3 + 1))).bind fun x1 =>
 (S.l2Facts_l1 a1 a2 FUEL x1.2.2.1 x1.2.2.2 ([] : List (Int × (List Int))) x1.1).bind fun (x6, x7, x8) =>
 some (x8, (a1.1, x6, x7))

def S.IsSchema_l1 (a1 : (List Int)) : Nat → Int → Option (Sum Unit Bool)
 | 0, _ => none
 | k + 1, x1 =>
  if (decide (x1 < (List.length a1 : Int))) then
   (idx a1 x1).bind fun x2 =>
   (S.l1In x2 1 3).bind fun x3 =>
   if (!x3) then
    some (.inr false)
   else
    S.IsSchema_l1 a1 k (w64 (x1 + 1))
  else
   some (.inl ())

def S.IsSchema (a1 : (List Int)) : Option Bool :=
 (S.IsSchema_l1 a1 FUEL (0 : Int)).bind fun o => match o with
  | .inl () =>
   (S.l1In (List.length a1 : Int) 1 3).bind fun x4 =>
   some x4
  | .inr r => some r

def S.l5AnyMethod (a1 : ((List UInt8) × Int × Int)) (a2 : (List Int)) : Option ((Int × (List Int) × Int × Int × Int) × ((List UInt8) × Int × Int)) :=
 (S.IsSchema a2).bind fun x1 =>
 (if x1 then
  (S.l5Method (a1.1, a1.2.1, a1.2.2) a2).bind fun x9 =>
  some (x9.1.1, x9.1.2.1, x9.1.2.2.1, x9.1.2.2.2.1, x9.1.2.2.2.2, x9.2.2.1, x9.2.2.2)
 else
  some ((0 : Int), [], (0 : Int), (0 : Int), (1 : Int), a1.2.1, a1.2.2)).bind fun (x2, x3, x4, x5, x6, x7, x8) =>
 (S.l1Below (a1.1, x7, x8) 10).bind fun x10 =>
 (if (decide (x10.1 = 0)) then
  (S.l1PickInt (a1.1, x10.2.2.1, x10.2.2.2) ([(-1), 9, 10])).bind fun x18 =>
  some (x18.2.2.1, x18.2.2.2, x2, x3, x18.1, x5, x6)
 else
  (if (decide (x10.1 = 1)) then
   ((S.l1Below (a1.1, x10.2.2.1, x10.2.2.2) 5).bind fun x33 =>
   (app x3 ([w64 (x33.1 - 1)])).bind fun x34 =>
   some (x33.2.2.1, x33.2.2.2, x2, x34, x4, x5, x6)).bind fun (x26, x27, x28, x29, x30, x31, x32) =>
   some (x26, x27, x28, x29, x30, x31, x32)
  else
   (if (decide (x10.1 = 2)) then
    (S.l1PickInt (a1.1, x10.2.2.1, x10.2.2.2) ([0, 99, 100])).bind fun x42 =>
    some (x42.2.2.1, x42.2.2.2, x2, x3, x4, x5, x42.1)
   else
    (if (decide (x10.1 = 3)) then
     (S.l1PickInt (a1.1, x10.2.2.1, x10.2.2.2) ([(-1), 99, 100])).bind fun x50 =>
     some (x50.2.2.1, x50.2.2.2, x2, x3, x4, x50.1, x6)
    else
     some (x10.2.2.1, x10.2.2.2, x2, x3, x4, x5, x6)).bind fun (x43, x44, x45, x46, x47, x48, x49) =>
    some (x43, x44, x45, x46, x47, x48, x49)).bind fun (x35, x36, x37, x38, x39, x40, x41) =>
   some (x35, x36, x37, x38, x39, x40, x41)).bind fun (x19, x20, x21, x22, x23, x24, x25) =>
  some (x19, x20, x21, x22, x23, x24, x25)).bind fun (x11, x12, x13, x14, x15, x16, x17) =>
 some ((x13, x14, x15, x16, x17), (a1.1, x11, x12))

def S.l2AnyFact (a1 : ((List UInt8) × Int × Int)) (a2 : (List Int)) : Option ((Int × (List Int)) × ((List UInt8) × Int × Int)) :=
 (S.IsSchema a2).bind fun x1 =>
 (if x1 then
  (S.l2Fact (a1.1, a1.2.1, a1.2.2) a2 10).bind fun x6 =>
  some (x6.1.1, x6.1.2, x6.2.2.1, x6.2.2.2)
 else
  some ((0 : Int), [1], a1.2.1, a1.2.2)).bind fun (x2, x3, x4, x5) =>
 (S.l1Below (a1.1, x4, x5) 8).bind fun x7 =>
 (if (decide (x7.1 = 0)) then
  (S.l1Below (a1.1, x7.2.2.1, x7.2.2.2) 5).bind fun x12 =>
  some (x12.2.2.1, x12.2.2.2, w64 (x12.1 - 1), x3)
 else
  (if (decide (x7.1 = 1)) then
   ((S.l1PickInt (a1.1, x7.2.2.1, x7.2.2.2) ([(-1), 9, 10])).bind fun x20 =>
   (idx x3 0).bind fun x21 =>
   some ((List.set x3 (Int.toNat 0) x20.1), x20.2.2.1, x20.2.2.2)).bind fun (x17, x18, x19) =>
   some (x18, x19, x2, x17)
  else
   (if (decide (x7.1 = 2)) then
    (app x3 ([1])).bind fun x24 =>
    some (x2, x24)
   else
    some (x2, x3)).bind fun (x22, x23) =>
   some (x7.2.2.1, x7.2.2.2, x22, x23)).bind fun (x13, x14, x15, x16) =>
  some (x13, x14, x15, x16)).bind fun (x8, x9, x10, x11) =>
 some ((x10, x11), (a1.1, x8, x9))

def S.l2AnyFacts (a1 : ((List UInt8) × Int × Int)) (a2 : (List Int)) : Option ((List (Int × (List Int))) × ((List UInt8) × Int × Int)) :=
 (S.IsSchema a2).bind fun x1 =>
 (if x1 then
  (S.l2Facts (a1.1, a1.2.1, a1.2.2) a2 8).bind fun x5 =>
  some (x5.2.2.1, x5.2.2.2, x5.1)
 else
  some (a1.2.1, a1.2.2, ([] : List (Int × (List Int))))).bind fun (x2, x3, x4) =>
 (S.l1Once (a1.1, x2, x3) 10).bind fun x6 =>
 (if x6.1 then
  (S.l2AnyFact (a1.1, x6.2.2.1, x6.2.2.2) a2).bind fun x10 =>
  (app x4 ([(x10.1.1, x10.1.2)])).bind fun x11 =>
  some (x10.2.2.1, x10.2.2.2, x11)
 else
  some (x6.2.2.1, x6.2.2.2, x4)).bind fun (x7, x8, x9) =>
 some (x9, (a1.1, x7, x8))

def S.l2AnySchema (a1 : ((List UInt8) × Int × Int)) : Option ((List Int) × ((List UInt8) × Int × Int)) :=
 (S.l2Schema (a1.1, a1.2.1, a1.2.2)).bind fun x1 =>
 (S.l1Once (a1.1, x1.2.2.1, x1.2.2.2) 14).bind fun x2 =>
 (if x2.1 then
  (S.l1PickInt (a1.1, x2.2.2.1, x2.2.2.2) ([0, 1, 4])).bind fun x6 =>
  (app x1.1 ([x6.1])).bind fun x7 =>
  some (x6.2.2.1, x6.2.2.2, x7)
 else
  some (x2.2.2.1, x2.2.2.2, x1.1)).bind fun (x3, x4, x5) =>
 some (x5, (a1.1, x3, x4))

def S.l5Draw (a1 : ((List UInt8) × Int × Int)) : Option ((List Int) × (List (Int × (List Int) × Int × Int × Int)) × (List (Int × (List Int))) × ((List UInt8) × Int × Int)) :=
 (S.l2Schema (a1.1, a1.2.1, a1.2.2)).bind fun x1 =>
 (S.l5Methods (a1.1, x1.2.2.1, x1.2.2.2) x1.1).bind fun x2 =>
 (S.l2Facts (a1.1, x2.2.2.1, x2.2.2.2) x1.1 8).bind fun x3 =>
 (S.l1Below (a1.1, x3.2.2.1, x3.2.2.2) 20).bind fun x4 =>
 (if (decide (x4.1 = 0)) then
  (S.l5AnyMethod (a1.1, x4.2.2.1, x4.2.2.2) x1.1).bind fun x10 =>
  (app x2.1 ([(x10.1.1, x10.1.2.1, x10.1.2.2.1, x10.1.2.2.2.1, x10.1.2.2.2.2)])).bind fun x11 =>
  some (x10.2.2.1, x10.2.2.2, x1.1, x11, x3.1)
 else
  (if (decide (x4.1 = 1)) then
   (S.l2AnyFacts (a1.1, x4.2.2.1, x4.2.2.2) x1.1).bind fun x16 =>
   some (x16.2.2.1, x16.2.2.2, x1.1, x16.1)
  else
   (if (decide (x4.1 = 2)) then
    (S.l2AnySchema (a1.1, x4.2.2.1, x4.2.2.2)).bind fun x20 =>
    some (x20.2.2.1, x20.2.2.2, x20.1)
   else
    some (x4.2.2.1, x4.2.2.2, x1.1)).bind fun (x17, x18, x19) =>
   some (x17, x18, x19, x3.1)).bind fun (x12, x13, x14, x15) =>
  some (x12, x13, x14, x2.1, x15)).bind fun (x5, x6, x7, x8, x9) =>
 some (x7, x8, x9, (a1.1, x5, x6))

def S.l5Access_l1 (a2 : (List (Int × (List Int) × Int × Int × Int))) (a1 : ((List UInt8) × Int × Int)) : Nat → Int → (List Int) → Int → Int → Int → Option ((Int × (List Int) × Int × Int))
 | 0, _, _, _, _, _ => none
 | k + 1, x2, x3, x4, x5, x6 =>
  (idx a2 x2).bind fun x11 =>
  if (decide (x6 < (List.length x11.2.1 : Int))) then
   (S.l1Below (a1.1, x4, x5) 4).bind fun x12 =>
   (app x3 ([x12.1])).bind fun x13 =>
   S.l5Access_l1 a2 a1 k x2 x13 x12.2.2.1 x12.2.2.2 (w64 (x6 + 1))
  else
   some (x2, x3, x4, x5)

def S.l5Access (a1 : ((List UInt8) × Int × Int)) (a2 : (List (Int × (List Int) × Int × Int × Int))) : Option ((Int × (List Int)) × ((List UInt8) × Int × Int)) :=
 if (decide ((List.length a2 : Int) = 0)) then
  some ((0, []), (a1.1, a1.2.1, a1.2.2))
 else
  (S.l1Below (a1.1, a1.2.1, a1.2.2) (List.length a2 : Int)).bind fun x1 =>
  (S.l5Access_l1 a2 a1 FUEL x1.1 ([]) x1.2.2.1 x1.2.2.2 (0 : Int)).bind fun (x7, x8, x9, x10) =>
  some ((x7, x8), (a1.1, x9, x10))

def S.l5AnyAccess (a1 : ((List UInt8) × Int × Int)) (a2 : (List (Int × (List Int) × Int × Int × Int))) : Option ((Int × (List Int)) × ((List UInt8) × Int × Int)) :=
 (S.l5Access (a1.1, a1.2.1, a1.2.2) a2).bind fun x1 =>
 (S.l1Below (a1.1, x1.2.2.1, x1.2.2.2) 12).bind fun x2 =>
 (if (decide (x2.1 = 0)) then
  (S.l1Below (a1.1, x2.2.2.1, x2.2.2.2) 7).bind fun x7 =>
  some (x7.2.2.1, x7.2.2.2, w64 (x7.1 - 1), x1.1.2)
 else
  (if (decide (x2.1 = 1)) then
   ((S.l1PickInt (a1.1, x2.2.2.1, x2.2.2.2) ([(-1), 3, 10])).bind fun x16 =>
   (app x1.1.2 ([x16.1])).bind fun x17 =>
   some (x16.2.2.1, x16.2.2.2, x1.1.1, x17)).bind fun (x12, x13, x14, x15) =>
   some (x12, x13, x14, x15)
  else
   some (x2.2.2.1, x2.2.2.2, x1.1.1, x1.1.2)).bind fun (x8, x9, x10, x11) =>
  some (x8, x9, x10, x11)).bind fun (x3, x4, x5, x6) =>
 some ((x5, x6), (a1.1, x3, x4))

def S.l7Log_l1 (a1 : (List UInt8)) (x2 : ((List Int) × (List (Int × (List Int) × Int × Int × Int)) × (List (Int × (List Int))) × ((List UInt8) × Int × Int))) : Nat → Int → Int → (List (Int × (List Int))) → Int → Option ((Int × Int × (List (Int × (List Int)))))
 | 0, _, _, _, _ => none
 | k + 1, x4, x5, x6, x7 =>
  if (decide (0 < x7)) then
   (S.l5AnyAccess (a1, x4, x5) x2.2.1).bind fun x11 =>
   (app x6 ([(x11.1.1, x11.1.2)])).bind fun x12 =>
   S.l7Log_l1 a1 x2 k x11.2.2.1 x11.2.2.2 x12 (w64 (x7 - 1))
  else
   some (x4, x5, x6)

def S.l7Log (a1 : (List UInt8)) : Option ((List (Int × (List Int) × Int × Int × Int)) × (List (Int × (List Int)))) :=
 (S.l1New a1).bind fun x1 =>
 (S.l5Draw (a1, x1.2.1, x1.2.2)).bind fun x2 =>
 (S.l1Below (a1, x2.2.2.2.2.1, x2.2.2.2.2.2) 8).bind fun x3 =>
 (S.l7Log_l1 a1 x2 FUEL x3.2.2.1 x3.2.2.2 ([] : List (Int × (List Int))) x3.1).bind fun (x8, x9, x10) =>
 some (x2.2.1, x10)

def S.DrawScheduleLog (a1 : (List UInt8)) : Option ((List (Int × (List Int) × Int × Int × Int)) × (List (Int × (List Int))) × Int × Int) :=
 (S.l7Log a1).bind fun x1 =>
 some (x1.1, x1.2, w64 (((List.length a1 : Int).tmod 8) + 1), (List.length a1 : Int).tmod 5)

def Q.sameInts_l1 (a1 : (List Int)) (a2 : (List Int)) : Nat → Int → Option (Sum Unit Bool)
 | 0, _ => none
 | k + 1, x1 =>
  if (decide (x1 < (List.length a1 : Int))) then
   (idx a1 x1).bind fun x2 =>
   (idx a2 x1).bind fun x3 =>
   if (!decide (x2 = x3)) then
    some (.inr false)
   else
    Q.sameInts_l1 a1 a2 k (w64 (x1 + 1))
  else
   some (.inl ())

def Q.sameInts (a1 : (List Int)) (a2 : (List Int)) : Option Bool :=
 if (!decide ((List.length a1 : Int) = (List.length a2 : Int))) then
  some false
 else
  (Q.sameInts_l1 a1 a2 FUEL (0 : Int)).bind fun o => match o with
   | .inl () =>
    some true
   | .inr r => some r

def M.IsWindow (a1 : (Int × Int)) : Option Bool :=
 ((M.within a1.1 1 100).bind fun x2 =>
 if x2 then
  (M.within a1.2 1 99).bind fun x3 =>
  some x3
 else
  some false).bind fun x1 =>
 some x1

def M.bit (a1 : Bool) : Option Int :=
 if a1 then
  some 1
 else
  some 0

def M.CallsIn_l1 (a1 : (List Int)) (a2 : Int) (a3 : Int) : Nat → Int → Int → Option (Int)
 | 0, _, _ => none
 | k + 1, x1, x2 =>
  if (decide (x2 < (List.length a1 : Int))) then
   (idx a1 x2).bind fun x4 =>
   (if (decide (0 ≤ a2)) then
    if (decide (a2 ≤ x4)) then
     (M.bit (decide ((w64 (x4 - a2)) < a3))).bind fun x6 =>
     some (w64 (x1 + x6))
    else
     (M.bit false).bind fun x7 =>
     some (w64 (x1 + x7))
   else
    (M.bit false).bind fun x8 =>
    some (w64 (x1 + x8))).bind fun x5 =>
   M.CallsIn_l1 a1 a2 a3 k x5 (w64 (x2 + 1))
  else
   some x1

def M.CallsIn (a1 : (List Int)) (a2 : Int) (a3 : Int) : Option Int :=
 (M.CallsIn_l1 a1 a2 a3 FUEL (0 : Int) (0 : Int)).bind fun x3 =>
 some x3

def M.IsKept_l1 (a1 : (List Int)) (a2 : (Int × Int)) : Nat → Int → Option (Sum Unit Bool)
 | 0, _ => none
 | k + 1, x3 =>
  if (decide (x3 < (List.length a1 : Int))) then
   (idx a1 x3).bind fun x4 =>
   ((M.isTime x4).bind fun x6 =>
   if (!x6) then
    some true
   else
    if (decide (0 < x3)) then
     (idx a1 (w64 (x3 - 1))).bind fun x7 =>
     if (decide (x4 < x7)) then
      some true
     else
      (M.CallsIn a1 x4 a2.1).bind fun x8 =>
      some (decide (a2.2 < x8))
    else
     (M.CallsIn a1 x4 a2.1).bind fun x9 =>
     some (decide (a2.2 < x9))).bind fun x5 =>
   if x5 then
    some (.inr false)
   else
    M.IsKept_l1 a1 a2 k (w64 (x3 + 1))
  else
   some (.inl ())

def M.IsKept (a1 : (List Int)) (a2 : (Int × Int)) : Option Bool :=
 (if (decide (1000 < (List.length a1 : Int))) then
  some true
 else
  (M.IsWindow (a2.1, a2.2)).bind fun x2 =>
  some (!x2)).bind fun x1 =>
 if x1 then
  some false
 else
  (M.IsKept_l1 a1 a2 FUEL (0 : Int)).bind fun o => match o with
   | .inl () =>
    some true
   | .inr r => some r

def Q.FnSchedules_l3 (x2 : ((List (Int × (List Int) × Int × Int × Int)) × (List (Int × (List Int))) × Int × Int)) (x12 : Int) (x4 : ((List Int) × Bool)) : Nat → (List Int) → Int → Option ((List Int))
 | 0, _, _ => none
 | k + 1, x14, x15 =>
  if (decide (x15 < (List.length x2.2.1 : Int))) then
   (idx x2.2.1 x15).bind fun x17 =>
   (if (decide (x17.1 = x12)) then
    (idx x4.1 x15).bind fun x19 =>
    (app x14 ([x19])).bind fun x20 =>
    some x20
   else
    some x14).bind fun x18 =>
   Q.FnSchedules_l3 x2 x12 x4 k x18 (w64 (x15 + 1))
  else
   some x14

def Q.FnSchedules_l2 (x2 : ((List (Int × (List Int) × Int × Int × Int)) × (List (Int × (List Int))) × Int × Int)) (x3 : ((List Int) × Bool)) (x4 : ((List Int) × Bool)) : Nat → Int → Option (Sum Unit Bool)
 | 0, _ => none
 | k + 1, x12 =>
  (if (decide (x12 < (List.length x2.1 : Int))) then
   some x3.2
  else
   some false).bind fun x13 =>
  if x13 then
   (Q.FnSchedules_l3 x2 x12 x4 FUEL ([] : List Int) (0 : Int)).bind fun x16 =>
   (idx x2.1 x12).bind fun x21 =>
   (if (decide (0 < (List.length x16 : Int))) then
    (M.IsKept x16 (x2.2.2.1, x21.2.2.2.2)).bind fun x23 =>
    some (!x23)
   else
    some false).bind fun x22 =>
   if x22 then
    some (.inr false)
   else
    Q.FnSchedules_l2 x2 x3 x4 k (w64 (x12 + 1))
  else
   some (.inl ())

def Q.FnSchedules_l1 (x4 : ((List Int) × Bool)) (x2 : ((List (Int × (List Int) × Int × Int × Int)) × (List (Int × (List Int))) × Int × Int)) : Nat → Int → Option (Sum Unit Bool)
 | 0, _ => none
 | k + 1, x7 =>
  if (decide (x7 < (List.length x4.1 : Int))) then
   ((idx x4.1 x7).bind fun x9 =>
   if (decide (x9 < x2.2.2.2)) then
    some true
   else
    if (decide (0 < x7)) then
     (idx x4.1 x7).bind fun x10 =>
     (idx x4.1 (w64 (x7 - 1))).bind fun x11 =>
     some (decide (x10 < x11))
    else
     some false).bind fun x8 =>
   if x8 then
    some (.inr false)
   else
    Q.FnSchedules_l1 x4 x2 k (w64 (x7 + 1))
  else
   some (.inl ())

def Q.FnSchedules (a1 : (List UInt8)) : Option Bool :=
 (Q.big a1).bind fun x1 =>
 if x1 then
  some true
 else
  (S.DrawScheduleLog a1).bind fun x2 =>
  (M.ScheduleLog x2.1 x2.2.1 x2.2.2.1 x2.2.2.2).bind fun x3 =>
  (S.ScheduleLog x2.1 x2.2.1 x2.2.2.1 x2.2.2.2).bind fun x4 =>
  (if (!decide (x3.2 = x4.2)) then
   some true
  else
   (Q.sameInts x3.1 x4.1).bind fun x6 =>
   some (!x6)).bind fun x5 =>
  if x5 then
   some false
  else
   (Q.FnSchedules_l1 x4 x2 FUEL (0 : Int)).bind fun o => match o with
    | .inl () =>
     (Q.FnSchedules_l2 x2 x3 x4 FUEL (0 : Int)).bind fun o => match o with
      | .inl () =>
       (if (!x3.2) then
        some true
       else
        some (decide ((List.length x4.1 : Int) = (List.length x2.2.1 : Int)))).bind fun x24 =>
       some x24
      | .inr r => some r
    | .inr r => some r

end Go.Gx.Px
