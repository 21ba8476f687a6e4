/- The Go functions as pure Lean functions, printed by program. Conditions: none. -/
import Derived.Test.YtnccdhglieidhaaGxV
set_option linter.unusedVariables false
namespace Go.Gx.Px

def Q.szIntS (a1 : (List Int)) (a2 : Int) : Option Int :=
  if (decide ((w64 (a2 - (List.length a1 : Int))) < 0)) then
    some (-1)
  else
    some (w64 (a2 - (List.length a1 : Int)))

def Q.szFact (a1 : (Int × (List Int))) (a2 : Int) : Option Int :=
  (Q.szIntS a1.2 a2).bind fun x1 =>
  if (decide (x1 < 0)) then
    some (-1)
  else
    some x1

def Q.szFactS_l1 (a1 : (List (Int × (List Int)))) : Nat → Int → Int → Option (Sum Int Int)
  | 0, _, _ => none
  | k + 1, x1, x2 =>
    if (decide (x2 < (List.length a1 : Int))) then
      (idx a1 x2).bind fun x4 =>
      (Q.szFact x4 x1).bind fun x5 =>
      if (decide (x5 < 0)) then
        some (.inr (-1))
      else
        Q.szFactS_l1 a1 k x5 (w64 (x2 + 1))
    else
      some (.inl x1)

def Q.szFactS (a1 : (List (Int × (List Int)))) (a2 : Int) : Option Int :=
  if (decide ((w64 (a2 - (List.length a1 : Int))) < 0)) then
    some (-1)
  else
    (Q.szFactS_l1 a1 FUEL (w64 (a2 - (List.length a1 : Int))) (0 : Int)).bind fun o => match o with
      | .inl x3 =>
        some x3
      | .inr r => some r

def Q.toIntS_l1 (a1 : (List Int)) : Nat → (List Int) → Int → Option ((List Int))
  | 0, _, _ => none
  | k + 1, x2, x3 =>
    if (decide (x3 < (List.length a1 : Int))) then
      (idx a1 x3).bind fun x5 =>
      (idx x2 x3).bind fun x6 =>
      Q.toIntS_l1 a1 k (List.set x2 (Int.toNat x3) x5) (w64 (x3 + 1))
    else
      some x2

def Q.toIntS (a1 : (List Int)) : Option (List Int) :=
  (mk (List.length a1 : Int) (0 : Int)).bind fun x1 =>
  (Q.toIntS_l1 a1 FUEL x1 (0 : Int)).bind fun x4 =>
  some x4

def Q.toFact (a1 : (Int × (List Int))) : Option (Int × (List Int)) :=
  (Q.toIntS a1.2).bind fun x1 =>
  some (a1.1, x1)

def Q.toFactS_l1 (a1 : (List (Int × (List Int)))) : Nat → (List (Int × (List Int))) → Int → Option ((List (Int × (List Int))))
  | 0, _, _ => none
  | k + 1, x2, x3 =>
    if (decide (x3 < (List.length a1 : Int))) then
      (idx a1 x3).bind fun x5 =>
      (Q.toFact x5).bind fun x6 =>
      (idx x2 x3).bind fun x7 =>
      Q.toFactS_l1 a1 k (List.set x2 (Int.toNat x3) (x6.1, x6.2)) (w64 (x3 + 1))
    else
      some x2

def Q.toFactS (a1 : (List (Int × (List Int)))) : Option (List (Int × (List Int))) :=
  (mk (List.length a1 : Int) (0, [])).bind fun x1 =>
  (Q.toFactS_l1 a1 FUEL x1 (0 : Int)).bind fun x4 =>
  some x4

def Q.eqIntS_l1 (a1 : (List Int)) (a2 : (List Int)) : Nat → Int → Option (Sum Unit Bool)
  | 0, _ => none
  | k + 1, x1 =>
    if (decide (x1 < (List.length a1 : Int))) then
      (idx a1 x1).bind fun x2 =>
      (idx a2 x1).bind fun x3 =>
      if (!decide (x2 = x3)) then
        some (.inr false)
      else
        Q.eqIntS_l1 a1 a2 k (w64 (x1 + 1))
    else
      some (.inl ())

def Q.eqIntS (a1 : (List Int)) (a2 : (List Int)) : Option Bool :=
  if (!decide ((List.length a1 : Int) = (List.length a2 : Int))) then
    some false
  else
    (Q.eqIntS_l1 a1 a2 FUEL (0 : Int)).bind fun o => match o with
      | .inl () =>
        some true
      | .inr r => some r

def Q.eqFact (a1 : (Int × (List Int))) (a2 : (Int × (List Int))) : Option Bool :=
  if (!decide (a1.1 = a2.1)) then
    some false
  else
    (Q.eqIntS a1.2 a2.2).bind fun x1 =>
    if (!x1) then
      some false
    else
      some true

def Q.eqFactS_l1 (a1 : (List (Int × (List Int)))) (a2 : (List (Int × (List Int)))) : Nat → Int → Option (Sum Unit Bool)
  | 0, _ => none
  | k + 1, x1 =>
    if (decide (x1 < (List.length a1 : Int))) then
      (idx a1 x1).bind fun x2 =>
      (idx a2 x1).bind fun x3 =>
      (Q.eqFact x2 x3).bind fun x4 =>
      if (!x4) then
        some (.inr false)
      else
        Q.eqFactS_l1 a1 a2 k (w64 (x1 + 1))
    else
      some (.inl ())

def Q.eqFactS (a1 : (List (Int × (List Int)))) (a2 : (List (Int × (List Int)))) : Option Bool :=
  if (!decide ((List.length a1 : Int) = (List.length a2 : Int))) then
    some false
  else
    (Q.eqFactS_l1 a1 a2 FUEL (0 : Int)).bind fun o => match o with
      | .inl () =>
        some true
      | .inr r => some r

def Q.markIntS_l1  : Nat → (List Int) → Int → Int → Option (((List Int) × Int))
  | 0, _, _, _ => none
  | k + 1, x1, x2, x3 =>
    if (decide (x3 < (List.length x1 : Int))) then
      (idx x1 x3).bind fun x6 =>
      Q.markIntS_l1 k (List.set x1 (Int.toNat x3) x2) (w64 (x2 + 1)) (w64 (x3 + 1))
    else
      some (x1, x2)

def Q.markIntS (a1 : (List Int)) (a2 : Int) : Option (Int × (List Int)) :=
  (Q.markIntS_l1 FUEL a1 a2 (0 : Int)).bind fun (x4, x5) =>
  some (x5, x4)

def Q.markFactS_l1  : Nat → (List (Int × (List Int))) → Int → Int → Option (((List (Int × (List Int))) × Int))
  | 0, _, _, _ => none
  | k + 1, x1, x2, x3 =>
    if (decide (x3 < (List.length x1 : Int))) then
      (idx x1 x3).bind fun x6 =>
      (idx (List.set x1 (Int.toNat x3) (x2, x6.2)) x3).bind fun x7 =>
      (Q.markIntS x7.2 (w64 (x2 + 1))).bind fun x8 =>
      Q.markFactS_l1 k (List.set (List.set x1 (Int.toNat x3) (x2, x6.2)) (Int.toNat x3) (x7.1, x8.2)) x8.1 (w64 (x3 + 1))
    else
      some (x1, x2)

def Q.markFactS (a1 : (List (Int × (List Int)))) (a2 : Int) : Option (Int × (List (Int × (List Int)))) :=
  (Q.markFactS_l1 FUEL a1 a2 (0 : Int)).bind fun (x4, x5) =>
  some (x5, x4)

def Q.eqFactSS_l1 (a1 : (List (List (Int × (List Int))))) (a2 : (List (List (Int × (List Int))))) : Nat → Int → Option (Sum Unit Bool)
  | 0, _ => none
  | k + 1, x1 =>
    if (decide (x1 < (List.length a1 : Int))) then
      (idx a1 x1).bind fun x2 =>
      (idx a2 x1).bind fun x3 =>
      (Q.eqFactS x2 x3).bind fun x4 =>
      if (!x4) then
        some (.inr false)
      else
        Q.eqFactSS_l1 a1 a2 k (w64 (x1 + 1))
    else
      some (.inl ())

def Q.eqFactSS (a1 : (List (List (Int × (List Int))))) (a2 : (List (List (Int × (List Int))))) : Option Bool :=
  if (!decide ((List.length a1 : Int) = (List.length a2 : Int))) then
    some false
  else
    (Q.eqFactSS_l1 a1 a2 FUEL (0 : Int)).bind fun o => match o with
      | .inl () =>
        some true
      | .inr r => some r

def Q.markFactSS_l1  : Nat → (List (List (Int × (List Int)))) → Int → Int → Option (((List (List (Int × (List Int)))) × Int))
  | 0, _, _, _ => none
  | k + 1, x1, x2, x3 =>
    if (decide (x3 < (List.length x1 : Int))) then
      (idx x1 x3).bind fun x6 =>
      (Q.markFactS x6 x2).bind fun x7 =>
      Q.markFactSS_l1 k (List.set x1 (Int.toNat x3) x7.2) x7.1 (w64 (x3 + 1))
    else
      some (x1, x2)

def Q.markFactSS (a1 : (List (List (Int × (List Int))))) (a2 : Int) : Option (Int × (List (List (Int × (List Int))))) :=
  (Q.markFactSS_l1 FUEL a1 a2 (0 : Int)).bind fun (x4, x5) =>
  some (x5, x4)

def S.l1In (a1 : Int) (a2 : Int) (a3 : Int) : Option Bool :=
  (if (decide (a2 ≤ a1)) then
    some (decide (a1 ≤ a3))
  else
    some false).bind fun x1 =>
  some x1

def S.l2One (a1 : Int) (a2 : (List Int)) : Option (Int × (List Int)) :=
  (app ([] : List Int) a2).bind fun x1 =>
  some (a1, x1)

def S.l2Copy_l1 (a1 : (List (Int × (List Int)))) : Nat → (List (Int × (List Int))) → Int → Option ((List (Int × (List Int))))
  | 0, _, _ => none
  | k + 1, x1, x2 =>
    if (decide (x2 < (List.length a1 : Int))) then
      (idx a1 x2).bind fun x4 =>
      (idx a1 x2).bind fun x5 =>
      (S.l2One x4.1 x5.2).bind fun x6 =>
      (app x1 ([(x6.1, x6.2)])).bind fun x7 =>
      S.l2Copy_l1 a1 k x7 (w64 (x2 + 1))
    else
      some x1

def S.l2Copy (a1 : (List (Int × (List Int)))) : Option (List (Int × (List Int))) :=
  (S.l2Copy_l1 a1 FUEL ([] : List (Int × (List Int))) (0 : Int)).bind fun x3 =>
  some x3

def S.PageAt (a1 : (List (Int × (List Int)))) (a2 : Int) (a3 : Int) : Option ((List (Int × (List Int))) × Int × Bool) :=
  ((S.l1In a3 1 9).bind fun x2 =>
  if (!x2) then
    some true
  else
    (S.l1In a2 0 (List.length a1 : Int)).bind fun x3 =>
    some (!x3)).bind fun x1 =>
  if x1 then
    some (([] : List (Int × (List Int))), 0, false)
  else
    (sub a1 a2 (if (w64 (a2 + a3)) < (List.length a1 : Int) then w64 (a2 + a3) else (List.length a1 : Int))).bind fun x4 =>
    (S.l2Copy x4).bind fun x5 =>
    some (x5, if (w64 (a2 + a3)) < (List.length a1 : Int) then w64 (a2 + a3) else (List.length a1 : Int), true)

def S.PagesOf_l1 (a1 : (List (Int × (List Int)))) (a2 : Int) : Nat → (List (List (Int × (List Int)))) → Int → Option (Sum Unit (List (List (Int × (List Int)))))
  | 0, _, _ => none
  | k + 1, x2, x3 =>
    (S.PageAt a1 x3 a2).bind fun x4 =>
    (app x2 ([x4.1])).bind fun x5 =>
    if (decide (x4.2.1 = (List.length a1 : Int))) then
      some (.inr x5)
    else
      S.PagesOf_l1 a1 a2 k x5 x4.2.1

def S.PagesOf (a1 : (List (Int × (List Int)))) (a2 : Int) : Option (List (List (Int × (List Int)))) :=
  (S.l1In a2 1 9).bind fun x1 =>
  if (!x1) then
    some ([] : List (List (Int × (List Int))))
  else
    (S.PagesOf_l1 a1 a2 FUEL ([] : List (List (Int × (List Int)))) (0 : Int)).bind fun o => match o with
      | .inl _ => none
      | .inr r => some r

def M.within (a1 : Int) (a2 : Int) (a3 : Int) : Option Bool :=
  (if (decide (a2 ≤ a1)) then
    some (decide (a1 ≤ a3))
  else
    some false).bind fun x1 =>
  some x1

def M.isPage (a1 : Int) : Option Bool :=
  (M.within a1 1 9).bind fun x1 =>
  some x1

def Slices.Clone_Lint_int (a1 : (List Int)) : Option (List Int) :=
  (app ([] : List Int) a1).bind fun x1 =>
  some x1

def M.copyFact (a1 : (Int × (List Int))) : Option (Int × (List Int)) :=
  (Slices.Clone_Lint_int a1.2).bind fun x1 =>
  some (a1.1, x1)

def M.copyFacts_l1 (a1 : (List (Int × (List Int)))) : Nat → (List (Int × (List Int))) → Int → Option ((List (Int × (List Int))))
  | 0, _, _ => none
  | k + 1, x1, x2 =>
    if (decide (x2 < (List.length a1 : Int))) then
      (idx a1 x2).bind fun x4 =>
      (M.copyFact (x4.1, x4.2)).bind fun x5 =>
      (app x1 ([(x5.1, x5.2)])).bind fun x6 =>
      M.copyFacts_l1 a1 k x6 (w64 (x2 + 1))
    else
      some x1

def M.copyFacts (a1 : (List (Int × (List Int)))) : Option (List (Int × (List Int))) :=
  (M.copyFacts_l1 a1 FUEL ([] : List (Int × (List Int))) (0 : Int)).bind fun x3 =>
  some x3

def M.PageAt (a1 : (List (Int × (List Int)))) (a2 : Int) (a3 : Int) : Option ((List (Int × (List Int))) × Int × Bool) :=
  ((M.isPage a3).bind fun x2 =>
  if (!x2) then
    some true
  else
    (M.within a2 0 (List.length a1 : Int)).bind fun x3 =>
    some (!x3)).bind fun x1 =>
  if x1 then
    some ([], 0, false)
  else
    (sub a1 a2 (if (w64 (a2 + a3)) < (List.length a1 : Int) then w64 (a2 + a3) else (List.length a1 : Int))).bind fun x4 =>
    (M.copyFacts x4).bind fun x5 =>
    some (x5, if (w64 (a2 + a3)) < (List.length a1 : Int) then w64 (a2 + a3) else (List.length a1 : Int), true)

def M.PagesOf_l1 (a1 : (List (Int × (List Int)))) (a2 : Int) : Nat → (List (List (Int × (List Int)))) → Int → Option (Sum Unit (List (List (Int × (List Int)))))
  | 0, _, _ => none
  | k + 1, x1, x2 =>
    (M.PageAt a1 x2 a2).bind fun x3 =>
    if (!x3.2.2) then
      some (.inr x1)
    else
      (app x1 ([x3.1])).bind fun x4 =>
      if (decide (x3.2.1 = (List.length a1 : Int))) then
        some (.inr x4)
      else
        M.PagesOf_l1 a1 a2 k x4 x3.2.1

def M.PagesOf (a1 : (List (Int × (List Int)))) (a2 : Int) : Option (List (List (Int × (List Int)))) :=
  (M.PagesOf_l1 a1 a2 FUEL ([] : List (List (Int × (List Int)))) (0 : Int)).bind fun o => match o with
    | .inl _ => none
    | .inr r => some r

def Q.heldIntS_l1 (a1 : (List Int)) : Nat → Int → Int → Option (Sum Int Int)
  | 0, _, _ => none
  | k + 1, x1, x2 =>
    if (decide (x2 < (List.length a1 : Int))) then
      (idx a1 x2).bind fun x4 =>
      if (!decide (x4 = x1)) then
        some (.inr (-1))
      else
        Q.heldIntS_l1 a1 k (w64 (x1 + 1)) (w64 (x2 + 1))
    else
      some (.inl x1)

def Q.heldIntS (a1 : (List Int)) (a2 : Int) : Option Int :=
  (Q.heldIntS_l1 a1 FUEL a2 (0 : Int)).bind fun o => match o with
    | .inl x3 =>
      some x3
    | .inr r => some r

def Q.heldFactS_l1 (a1 : (List (Int × (List Int)))) : Nat → Int → Int → Option (Sum Int Int)
  | 0, _, _ => none
  | k + 1, x1, x2 =>
    if (decide (x2 < (List.length a1 : Int))) then
      (idx a1 x2).bind fun x4 =>
      if (!decide (x4.1 = x1)) then
        some (.inr (-1))
      else
        (idx a1 x2).bind fun x5 =>
        (Q.heldIntS x5.2 (w64 (x1 + 1))).bind fun x6 =>
        if (decide (x6 < 0)) then
          some (.inr (-1))
        else
          Q.heldFactS_l1 a1 k x6 (w64 (x2 + 1))
    else
      some (.inl x1)

def Q.heldFactS (a1 : (List (Int × (List Int)))) (a2 : Int) : Option Int :=
  (Q.heldFactS_l1 a1 FUEL a2 (0 : Int)).bind fun o => match o with
    | .inl x3 =>
      some x3
    | .inr r => some r

def Q.heldFactSS_l1 (a1 : (List (List (Int × (List Int))))) : Nat → Int → Int → Option (Sum Int Int)
  | 0, _, _ => none
  | k + 1, x1, x2 =>
    if (decide (x2 < (List.length a1 : Int))) then
      (idx a1 x2).bind fun x4 =>
      (Q.heldFactS x4 x1).bind fun x5 =>
      if (decide (x5 < 0)) then
        some (.inr (-1))
      else
        Q.heldFactSS_l1 a1 k x5 (w64 (x2 + 1))
    else
      some (.inl x1)

def Q.heldFactSS (a1 : (List (List (Int × (List Int))))) (a2 : Int) : Option Int :=
  (Q.heldFactSS_l1 a1 FUEL a2 (0 : Int)).bind fun o => match o with
    | .inl x3 =>
      some x3
    | .inr r => some r

def Q.FnExactPagesOf (a1 : (List (Int × (List Int)))) (a2 : Int) : Option Bool :=
  (Q.szFactS a1 1048576).bind fun x1 =>
  if (decide (x1 < 0)) then
    some true
  else
    (Q.toFactS a1).bind fun x2 =>
    (S.PagesOf x2 a2).bind fun x3 =>
    (Q.toFactS a1).bind fun x4 =>
    (M.PagesOf x4 a2).bind fun x5 =>
    (Q.eqFactSS x5 x3).bind fun x6 =>
    if (!x6) then
      some false
    else
      (Q.toFactS a1).bind fun x7 =>
      (Q.eqFactS x4 x7).bind fun x8 =>
      if (!x8) then
        some false
      else
        (Q.markFactS x4 1).bind fun x9 =>
        (if (decide (x9.1 < 0)) then
          some true
        else
          (Q.eqFactSS x5 x3).bind fun x11 =>
          some (!x11)).bind fun x10 =>
        if x10 then
          some false
        else
          (Q.markFactSS x5 1).bind fun x12 =>
          (Q.heldFactSS x12.2 1).bind fun x13 =>
          if (decide (x13 < 0)) then
            some false
          else
            if (!decide (x13 = x12.1)) then
              some false
            else
              (Q.toFactS a1).bind fun x14 =>
              (M.PagesOf x14 a2).bind fun x15 =>
              (Q.eqFactSS x15 x3).bind fun x16 =>
              if (!x16) then
                some false
              else
                (Q.heldFactSS x12.2 1).bind fun x17 =>
                if (decide (x17 < 0)) then
                  some false
                else
                  if (!decide (x17 = x12.1)) then
                    some false
                  else
                    some true

def Q.szFactSS_l1 (a1 : (List (List (Int × (List Int))))) : Nat → Int → Int → Option (Sum Int Int)
  | 0, _, _ => none
  | k + 1, x1, x2 =>
    if (decide (x2 < (List.length a1 : Int))) then
      (idx a1 x2).bind fun x4 =>
      (Q.szFactS x4 x1).bind fun x5 =>
      if (decide (x5 < 0)) then
        some (.inr (-1))
      else
        Q.szFactSS_l1 a1 k x5 (w64 (x2 + 1))
    else
      some (.inl x1)

def Q.szFactSS (a1 : (List (List (Int × (List Int))))) (a2 : Int) : Option Int :=
  if (decide ((w64 (a2 - (List.length a1 : Int))) < 0)) then
    some (-1)
  else
    (Q.szFactSS_l1 a1 FUEL (w64 (a2 - (List.length a1 : Int))) (0 : Int)).bind fun o => match o with
      | .inl x3 =>
        some x3
      | .inr r => some r

def S.JoinPages_l1 (a1 : (List (List (Int × (List Int))))) : Nat → (List (Int × (List Int))) → Int → Option ((List (Int × (List Int))))
  | 0, _, _ => none
  | k + 1, x1, x2 =>
    if (decide (x2 < (List.length a1 : Int))) then
      (idx a1 x2).bind fun x4 =>
      (S.l2Copy x4).bind fun x5 =>
      (app x1 x5).bind fun x6 =>
      S.JoinPages_l1 a1 k x6 (w64 (x2 + 1))
    else
      some x1

def S.JoinPages (a1 : (List (List (Int × (List Int))))) : Option (List (Int × (List Int))) :=
  (S.JoinPages_l1 a1 FUEL ([] : List (Int × (List Int))) (0 : Int)).bind fun x3 =>
  some x3

def Q.toFactSS_l1 (a1 : (List (List (Int × (List Int))))) : Nat → (List (List (Int × (List Int)))) → Int → Option ((List (List (Int × (List Int)))))
  | 0, _, _ => none
  | k + 1, x2, x3 =>
    if (decide (x3 < (List.length a1 : Int))) then
      (idx a1 x3).bind fun x5 =>
      (Q.toFactS x5).bind fun x6 =>
      (idx x2 x3).bind fun x7 =>
      Q.toFactSS_l1 a1 k (List.set x2 (Int.toNat x3) x6) (w64 (x3 + 1))
    else
      some x2

def Q.toFactSS (a1 : (List (List (Int × (List Int))))) : Option (List (List (Int × (List Int)))) :=
  (mk (List.length a1 : Int) ([] : (List (Int × (List Int))))).bind fun x1 =>
  (Q.toFactSS_l1 a1 FUEL x1 (0 : Int)).bind fun x4 =>
  some x4

def M.JoinPages_l1 (a1 : (List (List (Int × (List Int))))) : Nat → (List (Int × (List Int))) → Int → Option ((List (Int × (List Int))))
  | 0, _, _ => none
  | k + 1, x1, x2 =>
    if (decide (x2 < (List.length a1 : Int))) then
      (idx a1 x2).bind fun x4 =>
      (M.copyFacts x4).bind fun x5 =>
      (app x1 x5).bind fun x6 =>
      M.JoinPages_l1 a1 k x6 (w64 (x2 + 1))
    else
      some x1

def M.JoinPages (a1 : (List (List (Int × (List Int))))) : Option (List (Int × (List Int))) :=
  (M.JoinPages_l1 a1 FUEL ([] : List (Int × (List Int))) (0 : Int)).bind fun x3 =>
  some x3

def Q.FnExactJoinPages (a1 : (List (List (Int × (List Int))))) : Option Bool :=
  (Q.szFactSS a1 1048576).bind fun x1 =>
  if (decide (x1 < 0)) then
    some true
  else
    (Q.toFactSS a1).bind fun x2 =>
    (S.JoinPages x2).bind fun x3 =>
    (Q.toFactSS a1).bind fun x4 =>
    (M.JoinPages x4).bind fun x5 =>
    (Q.eqFactS x5 x3).bind fun x6 =>
    if (!x6) then
      some false
    else
      (Q.toFactSS a1).bind fun x7 =>
      (Q.eqFactSS x4 x7).bind fun x8 =>
      if (!x8) then
        some false
      else
        (Q.markFactSS x4 1).bind fun x9 =>
        (if (decide (x9.1 < 0)) then
          some true
        else
          (Q.eqFactS x5 x3).bind fun x11 =>
          some (!x11)).bind fun x10 =>
        if x10 then
          some false
        else
          (Q.markFactS x5 1).bind fun x12 =>
          (Q.heldFactS x12.2 1).bind fun x13 =>
          if (decide (x13 < 0)) then
            some false
          else
            if (!decide (x13 = x12.1)) then
              some false
            else
              (Q.toFactSS a1).bind fun x14 =>
              (M.JoinPages x14).bind fun x15 =>
              (Q.eqFactS x15 x3).bind fun x16 =>
              if (!x16) then
                some false
              else
                (Q.heldFactS x12.2 1).bind fun x17 =>
                if (decide (x17 < 0)) then
                  some false
                else
                  if (!decide (x17 = x12.1)) then
                    some false
                  else
                    some true

end Go.Gx.Px
