/- The Go functions as pure Lean functions, printed by program. Conditions: none. -/
import Derived.Test.YthidohmobbomfaaGreatGxHo
import Derived.Test.YthidohmobbomfaaGreatGxSq
set_option linter.unusedVariables false
namespace Go.Gx.Px

def Q.big (a1:(List UInt8)):Option Bool :=
 some (decide (1048576<(List.length a1:Int)))

def S.l1New_l1 (a1:(List UInt8)):Nat→Int→Int→Option (Int)
 | 0,_,_=>none
 | k+1,x1,x2 =>
  (if (decide (x2<(List.length a1:Int))) then
   some (decide (x2<4000))
  else
   some false).bind fun x4 =>
  if x4 then
   (idx a1 x2).bind fun x5 =>
   S.l1New_l1 a1 k (band (w64 ((w64 ((w64 (x1*131))+(w64 (UInt8.toNat x5:Int))))+7)) 1073741823) (w64 (x2+1))
  else
   some x1

def S.l1New (a1:(List UInt8)):Option ((List UInt8) × Int × Int) :=
 (S.l1New_l1 a1 FUEL (w64 (10101+(List.length a1:Int))) (0:Int)).bind fun x3 =>
 some (a1,0,x3)

def S.l1In (a1:Int) (a2:Int) (a3:Int):Option Bool :=
 (if (decide (a2≤a1)) then
  some (decide (a1≤a3))
 else
  some false).bind fun x1 =>
 some x1

def S.IsSchema_l1 (a1:(List Int)):Nat→Int→Option (Sum Unit Bool)
 | 0,_=>none
 | k+1,x1 =>
  if (decide (x1<(List.length a1:Int))) then
   (idx a1 x1).bind fun x2 =>
   (S.l1In x2 1 3).bind fun x3 =>
   if (!x3) then
    some (.inr false)
   else
    S.IsSchema_l1 a1 k (w64 (x1+1))
  else
   some (.inl ())

def S.IsSchema (a1:(List Int)):Option Bool :=
 (S.IsSchema_l1 a1 FUEL (0:Int)).bind fun o=>match o with
  | .inl () =>
   (S.l1In (List.length a1:Int) 1 3).bind fun x4 =>
   some x4
  | .inr r=>some r

def S.IsMethod_l1 (a2:(Int × (List Int) × Int × Int × Int)) (a1:(List Int)):Nat→Int→Option (Sum Unit Bool)
 | 0,_=>none
 | k+1,x7 =>
  if (decide (x7<(List.length a2.2.1:Int))) then
   ((idx a2.2.1 x7).bind fun x9 =>
   (idx a1 a2.1).bind fun x10 =>
   (S.l1In x9 0 (w64 (x10-1))).bind fun x11 =>
   if (!x11) then
    some true
   else
    if (decide (0<x7)) then
     (idx a2.2.1 x7).bind fun x12 =>
     (idx a2.2.1 (w64 (x7-1))).bind fun x13 =>
     some (decide (x12≤x13))
    else
     some false).bind fun x8 =>
   if x8 then
    some (.inr false)
   else
    S.IsMethod_l1 a2 a1 k (w64 (x7+1))
  else
   some (.inl ())

def S.IsMethod (a1:(List Int)) (a2:(Int × (List Int) × Int × Int × Int)):Option Bool :=
 ((S.IsSchema a1).bind fun x2 =>
 if (!x2) then
  some true
 else
  (S.l1In a2.1 0 (w64 ((List.length a1:Int)-1))).bind fun x3 =>
  if (!x3) then
   some true
  else
   (S.l1In a2.2.2.1 0 9).bind fun x4 =>
   if (!x4) then
    some true
   else
    (S.l1In a2.2.2.2.1 0 99).bind fun x5 =>
    if (!x5) then
     some true
    else
     (S.l1In a2.2.2.2.2 1 99).bind fun x6 =>
     some (!x6)).bind fun x1 =>
 if x1 then
  some false
 else
  (S.IsMethod_l1 a2 a1 FUEL (0:Int)).bind fun o=>match o with
   | .inl () =>
    some true
   | .inr r=>some r

def S.AreMethods_l1 (a2:(List (Int × (List Int) × Int × Int × Int))) (a1:(List Int)):Nat→Int→Option (Sum Unit Bool)
 | 0,_=>none
 | k+1,x1 =>
  if (decide (x1<(List.length a2:Int))) then
   (idx a2 x1).bind fun x2 =>
   (S.IsMethod a1 x2).bind fun x3 =>
   if (!x3) then
    some (.inr false)
   else
    S.AreMethods_l1 a2 a1 k (w64 (x1+1))
  else
   some (.inl ())

def S.AreMethods (a1:(List Int)) (a2:(List (Int × (List Int) × Int × Int × Int))):Option Bool :=
 (S.AreMethods_l1 a2 a1 FUEL (0:Int)).bind fun o=>match o with
  | .inl () =>
   ((S.IsSchema a1).bind fun x5 =>
   if x5 then
    some (decide ((List.length a2:Int)≤5))
   else
    some false).bind fun x4 =>
   some x4
  | .inr r=>some r

def S.l1Byte (a1:((List UInt8) × Int × Int)):Option (Int × ((List UInt8) × Int × Int)) :=
 (if (decide (a1.2.1<(List.length a1.1:Int))) then
  (idx a1.1 a1.2.1).bind fun x4 =>
  some (w64 (a1.2.1+1),w64 ((w64 (a1.2.2*6364136223846793005))+1442695040888963407),band (w64 ((band (bxor (shr (w64 ((w64 (a1.2.2*6364136223846793005))+1442695040888963407)) 33) (shr (w64 ((w64 (a1.2.2*6364136223846793005))+1442695040888963407)) 45)) 255)+(w64 (UInt8.toNat x4:Int)))) 255)
 else
  some (a1.2.1,w64 ((w64 (a1.2.2*6364136223846793005))+1442695040888963407),band (bxor (shr (w64 ((w64 (a1.2.2*6364136223846793005))+1442695040888963407)) 33) (shr (w64 ((w64 (a1.2.2*6364136223846793005))+1442695040888963407)) 45)) 255)).bind fun (x1,x2,x3) =>
 some (x3,(a1.1,x1,x2))

def S.l1Below (a1:((List UInt8) × Int × Int)) (a2:Int):Option (Int × ((List UInt8) × Int × Int)) :=
 if (decide (a2≤0)) then
  some (0,(a1.1,a1.2.1,a1.2.2))
 else
  if (decide (a2≤256)) then
   (S.l1Byte (a1.1,a1.2.1,a1.2.2)).bind fun x1 =>
   (nz a2).bind fun _ =>
   some (x1.1.tmod a2,(a1.1,x1.2.2.1,x1.2.2.2))
  else
   (S.l1Byte (a1.1,a1.2.1,a1.2.2)).bind fun x2 =>
   (S.l1Byte (a1.1,x2.2.2.1,x2.2.2.2)).bind fun x3 =>
   (S.l1Byte (a1.1,x3.2.2.1,x3.2.2.2)).bind fun x4 =>
   (S.l1Byte (a1.1,x4.2.2.1,x4.2.2.2)).bind fun x5 =>
   (nz a2).bind fun _ =>
   some ((w64 ((w64 ((w64 ((w64 (x2.1*16777216))+(w64 (x3.1*65536))))+(w64 (x4.1*256))))+x5.1)).tmod a2,(a1.1,x5.2.2.1,x5.2.2.2))

def S.l1Once (a1:((List UInt8) × Int × Int)) (a2:Int):Option (Bool × ((List UInt8) × Int × Int)) :=
 (S.l1Below (a1.1,a1.2.1,a1.2.2) a2).bind fun x1 =>
 some ((decide (x1.1=0)),(a1.1,x1.2.2.1,x1.2.2.2))

def S.CompareFacts_l1 (a1:(Int × (List Int))) (a2:(Int × (List Int))):Nat→Int→Option (Sum Unit Int)
 | 0,_=>none
 | k+1,x1 =>
  (if (decide (x1<(List.length a1.2:Int))) then
   some (decide (x1<(List.length a2.2:Int)))
  else
   some false).bind fun x2 =>
  if x2 then
   (idx a1.2 x1).bind fun x3 =>
   (idx a2.2 x1).bind fun x4 =>
   if (decide (x3<x4)) then
    some (.inr (-1))
   else
    (idx a1.2 x1).bind fun x5 =>
    (idx a2.2 x1).bind fun x6 =>
    if (decide (x6<x5)) then
     some (.inr 1)
    else
     S.CompareFacts_l1 a1 a2 k (w64 (x1+1))
  else
   some (.inl ())

def S.CompareFacts (a1:(Int × (List Int))) (a2:(Int × (List Int))):Option Int :=
 if (!decide (a1.1=a2.1)) then
  if (decide (a1.1<a2.1)) then
   some (-1)
  else
   some 1
 else
  (S.CompareFacts_l1 a1 a2 FUEL (0:Int)).bind fun o=>match o with
   | .inl () =>
    if (decide ((List.length a1.2:Int)<(List.length a2.2:Int))) then
     some (-1)
    else
     if (decide ((List.length a2.2:Int)<(List.length a1.2:Int))) then
      some 1
     else
      some 0
   | .inr r=>some r

def S.HasFact_l1 (a1:(List (Int × (List Int)))) (a2:(Int × (List Int))):Nat→Int→Option (Sum Unit Bool)
 | 0,_=>none
 | k+1,x1 =>
  if (decide (x1<(List.length a1:Int))) then
   (idx a1 x1).bind fun x2 =>
   (S.CompareFacts x2 (a2.1,a2.2)).bind fun x3 =>
   if (decide (x3=0)) then
    some (.inr true)
   else
    S.HasFact_l1 a1 a2 k (w64 (x1+1))
  else
   some (.inl ())

def S.HasFact (a1:(List (Int × (List Int)))) (a2:(Int × (List Int))):Option Bool :=
 (S.HasFact_l1 a1 a2 FUEL (0:Int)).bind fun o=>match o with
  | .inl () =>
   some false
  | .inr r=>some r

def S.l2One (a1:Int) (a2:(List Int)):Option (Int × (List Int)) :=
 (app ([]:List Int) a2).bind fun x1 =>
 some (a1,x1)

def S.AddFact_l1 (a1:(List (Int × (List Int)))) (a2:(Int × (List Int))):Nat→(List (Int × (List Int)))→Bool→Int→Option (((List (Int × (List Int))) × Bool))
 | 0,_,_,_=>none
 | k+1,x2,x3,x4 =>
  if (decide (x4<(List.length a1:Int))) then
   (if (!x3) then
    (idx a1 x4).bind fun x8 =>
    (S.CompareFacts (a2.1,a2.2) x8).bind fun x9 =>
    some (decide (x9<0))
   else
    some false).bind fun x7 =>
   (if x7 then
    (S.l2One a2.1 a2.2).bind fun x12 =>
    (app x2 ([(x12.1,x12.2)])).bind fun x13 =>
    some (x13,true)
   else
    some (x2,x3)).bind fun (x10,x11) =>
   (idx a1 x4).bind fun x14 =>
   (idx a1 x4).bind fun x15 =>
   (S.l2One x14.1 x15.2).bind fun x16 =>
   (app x10 ([(x16.1,x16.2)])).bind fun x17 =>
   S.AddFact_l1 a1 a2 k x17 x11 (w64 (x4+1))
  else
   some (x2,x3)

def S.AddFact (a1:(List (Int × (List Int)))) (a2:(Int × (List Int))):Option (List (Int × (List Int))) :=
 (S.HasFact a1 (a2.1,a2.2)).bind fun x1 =>
 (S.AddFact_l1 a1 a2 FUEL ([]:List (Int × (List Int))) x1 (0:Int)).bind fun (x5,x6) =>
 (if (!x6) then
  (S.l2One a2.1 a2.2).bind fun x19 =>
  (app x5 ([(x19.1,x19.2)])).bind fun x20 =>
  some x20
 else
  some x5).bind fun x18 =>
 some x18

def S.l2Fact_l1 (a2:(List Int)) (a1:((List UInt8) × Int × Int)) (a3:Int):Nat→Int→(List Int)→Int→Int→Int→Option ((Int × (List Int) × Int × Int))
 | 0,_,_,_,_,_=>none
 | k+1,x2,x3,x4,x5,x6 =>
  (idx a2 x2).bind fun x11 =>
  if (decide (x6<x11)) then
   (S.l1Below (a1.1,x4,x5) a3).bind fun x12 =>
   (app x3 ([x12.1])).bind fun x13 =>
   S.l2Fact_l1 a2 a1 a3 k x2 x13 x12.2.2.1 x12.2.2.2 (w64 (x6+1))
  else
   some (x2,x3,x4,x5)

def S.l2Fact (a1:((List UInt8) × Int × Int)) (a2:(List Int)) (a3:Int):Option ((Int × (List Int)) × ((List UInt8) × Int × Int)) :=
 (S.l1Below (a1.1,a1.2.1,a1.2.2) (List.length a2:Int)).bind fun x1 =>
 (S.l2Fact_l1 a2 a1 a3 FUEL x1.1 ([]) x1.2.2.1 x1.2.2.2 (0:Int)).bind fun (x7,x8,x9,x10) =>
 some ((x7,x8),(a1.1,x9,x10))

def S.l2Facts_l1 (a1:((List UInt8) × Int × Int)) (a2:(List Int)):Nat→Int→Int→(List (Int × (List Int)))→Int→Option ((Int × Int × (List (Int × (List Int)))))
 | 0,_,_,_,_=>none
 | k+1,x2,x3,x4,x5 =>
  if (decide (0<x5)) then
   (S.l2Fact (a1.1,x2,x3) a2 4).bind fun x9 =>
   (S.AddFact x4 x9.1).bind fun x10 =>
   S.l2Facts_l1 a1 a2 k x9.2.2.1 x9.2.2.2 x10 (w64 (x5-1))
  else
   some (x2,x3,x4)

def S.l2Facts (a1:((List UInt8) × Int × Int)) (a2:(List Int)) (a3:Int):Option ((List (Int × (List Int))) × ((List UInt8) × Int × Int)) :=
 (S.l1Below (a1.1,a1.2.1,a1.2.2) (w64 (a3+1))).bind fun x1 =>
 (S.l2Facts_l1 a1 a2 FUEL x1.2.2.1 x1.2.2.2 ([]:List (Int × (List Int))) x1.1).bind fun (x6,x7,x8) =>
 some (x8,(a1.1,x6,x7))

def S.l1PickInt (a1:((List UInt8) × Int × Int)) (a2:(List Int)):Option (Int × ((List UInt8) × Int × Int)) :=
 (S.l1Below (a1.1,a1.2.1,a1.2.2) (List.length a2:Int)).bind fun x1 =>
 (idx a2 x1.1).bind fun x2 =>
 some (x2,(a1.1,x1.2.2.1,x1.2.2.2))

def S.l2AnyFact (a1:((List UInt8) × Int × Int)) (a2:(List Int)):Option ((Int × (List Int)) × ((List UInt8) × Int × Int)) :=
 (S.IsSchema a2).bind fun x1 =>
 (if x1 then
  (S.l2Fact (a1.1,a1.2.1,a1.2.2) a2 10).bind fun x6 =>
  some (x6.1.1,x6.1.2,x6.2.2.1,x6.2.2.2)
 else
  some ((0:Int),[1],a1.2.1,a1.2.2)).bind fun (x2,x3,x4,x5) =>
 (S.l1Below (a1.1,x4,x5) 8).bind fun x7 =>
 (if (decide (x7.1=0)) then
  (S.l1Below (a1.1,x7.2.2.1,x7.2.2.2) 5).bind fun x12 =>
  some (x12.2.2.1,x12.2.2.2,w64 (x12.1-1),x3)
 else
  (if (decide (x7.1=1)) then
   ((S.l1PickInt (a1.1,x7.2.2.1,x7.2.2.2) ([(-1),9,10])).bind fun x20 =>
   (idx x3 0).bind fun x21 =>
   some ((List.set x3 (Int.toNat 0) x20.1),x20.2.2.1,x20.2.2.2)).bind fun (x17,x18,x19) =>
   some (x18,x19,x2,x17)
  else
   (if (decide (x7.1=2)) then
    (app x3 ([1])).bind fun x24 =>
    some (x2,x24)
   else
    some (x2,x3)).bind fun (x22,x23) =>
   some (x7.2.2.1,x7.2.2.2,x22,x23)).bind fun (x13,x14,x15,x16) =>
  some (x13,x14,x15,x16)).bind fun (x8,x9,x10,x11) =>
 some ((x10,x11),(a1.1,x8,x9))

def S.l2AnyFacts (a1:((List UInt8) × Int × Int)) (a2:(List Int)):Option ((List (Int × (List Int))) × ((List UInt8) × Int × Int)) :=
 (S.IsSchema a2).bind fun x1 =>
 (if x1 then
  (S.l2Facts (a1.1,a1.2.1,a1.2.2) a2 8).bind fun x5 =>
  some (x5.2.2.1,x5.2.2.2,x5.1)
 else
  some (a1.2.1,a1.2.2,([]:List (Int × (List Int))))).bind fun (x2,x3,x4) =>
 (S.l1Once (a1.1,x2,x3) 10).bind fun x6 =>
 (if x6.1 then
  (S.l2AnyFact (a1.1,x6.2.2.1,x6.2.2.2) a2).bind fun x10 =>
  (app x4 ([(x10.1.1,x10.1.2)])).bind fun x11 =>
  some (x10.2.2.1,x10.2.2.2,x11)
 else
  some (x6.2.2.1,x6.2.2.2,x4)).bind fun (x7,x8,x9) =>
 some (x9,(a1.1,x7,x8))

def S.l2Schema_l1 (a1:((List UInt8) × Int × Int)):Nat→Int→Int→(List Int)→Int→Option ((Int × Int × (List Int)))
 | 0,_,_,_,_=>none
 | k+1,x2,x3,x4,x5 =>
  if (decide (0<x5)) then
   (S.l1Below (a1.1,x2,x3) 2).bind fun x9 =>
   (S.l1Once (a1.1,x9.2.2.1,x9.2.2.2) 4).bind fun x10 =>
   (if x10.1 then
    some (3:Int)
   else
    some (w64 (1+x9.1))).bind fun x11 =>
   (app x4 ([x11])).bind fun x12 =>
   S.l2Schema_l1 a1 k x10.2.2.1 x10.2.2.2 x12 (w64 (x5-1))
  else
   some (x2,x3,x4)

def S.l2Schema (a1:((List UInt8) × Int × Int)):Option ((List Int) × ((List UInt8) × Int × Int)) :=
 (S.l1Below (a1.1,a1.2.1,a1.2.2) 3).bind fun x1 =>
 (S.l2Schema_l1 a1 FUEL x1.2.2.1 x1.2.2.2 ([]:List Int) (w64 (1+x1.1))).bind fun (x6,x7,x8) =>
 some (x8,(a1.1,x6,x7))

def S.l5Method_l1 (a2:(List Int)) (a1:((List UInt8) × Int × Int)):Nat→Int→(List Int)→Int→Int→Int→Int→Int→Int→Option ((Int × (List Int) × Int × Int × Int × Int × Int))
 | 0,_,_,_,_,_,_,_,_=>none
 | k+1,x5,x6,x7,x8,x9,x10,x11,x12 =>
  (idx a2 x5).bind fun x20 =>
  if (decide (x12<x20)) then
   (S.l1Once (a1.1,x10,x11) 3).bind fun x21 =>
   (if x21.1 then
    (app x6 ([x12])).bind fun x27 =>
    some (x5,x27,x7,x8,x9)
   else
    some (x5,x6,x7,x8,x9)).bind fun (x22,x23,x24,x25,x26) =>
   S.l5Method_l1 a2 a1 k x22 x23 x24 x25 x26 x21.2.2.1 x21.2.2.2 (w64 (x12+1))
  else
   some (x5,x6,x7,x8,x9,x10,x11)

def S.l5Method (a1:((List UInt8) × Int × Int)) (a2:(List Int)):Option ((Int × (List Int) × Int × Int × Int) × ((List UInt8) × Int × Int)) :=
 (S.l1Below (a1.1,a1.2.1,a1.2.2) (List.length a2:Int)).bind fun x1 =>
 (S.l1PickInt (a1.1,x1.2.2.1,x1.2.2.2) ([0,0,0,1,2])).bind fun x2 =>
 (S.l1Below (a1.1,x2.2.2.1,x2.2.2.2) 5).bind fun x3 =>
 (S.l1Below (a1.1,x3.2.2.1,x3.2.2.2) 6).bind fun x4 =>
 (S.l5Method_l1 a2 a1 FUEL x1.1 ([]) x2.1 x3.1 (w64 (1+x4.1)) x4.2.2.1 x4.2.2.2 (0:Int)).bind fun (x13,x14,x15,x16,x17,x18,x19) =>
 some ((x13,x14,x15,x16,x17),(a1.1,x18,x19))

def S.l5Methods_l1 (a1:((List UInt8) × Int × Int)) (a2:(List Int)):Nat→Int→Int→(List (Int × (List Int) × Int × Int × Int))→Int→Option ((Int × Int × (List (Int × (List Int) × Int × Int × Int))))
 | 0,_,_,_,_=>none
 | k+1,x2,x3,x4,x5 =>
  if (decide (0<x5)) then
   (S.l5Method (a1.1,x2,x3) a2).bind fun x9 =>
   (app x4 ([(x9.1.1,x9.1.2.1,x9.1.2.2.1,x9.1.2.2.2.1,x9.1.2.2.2.2)])).bind fun x10 =>
   S.l5Methods_l1 a1 a2 k x9.2.2.1 x9.2.2.2 x10 (w64 (x5-1))
  else
   some (x2,x3,x4)

def S.l5Methods (a1:((List UInt8) × Int × Int)) (a2:(List Int)):Option ((List (Int × (List Int) × Int × Int × Int)) × ((List UInt8) × Int × Int)) :=
 (S.l1Below (a1.1,a1.2.1,a1.2.2) 4).bind fun x1 =>
 (S.l5Methods_l1 a1 a2 FUEL x1.2.2.1 x1.2.2.2 ([]:List (Int × (List Int) × Int × Int × Int)) (w64 (1+x1.1))).bind fun (x6,x7,x8) =>
 some (x8,(a1.1,x6,x7))

def S.l5AnyMethod (a1:((List UInt8) × Int × Int)) (a2:(List Int)):Option ((Int × (List Int) × Int × Int × Int) × ((List UInt8) × Int × Int)) :=
 (S.IsSchema a2).bind fun x1 =>
 (if x1 then
  (S.l5Method (a1.1,a1.2.1,a1.2.2) a2).bind fun x9 =>
  some (x9.1.1,x9.1.2.1,x9.1.2.2.1,x9.1.2.2.2.1,x9.1.2.2.2.2,x9.2.2.1,x9.2.2.2)
 else
  some ((0:Int),[],(0:Int),(0:Int),(1:Int),a1.2.1,a1.2.2)).bind fun (x2,x3,x4,x5,x6,x7,x8) =>
 (S.l1Below (a1.1,x7,x8) 10).bind fun x10 =>
 (if (decide (x10.1=0)) then
  (S.l1PickInt (a1.1,x10.2.2.1,x10.2.2.2) ([(-1),9,10])).bind fun x18 =>
  some (x18.2.2.1,x18.2.2.2,x2,x3,x18.1,x5,x6)
 else
  (if (decide (x10.1=1)) then
   ((S.l1Below (a1.1,x10.2.2.1,x10.2.2.2) 5).bind fun x33 =>
   (app x3 ([w64 (x33.1-1)])).bind fun x34 =>
   some (x33.2.2.1,x33.2.2.2,x2,x34,x4,x5,x6)).bind fun (x26,x27,x28,x29,x30,x31,x32) =>
   some (x26,x27,x28,x29,x30,x31,x32)
  else
   (if (decide (x10.1=2)) then
    (S.l1PickInt (a1.1,x10.2.2.1,x10.2.2.2) ([0,99,100])).bind fun x42 =>
    some (x42.2.2.1,x42.2.2.2,x2,x3,x4,x5,x42.1)
   else
    (if (decide (x10.1=3)) then
     (S.l1PickInt (a1.1,x10.2.2.1,x10.2.2.2) ([(-1),99,100])).bind fun x50 =>
     some (x50.2.2.1,x50.2.2.2,x2,x3,x4,x50.1,x6)
    else
     some (x10.2.2.1,x10.2.2.2,x2,x3,x4,x5,x6)).bind fun (x43,x44,x45,x46,x47,x48,x49) =>
    some (x43,x44,x45,x46,x47,x48,x49)).bind fun (x35,x36,x37,x38,x39,x40,x41) =>
   some (x35,x36,x37,x38,x39,x40,x41)).bind fun (x19,x20,x21,x22,x23,x24,x25) =>
  some (x19,x20,x21,x22,x23,x24,x25)).bind fun (x11,x12,x13,x14,x15,x16,x17) =>
 some ((x13,x14,x15,x16,x17),(a1.1,x11,x12))

def S.l2AnySchema (a1:((List UInt8) × Int × Int)):Option ((List Int) × ((List UInt8) × Int × Int)) :=
 (S.l2Schema (a1.1,a1.2.1,a1.2.2)).bind fun x1 =>
 (S.l1Once (a1.1,x1.2.2.1,x1.2.2.2) 14).bind fun x2 =>
 (if x2.1 then
  (S.l1PickInt (a1.1,x2.2.2.1,x2.2.2.2) ([0,1,4])).bind fun x6 =>
  (app x1.1 ([x6.1])).bind fun x7 =>
  some (x6.2.2.1,x6.2.2.2,x7)
 else
  some (x2.2.2.1,x2.2.2.2,x1.1)).bind fun (x3,x4,x5) =>
 some (x5,(a1.1,x3,x4))

def S.l5Draw (a1:((List UInt8) × Int × Int)):Option ((List Int) × (List (Int × (List Int) × Int × Int × Int)) × (List (Int × (List Int))) × ((List UInt8) × Int × Int)) :=
 (S.l2Schema (a1.1,a1.2.1,a1.2.2)).bind fun x1 =>
 (S.l5Methods (a1.1,x1.2.2.1,x1.2.2.2) x1.1).bind fun x2 =>
 (S.l2Facts (a1.1,x2.2.2.1,x2.2.2.2) x1.1 8).bind fun x3 =>
 (S.l1Below (a1.1,x3.2.2.1,x3.2.2.2) 20).bind fun x4 =>
 (if (decide (x4.1=0)) then
  (S.l5AnyMethod (a1.1,x4.2.2.1,x4.2.2.2) x1.1).bind fun x10 =>
  (app x2.1 ([(x10.1.1,x10.1.2.1,x10.1.2.2.1,x10.1.2.2.2.1,x10.1.2.2.2.2)])).bind fun x11 =>
  some (x10.2.2.1,x10.2.2.2,x1.1,x11,x3.1)
 else
  (if (decide (x4.1=1)) then
   (S.l2AnyFacts (a1.1,x4.2.2.1,x4.2.2.2) x1.1).bind fun x16 =>
   some (x16.2.2.1,x16.2.2.2,x1.1,x16.1)
  else
   (if (decide (x4.1=2)) then
    (S.l2AnySchema (a1.1,x4.2.2.1,x4.2.2.2)).bind fun x20 =>
    some (x20.2.2.1,x20.2.2.2,x20.1)
   else
    some (x4.2.2.1,x4.2.2.2,x1.1)).bind fun (x17,x18,x19) =>
   some (x17,x18,x19,x3.1)).bind fun (x12,x13,x14,x15) =>
  some (x12,x13,x14,x2.1,x15)).bind fun (x5,x6,x7,x8,x9) =>
 some (x7,x8,x9,(a1.1,x5,x6))

def S.l5Access_l1 (a2:(List (Int × (List Int) × Int × Int × Int))) (a1:((List UInt8) × Int × Int)):Nat→Int→(List Int)→Int→Int→Int→Option ((Int × (List Int) × Int × Int))
 | 0,_,_,_,_,_=>none
 | k+1,x2,x3,x4,x5,x6 =>
  (idx a2 x2).bind fun x11 =>
  if (decide (x6<(List.length x11.2.1:Int))) then
   (S.l1Below (a1.1,x4,x5) 4).bind fun x12 =>
   (app x3 ([x12.1])).bind fun x13 =>
   S.l5Access_l1 a2 a1 k x2 x13 x12.2.2.1 x12.2.2.2 (w64 (x6+1))
  else
   some (x2,x3,x4,x5)

def S.l5Access (a1:((List UInt8) × Int × Int)) (a2:(List (Int × (List Int) × Int × Int × Int))):Option ((Int × (List Int)) × ((List UInt8) × Int × Int)) :=
 if (decide ((List.length a2:Int)=0)) then
  some ((0,[]),(a1.1,a1.2.1,a1.2.2))
 else
  (S.l1Below (a1.1,a1.2.1,a1.2.2) (List.length a2:Int)).bind fun x1 =>
  (S.l5Access_l1 a2 a1 FUEL x1.1 ([]) x1.2.2.1 x1.2.2.2 (0:Int)).bind fun (x7,x8,x9,x10) =>
  some ((x7,x8),(a1.1,x9,x10))

def S.IsAccess_l1 (a3:(Int × (List Int))):Nat→Int→Option (Sum Unit Bool)
 | 0,_=>none
 | k+1,x5 =>
  if (decide (x5<(List.length a3.2:Int))) then
   (idx a3.2 x5).bind fun x6 =>
   (S.l1In x6 0 9).bind fun x7 =>
   if (!x7) then
    some (.inr false)
   else
    S.IsAccess_l1 a3 k (w64 (x5+1))
  else
   some (.inl ())

def S.IsAccess (a1:(List Int)) (a2:(List (Int × (List Int) × Int × Int × Int))) (a3:(Int × (List Int))):Option Bool :=
 ((S.AreMethods a1 a2).bind fun x2 =>
 if (!x2) then
  some true
 else
  (S.l1In a3.1 0 (w64 ((List.length a2:Int)-1))).bind fun x3 =>
  if (!x3) then
   some true
  else
   (idx a2 a3.1).bind fun x4 =>
   some (!decide ((List.length a3.2:Int)=(List.length x4.2.1:Int)))).bind fun x1 =>
 if x1 then
  some false
 else
  (S.IsAccess_l1 a3 FUEL (0:Int)).bind fun o=>match o with
   | .inl () =>
    some true
   | .inr r=>some r

def S.IsFact_l1 (a2:(Int × (List Int))):Nat→Int→Option (Sum Unit Bool)
 | 0,_=>none
 | k+1,x5 =>
  if (decide (x5<(List.length a2.2:Int))) then
   (idx a2.2 x5).bind fun x6 =>
   (S.l1In x6 0 9).bind fun x7 =>
   if (!x7) then
    some (.inr false)
   else
    S.IsFact_l1 a2 k (w64 (x5+1))
  else
   some (.inl ())

def S.IsFact (a1:(List Int)) (a2:(Int × (List Int))):Option Bool :=
 ((S.IsSchema a1).bind fun x2 =>
 if (!x2) then
  some true
 else
  (S.l1In a2.1 0 (w64 ((List.length a1:Int)-1))).bind fun x3 =>
  if (!x3) then
   some true
  else
   (idx a1 a2.1).bind fun x4 =>
   some (!decide ((List.length a2.2:Int)=x4))).bind fun x1 =>
 if x1 then
  some false
 else
  (S.IsFact_l1 a2 FUEL (0:Int)).bind fun o=>match o with
   | .inl () =>
    some true
   | .inr r=>some r

def S.AreFacts_l1 (a2:(List (Int × (List Int)))) (a1:(List Int)):Nat→Int→Option (Sum Unit Bool)
 | 0,_=>none
 | k+1,x1 =>
  if (decide (x1<(List.length a2:Int))) then
   ((idx a2 x1).bind fun x3 =>
   (S.IsFact a1 x3).bind fun x4 =>
   if (!x4) then
    some true
   else
    if (decide (0<x1)) then
     (idx a2 (w64 (x1-1))).bind fun x5 =>
     (idx a2 x1).bind fun x6 =>
     (S.CompareFacts x5 x6).bind fun x7 =>
     some (decide (0≤x7))
    else
     some false).bind fun x2 =>
   if x2 then
    some (.inr false)
   else
    S.AreFacts_l1 a2 a1 k (w64 (x1+1))
  else
   some (.inl ())

def S.AreFacts (a1:(List Int)) (a2:(List (Int × (List Int)))):Option Bool :=
 (S.AreFacts_l1 a2 a1 FUEL (0:Int)).bind fun o=>match o with
  | .inl () =>
   ((S.IsSchema a1).bind fun x9 =>
   if x9 then
    some (decide ((List.length a2:Int)≤24))
   else
    some false).bind fun x8 =>
   some x8
  | .inr r=>some r

def S.l5Fits_l1 (a1:(Int × (List Int) × Int × Int × Int)) (a2:(List Int)) (a3:(Int × (List Int))):Nat→Int→Option (Sum Unit Bool)
 | 0,_=>none
 | k+1,x1 =>
  if (decide (x1<(List.length a1.2.1:Int))) then
   (idx a2 x1).bind fun x2 =>
   (idx a1.2.1 x1).bind fun x3 =>
   (idx a3.2 x3).bind fun x4 =>
   if (!decide (x4=x2)) then
    some (.inr false)
   else
    S.l5Fits_l1 a1 a2 a3 k (w64 (x1+1))
  else
   some (.inl ())

def S.l5Fits (a1:(Int × (List Int) × Int × Int × Int)) (a2:(List Int)) (a3:(Int × (List Int))):Option Bool :=
 if (!decide (a3.1=a1.1)) then
  some false
 else
  (S.l5Fits_l1 a1 a2 a3 FUEL (0:Int)).bind fun o=>match o with
   | .inl () =>
    some true
   | .inr r=>some r

def S.l5Matches_l1 (a3:(List (Int × (List Int)))) (a1:(Int × (List Int) × Int × Int × Int)) (a2:(List Int)):Nat→(List (Int × (List Int)))→Int→Option ((List (Int × (List Int))))
 | 0,_,_=>none
 | k+1,x1,x2 =>
  if (decide (x2<(List.length a3:Int))) then
   (idx a3 x2).bind fun x4 =>
   (S.l5Fits (a1.1,a1.2.1,a1.2.2.1,a1.2.2.2.1,a1.2.2.2.2) a2 x4).bind fun x5 =>
   (if x5 then
    (idx a3 x2).bind fun x7 =>
    (idx a3 x2).bind fun x8 =>
    (S.l2One x7.1 x8.2).bind fun x9 =>
    (app x1 ([(x9.1,x9.2)])).bind fun x10 =>
    some x10
   else
    some x1).bind fun x6 =>
   S.l5Matches_l1 a3 a1 a2 k x6 (w64 (x2+1))
  else
   some x1

def S.l5Matches (a1:(Int × (List Int) × Int × Int × Int)) (a2:(List Int)) (a3:(List (Int × (List Int)))):Option (List (Int × (List Int))) :=
 (S.l5Matches_l1 a3 a1 a2 FUEL ([]:List (Int × (List Int))) (0:Int)).bind fun x3 =>
 some x3

def S.MatchesOf (a1:(List Int)) (a2:(List (Int × (List Int) × Int × Int × Int))) (a3:(List (Int × (List Int)))) (a4:(Int × (List Int))):Option (List (Int × (List Int))) :=
 ((S.IsAccess a1 a2 (a4.1,a4.2)).bind fun x2 =>
 if (!x2) then
  some true
 else
  (S.AreFacts a1 a3).bind fun x3 =>
  some (!x3)).bind fun x1 =>
 if x1 then
  some ([]:List (Int × (List Int)))
 else
  (idx a2 a4.1).bind fun x4 =>
  (S.l5Matches x4 a4.2 a3).bind fun x5 =>
  some x5

def S.RespondTo_l1 (a2:(List (Int × (List Int) × Int × Int × Int))) (a4:(Int × (List Int))) (x1:(List (Int × (List Int)))) (a5:Int):Nat→(List (Int × (List Int)))→Int→Option ((List (Int × (List Int))))
 | 0,_,_=>none
 | k+1,x5,x6 =>
  (idx a2 a4.1).bind fun x8 =>
  if (decide (x6<x8.2.2.1)) then
   (nz (List.length x1:Int)).bind fun _ =>
   (idx x1 ((w64 (((if 0 > a5 then 0 else a5).tmod (List.length x1:Int))+x6)).tmod (List.length x1:Int))).bind fun x9 =>
   (S.AddFact x5 x9).bind fun x10 =>
   S.RespondTo_l1 a2 a4 x1 a5 k x10 (w64 (x6+1))
  else
   some x5

def S.RespondTo (a1:(List Int)) (a2:(List (Int × (List Int) × Int × Int × Int))) (a3:(List (Int × (List Int)))) (a4:(Int × (List Int))) (a5:Int):Option (List (Int × (List Int))) :=
 (S.MatchesOf a1 a2 a3 (a4.1,a4.2)).bind fun x1 =>
 (if (decide ((List.length x1:Int)=0)) then
  some true
 else
  (idx a2 a4.1).bind fun x3 =>
  if (decide (x3.2.2.1=0)) then
   some true
  else
   (idx a2 a4.1).bind fun x4 =>
   some (decide ((List.length x1:Int)≤x4.2.2.1))).bind fun x2 =>
 if x2 then
  some x1
 else
  (nz (List.length x1:Int)).bind fun _ =>
  (S.RespondTo_l1 a2 a4 x1 a5 FUEL ([]:List (Int × (List Int))) (0:Int)).bind fun x7 =>
  some x7

def S.l5AnyAccess (a1:((List UInt8) × Int × Int)) (a2:(List (Int × (List Int) × Int × Int × Int))):Option ((Int × (List Int)) × ((List UInt8) × Int × Int)) :=
 (S.l5Access (a1.1,a1.2.1,a1.2.2) a2).bind fun x1 =>
 (S.l1Below (a1.1,x1.2.2.1,x1.2.2.2) 12).bind fun x2 =>
 (if (decide (x2.1=0)) then
  (S.l1Below (a1.1,x2.2.2.1,x2.2.2.2) 7).bind fun x7 =>
  some (x7.2.2.1,x7.2.2.2,w64 (x7.1-1),x1.1.2)
 else
  (if (decide (x2.1=1)) then
   ((S.l1PickInt (a1.1,x2.2.2.1,x2.2.2.2) ([(-1),3,10])).bind fun x16 =>
   (app x1.1.2 ([x16.1])).bind fun x17 =>
   some (x16.2.2.1,x16.2.2.2,x1.1.1,x17)).bind fun (x12,x13,x14,x15) =>
   some (x12,x13,x14,x15)
  else
   some (x2.2.2.1,x2.2.2.2,x1.1.1,x1.1.2)).bind fun (x8,x9,x10,x11) =>
  some (x8,x9,x10,x11)).bind fun (x3,x4,x5,x6) =>
 some ((x5,x6),(a1.1,x3,x4))

def S.l28List_l1 (x1:((List Int) × (List (Int × (List Int) × Int × Int × Int)) × (List (Int × (List Int))) × ((List UInt8) × Int × Int))) (a1:((List UInt8) × Int × Int)):Nat→Int→Int→(List ((Int × (List Int)) × (List (Int × (List Int)))))→Int→Option ((Int × Int × (List ((Int × (List Int)) × (List (Int × (List Int)))))))
 | 0,_,_,_,_=>none
 | k+1,x3,x4,x5,x6 =>
  (if (decide (0<x6)) then
   (S.AreMethods x1.1 x1.2.1).bind fun x11 =>
   some x11
  else
   some false).bind fun x10 =>
  if x10 then
   (S.l5Access (a1.1,x3,x4) x1.2.1).bind fun x12 =>
   (if (decide (0<(List.length x1.2.2.1:Int))) then
    (S.l1Once (a1.1,x12.2.2.1,x12.2.2.2) 6).bind fun x16 =>
    some (x16.2.2.1,x16.2.2.2,x16.1)
   else
    some (x12.2.2.1,x12.2.2.2,false)).bind fun (x13,x14,x15) =>
   if x15 then
    (sub x1.2.2.1 1 (List.length x1.2.2.1:Int)).bind fun x17 =>
    ((S.l1Below (a1.1,x13,x14) 3).bind fun x21 =>
    (S.RespondTo x1.1 x1.2.1 x17 (x12.1.1,x12.1.2) x21.1).bind fun x22 =>
    (app x5 ([((x12.1.1,x12.1.2),x22)])).bind fun x23 =>
    some (x21.2.2.1,x21.2.2.2,x23)).bind fun (x18,x19,x20) =>
    S.l28List_l1 x1 a1 k x18 x19 x20 (w64 (x6-1))
   else
    ((S.l1Below (a1.1,x13,x14) 3).bind fun x27 =>
    (S.RespondTo x1.1 x1.2.1 x1.2.2.1 (x12.1.1,x12.1.2) x27.1).bind fun x28 =>
    (app x5 ([((x12.1.1,x12.1.2),x28)])).bind fun x29 =>
    some (x27.2.2.1,x27.2.2.2,x29)).bind fun (x24,x25,x26) =>
    S.l28List_l1 x1 a1 k x24 x25 x26 (w64 (x6-1))
  else
   some (x3,x4,x5)

def S.l28List (a1:((List UInt8) × Int × Int)):Option ((List Int) × (List (Int × (List Int) × Int × Int × Int)) × (List (Int × (List Int))) × (List ((Int × (List Int)) × (List (Int × (List Int))))) × ((List UInt8) × Int × Int)) :=
 (S.l5Draw (a1.1,a1.2.1,a1.2.2)).bind fun x1 =>
 (S.l1Below (a1.1,x1.2.2.2.2.1,x1.2.2.2.2.2) 5).bind fun x2 =>
 (S.l28List_l1 x1 a1 FUEL x2.2.2.1 x2.2.2.2 ([]:List ((Int × (List Int)) × (List (Int × (List Int))))) x2.1).bind fun (x7,x8,x9) =>
 (S.l1Once (a1.1,x7,x8) 10).bind fun x30 =>
 (if x30.1 then
  (S.l5AnyAccess (a1.1,x30.2.2.1,x30.2.2.2) x1.2.1).bind fun x34 =>
  (S.l2AnyFacts (a1.1,x34.2.2.1,x34.2.2.2) x1.1).bind fun x35 =>
  (app x9 ([((x34.1.1,x34.1.2),x35.1)])).bind fun x36 =>
  some (x35.2.2.1,x35.2.2.2,x36)
 else
  some (x30.2.2.1,x30.2.2.2,x9)).bind fun (x31,x32,x33) =>
 some (x1.1,x1.2.1,x1.2.2.1,x33,(a1.1,x31,x32))

def S.DrawFirstConflict (a1:(List UInt8)):Option ((List Int) × (List (Int × (List Int) × Int × Int × Int)) × (List ((Int × (List Int)) × (List (Int × (List Int)))))) :=
 (S.l1New a1).bind fun x1 =>
 (S.l28List (a1,x1.2.1,x1.2.2)).bind fun x2 =>
 some (x2.1,x2.2.1,x2.2.2.2.1)

def S.DrawSmallestRemoval (a1:(List UInt8)):Option ((List Int) × (List (Int × (List Int) × Int × Int × Int)) × (List ((Int × (List Int)) × (List (Int × (List Int)))))) :=
 (S.DrawFirstConflict a1).bind fun x1 =>
 some (x1.1,x1.2.1,x1.2.2)

def M.within (a1:Int) (a2:Int) (a3:Int):Option Bool :=
 (if (decide (a2≤a1)) then
  some (decide (a1≤a3))
 else
  some false).bind fun x1 =>
 some x1

def M.IsSchema_c1 (a1:Int):Option Bool :=
 (M.within a1 1 3).bind fun x1 =>
 some (!x1)

def Slices.IndexFunc_Lint_int_M_IsSchema_c1_l1 (a1:(List Int)):Nat→Int→Option (Sum Unit Int)
 | 0,_=>none
 | k+1,x1 =>
  if (decide (x1<(List.length a1:Int))) then
   (idx a1 x1).bind fun x2 =>
   (M.IsSchema_c1 x2).bind fun x3 =>
   if x3 then
    some (.inr x1)
   else
    Slices.IndexFunc_Lint_int_M_IsSchema_c1_l1 a1 k (w64 (x1+1))
  else
   some (.inl ())

def Slices.IndexFunc_Lint_int_M_IsSchema_c1 (a1:(List Int)):Option Int :=
 (Slices.IndexFunc_Lint_int_M_IsSchema_c1_l1 a1 FUEL (0:Int)).bind fun o=>match o with
  | .inl () =>
   some (-1)
  | .inr r=>some r

def Slices.ContainsFunc_Lint_int_M_IsSchema_c1 (a1:(List Int)):Option Bool :=
 (Slices.IndexFunc_Lint_int_M_IsSchema_c1 a1).bind fun x1 =>
 some (decide (0≤x1))

def M.IsSchema (a1:(List Int)):Option Bool :=
 ((M.within (List.length a1:Int) 1 3).bind fun x2 =>
 if x2 then
  (Slices.ContainsFunc_Lint_int_M_IsSchema_c1 a1).bind fun x3 =>
  some (!x3)
 else
  some false).bind fun x1 =>
 some x1

def M.hasRel (a1:(List Int)) (a2:Int):Option Bool :=
 ((M.IsSchema a1).bind fun x2 =>
 if x2 then
  (M.within a2 0 (w64 ((List.length a1:Int)-1))).bind fun x3 =>
  some x3
 else
  some false).bind fun x1 =>
 some x1

def M.ascending_l1 (a1:(List Int)):Nat→Int→Option (Sum Unit Bool)
 | 0,_=>none
 | k+1,x1 =>
  if (decide (x1<(List.length a1:Int))) then
   (if (decide (0<x1)) then
    (idx a1 x1).bind fun x3 =>
    (idx a1 (w64 (x1-1))).bind fun x4 =>
    some (decide (x3≤x4))
   else
    some false).bind fun x2 =>
   if x2 then
    some (.inr false)
   else
    M.ascending_l1 a1 k (w64 (x1+1))
  else
   some (.inl ())

def M.ascending (a1:(List Int)):Option Bool :=
 (M.ascending_l1 a1 FUEL (0:Int)).bind fun o=>match o with
  | .inl () =>
   some true
  | .inr r=>some r

def M.Method_fits_c1 (a1:Int) (ax1:Int):Option Bool :=
 (M.within a1 0 (w64 (ax1-1))).bind fun x1 =>
 some (!x1)

def M.isCost (a1:Int):Option Bool :=
 (M.within a1 0 99).bind fun x1 =>
 some x1

def Slices.IndexFunc_Lint_int_M_Method_fits_c1_l1 (a1:(List Int)) (ax1:Int):Nat→Int→Option (Sum Unit Int)
 | 0,_=>none
 | k+1,x1 =>
  if (decide (x1<(List.length a1:Int))) then
   (idx a1 x1).bind fun x2 =>
   (M.Method_fits_c1 x2 ax1).bind fun x3 =>
   if x3 then
    some (.inr x1)
   else
    Slices.IndexFunc_Lint_int_M_Method_fits_c1_l1 a1 ax1 k (w64 (x1+1))
  else
   some (.inl ())

def Slices.IndexFunc_Lint_int_M_Method_fits_c1 (a1:(List Int)) (ax1:Int):Option Int :=
 (Slices.IndexFunc_Lint_int_M_Method_fits_c1_l1 a1 ax1 FUEL (0:Int)).bind fun o=>match o with
  | .inl () =>
   some (-1)
  | .inr r=>some r

def Slices.ContainsFunc_Lint_int_M_Method_fits_c1 (a1:(List Int)) (ax1:Int):Option Bool :=
 (Slices.IndexFunc_Lint_int_M_Method_fits_c1 a1 ax1).bind fun x1 =>
 some (decide (0≤x1))

def M.Method_fits (a1:(Int × (List Int) × Int × Int × Int)) (a2:Int):Option Bool :=
 ((M.ascending a1.2.1).bind fun x2 =>
 if x2 then
  (Slices.ContainsFunc_Lint_int_M_Method_fits_c1 a1.2.1 a2).bind fun x3 =>
  if (!x3) then
   (M.within a1.2.2.1 0 9).bind fun x4 =>
   if x4 then
    (M.isCost a1.2.2.2.1).bind fun x5 =>
    if x5 then
     (M.within a1.2.2.2.2 1 99).bind fun x6 =>
     some x6
    else
     some false
   else
    some false
  else
   some false
 else
  some false).bind fun x1 =>
 some x1

def M.IsMethod (a1:(List Int)) (a2:(Int × (List Int) × Int × Int × Int)):Option Bool :=
 ((M.hasRel a1 a2.1).bind fun x2 =>
 if x2 then
  (idx a1 a2.1).bind fun x3 =>
  (M.Method_fits (a2.1,a2.2.1,a2.2.2.1,a2.2.2.2.1,a2.2.2.2.2) x3).bind fun x4 =>
  some x4
 else
  some false).bind fun x1 =>
 some x1

def M.AreMethods_c1 (a1:(Int × (List Int) × Int × Int × Int)) (ax1:(List Int)):Option Bool :=
 (M.IsMethod ax1 (a1.1,a1.2.1,a1.2.2.1,a1.2.2.2.1,a1.2.2.2.2)).bind fun x1 =>
 some (!x1)

def Slices.IndexFunc_Limpl_Method_impl_Method_M_AreMethods_c1_l1 (a1:(List (Int × (List Int) × Int × Int × Int))) (ax1:(List Int)):Nat→Int→Option (Sum Unit Int)
 | 0,_=>none
 | k+1,x1 =>
  if (decide (x1<(List.length a1:Int))) then
   (idx a1 x1).bind fun x2 =>
   (M.AreMethods_c1 x2 ax1).bind fun x3 =>
   if x3 then
    some (.inr x1)
   else
    Slices.IndexFunc_Limpl_Method_impl_Method_M_AreMethods_c1_l1 a1 ax1 k (w64 (x1+1))
  else
   some (.inl ())

def Slices.IndexFunc_Limpl_Method_impl_Method_M_AreMethods_c1 (a1:(List (Int × (List Int) × Int × Int × Int))) (ax1:(List Int)):Option Int :=
 (Slices.IndexFunc_Limpl_Method_impl_Method_M_AreMethods_c1_l1 a1 ax1 FUEL (0:Int)).bind fun o=>match o with
  | .inl () =>
   some (-1)
  | .inr r=>some r

def Slices.ContainsFunc_Limpl_Method_impl_Method_M_AreMethods_c1 (a1:(List (Int × (List Int) × Int × Int × Int))) (ax1:(List Int)):Option Bool :=
 (Slices.IndexFunc_Limpl_Method_impl_Method_M_AreMethods_c1 a1 ax1).bind fun x1 =>
 some (decide (0≤x1))

def M.AreMethods (a1:(List Int)) (a2:(List (Int × (List Int) × Int × Int × Int))):Option Bool :=
 ((M.IsSchema a1).bind fun x2 =>
 if x2 then
  if (decide ((List.length a2:Int)≤5)) then
   (Slices.ContainsFunc_Limpl_Method_impl_Method_M_AreMethods_c1 a2 a1).bind fun x3 =>
   some (!x3)
  else
   some false
 else
  some false).bind fun x1 =>
 some x1

def M.isValue (a1:Int):Option Bool :=
 (M.within a1 0 9).bind fun x1 =>
 some x1

def M.areValues_c1 (a1:Int):Option Bool :=
 (M.isValue a1).bind fun x1 =>
 some (!x1)

def Slices.IndexFunc_Lint_int_M_areValues_c1_l1 (a1:(List Int)):Nat→Int→Option (Sum Unit Int)
 | 0,_=>none
 | k+1,x1 =>
  if (decide (x1<(List.length a1:Int))) then
   (idx a1 x1).bind fun x2 =>
   (M.areValues_c1 x2).bind fun x3 =>
   if x3 then
    some (.inr x1)
   else
    Slices.IndexFunc_Lint_int_M_areValues_c1_l1 a1 k (w64 (x1+1))
  else
   some (.inl ())

def Slices.IndexFunc_Lint_int_M_areValues_c1 (a1:(List Int)):Option Int :=
 (Slices.IndexFunc_Lint_int_M_areValues_c1_l1 a1 FUEL (0:Int)).bind fun o=>match o with
  | .inl () =>
   some (-1)
  | .inr r=>some r

def Slices.ContainsFunc_Lint_int_M_areValues_c1 (a1:(List Int)):Option Bool :=
 (Slices.IndexFunc_Lint_int_M_areValues_c1 a1).bind fun x1 =>
 some (decide (0≤x1))

def M.areValues (a1:(List Int)):Option Bool :=
 (Slices.ContainsFunc_Lint_int_M_areValues_c1 a1).bind fun x1 =>
 some (!x1)

def M.IsAccess (a1:(List Int)) (a2:(List (Int × (List Int) × Int × Int × Int))) (a3:(Int × (List Int))):Option Bool :=
 ((M.AreMethods a1 a2).bind fun x2 =>
 if x2 then
  (M.within a3.1 0 (w64 ((List.length a2:Int)-1))).bind fun x3 =>
  if x3 then
   (idx a2 a3.1).bind fun x4 =>
   if (decide ((List.length a3.2:Int)=(List.length x4.2.1:Int))) then
    (M.areValues a3.2).bind fun x5 =>
    some x5
   else
    some false
  else
   some false
 else
  some false).bind fun x1 =>
 some x1

def Cmp.isNaN_int (a1:Int):Option Bool :=
 some (!decide (a1=a1))

def Cmp.Compare_int (a1:Int) (a2:Int):Option Int :=
 (Cmp.isNaN_int a1).bind fun x1 =>
 (Cmp.isNaN_int a2).bind fun x2 =>
 if x1 then
  if x2 then
   some 0
  else
   some (-1)
 else
  if x2 then
   some 1
  else
   if (decide (a1<a2)) then
    some (-1)
   else
    if (decide (a2<a1)) then
     some 1
    else
     some 0

def Slices.Compare_Lint_int_l1 (a1:(List Int)) (a2:(List Int)):Nat→Int→Option (Sum Unit Int)
 | 0,_=>none
 | k+1,x1 =>
  if (decide (x1<(List.length a1:Int))) then
   (idx a1 x1).bind fun x2 =>
   if (decide ((List.length a2:Int)≤x1)) then
    some (.inr 1)
   else
    (idx a2 x1).bind fun x3 =>
    (Cmp.Compare_int x2 x3).bind fun x4 =>
    if (!decide (x4=0)) then
     some (.inr x4)
    else
     Slices.Compare_Lint_int_l1 a1 a2 k (w64 (x1+1))
  else
   some (.inl ())

def Slices.Compare_Lint_int (a1:(List Int)) (a2:(List Int)):Option Int :=
 (Slices.Compare_Lint_int_l1 a1 a2 FUEL (0:Int)).bind fun o=>match o with
  | .inl () =>
   if (decide ((List.length a1:Int)<(List.length a2:Int))) then
    some (-1)
   else
    some 0
  | .inr r=>some r

def Cmp.Or_int_l1 (a1:(List Int)):Nat→Int→Option (Sum Unit Int)
 | 0,_=>none
 | k+1,x1 =>
  if (decide (x1<(List.length a1:Int))) then
   (idx a1 x1).bind fun x2 =>
   if (!decide (x2=0)) then
    some (.inr x2)
   else
    Cmp.Or_int_l1 a1 k (w64 (x1+1))
  else
   some (.inl ())

def Cmp.Or_int (a1:(List Int)):Option Int :=
 (Cmp.Or_int_l1 a1 FUEL (0:Int)).bind fun o=>match o with
  | .inl () =>
   some 0
  | .inr r=>some r

def M.CompareFacts (a1:(Int × (List Int))) (a2:(Int × (List Int))):Option Int :=
 (Cmp.Compare_int a1.1 a2.1).bind fun x1 =>
 (Slices.Compare_Lint_int a1.2 a2.2).bind fun x2 =>
 (Cmp.Or_int ([x1,x2])).bind fun x3 =>
 some x3

def M.IsFact (a1:(List Int)) (a2:(Int × (List Int))):Option Bool :=
 ((M.hasRel a1 a2.1).bind fun x2 =>
 if x2 then
  (idx a1 a2.1).bind fun x3 =>
  if (decide ((List.length a2.2:Int)=x3)) then
   (M.areValues a2.2).bind fun x4 =>
   some x4
  else
   some false
 else
  some false).bind fun x1 =>
 some x1

def M.AreFacts_l1 (a2:(List (Int × (List Int)))) (a1:(List Int)):Nat→Int→Option (Sum Unit Bool)
 | 0,_=>none
 | k+1,x1 =>
  if (decide (x1<(List.length a2:Int))) then
   (idx a2 x1).bind fun x2 =>
   ((M.IsFact a1 (x2.1,x2.2)).bind fun x4 =>
   if (!x4) then
    some true
   else
    if (decide (0<x1)) then
     (idx a2 (w64 (x1-1))).bind fun x5 =>
     (M.CompareFacts x5 (x2.1,x2.2)).bind fun x6 =>
     some (decide (0≤x6))
    else
     some false).bind fun x3 =>
   if x3 then
    some (.inr false)
   else
    M.AreFacts_l1 a2 a1 k (w64 (x1+1))
  else
   some (.inl ())

def M.AreFacts (a1:(List Int)) (a2:(List (Int × (List Int)))):Option Bool :=
 (M.AreFacts_l1 a2 a1 FUEL (0:Int)).bind fun o=>match o with
  | .inl () =>
   ((M.IsSchema a1).bind fun x8 =>
   if x8 then
    some (decide ((List.length a2:Int)≤24))
   else
    some false).bind fun x7 =>
   some x7
  | .inr r=>some r

def M.IsTold (a1:(List Int)) (a2:(List (Int × (List Int) × Int × Int × Int))) (a3:((Int × (List Int)) × (List (Int × (List Int))))):Option Bool :=
 ((M.IsAccess a1 a2 (a3.1.1,a3.1.2)).bind fun x2 =>
 if x2 then
  (M.AreFacts a1 a3.2).bind fun x3 =>
  some x3
 else
  some false).bind fun x1 =>
 some x1

def Slices.Clone_Lint_int (a1:(List Int)):Option (List Int) :=
 (app ([]:List Int) a1).bind fun x1 =>
 some x1

def M.copyFact (a1:(Int × (List Int))):Option (Int × (List Int)) :=
 (Slices.Clone_Lint_int a1.2).bind fun x1 =>
 some (a1.1,x1)

def M.copyFacts_l1 (a1:(List (Int × (List Int)))):Nat→(List (Int × (List Int)))→Int→Option ((List (Int × (List Int))))
 | 0,_,_=>none
 | k+1,x1,x2 =>
  if (decide (x2<(List.length a1:Int))) then
   (idx a1 x2).bind fun x4 =>
   (M.copyFact (x4.1,x4.2)).bind fun x5 =>
   (app x1 ([(x5.1,x5.2)])).bind fun x6 =>
   M.copyFacts_l1 a1 k x6 (w64 (x2+1))
  else
   some x1

def M.copyFacts (a1:(List (Int × (List Int)))):Option (List (Int × (List Int))) :=
 (M.copyFacts_l1 a1 FUEL ([]:List (Int × (List Int))) (0:Int)).bind fun x3 =>
 some x3

def M.matches_c1_l1 (ax1:(Int × (List Int) × Int × Int × Int)) (a1:(Int × (List Int))) (ax2:(Int × (List Int))):Nat→Int→Option (Sum Unit Bool)
 | 0,_=>none
 | k+1,x1 =>
  if (decide (x1<(List.length ax1.2.1:Int))) then
   (idx ax1.2.1 x1).bind fun x2 =>
   (idx a1.2 x2).bind fun x3 =>
   (idx ax2.2 x1).bind fun x4 =>
   if (!decide (x3=x4)) then
    some (.inr true)
   else
    M.matches_c1_l1 ax1 a1 ax2 k (w64 (x1+1))
  else
   some (.inl ())

def M.matches_c1 (a1:(Int × (List Int))) (ax1:(Int × (List Int) × Int × Int × Int)) (ax2:(Int × (List Int))):Option Bool :=
 if (!decide (a1.1=ax1.1)) then
  some true
 else
  (M.matches_c1_l1 ax1 a1 ax2 FUEL (0:Int)).bind fun o=>match o with
   | .inl () =>
    some false
   | .inr r=>some r

def Slices.IndexFunc_Limpl_Fact_impl_Fact_M_matches_c1_l1 (a1:(List (Int × (List Int)))) (ax1:(Int × (List Int) × Int × Int × Int)) (ax2:(Int × (List Int))):Nat→Int→Option (Sum Unit Int)
 | 0,_=>none
 | k+1,x1 =>
  if (decide (x1<(List.length a1:Int))) then
   (idx a1 x1).bind fun x2 =>
   (M.matches_c1 x2 ax1 ax2).bind fun x3 =>
   if x3 then
    some (.inr x1)
   else
    Slices.IndexFunc_Limpl_Fact_impl_Fact_M_matches_c1_l1 a1 ax1 ax2 k (w64 (x1+1))
  else
   some (.inl ())

def Slices.IndexFunc_Limpl_Fact_impl_Fact_M_matches_c1 (a1:(List (Int × (List Int)))) (ax1:(Int × (List Int) × Int × Int × Int)) (ax2:(Int × (List Int))):Option Int :=
 (Slices.IndexFunc_Limpl_Fact_impl_Fact_M_matches_c1_l1 a1 ax1 ax2 FUEL (0:Int)).bind fun o=>match o with
  | .inl () =>
   some (-1)
  | .inr r=>some r

def Slices.DeleteFunc_Limpl_Fact_impl_Fact_M_matches_c1 (a1:(List (Int × (List Int)))) (ax1:(Int × (List Int) × Int × Int × Int)) (ax2:(Int × (List Int))):Option (List (Int × (List Int))) :=
 (Slices.IndexFunc_Limpl_Fact_impl_Fact_M_matches_c1 a1 ax1 ax2).bind fun x =>
 if x=-1 then some a1 else if 0≤x∧x<(a1.length:Int) then dfl (fun e=>M.matches_c1 e ax1 ax2) (a1.take x.toNat) (a1.drop (x.toNat+1)) else none

def M.matches (a1:(List (Int × (List Int) × Int × Int × Int))) (a2:(List (Int × (List Int)))) (a3:(Int × (List Int))):Option (List (Int × (List Int))) :=
 (idx a1 a3.1).bind fun x1 =>
 (M.copyFacts a2).bind fun x2 =>
 (Slices.DeleteFunc_Limpl_Fact_impl_Fact_M_matches_c1 x2 (x1.1,x1.2.1,x1.2.2.1,x1.2.2.2.1,x1.2.2.2.2) (a3.1,a3.2)).bind fun x3 =>
 some x3

def M.FitsSelf (a1:(List Int)) (a2:(List (Int × (List Int) × Int × Int × Int))) (a3:((Int × (List Int)) × (List (Int × (List Int))))):Option Bool :=
 (M.IsTold a1 a2 ((a3.1.1,a3.1.2),a3.2)).bind fun x1 =>
 if (!x1) then
  some false
 else
  (idx a2 a3.1.1).bind fun x2 =>
  ((M.matches a2 a3.2 (a3.1.1,a3.1.2)).bind fun x4 =>
  if (decide ((List.length x4:Int)=(List.length a3.2:Int))) then
   if (decide (x2.2.2.1=0)) then
    some true
   else
    some (decide ((List.length a3.2:Int)≤x2.2.2.1))
  else
   some false).bind fun x3 =>
  some x3

def M.HasFact_c1 (a1:(Int × (List Int))) (ax1:(Int × (List Int))):Option Bool :=
 (M.CompareFacts (a1.1,a1.2) ax1).bind fun x1 =>
 some (decide (x1=0))

def Slices.IndexFunc_Limpl_Fact_impl_Fact_M_HasFact_c1_l1 (a1:(List (Int × (List Int)))) (ax1:(Int × (List Int))):Nat→Int→Option (Sum Unit Int)
 | 0,_=>none
 | k+1,x1 =>
  if (decide (x1<(List.length a1:Int))) then
   (idx a1 x1).bind fun x2 =>
   (M.HasFact_c1 x2 ax1).bind fun x3 =>
   if x3 then
    some (.inr x1)
   else
    Slices.IndexFunc_Limpl_Fact_impl_Fact_M_HasFact_c1_l1 a1 ax1 k (w64 (x1+1))
  else
   some (.inl ())

def Slices.IndexFunc_Limpl_Fact_impl_Fact_M_HasFact_c1 (a1:(List (Int × (List Int)))) (ax1:(Int × (List Int))):Option Int :=
 (Slices.IndexFunc_Limpl_Fact_impl_Fact_M_HasFact_c1_l1 a1 ax1 FUEL (0:Int)).bind fun o=>match o with
  | .inl () =>
   some (-1)
  | .inr r=>some r

def Slices.ContainsFunc_Limpl_Fact_impl_Fact_M_HasFact_c1 (a1:(List (Int × (List Int)))) (ax1:(Int × (List Int))):Option Bool :=
 (Slices.IndexFunc_Limpl_Fact_impl_Fact_M_HasFact_c1 a1 ax1).bind fun x1 =>
 some (decide (0≤x1))

def M.HasFact (a1:(List (Int × (List Int)))) (a2:(Int × (List Int))):Option Bool :=
 (Slices.ContainsFunc_Limpl_Fact_impl_Fact_M_HasFact_c1 a1 (a2.1,a2.2)).bind fun x1 =>
 some x1

def M.Told_denies (a1:((Int × (List Int)) × (List (Int × (List Int))))) (a2:(List (Int × (List Int) × Int × Int × Int))) (a3:(Int × (List Int))):Option Bool :=
 (idx a2 a1.1.1).bind fun x1 =>
 ((M.matches a2 ([(a3.1,a3.2)]:List (Int × (List Int))) (a1.1.1,a1.1.2)).bind fun x3 =>
 if (decide (0<(List.length x3:Int))) then
  (M.HasFact a1.2 (a3.1,a3.2)).bind fun x4 =>
  if (!x4) then
   if (decide (x1.2.2.1=0)) then
    some true
   else
    some (decide ((List.length a1.2:Int)<x1.2.2.1))
  else
   some false
 else
  some false).bind fun x2 =>
 some x2

def M.Disagree_c1 (a1:(Int × (List Int))) (ax1:((Int × (List Int)) × (List (Int × (List Int))))) (ax2:(List (Int × (List Int) × Int × Int × Int))):Option Bool :=
 (M.Told_denies ax1 ax2 (a1.1,a1.2)).bind fun x1 =>
 some x1

def M.Disagree_c2 (a1:(Int × (List Int))) (ax1:((Int × (List Int)) × (List (Int × (List Int))))) (ax2:(List (Int × (List Int) × Int × Int × Int))):Option Bool :=
 (M.Told_denies ax1 ax2 (a1.1,a1.2)).bind fun x1 =>
 some x1

def Slices.IndexFunc_Limpl_Fact_impl_Fact_M_Disagree_c1_l1 (a1:(List (Int × (List Int)))) (ax1:((Int × (List Int)) × (List (Int × (List Int))))) (ax2:(List (Int × (List Int) × Int × Int × Int))):Nat→Int→Option (Sum Unit Int)
 | 0,_=>none
 | k+1,x1 =>
  if (decide (x1<(List.length a1:Int))) then
   (idx a1 x1).bind fun x2 =>
   (M.Disagree_c1 x2 ax1 ax2).bind fun x3 =>
   if x3 then
    some (.inr x1)
   else
    Slices.IndexFunc_Limpl_Fact_impl_Fact_M_Disagree_c1_l1 a1 ax1 ax2 k (w64 (x1+1))
  else
   some (.inl ())

def Slices.IndexFunc_Limpl_Fact_impl_Fact_M_Disagree_c1 (a1:(List (Int × (List Int)))) (ax1:((Int × (List Int)) × (List (Int × (List Int))))) (ax2:(List (Int × (List Int) × Int × Int × Int))):Option Int :=
 (Slices.IndexFunc_Limpl_Fact_impl_Fact_M_Disagree_c1_l1 a1 ax1 ax2 FUEL (0:Int)).bind fun o=>match o with
  | .inl () =>
   some (-1)
  | .inr r=>some r

def Slices.ContainsFunc_Limpl_Fact_impl_Fact_M_Disagree_c1 (a1:(List (Int × (List Int)))) (ax1:((Int × (List Int)) × (List (Int × (List Int))))) (ax2:(List (Int × (List Int) × Int × Int × Int))):Option Bool :=
 (Slices.IndexFunc_Limpl_Fact_impl_Fact_M_Disagree_c1 a1 ax1 ax2).bind fun x1 =>
 some (decide (0≤x1))

def Slices.IndexFunc_Limpl_Fact_impl_Fact_M_Disagree_c2_l1 (a1:(List (Int × (List Int)))) (ax1:((Int × (List Int)) × (List (Int × (List Int))))) (ax2:(List (Int × (List Int) × Int × Int × Int))):Nat→Int→Option (Sum Unit Int)
 | 0,_=>none
 | k+1,x1 =>
  if (decide (x1<(List.length a1:Int))) then
   (idx a1 x1).bind fun x2 =>
   (M.Disagree_c2 x2 ax1 ax2).bind fun x3 =>
   if x3 then
    some (.inr x1)
   else
    Slices.IndexFunc_Limpl_Fact_impl_Fact_M_Disagree_c2_l1 a1 ax1 ax2 k (w64 (x1+1))
  else
   some (.inl ())

def Slices.IndexFunc_Limpl_Fact_impl_Fact_M_Disagree_c2 (a1:(List (Int × (List Int)))) (ax1:((Int × (List Int)) × (List (Int × (List Int))))) (ax2:(List (Int × (List Int) × Int × Int × Int))):Option Int :=
 (Slices.IndexFunc_Limpl_Fact_impl_Fact_M_Disagree_c2_l1 a1 ax1 ax2 FUEL (0:Int)).bind fun o=>match o with
  | .inl () =>
   some (-1)
  | .inr r=>some r

def Slices.ContainsFunc_Limpl_Fact_impl_Fact_M_Disagree_c2 (a1:(List (Int × (List Int)))) (ax1:((Int × (List Int)) × (List (Int × (List Int))))) (ax2:(List (Int × (List Int) × Int × Int × Int))):Option Bool :=
 (Slices.IndexFunc_Limpl_Fact_impl_Fact_M_Disagree_c2 a1 ax1 ax2).bind fun x1 =>
 some (decide (0≤x1))

def M.Disagree (a1:(List Int)) (a2:(List (Int × (List Int) × Int × Int × Int))) (a3:((Int × (List Int)) × (List (Int × (List Int))))) (a4:((Int × (List Int)) × (List (Int × (List Int))))):Option Bool :=
 ((M.FitsSelf a1 a2 ((a3.1.1,a3.1.2),a3.2)).bind fun x2 =>
 if x2 then
  (M.FitsSelf a1 a2 ((a4.1.1,a4.1.2),a4.2)).bind fun x3 =>
  if x3 then
   (Slices.ContainsFunc_Limpl_Fact_impl_Fact_M_Disagree_c1 a3.2 ((a4.1.1,a4.1.2),a4.2) a2).bind fun x4 =>
   if x4 then
    some true
   else
    (Slices.ContainsFunc_Limpl_Fact_impl_Fact_M_Disagree_c2 a4.2 ((a3.1.1,a3.1.2),a3.2) a2).bind fun x5 =>
    some x5
  else
   some false
 else
  some false).bind fun x1 =>
 some x1

def M.FirstConflict_c1 (a1:((Int × (List Int)) × (List (Int × (List Int))))) (ax1:(List Int)) (ax2:(List (Int × (List Int) × Int × Int × Int))) (ax3:((Int × (List Int)) × (List (Int × (List Int))))):Option Bool :=
 (M.Disagree ax1 ax2 ((a1.1.1,a1.1.2),a1.2) ax3).bind fun x1 =>
 some x1

def Slices.IndexFunc_Limpl_Told_impl_Told_M_FirstConflict_c1_l1 (a1:(List ((Int × (List Int)) × (List (Int × (List Int)))))) (ax1:(List Int)) (ax2:(List (Int × (List Int) × Int × Int × Int))) (ax3:((Int × (List Int)) × (List (Int × (List Int))))):Nat→Int→Option (Sum Unit Int)
 | 0,_=>none
 | k+1,x1 =>
  if (decide (x1<(List.length a1:Int))) then
   (idx a1 x1).bind fun x2 =>
   (M.FirstConflict_c1 x2 ax1 ax2 ax3).bind fun x3 =>
   if x3 then
    some (.inr x1)
   else
    Slices.IndexFunc_Limpl_Told_impl_Told_M_FirstConflict_c1_l1 a1 ax1 ax2 ax3 k (w64 (x1+1))
  else
   some (.inl ())

def Slices.IndexFunc_Limpl_Told_impl_Told_M_FirstConflict_c1 (a1:(List ((Int × (List Int)) × (List (Int × (List Int)))))) (ax1:(List Int)) (ax2:(List (Int × (List Int) × Int × Int × Int))) (ax3:((Int × (List Int)) × (List (Int × (List Int))))):Option Int :=
 (Slices.IndexFunc_Limpl_Told_impl_Told_M_FirstConflict_c1_l1 a1 ax1 ax2 ax3 FUEL (0:Int)).bind fun o=>match o with
  | .inl () =>
   some (-1)
  | .inr r=>some r

def M.FirstConflict_l1 (a3:(List ((Int × (List Int)) × (List (Int × (List Int)))))) (a1:(List Int)) (a2:(List (Int × (List Int) × Int × Int × Int))):Nat→Int→Option (Sum Unit (Int × Int × Bool))
 | 0,_=>none
 | k+1,x1 =>
  if (decide (x1<(List.length a3:Int))) then
   (idx a3 x1).bind fun x2 =>
   (M.FitsSelf a1 a2 ((x2.1.1,x2.1.2),x2.2)).bind fun x3 =>
   if (!x3) then
    some (.inr (x1,x1,true))
   else
    (sub a3 0 x1).bind fun x4 =>
    (Slices.IndexFunc_Limpl_Told_impl_Told_M_FirstConflict_c1 x4 a1 a2 ((x2.1.1,x2.1.2),x2.2)).bind fun x5 =>
    if (decide (0≤x5)) then
     some (.inr (x5,x1,true))
    else
     M.FirstConflict_l1 a3 a1 a2 k (w64 (x1+1))
  else
   some (.inl ())

def M.FirstConflict (a1:(List Int)) (a2:(List (Int × (List Int) × Int × Int × Int))) (a3:(List ((Int × (List Int)) × (List (Int × (List Int)))))):Option (Int × Int × Bool) :=
 (M.FirstConflict_l1 a3 a1 a2 FUEL (0:Int)).bind fun o=>match o with
  | .inl () =>
   some ((-1),(-1),false)
  | .inr r=>some r

def M.IsConsistent (a1:(List Int)) (a2:(List (Int × (List Int) × Int × Int × Int))) (a3:(List ((Int × (List Int)) × (List (Int × (List Int)))))):Option Bool :=
 (M.FirstConflict a1 a2 a3).bind fun x1 =>
 ((M.AreMethods a1 a2).bind fun x3 =>
 if x3 then
  some (!x1.2.2)
 else
  some false).bind fun x2 =>
 some x2

def Slices.Index_Lint_int_l1 (a1:(List Int)) (a2:Int):Nat→Int→Option (Sum Unit Int)
 | 0,_=>none
 | k+1,x1 =>
  if (decide (x1<(List.length a1:Int))) then
   (idx a1 x1).bind fun x2 =>
   if (decide (a2=x2)) then
    some (.inr x1)
   else
    Slices.Index_Lint_int_l1 a1 a2 k (w64 (x1+1))
  else
   some (.inl ())

def Slices.Index_Lint_int (a1:(List Int)) (a2:Int):Option Int :=
 (Slices.Index_Lint_int_l1 a1 a2 FUEL (0:Int)).bind fun o=>match o with
  | .inl () =>
   some (-1)
  | .inr r=>some r

def Slices.Contains_Lint_int (a1:(List Int)) (a2:Int):Option Bool :=
 (Slices.Index_Lint_int a1 a2).bind fun x1 =>
 some (decide (0≤x1))

def M.copyAccess (a1:(Int × (List Int))):Option (Int × (List Int)) :=
 (Slices.Clone_Lint_int a1.2).bind fun x1 =>
 some (a1.1,x1)

def M.copyTold (a1:((Int × (List Int)) × (List (Int × (List Int))))):Option ((Int × (List Int)) × (List (Int × (List Int)))) :=
 (M.copyAccess (a1.1.1,a1.1.2)).bind fun x1 =>
 (M.copyFacts a1.2).bind fun x2 =>
 some ((x1.1,x1.2),x2)

def M.Without_l1 (a1:(List ((Int × (List Int)) × (List (Int × (List Int)))))) (a2:(List Int)):Nat→(List ((Int × (List Int)) × (List (Int × (List Int)))))→Int→Option ((List ((Int × (List Int)) × (List (Int × (List Int))))))
 | 0,_,_=>none
 | k+1,x1,x2 =>
  if (decide (x2<(List.length a1:Int))) then
   (idx a1 x2).bind fun x4 =>
   (Slices.Contains_Lint_int a2 x2).bind fun x5 =>
   (if (!x5) then
    (M.copyTold ((x4.1.1,x4.1.2),x4.2)).bind fun x7 =>
    (app x1 ([((x7.1.1,x7.1.2),x7.2)])).bind fun x8 =>
    some x8
   else
    some x1).bind fun x6 =>
   M.Without_l1 a1 a2 k x6 (w64 (x2+1))
  else
   some x1

def M.Without (a1:(List ((Int × (List Int)) × (List (Int × (List Int)))))) (a2:(List Int)):Option (List ((Int × (List Int)) × (List (Int × (List Int))))) :=
 (M.Without_l1 a1 a2 FUEL ([]:List ((Int × (List Int)) × (List (Int × (List Int))))) (0:Int)).bind fun x3 =>
 some x3

def M.removals_c1 (a1:(List Int)) (ax1:(List Int)) (ax2:(List (Int × (List Int) × Int × Int × Int))) (ax3:(List ((Int × (List Int)) × (List (Int × (List Int)))))):Option Bool :=
 (M.Without ax3 a1).bind fun x1 =>
 (M.IsConsistent ax1 ax2 x1).bind fun x2 =>
 some x2

def Slices.Equal_Lint_int_l1 (a1:(List Int)) (a2:(List Int)):Nat→Int→Option (Sum Unit Bool)
 | 0,_=>none
 | k+1,x1 =>
  if (decide (x1<(List.length a1:Int))) then
   (idx a1 x1).bind fun x2 =>
   (idx a2 x1).bind fun x3 =>
   if (!decide (x2=x3)) then
    some (.inr false)
   else
    Slices.Equal_Lint_int_l1 a1 a2 k (w64 (x1+1))
  else
   some (.inl ())

def Slices.Equal_Lint_int (a1:(List Int)) (a2:(List Int)):Option Bool :=
 if (!decide ((List.length a1:Int)=(List.length a2:Int))) then
  some false
 else
  (Slices.Equal_Lint_int_l1 a1 a2 FUEL (0:Int)).bind fun o=>match o with
   | .inl () =>
    some true
   | .inr r=>some r

def M.hasTuple_c1 (a1:(List Int)) (ax1:(List Int)):Option Bool :=
 (Slices.Equal_Lint_int a1 ax1).bind fun x1 =>
 some x1

def Slices.IndexFunc_LLint_Lint_M_hasTuple_c1_l1 (a1:(List (List Int))) (ax1:(List Int)):Nat→Int→Option (Sum Unit Int)
 | 0,_=>none
 | k+1,x1 =>
  if (decide (x1<(List.length a1:Int))) then
   (idx a1 x1).bind fun x2 =>
   (M.hasTuple_c1 x2 ax1).bind fun x3 =>
   if x3 then
    some (.inr x1)
   else
    Slices.IndexFunc_LLint_Lint_M_hasTuple_c1_l1 a1 ax1 k (w64 (x1+1))
  else
   some (.inl ())

def Slices.IndexFunc_LLint_Lint_M_hasTuple_c1 (a1:(List (List Int))) (ax1:(List Int)):Option Int :=
 (Slices.IndexFunc_LLint_Lint_M_hasTuple_c1_l1 a1 ax1 FUEL (0:Int)).bind fun o=>match o with
  | .inl () =>
   some (-1)
  | .inr r=>some r

def Slices.ContainsFunc_LLint_Lint_M_hasTuple_c1 (a1:(List (List Int))) (ax1:(List Int)):Option Bool :=
 (Slices.IndexFunc_LLint_Lint_M_hasTuple_c1 a1 ax1).bind fun x1 =>
 some (decide (0≤x1))

def M.hasTuple (a1:(List (List Int))) (a2:(List Int)):Option Bool :=
 (Slices.ContainsFunc_LLint_Lint_M_hasTuple_c1 a1 a2).bind fun x1 =>
 some x1

def M.addedTuple_c1 (a1:(List Int)) (ax1:(List Int)):Option Bool :=
 (Slices.Compare_Lint_int a1 ax1).bind fun x1 =>
 some (decide (0<x1))

def Slices.Insert_LLint_Lint (a1:(List (List Int))) (a2:Int) (a3:(List (List Int))):Option (List (List Int)) :=
 ins a1 a2 a3

def Slices.IndexFunc_LLint_Lint_M_addedTuple_c1_l1 (a1:(List (List Int))) (ax1:(List Int)):Nat→Int→Option (Sum Unit Int)
 | 0,_=>none
 | k+1,x1 =>
  if (decide (x1<(List.length a1:Int))) then
   (idx a1 x1).bind fun x2 =>
   (M.addedTuple_c1 x2 ax1).bind fun x3 =>
   if x3 then
    some (.inr x1)
   else
    Slices.IndexFunc_LLint_Lint_M_addedTuple_c1_l1 a1 ax1 k (w64 (x1+1))
  else
   some (.inl ())

def Slices.IndexFunc_LLint_Lint_M_addedTuple_c1 (a1:(List (List Int))) (ax1:(List Int)):Option Int :=
 (Slices.IndexFunc_LLint_Lint_M_addedTuple_c1_l1 a1 ax1 FUEL (0:Int)).bind fun o=>match o with
  | .inl () =>
   some (-1)
  | .inr r=>some r

def M.addedTuple (a1:(List (List Int))) (a2:(List Int)):Option (List (List Int)) :=
 (M.hasTuple a1 a2).bind fun x1 =>
 if x1 then
  some a1
 else
  (Slices.IndexFunc_LLint_Lint_M_addedTuple_c1 a1 a2).bind fun x2 =>
  (if (decide (x2<0)) then
   some (List.length a1:Int)
  else
   some x2).bind fun x3 =>
  (Slices.Clone_Lint_int a2).bind fun x4 =>
  (Slices.Insert_LLint_Lint a1 x3 ([x4])).bind fun x5 =>
  some x5

def M.smallest_M_removals_c1_l2 (a1:Int) (x3:Int):Nat→(List Int)→Bool→Int→Option (((List Int) × Bool))
 | 0,_,_,_=>none
 | k+1,x6,x7,x8 =>
  if (decide (x8<a1)) then
   (nn x8).bind fun _ =>
   (if (decide ((band (shr x3 x8) 1)=1)) then
    (app x6 ([x8])).bind fun x13 =>
    some (x13,false)
   else
    some (x6,x7)).bind fun (x11,x12) =>
   M.smallest_M_removals_c1_l2 a1 x3 k x11 x12 (w64 (x8+1))
  else
   some (x6,x7)

def M.smallest_M_removals_c1_l1 (a1:Int) (ax1:(List Int)) (ax2:(List (Int × (List Int) × Int × Int × Int))) (ax3:(List ((Int × (List Int)) × (List (Int × (List Int)))))):Nat→(List Int)→Bool→Int→Option (((List Int) × Bool))
 | 0,_,_,_=>none
 | k+1,x1,x2,x3 =>
  if (decide (x3<(shl 1 a1))) then
   (M.smallest_M_removals_c1_l2 a1 x3 FUEL ([]:List Int) false (0:Int)).bind fun (x9,x10) =>
   (if x2 then
    (M.removals_c1 x9 ax1 ax2 ax3).bind fun x15 =>
    some x15
   else
    if (decide ((List.length x9:Int)<(List.length x1:Int))) then
     (M.removals_c1 x9 ax1 ax2 ax3).bind fun x16 =>
     some x16
    else
     if (decide ((List.length x9:Int)=(List.length x1:Int))) then
      (Slices.Compare_Lint_int x9 x1).bind fun x17 =>
      if (decide (x17<0)) then
       (M.removals_c1 x9 ax1 ax2 ax3).bind fun x18 =>
       some x18
      else
       some false
     else
      some false).bind fun x14 =>
   (if x14 then
    some (x9,x10)
   else
    some (x1,x2)).bind fun (x19,x20) =>
   M.smallest_M_removals_c1_l1 a1 ax1 ax2 ax3 k x19 x20 (w64 (x3+1))
  else
   some (x1,x2)

def M.smallest_M_removals_c1 (a1:Int) (ax1:(List Int)) (ax2:(List (Int × (List Int) × Int × Int × Int))) (ax3:(List ((Int × (List Int)) × (List (Int × (List Int)))))):Option ((List Int) × Bool) :=
 (nn a1).bind fun _ =>
 (M.smallest_M_removals_c1_l1 a1 ax1 ax2 ax3 FUEL ([]) true (0:Int)).bind fun (x4,x5) =>
 some (x4,(!x5))

def M.removals_l2 (a3:(List ((Int × (List Int)) × (List (Int × (List Int)))))) (x5:Int):Nat→(List Int)→Int→Option ((List Int))
 | 0,_,_=>none
 | k+1,x7,x8 =>
  if (decide (x8<(List.length a3:Int))) then
   (nn x8).bind fun _ =>
   (if (decide ((band (shr x5 x8) 1)=1)) then
    (app x7 ([x8])).bind fun x11 =>
    some x11
   else
    some x7).bind fun x10 =>
   M.removals_l2 a3 x5 k x10 (w64 (x8+1))
  else
   some x7

def M.removals_l1 (a3:(List ((Int × (List Int)) × (List (Int × (List Int)))))) (x3:((List Int) × Bool)) (a1:(List Int)) (a2:(List (Int × (List Int) × Int × Int × Int))):Nat→(List (List Int))→Int→Option ((List (List Int)))
 | 0,_,_=>none
 | k+1,x4,x5 =>
  if (decide (x5<(shl 1 (List.length a3:Int)))) then
   (M.removals_l2 a3 x5 FUEL ([]:List Int) (0:Int)).bind fun x9 =>
   (if (decide ((List.length x9:Int)=(List.length x3.1:Int))) then
    (M.removals_c1 x9 a1 a2 a3).bind fun x13 =>
    some x13
   else
    some false).bind fun x12 =>
   (if x12 then
    (M.addedTuple x4 x9).bind fun x15 =>
    some x15
   else
    some x4).bind fun x14 =>
   M.removals_l1 a3 x3 a1 a2 k x14 (w64 (x5+1))
  else
   some x4

def M.removals (a1:(List Int)) (a2:(List (Int × (List Int) × Int × Int × Int))) (a3:(List ((Int × (List Int)) × (List (Int × (List Int)))))):Option ((List (List Int)) × Bool) :=
 ((M.AreMethods a1 a2).bind fun x2 =>
 if (!x2) then
  some true
 else
  some (decide (8<(List.length a3:Int)))).bind fun x1 =>
 if x1 then
  some ([],false)
 else
  (M.smallest_M_removals_c1 (List.length a3:Int) a1 a2 a3).bind fun x3 =>
  if (!x3.2) then
   some ([],false)
  else
   (nn (List.length a3:Int)).bind fun _ =>
   (M.removals_l1 a3 x3 a1 a2 FUEL ([]:List (List Int)) (0:Int)).bind fun x6 =>
   some (x6,true)

def M.SmallestRemoval (a1:(List Int)) (a2:(List (Int × (List Int) × Int × Int × Int))) (a3:(List ((Int × (List Int)) × (List (Int × (List Int)))))):Option ((List Int) × Bool) :=
 (M.removals a1 a2 a3).bind fun x1 =>
 if (!x1.2) then
  some ([],false)
 else
  (idx x1.1 0).bind fun x2 =>
  some (x2,true)

def S.IsTold (a1:(List Int)) (a2:(List (Int × (List Int) × Int × Int × Int))) (a3:((Int × (List Int)) × (List (Int × (List Int))))):Option Bool :=
 ((S.IsAccess a1 a2 (a3.1.1,a3.1.2)).bind fun x2 =>
 if x2 then
  (S.AreFacts a1 a3.2).bind fun x3 =>
  some x3
 else
  some false).bind fun x1 =>
 some x1

def S.FitsSelf_l1 (a3:((Int × (List Int)) × (List (Int × (List Int))))) (x2:(Int × (List Int) × Int × Int × Int)):Nat→Int→Option (Sum Unit Bool)
 | 0,_=>none
 | k+1,x3 =>
  if (decide (x3<(List.length a3.2:Int))) then
   (idx a3.2 x3).bind fun x4 =>
   (S.l5Fits (x2.1,x2.2.1,x2.2.2.1,x2.2.2.2.1,x2.2.2.2.2) a3.1.2 x4).bind fun x5 =>
   if (!x5) then
    some (.inr false)
   else
    S.FitsSelf_l1 a3 x2 k (w64 (x3+1))
  else
   some (.inl ())

def S.FitsSelf (a1:(List Int)) (a2:(List (Int × (List Int) × Int × Int × Int))) (a3:((Int × (List Int)) × (List (Int × (List Int))))):Option Bool :=
 (S.IsTold a1 a2 ((a3.1.1,a3.1.2),a3.2)).bind fun x1 =>
 if (!x1) then
  some false
 else
  (idx a2 a3.1.1).bind fun x2 =>
  (S.FitsSelf_l1 a3 x2 FUEL (0:Int)).bind fun o=>match o with
   | .inl () =>
    (if (decide (x2.2.2.1=0)) then
     some true
    else
     some (decide ((List.length a3.2:Int)≤x2.2.2.1))).bind fun x6 =>
    some x6
   | .inr r=>some r

def S.l28Lacks_l1 (a2:((Int × (List Int)) × (List (Int × (List Int))))) (x1:(Int × (List Int) × Int × Int × Int)) (a3:((Int × (List Int)) × (List (Int × (List Int))))):Nat→Int→Option (Sum Unit Bool)
 | 0,_=>none
 | k+1,x2 =>
  if (decide (x2<(List.length a2.2:Int))) then
   ((idx a2.2 x2).bind fun x4 =>
   (S.l5Fits (x1.1,x1.2.1,x1.2.2.1,x1.2.2.2.1,x1.2.2.2.2) a3.1.2 x4).bind fun x5 =>
   if x5 then
    (idx a2.2 x2).bind fun x6 =>
    (S.HasFact a3.2 x6).bind fun x7 =>
    if (!x7) then
     if (decide (x1.2.2.1=0)) then
      some true
     else
      some (decide ((List.length a3.2:Int)<x1.2.2.1))
    else
     some false
   else
    some false).bind fun x3 =>
   if x3 then
    some (.inr true)
   else
    S.l28Lacks_l1 a2 x1 a3 k (w64 (x2+1))
  else
   some (.inl ())

def S.l28Lacks (a1:(List (Int × (List Int) × Int × Int × Int))) (a2:((Int × (List Int)) × (List (Int × (List Int))))) (a3:((Int × (List Int)) × (List (Int × (List Int))))):Option Bool :=
 (idx a1 a3.1.1).bind fun x1 =>
 (S.l28Lacks_l1 a2 x1 a3 FUEL (0:Int)).bind fun o=>match o with
  | .inl () =>
   some false
  | .inr r=>some r

def S.Disagree (a1:(List Int)) (a2:(List (Int × (List Int) × Int × Int × Int))) (a3:((Int × (List Int)) × (List (Int × (List Int))))) (a4:((Int × (List Int)) × (List (Int × (List Int))))):Option Bool :=
 ((S.FitsSelf a1 a2 ((a3.1.1,a3.1.2),a3.2)).bind fun x2 =>
 if x2 then
  (S.FitsSelf a1 a2 ((a4.1.1,a4.1.2),a4.2)).bind fun x3 =>
  if x3 then
   (S.l28Lacks a2 ((a3.1.1,a3.1.2),a3.2) ((a4.1.1,a4.1.2),a4.2)).bind fun x4 =>
   if x4 then
    some true
   else
    (S.l28Lacks a2 ((a4.1.1,a4.1.2),a4.2) ((a3.1.1,a3.1.2),a3.2)).bind fun x5 =>
    some x5
  else
   some false
 else
  some false).bind fun x1 =>
 some x1

def S.FirstConflict_l2 (x1:Int) (a3:(List ((Int × (List Int)) × (List (Int × (List Int)))))) (a1:(List Int)) (a2:(List (Int × (List Int) × Int × Int × Int))):Nat→Int→Option (Sum Unit (Int × Int × Bool))
 | 0,_=>none
 | k+1,x4 =>
  if (decide (x4<x1)) then
   (idx a3 x4).bind fun x5 =>
   (idx a3 x1).bind fun x6 =>
   (S.Disagree a1 a2 x5 x6).bind fun x7 =>
   if x7 then
    some (.inr (x4,x1,true))
   else
    S.FirstConflict_l2 x1 a3 a1 a2 k (w64 (x4+1))
  else
   some (.inl ())

def S.FirstConflict_l1 (a3:(List ((Int × (List Int)) × (List (Int × (List Int)))))) (a1:(List Int)) (a2:(List (Int × (List Int) × Int × Int × Int))):Nat→Int→Option (Sum Unit (Int × Int × Bool))
 | 0,_=>none
 | k+1,x1 =>
  if (decide (x1<(List.length a3:Int))) then
   (idx a3 x1).bind fun x2 =>
   (S.FitsSelf a1 a2 x2).bind fun x3 =>
   if (!x3) then
    some (.inr (x1,x1,true))
   else
    (S.FirstConflict_l2 x1 a3 a1 a2 FUEL (0:Int)).bind fun o=>match o with
     | .inl () =>
      S.FirstConflict_l1 a3 a1 a2 k (w64 (x1+1))
     | .inr r=>some (.inr r)
  else
   some (.inl ())

def S.FirstConflict (a1:(List Int)) (a2:(List (Int × (List Int) × Int × Int × Int))) (a3:(List ((Int × (List Int)) × (List (Int × (List Int)))))):Option (Int × Int × Bool) :=
 (S.FirstConflict_l1 a3 a1 a2 FUEL (0:Int)).bind fun o=>match o with
  | .inl () =>
   some ((-1),(-1),false)
  | .inr r=>some r

def S.IsConsistent (a1:(List Int)) (a2:(List (Int × (List Int) × Int × Int × Int))) (a3:(List ((Int × (List Int)) × (List (Int × (List Int)))))):Option Bool :=
 (S.FirstConflict a1 a2 a3).bind fun x1 =>
 ((S.AreMethods a1 a2).bind fun x3 =>
 if x3 then
  some (!x1.2.2)
 else
  some false).bind fun x2 =>
 some x2

def S.l2Has_l1 (a1:(List Int)) (a2:Int):Nat→Int→Option (Sum Unit Bool)
 | 0,_=>none
 | k+1,x1 =>
  if (decide (x1<(List.length a1:Int))) then
   (idx a1 x1).bind fun x2 =>
   if (decide (x2=a2)) then
    some (.inr true)
   else
    S.l2Has_l1 a1 a2 k (w64 (x1+1))
  else
   some (.inl ())

def S.l2Has (a1:(List Int)) (a2:Int):Option Bool :=
 (S.l2Has_l1 a1 a2 FUEL (0:Int)).bind fun o=>match o with
  | .inl () =>
   some false
  | .inr r=>some r

def S.l8Access (a1:Int) (a2:(List Int)):Option (Int × (List Int)) :=
 (app ([]:List Int) a2).bind fun x1 =>
 some (a1,x1)

def S.l2Copy_l1 (a1:(List (Int × (List Int)))):Nat→(List (Int × (List Int)))→Int→Option ((List (Int × (List Int))))
 | 0,_,_=>none
 | k+1,x1,x2 =>
  if (decide (x2<(List.length a1:Int))) then
   (idx a1 x2).bind fun x4 =>
   (idx a1 x2).bind fun x5 =>
   (S.l2One x4.1 x5.2).bind fun x6 =>
   (app x1 ([(x6.1,x6.2)])).bind fun x7 =>
   S.l2Copy_l1 a1 k x7 (w64 (x2+1))
  else
   some x1

def S.l2Copy (a1:(List (Int × (List Int)))):Option (List (Int × (List Int))) :=
 (S.l2Copy_l1 a1 FUEL ([]:List (Int × (List Int))) (0:Int)).bind fun x3 =>
 some x3

def S.l29Told (a1:((Int × (List Int)) × (List (Int × (List Int))))):Option ((Int × (List Int)) × (List (Int × (List Int)))) :=
 (S.l8Access a1.1.1 a1.1.2).bind fun x1 =>
 (S.l2Copy a1.2).bind fun x2 =>
 some ((x1.1,x1.2),x2)

def S.Without_l1 (a1:(List ((Int × (List Int)) × (List (Int × (List Int)))))) (a2:(List Int)):Nat→(List ((Int × (List Int)) × (List (Int × (List Int)))))→Int→Option ((List ((Int × (List Int)) × (List (Int × (List Int))))))
 | 0,_,_=>none
 | k+1,x1,x2 =>
  if (decide (x2<(List.length a1:Int))) then
   (S.l2Has a2 x2).bind fun x4 =>
   (if (!x4) then
    (idx a1 x2).bind fun x6 =>
    (S.l29Told x6).bind fun x7 =>
    (app x1 ([((x7.1.1,x7.1.2),x7.2)])).bind fun x8 =>
    some x8
   else
    some x1).bind fun x5 =>
   S.Without_l1 a1 a2 k x5 (w64 (x2+1))
  else
   some x1

def S.Without (a1:(List ((Int × (List Int)) × (List (Int × (List Int)))))) (a2:(List Int)):Option (List ((Int × (List Int)) × (List (Int × (List Int))))) :=
 (S.Without_l1 a1 a2 FUEL ([]:List ((Int × (List Int)) × (List (Int × (List Int))))) (0:Int)).bind fun x3 =>
 some x3

def S.l15Set_l1 (a2:Int) (a1:Int):Nat→(List Int)→Int→Option ((List Int))
 | 0,_,_=>none
 | k+1,x1,x2 =>
  if (decide (x2<a2)) then
   (nn x2).bind fun _ =>
   (if (decide ((band (shr a1 x2) 1)=1)) then
    (app x1 ([x2])).bind fun x5 =>
    some x5
   else
    some x1).bind fun x4 =>
   S.l15Set_l1 a2 a1 k x4 (w64 (x2+1))
  else
   some x1

def S.l15Set (a1:Int) (a2:Int):Option (List Int) :=
 (S.l15Set_l1 a2 a1 FUEL ([]:List Int) (0:Int)).bind fun x3 =>
 some x3

def S.l4Less_l1 (a1:(List Int)) (a2:(List Int)):Nat→Int→Option (Sum Unit Bool)
 | 0,_=>none
 | k+1,x1 =>
  (if (decide (x1<(List.length a1:Int))) then
   some (decide (x1<(List.length a2:Int)))
  else
   some false).bind fun x2 =>
  if x2 then
   (idx a1 x1).bind fun x3 =>
   (idx a2 x1).bind fun x4 =>
   if (!decide (x3=x4)) then
    (idx a1 x1).bind fun x5 =>
    (idx a2 x1).bind fun x6 =>
    some (.inr (decide (x5<x6)))
   else
    S.l4Less_l1 a1 a2 k (w64 (x1+1))
  else
   some (.inl ())

def S.l4Less (a1:(List Int)) (a2:(List Int)):Option Bool :=
 (S.l4Less_l1 a1 a2 FUEL (0:Int)).bind fun o=>match o with
  | .inl () =>
   some (decide ((List.length a1:Int)<(List.length a2:Int)))
  | .inr r=>some r

def S.l15Less (a1:(List Int)) (a2:(List Int)):Option Bool :=
 if (!decide ((List.length a1:Int)=(List.length a2:Int))) then
  some (decide ((List.length a1:Int)<(List.length a2:Int)))
 else
  (S.l4Less a1 a2).bind fun x1 =>
  some x1

def S.SmallestRemoval_l1 (a3:(List ((Int × (List Int)) × (List (Int × (List Int)))))) (a1:(List Int)) (a2:(List (Int × (List Int) × Int × Int × Int))):Nat→(List Int)→Bool→Int→Option (((List Int) × Bool))
 | 0,_,_,_=>none
 | k+1,x3,x4,x5 =>
  (nn (List.length a3:Int)).bind fun _ =>
  if (decide (x5<(shl 1 (List.length a3:Int)))) then
   (S.l15Set x5 (List.length a3:Int)).bind fun x8 =>
   (if x4 then
    (S.l15Less x8 x3).bind fun x10 =>
    some (!x10)
   else
    some false).bind fun x9 =>
   if x9 then
    S.SmallestRemoval_l1 a3 a1 a2 k x3 x4 (w64 (x5+1))
   else
    (S.Without a3 x8).bind fun x11 =>
    (S.IsConsistent a1 a2 x11).bind fun x12 =>
    (if x12 then
     some (x8,true)
    else
     some (x3,x4)).bind fun (x13,x14) =>
    S.SmallestRemoval_l1 a3 a1 a2 k x13 x14 (w64 (x5+1))
  else
   some (x3,x4)

def S.SmallestRemoval (a1:(List Int)) (a2:(List (Int × (List Int) × Int × Int × Int))) (a3:(List ((Int × (List Int)) × (List (Int × (List Int)))))):Option ((List Int) × Bool) :=
 ((S.AreMethods a1 a2).bind fun x2 =>
 if (!x2) then
  some true
 else
  some (decide (8<(List.length a3:Int)))).bind fun x1 =>
 if x1 then
  some (([]:List Int),false)
 else
  (S.SmallestRemoval_l1 a3 a1 a2 FUEL ([]:List Int) false (0:Int)).bind fun (x6,x7) =>
  some (x6,x7)

def M.AllRemovals (a1:(List Int)) (a2:(List (Int × (List Int) × Int × Int × Int))) (a3:(List ((Int × (List Int)) × (List (Int × (List Int)))))):Option (List (List Int)) :=
 (M.removals a1 a2 a3).bind fun x1 =>
 some x1.1

def S.l2Ints_l1 (a1:(List Int)) (a2:(List Int)):Nat→Int→Option (Sum Unit Bool)
 | 0,_=>none
 | k+1,x1 =>
  if (decide (x1<(List.length a1:Int))) then
   (idx a1 x1).bind fun x2 =>
   (idx a2 x1).bind fun x3 =>
   if (!decide (x2=x3)) then
    some (.inr false)
   else
    S.l2Ints_l1 a1 a2 k (w64 (x1+1))
  else
   some (.inl ())

def S.l2Ints (a1:(List Int)) (a2:(List Int)):Option Bool :=
 if (!decide ((List.length a1:Int)=(List.length a2:Int))) then
  some false
 else
  (S.l2Ints_l1 a1 a2 FUEL (0:Int)).bind fun o=>match o with
   | .inl () =>
    some true
   | .inr r=>some r

def S.AddTuple_l2 (a1:(List (List Int))) (a2:(List Int)):Nat→(List (List Int))→Bool→Int→Option (((List (List Int)) × Bool))
 | 0,_,_,_=>none
 | k+1,x7,x8,x9 =>
  if (decide (x9<(List.length a1:Int))) then
   (if (!x8) then
    (idx a1 x9).bind fun x13 =>
    (S.l4Less a2 x13).bind fun x14 =>
    some x14
   else
    some false).bind fun x12 =>
   (if x12 then
    (app ([]:List Int) a2).bind fun x17 =>
    (app x7 ([x17])).bind fun x18 =>
    some (x18,true)
   else
    some (x7,x8)).bind fun (x15,x16) =>
   (idx a1 x9).bind fun x19 =>
   (app ([]:List Int) x19).bind fun x20 =>
   (app x15 ([x20])).bind fun x21 =>
   S.AddTuple_l2 a1 a2 k x21 x16 (w64 (x9+1))
  else
   some (x7,x8)

def S.AddTuple_l1 (a1:(List (List Int))) (a2:(List Int)):Nat→Bool→Int→Option (Bool)
 | 0,_,_=>none
 | k+1,x1,x2 =>
  if (decide (x2<(List.length a1:Int))) then
   (if x1 then
    some true
   else
    (idx a1 x2).bind fun x5 =>
    (S.l2Ints x5 a2).bind fun x6 =>
    some x6).bind fun x4 =>
   S.AddTuple_l1 a1 a2 k x4 (w64 (x2+1))
  else
   some x1

def S.AddTuple (a1:(List (List Int))) (a2:(List Int)):Option (List (List Int)) :=
 (S.AddTuple_l1 a1 a2 FUEL false (0:Int)).bind fun x3 =>
 (S.AddTuple_l2 a1 a2 FUEL ([]:List (List Int)) x3 (0:Int)).bind fun (x10,x11) =>
 (if (!x11) then
  (app ([]:List Int) a2).bind fun x23 =>
  (app x10 ([x23])).bind fun x24 =>
  some x24
 else
  some x10).bind fun x22 =>
 some x22

def S.AllRemovals_l1 (a3:(List ((Int × (List Int)) × (List (Int × (List Int)))))) (x1:((List Int) × Bool)) (a1:(List Int)) (a2:(List (Int × (List Int) × Int × Int × Int))):Nat→(List (List Int))→Int→Option ((List (List Int)))
 | 0,_,_=>none
 | k+1,x2,x3 =>
  ((nn (List.length a3:Int)).bind fun _ =>
  if (decide (x3<(shl 1 (List.length a3:Int)))) then
   some x1.2
  else
   some false).bind fun x5 =>
  if x5 then
   (S.l15Set x3 (List.length a3:Int)).bind fun x6 =>
   (if (decide ((List.length x6:Int)=(List.length x1.1:Int))) then
    (S.Without a3 x6).bind fun x8 =>
    (S.IsConsistent a1 a2 x8).bind fun x9 =>
    some x9
   else
    some false).bind fun x7 =>
   (if x7 then
    (S.AddTuple x2 x6).bind fun x11 =>
    some x11
   else
    some x2).bind fun x10 =>
   S.AllRemovals_l1 a3 x1 a1 a2 k x10 (w64 (x3+1))
  else
   some x2

def S.AllRemovals (a1:(List Int)) (a2:(List (Int × (List Int) × Int × Int × Int))) (a3:(List ((Int × (List Int)) × (List (Int × (List Int)))))):Option (List (List Int)) :=
 (S.SmallestRemoval a1 a2 a3).bind fun x1 =>
 (S.AllRemovals_l1 a3 x1 a1 a2 FUEL ([]:List (List Int)) (0:Int)).bind fun x4 =>
 some x4

def Q.sameInts_l1 (a1:(List Int)) (a2:(List Int)):Nat→Int→Option (Sum Unit Bool)
 | 0,_=>none
 | k+1,x1 =>
  if (decide (x1<(List.length a1:Int))) then
   (idx a1 x1).bind fun x2 =>
   (idx a2 x1).bind fun x3 =>
   if (!decide (x2=x3)) then
    some (.inr false)
   else
    Q.sameInts_l1 a1 a2 k (w64 (x1+1))
  else
   some (.inl ())

def Q.sameInts (a1:(List Int)) (a2:(List Int)):Option Bool :=
 if (!decide ((List.length a1:Int)=(List.length a2:Int))) then
  some false
 else
  (Q.sameInts_l1 a1 a2 FUEL (0:Int)).bind fun o=>match o with
   | .inl () =>
    some true
   | .inr r=>some r

def S.SameTuples_l1 (a1:(List (List Int))) (a2:(List (List Int))):Nat→Int→Option (Sum Unit Bool)
 | 0,_=>none
 | k+1,x1 =>
  if (decide (x1<(List.length a1:Int))) then
   (idx a1 x1).bind fun x2 =>
   (idx a2 x1).bind fun x3 =>
   (S.l2Ints x2 x3).bind fun x4 =>
   if (!x4) then
    some (.inr false)
   else
    S.SameTuples_l1 a1 a2 k (w64 (x1+1))
  else
   some (.inl ())

def S.SameTuples (a1:(List (List Int))) (a2:(List (List Int))):Option Bool :=
 if (!decide ((List.length a1:Int)=(List.length a2:Int))) then
  some false
 else
  (S.SameTuples_l1 a1 a2 FUEL (0:Int)).bind fun o=>match o with
   | .inl () =>
    some true
   | .inr r=>some r

def M.added_c1 (a1:(Int × (List Int))) (ax1:(Int × (List Int))):Option Bool :=
 (M.CompareFacts (a1.1,a1.2) ax1).bind fun x1 =>
 some (decide (0<x1))

def Slices.Insert_Limpl_Fact_impl_Fact (a1:(List (Int × (List Int)))) (a2:Int) (a3:(List (Int × (List Int)))):Option (List (Int × (List Int))) :=
 ins a1 a2 a3

def Slices.IndexFunc_Limpl_Fact_impl_Fact_M_added_c1_l1 (a1:(List (Int × (List Int)))) (ax1:(Int × (List Int))):Nat→Int→Option (Sum Unit Int)
 | 0,_=>none
 | k+1,x1 =>
  if (decide (x1<(List.length a1:Int))) then
   (idx a1 x1).bind fun x2 =>
   (M.added_c1 x2 ax1).bind fun x3 =>
   if x3 then
    some (.inr x1)
   else
    Slices.IndexFunc_Limpl_Fact_impl_Fact_M_added_c1_l1 a1 ax1 k (w64 (x1+1))
  else
   some (.inl ())

def Slices.IndexFunc_Limpl_Fact_impl_Fact_M_added_c1 (a1:(List (Int × (List Int)))) (ax1:(Int × (List Int))):Option Int :=
 (Slices.IndexFunc_Limpl_Fact_impl_Fact_M_added_c1_l1 a1 ax1 FUEL (0:Int)).bind fun o=>match o with
  | .inl () =>
   some (-1)
  | .inr r=>some r

def M.added (a1:(List (Int × (List Int)))) (a2:(Int × (List Int))):Option (List (Int × (List Int))) :=
 (M.HasFact a1 (a2.1,a2.2)).bind fun x1 =>
 if x1 then
  some a1
 else
  (Slices.IndexFunc_Limpl_Fact_impl_Fact_M_added_c1 a1 (a2.1,a2.2)).bind fun x2 =>
  (if (decide (x2<0)) then
   some (List.length a1:Int)
  else
   some x2).bind fun x3 =>
  (M.copyFact (a2.1,a2.2)).bind fun x4 =>
  (Slices.Insert_Limpl_Fact_impl_Fact a1 x3 ([(x4.1,x4.2)])).bind fun x5 =>
  some x5

def M.UnionOf_l2 (x4:((Int × (List Int)) × (List (Int × (List Int))))):Nat→(List (Int × (List Int)))→Int→Option ((List (Int × (List Int))))
 | 0,_,_=>none
 | k+1,x5,x6 =>
  if (decide (x6<(List.length x4.2:Int))) then
   (idx x4.2 x6).bind fun x8 =>
   (M.added x5 (x8.1,x8.2)).bind fun x9 =>
   M.UnionOf_l2 x4 k x9 (w64 (x6+1))
  else
   some x5

def M.UnionOf_l1 (a1:(List ((Int × (List Int)) × (List (Int × (List Int)))))):Nat→(List (Int × (List Int)))→Int→Option ((List (Int × (List Int))))
 | 0,_,_=>none
 | k+1,x1,x2 =>
  if (decide (x2<(List.length a1:Int))) then
   (idx a1 x2).bind fun x4 =>
   (M.UnionOf_l2 x4 FUEL x1 (0:Int)).bind fun x7 =>
   M.UnionOf_l1 a1 k x7 (w64 (x2+1))
  else
   some x1

def M.UnionOf (a1:(List ((Int × (List Int)) × (List (Int × (List Int)))))):Option (List (Int × (List Int))) :=
 (M.UnionOf_l1 a1 FUEL ([]:List (Int × (List Int))) (0:Int)).bind fun x3 =>
 some x3

def M.parted_c1 (a1:(List Int)) (ax1:(List ((Int × (List Int)) × (List (Int × (List Int)))))) (ax2:(Int × (List Int))):Option Bool :=
 (M.Without ax1 a1).bind fun x1 =>
 (M.UnionOf x1).bind fun x2 =>
 (M.HasFact x2 ax2).bind fun x3 =>
 some (!x3)

def Slices.IndexFunc_LLint_Lint_M_parted_c1_l1 (a1:(List (List Int))) (ax1:(List ((Int × (List Int)) × (List (Int × (List Int)))))) (ax2:(Int × (List Int))):Nat→Int→Option (Sum Unit Int)
 | 0,_=>none
 | k+1,x1 =>
  if (decide (x1<(List.length a1:Int))) then
   (idx a1 x1).bind fun x2 =>
   (M.parted_c1 x2 ax1 ax2).bind fun x3 =>
   if x3 then
    some (.inr x1)
   else
    Slices.IndexFunc_LLint_Lint_M_parted_c1_l1 a1 ax1 ax2 k (w64 (x1+1))
  else
   some (.inl ())

def Slices.IndexFunc_LLint_Lint_M_parted_c1 (a1:(List (List Int))) (ax1:(List ((Int × (List Int)) × (List (Int × (List Int)))))) (ax2:(Int × (List Int))):Option Int :=
 (Slices.IndexFunc_LLint_Lint_M_parted_c1_l1 a1 ax1 ax2 FUEL (0:Int)).bind fun o=>match o with
  | .inl () =>
   some (-1)
  | .inr r=>some r

def Slices.ContainsFunc_LLint_Lint_M_parted_c1 (a1:(List (List Int))) (ax1:(List ((Int × (List Int)) × (List (Int × (List Int)))))) (ax2:(Int × (List Int))):Option Bool :=
 (Slices.IndexFunc_LLint_Lint_M_parted_c1 a1 ax1 ax2).bind fun x1 =>
 some (decide (0≤x1))

def M.parted_l1 (x2:(List (Int × (List Int)))) (x1:((List (List Int)) × Bool)) (a3:(List ((Int × (List Int)) × (List (Int × (List Int)))))):Nat→(List (Int × (List Int)))→(List (Int × (List Int)))→Int→Option (((List (Int × (List Int))) × (List (Int × (List Int)))))
 | 0,_,_,_=>none
 | k+1,x3,x4,x5 =>
  if (decide (x5<(List.length x2:Int))) then
   (idx x2 x5).bind fun x8 =>
   (Slices.ContainsFunc_LLint_Lint_M_parted_c1 x1.1 a3 (x8.1,x8.2)).bind fun x9 =>
   (if x9 then
    (app x4 ([(x8.1,x8.2)])).bind fun x12 =>
    some (x3,x12)
   else
    (app x3 ([(x8.1,x8.2)])).bind fun x13 =>
    some (x13,x4)).bind fun (x10,x11) =>
   M.parted_l1 x2 x1 a3 k x10 x11 (w64 (x5+1))
  else
   some (x3,x4)

def M.parted (a1:(List Int)) (a2:(List (Int × (List Int) × Int × Int × Int))) (a3:(List ((Int × (List Int)) × (List (Int × (List Int)))))):Option ((List (Int × (List Int))) × (List (Int × (List Int))) × Bool) :=
 (M.removals a1 a2 a3).bind fun x1 =>
 if (!x1.2) then
  some ([],[],false)
 else
  (M.UnionOf a3).bind fun x2 =>
  (M.parted_l1 x2 x1 a3 FUEL ([]:List (Int × (List Int))) ([]:List (Int × (List Int))) (0:Int)).bind fun (x6,x7) =>
  some (x6,x7,true)

def M.TrustedFacts (a1:(List Int)) (a2:(List (Int × (List Int) × Int × Int × Int))) (a3:(List ((Int × (List Int)) × (List (Int × (List Int)))))):Option (List (Int × (List Int))) :=
 (M.parted a1 a2 a3).bind fun x1 =>
 some x1.1

def M.DoubtedFacts (a1:(List Int)) (a2:(List (Int × (List Int) × Int × Int × Int))) (a3:(List ((Int × (List Int)) × (List (Int × (List Int)))))):Option (List (Int × (List Int))) :=
 (M.parted a1 a2 a3).bind fun x1 =>
 some x1.2.1

def S.SameFacts_l1 (a1:(List (Int × (List Int)))) (a2:(List (Int × (List Int)))):Nat→Int→Option (Sum Unit Bool)
 | 0,_=>none
 | k+1,x1 =>
  if (decide (x1<(List.length a1:Int))) then
   (idx a1 x1).bind fun x2 =>
   (idx a2 x1).bind fun x3 =>
   (S.CompareFacts x2 x3).bind fun x4 =>
   if (!decide (x4=0)) then
    some (.inr false)
   else
    S.SameFacts_l1 a1 a2 k (w64 (x1+1))
  else
   some (.inl ())

def S.SameFacts (a1:(List (Int × (List Int)))) (a2:(List (Int × (List Int)))):Option Bool :=
 if (!decide ((List.length a1:Int)=(List.length a2:Int))) then
  some false
 else
  (S.SameFacts_l1 a1 a2 FUEL (0:Int)).bind fun o=>match o with
   | .inl () =>
    some true
   | .inr r=>some r

def S.UnionOf_l2 (a1:(List ((Int × (List Int)) × (List (Int × (List Int)))))) (x2:Int):Nat→(List (Int × (List Int)))→Int→Option ((List (Int × (List Int))))
 | 0,_,_=>none
 | k+1,x4,x5 =>
  (idx a1 x2).bind fun x7 =>
  if (decide (x5<(List.length x7.2:Int))) then
   (idx a1 x2).bind fun x8 =>
   (idx x8.2 x5).bind fun x9 =>
   (S.AddFact x4 x9).bind fun x10 =>
   S.UnionOf_l2 a1 x2 k x10 (w64 (x5+1))
  else
   some x4

def S.UnionOf_l1 (a1:(List ((Int × (List Int)) × (List (Int × (List Int)))))):Nat→(List (Int × (List Int)))→Int→Option ((List (Int × (List Int))))
 | 0,_,_=>none
 | k+1,x1,x2 =>
  if (decide (x2<(List.length a1:Int))) then
   (S.UnionOf_l2 a1 x2 FUEL x1 (0:Int)).bind fun x6 =>
   S.UnionOf_l1 a1 k x6 (w64 (x2+1))
  else
   some x1

def S.UnionOf (a1:(List ((Int × (List Int)) × (List (Int × (List Int)))))):Option (List (Int × (List Int))) :=
 (S.UnionOf_l1 a1 FUEL ([]:List (Int × (List Int))) (0:Int)).bind fun x3 =>
 some x3

def S.TrustedFacts_l2 (x2:(List (Int × (List Int)))) (x7:(List (Int × (List Int)))):Nat→(List (Int × (List Int)))→Int→Option ((List (Int × (List Int))))
 | 0,_,_=>none
 | k+1,x8,x9 =>
  if (decide (x9<(List.length x2:Int))) then
   (idx x2 x9).bind fun x11 =>
   (S.HasFact x7 (x11.1,x11.2)).bind fun x12 =>
   (if x12 then
    (app x8 ([(x11.1,x11.2)])).bind fun x14 =>
    some x14
   else
    some x8).bind fun x13 =>
   S.TrustedFacts_l2 x2 x7 k x13 (w64 (x9+1))
  else
   some x8

def S.TrustedFacts_l1 (x1:(List (List Int))) (a3:(List ((Int × (List Int)) × (List (Int × (List Int)))))):Nat→(List (Int × (List Int)))→Int→Option ((List (Int × (List Int))))
 | 0,_,_=>none
 | k+1,x2,x3 =>
  if (decide (x3<(List.length x1:Int))) then
   (idx x1 x3).bind fun x5 =>
   (S.Without a3 x5).bind fun x6 =>
   (S.UnionOf x6).bind fun x7 =>
   if (decide (x3=0)) then
    S.TrustedFacts_l1 x1 a3 k x7 (w64 (x3+1))
   else
    (S.TrustedFacts_l2 x2 x7 FUEL ([]:List (Int × (List Int))) (0:Int)).bind fun x10 =>
    S.TrustedFacts_l1 x1 a3 k x10 (w64 (x3+1))
  else
   some x2

def S.TrustedFacts (a1:(List Int)) (a2:(List (Int × (List Int) × Int × Int × Int))) (a3:(List ((Int × (List Int)) × (List (Int × (List Int)))))):Option (List (Int × (List Int))) :=
 (S.AllRemovals a1 a2 a3).bind fun x1 =>
 (S.TrustedFacts_l1 x1 a3 FUEL ([]:List (Int × (List Int))) (0:Int)).bind fun x4 =>
 some x4

def S.DoubtedFacts_l1 (x2:(List (Int × (List Int)))) (a1:(List Int)) (a2:(List (Int × (List Int) × Int × Int × Int))) (a3:(List ((Int × (List Int)) × (List (Int × (List Int)))))) (x1:(List (Int × (List Int)))):Nat→(List (Int × (List Int)))→Int→Option ((List (Int × (List Int))))
 | 0,_,_=>none
 | k+1,x3,x4 =>
  (if (decide (x4<(List.length x2:Int))) then
   (S.AreMethods a1 a2).bind fun x7 =>
   if x7 then
    some (decide ((List.length a3:Int)≤8))
   else
    some false
  else
   some false).bind fun x6 =>
  if x6 then
   (idx x2 x4).bind fun x8 =>
   (S.HasFact x1 (x8.1,x8.2)).bind fun x9 =>
   (if (!x9) then
    (app x3 ([(x8.1,x8.2)])).bind fun x11 =>
    some x11
   else
    some x3).bind fun x10 =>
   S.DoubtedFacts_l1 x2 a1 a2 a3 x1 k x10 (w64 (x4+1))
  else
   some x3

def S.DoubtedFacts (a1:(List Int)) (a2:(List (Int × (List Int) × Int × Int × Int))) (a3:(List ((Int × (List Int)) × (List (Int × (List Int)))))):Option (List (Int × (List Int))) :=
 (S.TrustedFacts a1 a2 a3).bind fun x1 =>
 (S.UnionOf a3).bind fun x2 =>
 (S.DoubtedFacts_l1 x2 a1 a2 a3 x1 FUEL ([]:List (Int × (List Int))) (0:Int)).bind fun x5 =>
 some x5

def Q.inside_l1 (a1:(List (Int × (List Int)))) (a2:(List (Int × (List Int)))):Nat→Int→Option (Sum Unit Bool)
 | 0,_=>none
 | k+1,x1 =>
  if (decide (x1<(List.length a1:Int))) then
   (idx a1 x1).bind fun x2 =>
   (S.HasFact a2 x2).bind fun x3 =>
   if (!x3) then
    some (.inr false)
   else
    Q.inside_l1 a1 a2 k (w64 (x1+1))
  else
   some (.inl ())

def Q.inside (a1:(List (Int × (List Int)))) (a2:(List (Int × (List Int)))):Option Bool :=
 (Q.inside_l1 a1 a2 FUEL (0:Int)).bind fun o=>match o with
  | .inl () =>
   some true
  | .inr r=>some r

def S.IsVar (a1:Int):Option Bool :=
 (S.l1In a1 10 17).bind fun x1 =>
 some x1

def S.l3Put_l1 (a1:(List Int)) (a2:Int):Nat→(List Int)→Bool→Int→Option (((List Int) × Bool))
 | 0,_,_,_=>none
 | k+1,x2,x3,x4 =>
  if (decide (x4<(List.length a1:Int))) then
   (if (!x3) then
    (idx a1 x4).bind fun x8 =>
    some (decide (a2<x8))
   else
    some false).bind fun x7 =>
   (if x7 then
    (app x2 ([a2])).bind fun x11 =>
    some (x11,true)
   else
    some (x2,x3)).bind fun (x9,x10) =>
   (idx a1 x4).bind fun x12 =>
   (app x9 ([x12])).bind fun x13 =>
   S.l3Put_l1 a1 a2 k x13 x10 (w64 (x4+1))
  else
   some (x2,x3)

def S.l3Put (a1:(List Int)) (a2:Int):Option (List Int) :=
 (S.l2Has a1 a2).bind fun x1 =>
 if x1 then
  some a1
 else
  (S.l3Put_l1 a1 a2 FUEL ([]:List Int) false (0:Int)).bind fun (x5,x6) =>
  (if (!x6) then
   (app x5 ([a2])).bind fun x15 =>
   some x15
  else
   some x5).bind fun x14 =>
  some x14

def S.VarsOf_l2 (a1:((List Int) × (List (Int × (List Int))))) (x2:Int):Nat→(List Int)→Int→Option ((List Int))
 | 0,_,_=>none
 | k+1,x4,x5 =>
  (idx a1.2 x2).bind fun x7 =>
  if (decide (x5<(List.length x7.2:Int))) then
   (idx a1.2 x2).bind fun x8 =>
   (idx x8.2 x5).bind fun x9 =>
   (S.IsVar x9).bind fun x10 =>
   (if x10 then
    (idx a1.2 x2).bind fun x12 =>
    (idx x12.2 x5).bind fun x13 =>
    (S.l3Put x4 x13).bind fun x14 =>
    some x14
   else
    some x4).bind fun x11 =>
   S.VarsOf_l2 a1 x2 k x11 (w64 (x5+1))
  else
   some x4

def S.VarsOf_l1 (a1:((List Int) × (List (Int × (List Int))))):Nat→(List Int)→Int→Option ((List Int))
 | 0,_,_=>none
 | k+1,x1,x2 =>
  if (decide (x2<(List.length a1.2:Int))) then
   (S.VarsOf_l2 a1 x2 FUEL x1 (0:Int)).bind fun x6 =>
   S.VarsOf_l1 a1 k x6 (w64 (x2+1))
  else
   some x1

def S.VarsOf (a1:((List Int) × (List (Int × (List Int))))):Option (List Int) :=
 (S.VarsOf_l1 a1 FUEL ([]:List Int) (0:Int)).bind fun x3 =>
 some x3

def S.l3Query_l3 (x30:(List Int)) (a1:((List UInt8) × Int × Int)):Nat→Int→Int→(List Int)→(List (Int × (List Int)))→Int→Option ((Int × Int × (List Int) × (List (Int × (List Int)))))
 | 0,_,_,_,_,_=>none
 | k+1,x31,x32,x33,x34,x35 =>
  (if (decide (x35<(List.length x30:Int))) then
   some (decide ((List.length x33:Int)<2))
  else
   some false).bind fun x40 =>
  if x40 then
   (S.l1Once (a1.1,x31,x32) 2).bind fun x41 =>
   (if x41.1 then
    (idx x30 x35).bind fun x44 =>
    (app x33 ([x44])).bind fun x45 =>
    some (x45,x34)
   else
    some (x33,x34)).bind fun (x42,x43) =>
   S.l3Query_l3 x30 a1 k x41.2.2.1 x41.2.2.2 x42 x43 (w64 (x35+1))
  else
   some (x31,x32,x33,x34)

def S.l3Query_l2 (a2:(List Int)) (a1:((List UInt8) × Int × Int)):Nat→Int→(List Int)→Int→Int→Int→Option ((Int × (List Int) × Int × Int))
 | 0,_,_,_,_,_=>none
 | k+1,x12,x13,x14,x15,x16 =>
  (idx a2 x12).bind fun x21 =>
  if (decide (x16<x21)) then
   (S.l1Below (a1.1,x14,x15) 4).bind fun x22 =>
   (S.l1Once (a1.1,x22.2.2.1,x22.2.2.2) 4).bind fun x23 =>
   (if x23.1 then
    (S.l1Below (a1.1,x23.2.2.1,x23.2.2.2) 4).bind fun x27 =>
    some (x27.2.2.1,x27.2.2.2,x27.1)
   else
    some (x23.2.2.1,x23.2.2.2,w64 (10+x22.1))).bind fun (x24,x25,x26) =>
   (app x13 ([x26])).bind fun x28 =>
   S.l3Query_l2 a2 a1 k x12 x28 x24 x25 (w64 (x16+1))
  else
   some (x12,x13,x14,x15)

def S.l3Query_l1 (a1:((List UInt8) × Int × Int)) (a2:(List Int)):Nat→Int→Int→(List Int)→(List (Int × (List Int)))→Int→Option ((Int × Int × (List Int) × (List (Int × (List Int)))))
 | 0,_,_,_,_,_=>none
 | k+1,x2,x3,x4,x5,x6 =>
  if (decide (0<x6)) then
   (S.l1Below (a1.1,x2,x3) (List.length a2:Int)).bind fun x11 =>
   (S.l3Query_l2 a2 a1 FUEL x11.1 ([]) x11.2.2.1 x11.2.2.2 (0:Int)).bind fun (x17,x18,x19,x20) =>
   (app x5 ([(x17,x18)])).bind fun x29 =>
   S.l3Query_l1 a1 a2 k x19 x20 x4 x29 (w64 (x6-1))
  else
   some (x2,x3,x4,x5)

def S.l3Query (a1:((List UInt8) × Int × Int)) (a2:(List Int)):Option (((List Int) × (List (Int × (List Int)))) × ((List UInt8) × Int × Int)) :=
 (S.l1Below (a1.1,a1.2.1,a1.2.2) 3).bind fun x1 =>
 (S.l3Query_l1 a1 a2 FUEL x1.2.2.1 x1.2.2.2 ([]) ([]) (w64 (1+x1.1))).bind fun (x7,x8,x9,x10) =>
 (S.VarsOf (x9,x10)).bind fun x30 =>
 (S.l3Query_l3 x30 a1 FUEL x7 x8 x9 x10 (0:Int)).bind fun (x36,x37,x38,x39) =>
 some ((x38,x39),(a1.1,x36,x37))

def S.DrawTrustedAnswers (a1:(List UInt8)):Option ((List Int) × (List (Int × (List Int) × Int × Int × Int)) × ((List Int) × (List (Int × (List Int)))) × (List ((Int × (List Int)) × (List (Int × (List Int)))))) :=
 (S.l1New a1).bind fun x1 =>
 (S.l28List (a1,x1.2.1,x1.2.2)).bind fun x2 =>
 (S.IsSchema x2.1).bind fun x3 =>
 (if x3 then
  (S.l3Query (a1,x2.2.2.2.2.2.1,x2.2.2.2.2.2.2) x2.1).bind fun x8 =>
  some (x8.1.1,x8.1.2,x8.2.2.1,x8.2.2.2)
 else
  some ([],[(0,[10])],x2.2.2.2.2.2.1,x2.2.2.2.2.2.2)).bind fun (x4,x5,x6,x7) =>
 some (x2.1,x2.2.1,(x4,x5),x2.2.2.2.1)

def M.IsVar (a1:Int):Option Bool :=
 (M.within a1 10 17).bind fun x1 =>
 some x1

def M.IsTerm (a1:Int):Option Bool :=
 ((M.isValue a1).bind fun x2 =>
 if x2 then
  some true
 else
  (M.IsVar a1).bind fun x3 =>
  some x3).bind fun x1 =>
 some x1

def M.areTerms_c1 (a1:Int):Option Bool :=
 (M.IsTerm a1).bind fun x1 =>
 some (!x1)

def Slices.IndexFunc_Lint_int_M_areTerms_c1_l1 (a1:(List Int)):Nat→Int→Option (Sum Unit Int)
 | 0,_=>none
 | k+1,x1 =>
  if (decide (x1<(List.length a1:Int))) then
   (idx a1 x1).bind fun x2 =>
   (M.areTerms_c1 x2).bind fun x3 =>
   if x3 then
    some (.inr x1)
   else
    Slices.IndexFunc_Lint_int_M_areTerms_c1_l1 a1 k (w64 (x1+1))
  else
   some (.inl ())

def Slices.IndexFunc_Lint_int_M_areTerms_c1 (a1:(List Int)):Option Int :=
 (Slices.IndexFunc_Lint_int_M_areTerms_c1_l1 a1 FUEL (0:Int)).bind fun o=>match o with
  | .inl () =>
   some (-1)
  | .inr r=>some r

def Slices.ContainsFunc_Lint_int_M_areTerms_c1 (a1:(List Int)):Option Bool :=
 (Slices.IndexFunc_Lint_int_M_areTerms_c1 a1).bind fun x1 =>
 some (decide (0≤x1))

def M.areTerms (a1:(List Int)):Option Bool :=
 (Slices.ContainsFunc_Lint_int_M_areTerms_c1 a1).bind fun x1 =>
 some (!x1)

def M.IsAtom (a1:(List Int)) (a2:(Int × (List Int))):Option Bool :=
 ((M.hasRel a1 a2.1).bind fun x2 =>
 if x2 then
  (idx a1 a2.1).bind fun x3 =>
  if (decide ((List.length a2.2:Int)=x3)) then
   (M.areTerms a2.2).bind fun x4 =>
   some x4
  else
   some false
 else
  some false).bind fun x1 =>
 some x1

def M.IsQuery_c1 (a1:(Int × (List Int))) (ax1:(List Int)):Option Bool :=
 (M.IsAtom ax1 (a1.1,a1.2)).bind fun x1 =>
 some (!x1)

def Slices.Sort_Lint_int (a1:(List Int)):Option (List Int) :=
 sortI a1

def Slices.Compact_Lint_int (a1:(List Int)):Option (List Int) :=
 compactI a1

def M.termsOf_M_IsVar_l2 (x4:(Int × (List Int))):Nat→(List Int)→Int→Option ((List Int))
 | 0,_,_=>none
 | k+1,x5,x6 =>
  if (decide (x6<(List.length x4.2:Int))) then
   (idx x4.2 x6).bind fun x8 =>
   (M.IsVar x8).bind fun x9 =>
   (if x9 then
    (app x5 ([x8])).bind fun x11 =>
    some x11
   else
    some x5).bind fun x10 =>
   M.termsOf_M_IsVar_l2 x4 k x10 (w64 (x6+1))
  else
   some x5

def M.termsOf_M_IsVar_l1 (a1:(List (Int × (List Int)))):Nat→(List Int)→Int→Option ((List Int))
 | 0,_,_=>none
 | k+1,x1,x2 =>
  if (decide (x2<(List.length a1:Int))) then
   (idx a1 x2).bind fun x4 =>
   (M.termsOf_M_IsVar_l2 x4 FUEL x1 (0:Int)).bind fun x7 =>
   M.termsOf_M_IsVar_l1 a1 k x7 (w64 (x2+1))
  else
   some x1

def M.termsOf_M_IsVar (a1:(List (Int × (List Int)))):Option (List Int) :=
 (M.termsOf_M_IsVar_l1 a1 FUEL ([]:List Int) (0:Int)).bind fun x3 =>
 (Slices.Sort_Lint_int x3).bind fun x12 =>
 (Slices.Compact_Lint_int x12).bind fun x13 =>
 some x13

def M.VarsOf (a1:((List Int) × (List (Int × (List Int))))):Option (List Int) :=
 (M.termsOf_M_IsVar a1.2).bind fun x1 =>
 some x1

def M.hasHead_c1 (a1:Int) (ax1:(List Int)):Option Bool :=
 (Slices.Contains_Lint_int ax1 a1).bind fun x1 =>
 some (!x1)

def Slices.IndexFunc_Lint_int_M_hasHead_c1_l1 (a1:(List Int)) (ax1:(List Int)):Nat→Int→Option (Sum Unit Int)
 | 0,_=>none
 | k+1,x1 =>
  if (decide (x1<(List.length a1:Int))) then
   (idx a1 x1).bind fun x2 =>
   (M.hasHead_c1 x2 ax1).bind fun x3 =>
   if x3 then
    some (.inr x1)
   else
    Slices.IndexFunc_Lint_int_M_hasHead_c1_l1 a1 ax1 k (w64 (x1+1))
  else
   some (.inl ())

def Slices.IndexFunc_Lint_int_M_hasHead_c1 (a1:(List Int)) (ax1:(List Int)):Option Int :=
 (Slices.IndexFunc_Lint_int_M_hasHead_c1_l1 a1 ax1 FUEL (0:Int)).bind fun o=>match o with
  | .inl () =>
   some (-1)
  | .inr r=>some r

def Slices.ContainsFunc_Lint_int_M_hasHead_c1 (a1:(List Int)) (ax1:(List Int)):Option Bool :=
 (Slices.IndexFunc_Lint_int_M_hasHead_c1 a1 ax1).bind fun x1 =>
 some (decide (0≤x1))

def M.hasHead (a1:((List Int) × (List (Int × (List Int))))):Option Bool :=
 (M.VarsOf (a1.1,a1.2)).bind fun x1 =>
 (if (decide ((List.length a1.1:Int)≤3)) then
  (Slices.ContainsFunc_Lint_int_M_hasHead_c1 a1.1 x1).bind fun x3 =>
  some (!x3)
 else
  some false).bind fun x2 =>
 some x2

def Slices.IndexFunc_Limpl_Atom_impl_Atom_M_IsQuery_c1_l1 (a1:(List (Int × (List Int)))) (ax1:(List Int)):Nat→Int→Option (Sum Unit Int)
 | 0,_=>none
 | k+1,x1 =>
  if (decide (x1<(List.length a1:Int))) then
   (idx a1 x1).bind fun x2 =>
   (M.IsQuery_c1 x2 ax1).bind fun x3 =>
   if x3 then
    some (.inr x1)
   else
    Slices.IndexFunc_Limpl_Atom_impl_Atom_M_IsQuery_c1_l1 a1 ax1 k (w64 (x1+1))
  else
   some (.inl ())

def Slices.IndexFunc_Limpl_Atom_impl_Atom_M_IsQuery_c1 (a1:(List (Int × (List Int)))) (ax1:(List Int)):Option Int :=
 (Slices.IndexFunc_Limpl_Atom_impl_Atom_M_IsQuery_c1_l1 a1 ax1 FUEL (0:Int)).bind fun o=>match o with
  | .inl () =>
   some (-1)
  | .inr r=>some r

def Slices.ContainsFunc_Limpl_Atom_impl_Atom_M_IsQuery_c1 (a1:(List (Int × (List Int)))) (ax1:(List Int)):Option Bool :=
 (Slices.IndexFunc_Limpl_Atom_impl_Atom_M_IsQuery_c1 a1 ax1).bind fun x1 =>
 some (decide (0≤x1))

def M.IsQuery (a1:(List Int)) (a2:((List Int) × (List (Int × (List Int))))):Option Bool :=
 ((M.IsSchema a1).bind fun x2 =>
 if x2 then
  (M.within (List.length a2.2:Int) 1 4).bind fun x3 =>
  if x3 then
   (Slices.ContainsFunc_Limpl_Atom_impl_Atom_M_IsQuery_c1 a2.2 a1).bind fun x4 =>
   if (!x4) then
    (M.hasHead (a2.1,a2.2)).bind fun x5 =>
    some x5
   else
    some false
  else
   some false
 else
  some false).bind fun x1 =>
 some x1

def M.Binding_entry (a1:((List Int) × (List Int))) (a2:Int):Option Int :=
 (sub a1.1 0 (if (List.length a1.2:Int)<(List.length a1.1:Int) then (List.length a1.2:Int) else (List.length a1.1:Int))).bind fun x1 =>
 (Slices.Index_Lint_int x1 a2).bind fun x2 =>
 some x2

def M.ValueOf (a1:((List Int) × (List Int))) (a2:Int):Option Int :=
 (M.IsVar a2).bind fun x1 =>
 if (!x1) then
  some a2
 else
  (M.Binding_entry (a1.1,a1.2) a2).bind fun x2 =>
  if (decide (x2<0)) then
   some (-1)
  else
   (idx a1.2 x2).bind fun x3 =>
   some x3

def M.TupleOf_l1 (a1:((List Int) × (List (Int × (List Int))))) (a2:((List Int) × (List Int))):Nat→(List Int)→Int→Option ((List Int))
 | 0,_,_=>none
 | k+1,x1,x2 =>
  if (decide (x2<(List.length a1.1:Int))) then
   (idx a1.1 x2).bind fun x4 =>
   (M.ValueOf (a2.1,a2.2) x4).bind fun x5 =>
   (app x1 ([x5])).bind fun x6 =>
   M.TupleOf_l1 a1 a2 k x6 (w64 (x2+1))
  else
   some x1

def M.TupleOf (a1:((List Int) × (List (Int × (List Int))))) (a2:((List Int) × (List Int))):Option (List Int) :=
 (M.TupleOf_l1 a1 a2 FUEL ([]:List Int) (0:Int)).bind fun x3 =>
 some x3

def M.tuplesOf_l1 (a2:(List ((List Int) × (List Int)))) (a1:((List Int) × (List (Int × (List Int))))):Nat→(List (List Int))→Int→Option ((List (List Int)))
 | 0,_,_=>none
 | k+1,x1,x2 =>
  if (decide (x2<(List.length a2:Int))) then
   (idx a2 x2).bind fun x4 =>
   (M.TupleOf (a1.1,a1.2) (x4.1,x4.2)).bind fun x5 =>
   (M.addedTuple x1 x5).bind fun x6 =>
   M.tuplesOf_l1 a2 a1 k x6 (w64 (x2+1))
  else
   some x1

def M.tuplesOf (a1:((List Int) × (List (Int × (List Int))))) (a2:(List ((List Int) × (List Int)))):Option (List (List Int)) :=
 (M.tuplesOf_l1 a2 a1 FUEL ([]:List (List Int)) (0:Int)).bind fun x3 =>
 some x3

def M.copyBinding (a1:((List Int) × (List Int))):Option ((List Int) × (List Int)) :=
 (Slices.Clone_Lint_int a1.1).bind fun x1 =>
 (Slices.Clone_Lint_int a1.2).bind fun x2 =>
 some (x1,x2)

def M.MatchAtom_l1 (a2:(Int × (List Int))) (a3:(Int × (List Int))):Nat→(List Int)→(List Int)→(List Int)→(List Int)→Int→Option (Sum ((List Int) × (List Int) × (List Int) × (List Int)) (((List Int) × (List Int)) × Bool))
 | 0,_,_,_,_,_=>none
 | k+1,x3,x4,x5,x6,x7 =>
  if (decide (x7<(List.length a2.2:Int))) then
   (idx a2.2 x7).bind fun x12 =>
   ((M.IsVar x12).bind fun x14 =>
   if x14 then
    (M.Binding_entry (x3,x4) x12).bind fun x15 =>
    some (decide (x15<0))
   else
    some false).bind fun x13 =>
   (if x13 then
    ((app x3 ([x12])).bind fun x20 =>
    (idx a3.2 x7).bind fun x21 =>
    (app x4 ([x21])).bind fun x22 =>
    some (x20,x22)).bind fun (x18,x19) =>
    some (x18,x19)
   else
    some (x3,x4)).bind fun (x16,x17) =>
   (M.ValueOf (x16,x17) x12).bind fun x23 =>
   (idx a3.2 x7).bind fun x24 =>
   if (!decide (x23=x24)) then
    some (.inr (([],[]),false))
   else
    M.MatchAtom_l1 a2 a3 k x16 x17 x5 x6 (w64 (x7+1))
  else
   some (.inl (x3,x4,x5,x6))

def M.MatchAtom (a1:((List Int) × (List Int))) (a2:(Int × (List Int))) (a3:(Int × (List Int))):Option (((List Int) × (List Int)) × Bool) :=
 (if (!decide (a2.1=a3.1)) then
  some true
 else
  if (!decide ((List.length a2.2:Int)=(List.length a3.2:Int))) then
   some true
  else
   some (!decide ((List.length a1.1:Int)=(List.length a1.2:Int)))).bind fun x1 =>
 if x1 then
  some (([],[]),false)
 else
  (M.copyBinding (a1.1,a1.2)).bind fun x2 =>
  (M.MatchAtom_l1 a2 a3 FUEL x2.1 x2.2 ([]) ([]) (0:Int)).bind fun o=>match o with
   | .inl (x8,x9,x10,x11) =>
    some ((x8,x9),true)
   | .inr r=>some r

def M.matchAll_l2 (a3:(List (Int × (List Int)))) (x4:((List Int) × (List Int))) (a2:(Int × (List Int))):Nat→(List ((List Int) × (List Int)))→Int→Option ((List ((List Int) × (List Int))))
 | 0,_,_=>none
 | k+1,x5,x6 =>
  if (decide (x6<(List.length a3:Int))) then
   (idx a3 x6).bind fun x8 =>
   (M.MatchAtom (x4.1,x4.2) (a2.1,a2.2) (x8.1,x8.2)).bind fun x9 =>
   (if x9.2 then
    (app x5 ([(x9.1.1,x9.1.2)])).bind fun x11 =>
    some x11
   else
    some x5).bind fun x10 =>
   M.matchAll_l2 a3 x4 a2 k x10 (w64 (x6+1))
  else
   some x5

def M.matchAll_l1 (a1:(List ((List Int) × (List Int)))) (a3:(List (Int × (List Int)))) (a2:(Int × (List Int))):Nat→(List ((List Int) × (List Int)))→Int→Option ((List ((List Int) × (List Int))))
 | 0,_,_=>none
 | k+1,x1,x2 =>
  if (decide (x2<(List.length a1:Int))) then
   (idx a1 x2).bind fun x4 =>
   (M.matchAll_l2 a3 x4 a2 FUEL x1 (0:Int)).bind fun x7 =>
   M.matchAll_l1 a1 a3 a2 k x7 (w64 (x2+1))
  else
   some x1

def M.matchAll (a1:(List ((List Int) × (List Int)))) (a2:(Int × (List Int))) (a3:(List (Int × (List Int)))):Option (List ((List Int) × (List Int))) :=
 (M.matchAll_l1 a1 a3 a2 FUEL ([]:List ((List Int) × (List Int))) (0:Int)).bind fun x3 =>
 some x3

def M.BindingsOf_l1 (a1:((List Int) × (List (Int × (List Int))))) (a2:(List (Int × (List Int)))):Nat→(List ((List Int) × (List Int)))→Int→Option ((List ((List Int) × (List Int))))
 | 0,_,_=>none
 | k+1,x1,x2 =>
  if (decide (x2<(List.length a1.2:Int))) then
   (idx a1.2 x2).bind fun x4 =>
   (M.matchAll x1 (x4.1,x4.2) a2).bind fun x5 =>
   M.BindingsOf_l1 a1 a2 k x5 (w64 (x2+1))
  else
   some x1

def M.BindingsOf (a1:((List Int) × (List (Int × (List Int))))) (a2:(List (Int × (List Int)))):Option (List ((List Int) × (List Int))) :=
 (M.BindingsOf_l1 a1 a2 FUEL ([([],[])]) (0:Int)).bind fun x3 =>
 some x3

def M.answers (a1:((List Int) × (List (Int × (List Int))))) (a2:(List (Int × (List Int)))):Option (List (List Int)) :=
 (M.BindingsOf (a1.1,a1.2) a2).bind fun x1 =>
 (M.tuplesOf (a1.1,a1.2) x1).bind fun x2 =>
 some x2

def M.TrustedAnswers (a1:(List Int)) (a2:(List (Int × (List Int) × Int × Int × Int))) (a3:((List Int) × (List (Int × (List Int))))) (a4:(List ((Int × (List Int)) × (List (Int × (List Int)))))):Option (List (List Int)) :=
 (M.IsQuery a1 (a3.1,a3.2)).bind fun x1 =>
 if (!x1) then
  some ([])
 else
  (M.TrustedFacts a1 a2 a4).bind fun x2 =>
  (M.answers (a3.1,a3.2) x2).bind fun x3 =>
  some x3

def S.IsTerm (a1:Int):Option Bool :=
 ((S.l1In a1 0 9).bind fun x2 =>
 if x2 then
  some true
 else
  (S.IsVar a1).bind fun x3 =>
  some x3).bind fun x1 =>
 some x1

def S.IsAtom_l1 (a2:(Int × (List Int))):Nat→Int→Option (Sum Unit Bool)
 | 0,_=>none
 | k+1,x5 =>
  if (decide (x5<(List.length a2.2:Int))) then
   (idx a2.2 x5).bind fun x6 =>
   (S.IsTerm x6).bind fun x7 =>
   if (!x7) then
    some (.inr false)
   else
    S.IsAtom_l1 a2 k (w64 (x5+1))
  else
   some (.inl ())

def S.IsAtom (a1:(List Int)) (a2:(Int × (List Int))):Option Bool :=
 ((S.IsSchema a1).bind fun x2 =>
 if (!x2) then
  some true
 else
  (S.l1In a2.1 0 (w64 ((List.length a1:Int)-1))).bind fun x3 =>
  if (!x3) then
   some true
  else
   (idx a1 a2.1).bind fun x4 =>
   some (!decide ((List.length a2.2:Int)=x4))).bind fun x1 =>
 if x1 then
  some false
 else
  (S.IsAtom_l1 a2 FUEL (0:Int)).bind fun o=>match o with
   | .inl () =>
    some true
   | .inr r=>some r

def S.IsQuery_l2 (a2:((List Int) × (List (Int × (List Int))))) (x4:(List Int)):Nat→Int→Option (Sum Unit Bool)
 | 0,_=>none
 | k+1,x5 =>
  if (decide (x5<(List.length a2.1:Int))) then
   (idx a2.1 x5).bind fun x6 =>
   (S.l2Has x4 x6).bind fun x7 =>
   if (!x7) then
    some (.inr false)
   else
    S.IsQuery_l2 a2 x4 k (w64 (x5+1))
  else
   some (.inl ())

def S.IsQuery_l1 (a2:((List Int) × (List (Int × (List Int))))) (a1:(List Int)):Nat→Int→Option (Sum Unit Bool)
 | 0,_=>none
 | k+1,x1 =>
  if (decide (x1<(List.length a2.2:Int))) then
   (idx a2.2 x1).bind fun x2 =>
   (S.IsAtom a1 x2).bind fun x3 =>
   if (!x3) then
    some (.inr false)
   else
    S.IsQuery_l1 a2 a1 k (w64 (x1+1))
  else
   some (.inl ())

def S.IsQuery (a1:(List Int)) (a2:((List Int) × (List (Int × (List Int))))):Option Bool :=
 (S.IsQuery_l1 a2 a1 FUEL (0:Int)).bind fun o=>match o with
  | .inl () =>
   (S.VarsOf (a2.1,a2.2)).bind fun x4 =>
   (S.IsQuery_l2 a2 x4 FUEL (0:Int)).bind fun o=>match o with
    | .inl () =>
     ((S.IsSchema a1).bind fun x9 =>
     if x9 then
      (S.l1In (List.length a2.2:Int) 1 4).bind fun x10 =>
      if x10 then
       some (decide ((List.length a2.1:Int)≤3))
      else
       some false
     else
      some false).bind fun x8 =>
     some x8
    | .inr r=>some r
  | .inr r=>some r

def S.ValueOf_l1 (a1:((List Int) × (List Int))) (a2:Int):Nat→Int→Option (Sum Unit Int)
 | 0,_=>none
 | k+1,x2 =>
  (if (decide (x2<(List.length a1.1:Int))) then
   some (decide (x2<(List.length a1.2:Int)))
  else
   some false).bind fun x3 =>
  if x3 then
   (idx a1.1 x2).bind fun x4 =>
   if (decide (x4=a2)) then
    (idx a1.2 x2).bind fun x5 =>
    some (.inr x5)
   else
    S.ValueOf_l1 a1 a2 k (w64 (x2+1))
  else
   some (.inl ())

def S.ValueOf (a1:((List Int) × (List Int))) (a2:Int):Option Int :=
 (S.IsVar a2).bind fun x1 =>
 if (!x1) then
  some a2
 else
  (S.ValueOf_l1 a1 a2 FUEL (0:Int)).bind fun o=>match o with
   | .inl () =>
    some (-1)
   | .inr r=>some r

def S.l4Tuples_l2 (a1:((List Int) × (List (Int × (List Int))))) (a2:(List ((List Int) × (List Int)))) (x2:Int):Nat→(List Int)→Int→Option ((List Int))
 | 0,_,_=>none
 | k+1,x4,x5 =>
  if (decide (x5<(List.length a1.1:Int))) then
   (idx a2 x2).bind fun x7 =>
   (idx a1.1 x5).bind fun x8 =>
   (S.ValueOf x7 x8).bind fun x9 =>
   (app x4 ([x9])).bind fun x10 =>
   S.l4Tuples_l2 a1 a2 x2 k x10 (w64 (x5+1))
  else
   some x4

def S.l4Tuples_l1 (a2:(List ((List Int) × (List Int)))) (a1:((List Int) × (List (Int × (List Int))))):Nat→(List (List Int))→Int→Option ((List (List Int)))
 | 0,_,_=>none
 | k+1,x1,x2 =>
  if (decide (x2<(List.length a2:Int))) then
   (S.l4Tuples_l2 a1 a2 x2 FUEL ([]:List Int) (0:Int)).bind fun x6 =>
   (S.AddTuple x1 x6).bind fun x11 =>
   S.l4Tuples_l1 a2 a1 k x11 (w64 (x2+1))
  else
   some x1

def S.l4Tuples (a1:((List Int) × (List (Int × (List Int))))) (a2:(List ((List Int) × (List Int)))):Option (List (List Int)) :=
 (S.l4Tuples_l1 a2 a1 FUEL ([]:List (List Int)) (0:Int)).bind fun x3 =>
 some x3

def S.l4Copy (a1:((List Int) × (List Int))):Option ((List Int) × (List Int)) :=
 (app ([]:List Int) a1.1).bind fun x1 =>
 (app ([]:List Int) a1.2).bind fun x2 =>
 some (x1,x2)

def S.l4Bound_l1 (a1:((List Int) × (List Int))) (a2:Int):Nat→Int→Option (Sum Unit Bool)
 | 0,_=>none
 | k+1,x1 =>
  (if (decide (x1<(List.length a1.1:Int))) then
   some (decide (x1<(List.length a1.2:Int)))
  else
   some false).bind fun x2 =>
  if x2 then
   (idx a1.1 x1).bind fun x3 =>
   if (decide (x3=a2)) then
    some (.inr true)
   else
    S.l4Bound_l1 a1 a2 k (w64 (x1+1))
  else
   some (.inl ())

def S.l4Bound (a1:((List Int) × (List Int))) (a2:Int):Option Bool :=
 (S.l4Bound_l1 a1 a2 FUEL (0:Int)).bind fun o=>match o with
  | .inl () =>
   some false
  | .inr r=>some r

def S.l4Bind (a1:((List Int) × (List Int))) (a2:Int) (a3:Int):Option ((List Int) × (List Int)) :=
 (app ([]:List Int) a1.1).bind fun x1 =>
 (app x1 ([a2])).bind fun x2 =>
 (app ([]:List Int) a1.2).bind fun x3 =>
 (app x3 ([a3])).bind fun x4 =>
 some (x2,x4)

def S.MatchAtom_l1 (a2:(Int × (List Int))) (a3:(Int × (List Int))):Nat→(List Int)→(List Int)→(List Int)→(List Int)→Int→Option (Sum ((List Int) × (List Int) × (List Int) × (List Int)) (((List Int) × (List Int)) × Bool))
 | 0,_,_,_,_,_=>none
 | k+1,x3,x4,x5,x6,x7 =>
  if (decide (x7<(List.length a2.2:Int))) then
   (idx a2.2 x7).bind fun x12 =>
   (S.ValueOf (x3,x4) x12).bind fun x13 =>
   ((idx a2.2 x7).bind fun x15 =>
   (S.IsVar x15).bind fun x16 =>
   if x16 then
    (idx a2.2 x7).bind fun x17 =>
    (S.l4Bound (x3,x4) x17).bind fun x18 =>
    some (!x18)
   else
    some false).bind fun x14 =>
   if x14 then
    (idx a2.2 x7).bind fun x19 =>
    (idx a3.2 x7).bind fun x20 =>
    (S.l4Bind (x3,x4) x19 x20).bind fun x21 =>
    S.MatchAtom_l1 a2 a3 k x21.1 x21.2 x5 x6 (w64 (x7+1))
   else
    (idx a3.2 x7).bind fun x22 =>
    if (!decide (x13=x22)) then
     some (.inr (([],[]),false))
    else
     S.MatchAtom_l1 a2 a3 k x3 x4 x5 x6 (w64 (x7+1))
  else
   some (.inl (x3,x4,x5,x6))

def S.MatchAtom (a1:((List Int) × (List Int))) (a2:(Int × (List Int))) (a3:(Int × (List Int))):Option (((List Int) × (List Int)) × Bool) :=
 (S.l4Copy (a1.1,a1.2)).bind fun x1 =>
 (if (!decide (a2.1=a3.1)) then
  some true
 else
  if (!decide ((List.length a2.2:Int)=(List.length a3.2:Int))) then
   some true
  else
   some (!decide ((List.length a1.1:Int)=(List.length a1.2:Int)))).bind fun x2 =>
 if x2 then
  some (([],[]),false)
 else
  (S.MatchAtom_l1 a2 a3 FUEL x1.1 x1.2 ([]) ([]) (0:Int)).bind fun o=>match o with
   | .inl (x8,x9,x10,x11) =>
    some ((x8,x9),true)
   | .inr r=>some r

def S.l4Extend_l2 (a3:(List (Int × (List Int)))) (a1:(List ((List Int) × (List Int)))) (x2:Int) (a2:(Int × (List Int))):Nat→(List ((List Int) × (List Int)))→Int→Option ((List ((List Int) × (List Int))))
 | 0,_,_=>none
 | k+1,x4,x5 =>
  if (decide (x5<(List.length a3:Int))) then
   ((idx a1 x2).bind fun x10 =>
   (idx a3 x5).bind fun x11 =>
   (S.MatchAtom x10 (a2.1,a2.2) x11).bind fun x12 =>
   some (x12.2,x12.1.1,x12.1.2)).bind fun (x7,x8,x9) =>
   (if x7 then
    (app x4 ([(x8,x9)])).bind fun x14 =>
    some x14
   else
    some x4).bind fun x13 =>
   S.l4Extend_l2 a3 a1 x2 a2 k x13 (w64 (x5+1))
  else
   some x4

def S.l4Extend_l1 (a1:(List ((List Int) × (List Int)))) (a3:(List (Int × (List Int)))) (a2:(Int × (List Int))):Nat→(List ((List Int) × (List Int)))→Int→Option ((List ((List Int) × (List Int))))
 | 0,_,_=>none
 | k+1,x1,x2 =>
  if (decide (x2<(List.length a1:Int))) then
   (S.l4Extend_l2 a3 a1 x2 a2 FUEL x1 (0:Int)).bind fun x6 =>
   S.l4Extend_l1 a1 a3 a2 k x6 (w64 (x2+1))
  else
   some x1

def S.l4Extend (a1:(List ((List Int) × (List Int)))) (a2:(Int × (List Int))) (a3:(List (Int × (List Int)))):Option (List ((List Int) × (List Int))) :=
 (S.l4Extend_l1 a1 a3 a2 FUEL ([]:List ((List Int) × (List Int))) (0:Int)).bind fun x3 =>
 some x3

def S.BindingsOf_l1 (a1:((List Int) × (List (Int × (List Int))))) (a2:(List (Int × (List Int)))):Nat→(List ((List Int) × (List Int)))→Int→Option ((List ((List Int) × (List Int))))
 | 0,_,_=>none
 | k+1,x1,x2 =>
  if (decide (x2<(List.length a1.2:Int))) then
   (idx a1.2 x2).bind fun x4 =>
   (S.l4Extend x1 x4 a2).bind fun x5 =>
   S.BindingsOf_l1 a1 a2 k x5 (w64 (x2+1))
  else
   some x1

def S.BindingsOf (a1:((List Int) × (List (Int × (List Int))))) (a2:(List (Int × (List Int)))):Option (List ((List Int) × (List Int))) :=
 (S.BindingsOf_l1 a1 a2 FUEL ([([],[])]) (0:Int)).bind fun x3 =>
 some x3

def S.TrustedAnswers (a1:(List Int)) (a2:(List (Int × (List Int) × Int × Int × Int))) (a3:((List Int) × (List (Int × (List Int))))) (a4:(List ((Int × (List Int)) × (List (Int × (List Int)))))):Option (List (List Int)) :=
 (S.IsQuery a1 (a3.1,a3.2)).bind fun x1 =>
 if (!x1) then
  some ([]:List (List Int))
 else
  (S.TrustedFacts a1 a2 a4).bind fun x2 =>
  (S.BindingsOf (a3.1,a3.2) x2).bind fun x3 =>
  (S.l4Tuples (a3.1,a3.2) x3).bind fun x4 =>
  some x4

def Q.FnRepairs_l2 (x6:(List (List Int))) (x2:((List Int) × (List (Int × (List Int) × Int × Int × Int)) × (List ((Int × (List Int)) × (List (Int × (List Int))))))) (x10:(List (Int × (List Int)))):Nat→Int→Option (Sum Unit Bool)
 | 0,_=>none
 | k+1,x30 =>
  if (decide (x30<(List.length x6:Int))) then
   (idx x6 x30).bind fun x31 =>
   (S.Without x2.2.2 x31).bind fun x32 =>
   (S.UnionOf x32).bind fun x33 =>
   (Q.inside x10 x33).bind fun x34 =>
   if (!x34) then
    some (.inr false)
   else
    Q.FnRepairs_l2 x6 x2 x10 k (w64 (x30+1))
  else
   some (.inl ())

def Q.FnRepairs_l1 (x4:((List Int) × Bool)) (x2:((List Int) × (List (Int × (List Int) × Int × Int × Int)) × (List ((Int × (List Int)) × (List (Int × (List Int))))))):Nat→Int→Option (Sum Unit Bool)
 | 0,_=>none
 | k+1,x23 =>
  if (decide (x23<(List.length x4.1:Int))) then
   (sub x4.1 0 x23).bind fun x24 =>
   (sub x4.1 (w64 (x23+1)) (List.length x4.1:Int)).bind fun x25 =>
   (app ([]:List Int) x24).bind fun x26 =>
   (app x26 x25).bind fun x27 =>
   (M.Without x2.2.2 x27).bind fun x28 =>
   (S.IsConsistent x2.1 x2.2.1 x28).bind fun x29 =>
   if x29 then
    some (.inr false)
   else
    Q.FnRepairs_l1 x4 x2 k (w64 (x23+1))
  else
   some (.inl ())

def Q.FnRepairs (a1:(List UInt8)):Option Bool :=
 (Q.big a1).bind fun x1 =>
 if x1 then
  some true
 else
  (S.DrawSmallestRemoval a1).bind fun x2 =>
  (M.SmallestRemoval x2.1 x2.2.1 x2.2.2).bind fun x3 =>
  (S.SmallestRemoval x2.1 x2.2.1 x2.2.2).bind fun x4 =>
  (M.AllRemovals x2.1 x2.2.1 x2.2.2).bind fun x5 =>
  (S.AllRemovals x2.1 x2.2.1 x2.2.2).bind fun x6 =>
  (if (!decide (x3.2=x4.2)) then
   some true
  else
   (Q.sameInts x3.1 x4.1).bind fun x8 =>
   if (!x8) then
    some true
   else
    (S.SameTuples x5 x6).bind fun x9 =>
    some (!x9)).bind fun x7 =>
  if x7 then
   some false
  else
   (M.TrustedFacts x2.1 x2.2.1 x2.2.2).bind fun x10 =>
   (M.DoubtedFacts x2.1 x2.2.1 x2.2.2).bind fun x11 =>
   ((S.TrustedFacts x2.1 x2.2.1 x2.2.2).bind fun x13 =>
   (S.SameFacts x10 x13).bind fun x14 =>
   if (!x14) then
    some true
   else
    (S.DoubtedFacts x2.1 x2.2.1 x2.2.2).bind fun x15 =>
    (S.SameFacts x11 x15).bind fun x16 =>
    some (!x16)).bind fun x12 =>
   if x12 then
    some false
   else
    (if x3.2 then
     ((M.Without x2.2.2 x4.1).bind fun x18 =>
     (M.IsConsistent x2.1 x2.2.1 x18).bind fun x19 =>
     if (!x19) then
      some true
     else
      if (decide ((List.length x6:Int)=0)) then
       some true
      else
       (idx x6 0).bind fun x20 =>
       (Q.sameInts x20 x4.1).bind fun x21 =>
       if (!x21) then
        some true
       else
        (S.UnionOf x2.2.2).bind fun x22 =>
        some (!decide ((w64 ((List.length x10:Int)+(List.length x11:Int)))=(List.length x22:Int)))).bind fun x17 =>
     if x17 then
      some (.inr false)
     else
      (Q.FnRepairs_l1 x4 x2 FUEL (0:Int)).bind fun o=>match o with
       | .inl () =>
        (Q.FnRepairs_l2 x6 x2 x10 FUEL (0:Int)).bind fun o=>match o with
         | .inl () =>
          some (.inl ())
         | .inr r=>some (.inr r)
       | .inr r=>some (.inr r)
    else
     some (.inl ()):Option (Unit ⊕ Bool)).bind fun o=>match o with
     | .inl () =>
      (S.DrawTrustedAnswers a1).bind fun x35 =>
      (M.TrustedAnswers x35.1 x35.2.1 (x35.2.2.1.1,x35.2.2.1.2) x35.2.2.2).bind fun x36 =>
      (S.TrustedAnswers x35.1 x35.2.1 (x35.2.2.1.1,x35.2.2.1.2) x35.2.2.2).bind fun x37 =>
      (S.SameTuples x36 x37).bind fun x38 =>
      some x38
     | .inr r=>some r

end Go.Gx.Px
