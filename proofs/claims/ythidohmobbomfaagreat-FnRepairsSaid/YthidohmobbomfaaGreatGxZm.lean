/- Rules: regions in whatever order, what is done told by the bits of a number. Conditions: none. -/
import Derived.Test.YthidohmobbomfaaGreatGxZn
set_option linter.unusedVariables false
set_option linter.unusedSimpArgs false
namespace Go.Gx
open Go.RowKit
def arr (n m:Nat):Array Bool:=((List.range n).map fun j=>m.testBit j).toArray
theorem arr_size (n m:Nat):(arr n m).size=n:=by simp [arr]
theorem arr_getD (n m j:Nat) (d:Bool):(arr n m).getD j d=if j<n then m.testBit j else d:=by
 unfold arr
 by_cases h:j<n
 ·simp [Array.getD,h]
 ·simp [Array.getD,h]
theorem arr_get {n m j:Nat} (h:j<(arr n m).size):(arr n m)[j]=m.testBit j:=by simp [arr]
theorem arr_set (n m i:Nat):(arr n m).setIfInBounds i true=arr n (m ||| 2 ^ i):=by
 apply Array.ext
 ·rw [Array.size_setIfInBounds,arr_size,arr_size]
 ·intro j h1 h2
  have hj:j<(arr n m).size:=by rw [arr_size] at h2 ⊢; exact h2
  rw [Array.getElem_setIfInBounds hj,arr_get h2,arr_get hj,Nat.testBit_or,Nat.testBit_two_pow]
  by_cases hi:i=j
  ·subst hi; simp
  ·simp [hi]
def rdM (ops:Array Oper) (n m i:Nat):Bool :=
 !m.testBit i&&((ops[i]?).map (·.after.all fun e=>!Region.binds .any e || (Nat.blt e.on n&&m.testBit e.on))).getD false
theorem rdM_ok {ops:Array Oper} {n m:Nat} (hn:ops.size=n) (i:Nat) (hi:i<n):(!(arr n m).getD i true&&((ops[i]?).map (·.after.all fun e=>!Region.binds .any e || (arr n m).getD e.on false)).getD false)=rdM ops n m i:=by
 unfold rdM
 have e:(fun e:Edge=>!Region.binds .any e || (arr n m).getD e.on false)=fun e=>!Region.binds .any e || (Nat.blt e.on n&&m.testBit e.on):=by
  funext e
  rw [arr_getD]
  by_cases h:e.on<n
  ·rw [if_pos h,show Nat.blt e.on n=true from Nat.blt_eq.mpr h,Bool.true_and]
  ·rw [if_neg h,show Nat.blt e.on n=false by rw [Bool.eq_false_iff]; intro h2; exact h (Nat.blt_eq.mp h2),Bool.false_and]
 rw [e,arr_getD,if_pos hi]
theorem ready_eq {ops:Array Oper} {n m:Nat} (hn:ops.size=n):Region.ready .any ops (arr n m)=(List.range n).filter fun i=>rdM ops n m i:=by
 unfold Region.ready
 rw [hn]
 exact List.filter_congr fun i hi=>rdM_ok hn i (List.mem_range.1 hi)
section
variable {P:Program} {n:Nat} {l:Env} {w:World} {K:Env→World→Prop} {d:Nat} {T U:TypeId} {pos:String} {aft:Array Edge} {x y q:Operand} {v:Value}
variable {j:Nat} {want:Bool} {t:Nat} {u:Value} {op:Op} {f:Nat} {o:Oper} {ops:Array Oper} {N m:Nat}
end
end Go.Gx
