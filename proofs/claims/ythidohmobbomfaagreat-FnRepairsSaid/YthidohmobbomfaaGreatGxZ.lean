/- slices.Grow at nil; literals whose parts are only read. Conditions: none. -/
import Derived.Test.YthidohmobbomfaaGreatGxY
import Derived.Lib.AppendZeros
set_option linter.unusedVariables false
set_option linter.unusedSimpArgs false
namespace Go.Gx
open Go.RowKit
section
variable {α β:Type} [Rep α] [Rep β] {P:Program} {w w0 w':World} {t e:TypeId}
variable {n:Nat} {l:Env} {ops:Array Oper} {K:Env→World→Prop} {os:List Oper} {d:Nat} {T U:TypeId} {pos:String} {aft:Array Edge} {x y z:Operand} {v u c xv:Value} {D:List Nat} {As:List Item}
def RowRO (w:World) (cs:List Value) (as:List α):Prop:=∃F,elems false w cs as F
theorem rowro_nil:RowRO w [] ([]:List α):=⟨[],rfl,rfl⟩
theorem rowro_cons {c cs:List Value} {a:α} {as:List α} (h:RepW w c a) (h':RowRO w cs as):RowRO w (c++cs) (a::as):=by
 obtain ⟨F,h⟩:=h
 obtain ⟨G,h'⟩:=h'
 exact ⟨F++G,c,cs,F,G,rfl,rfl,h,h'⟩
theorem Ctx.litRO {b m:Nat} {cs:List Value} {as:List α} (hC:Ctx D w0 w As) (i:Nat) (hi:As[i]?=some (Item.box b cs)) (h:RowRO w cs as) (hm:as.length=m) (hl:m≤maxLen) (hp:m≠0):RO [] w (.slice (some ⟨b,0,none⟩) m m) as:=by
 obtain ⟨F,h⟩:=h
 obtain ⟨T,h4⟩:=hC.boxCell hi
 subst hm
 refine ⟨b::F,⟨[_],rfl,_,as.length,rfl,Nat.le_refl _,hl,.inr (.inr ⟨b,0,cs.toArray,T,(0,0),cs,F,rfl,h4,rfl,h,?_,fun h=>by cases h⟩)⟩,by simp⟩
 have:=elems_len h
 rw [List.drop_zero,←this,List.take_length]
end
end Go.Gx
