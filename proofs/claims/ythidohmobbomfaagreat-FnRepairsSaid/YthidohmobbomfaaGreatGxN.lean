/- Elements of owned slices: cells as data, stores into an opened element. Conditions: none. -/
import Derived.Test.YthidohmobbomfaaGreatGxM
set_option linter.unusedVariables false
set_option linter.unusedSimpArgs false
namespace Go.Gx
open Go.RowKit
section
variable {α β:Type} [Rep α] [Rep β] {P:Program} {w w0 w':World} {t e:TypeId}
variable {n:Nat} {l:Env} {ops:Array Oper} {K:Env→World→Prop} {os:List Oper} {d:Nat} {T U:TypeId} {pos:String} {aft:Array Edge} {x y z:Operand} {v u c xv:Value} {D:List Nat} {As Bs:List Item}

theorem Ctx.cellsOwn {cs:List Value} {a:α} (hg:Rep.agg α=true) (h:Ctx D w0 w (Item.cells cs a::As)):Ctx D w0 w (Item.own (.agg cs.toArray) a::As) :=
 h.turn (C:=Item.own (.agg cs.toArray) a) fun w F hF=>⟨F,⟨cs,by simp [mkv,hg],hF⟩,List.Sublist.refl _⟩
theorem Ctx.cellsSlice {cs:List Value} {a:List α} (h:Ctx D w0 w (Item.cells cs a::As)):∃v,cs=[v]∧Ctx D w0 w (Item.own v a::As):=by
 obtain ⟨F,p,cap,rfl,hq⟩:=h.get (i:=0) rfl
 exact ⟨_,rfl,h.turn (C:=Item.own _ a) fun w F hF=>⟨F,⟨_,rfl,hF⟩,List.Sublist.refl _⟩⟩
end
end Go.Gx
