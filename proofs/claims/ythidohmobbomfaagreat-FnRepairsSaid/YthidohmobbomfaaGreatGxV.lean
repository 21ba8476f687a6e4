/- Function values that catch variables, pointers to variables, unsigned numbers. Conditions: none. -/
import Derived.Test.YthidohmobbomfaaGreatGxU
set_option linter.unusedVariables false
set_option linter.unusedSimpArgs false
namespace Go.Gx
open Go.RowKit
section
variable {α β:Type} [Rep α] [Rep β] {P:Program} {w w0 w' wa:World} {t e:TypeId}
variable {n:Nat} {l:Env} {ops:Array Oper} {K:Env→World→Prop} {os:List Oper} {d:Nat} {T U V:TypeId} {pos:String} {aft:Array Edge} {x y z:Operand} {v u c xv:Value} {D:List Nat} {As Bs:List Item} {g:Option (Nat × Bool)}

theorem evs_map {ρ:Operand→Value} (hρ:∀x u,ev l x=some u→ρ x=u):∀{xs:List Operand} {vs:List Value},evs l xs=some vs→xs.map ρ=vs
 | [],vs,h=>by simpa [evs] using h
 | x::xs,vs,h=>by
  simp only [evs] at h
  cases h1:ev l x with
  | none=>simp [h1] at h
  | some v =>
   cases h2:evs l xs with
   | none=>simp [h1,h2] at h
   | some vs' =>
    simp [h1,h2] at h
    subst h
    simp [hρ _ _ h1,evs_map hρ h2]
theorem WL_makeFunc {f:Fn} {xs:List Operand} {vs:List Value} (hd:Nat.blt d n=true) (hx:evs l xs=some vs) (k:WL P n ops K os ((d,.func f #[] vs.toArray)::l) w) :
  WL P n ops K (⟨some d,.makeFunc f #[] xs.toArray,T,pos,aft,none⟩::os) l w :=
 WL_val rfl rfl hd (fun ρ hρ=>by simp [execOp,Instr.makeFunc,evs_map hρ hx]) k
def RepW {α:Type} [Rep α] (w:World) (cs:List Value) (a:α):Prop:=∃F,Rep.rep false w cs a F
theorem repw_int {x:Int}:RepW w [.int .i64 x] x:=⟨[],rfl,rfl⟩
theorem repw_slice {a:List α} (h:RO D w v a):RepW w [v] a:=by
 obtain ⟨F,⟨cs,rfl,h1⟩,_⟩:=h
 obtain ⟨p,cap,rfl,h2⟩:=h1
 exact ⟨F,p,cap,rfl,h2⟩
theorem repw_pair {c1 c2:List Value} {a:α} {b:β} (h1:RepW w c1 a) (h2:RepW w c2 b):RepW w (c1++c2) (a,b):=by
 obtain ⟨F1,h1⟩:=h1
 obtain ⟨F2,h2⟩:=h2
 exact ⟨F1++F2,c1,c2,F1,F2,rfl,rfl,h1,h2⟩
theorem Ctx.boxAt {b:Nat} {cs:List Value} {a:α} (hC:Ctx D w0 w As) (i:Nat) (hi:As[i]?=some (Item.box b cs)) (h:RepW w cs a):ROAt [] w b 0 a:=by
 obtain ⟨T,hb⟩:=hC.boxCell hi
 obtain ⟨F,hF⟩:=h
 refine ⟨by simp,cs.toArray,T,(0,0),F,hb,?_,by simp⟩
 have hl:=Rep.len hF
 simp only [List.drop_zero]
 rw [←hl,List.take_length]
 exact hF
theorem Ctx.push2 (h:Ctx D w0 w As) (h':Ctx [] w w' Bs):Ctx D w0 w' (Bs++As):=by
 obtain ⟨k',Fs,g1,g2,g3⟩:=h'
 exact h.pushL k'.below g1 g2 fun b hb=>(g3 b hb).resolve_right (by simp)

variable {a b:Int}
theorem WL_nilCheck {b off:Nat} (hd:Nat.blt d n=true) (hx:ev l x=some (ptr b off)) (k:WL P n ops K os ((d,ptr b off)::l) w):WL P n ops K (⟨some d,.nilCheck x,T,pos,aft,none⟩::os) l w :=
 WL_val rfl rfl hd (fun ρ hρ=>by simp [execOp,hρ x _ hx]) k
theorem fl_nilCheck {b off:Nat} (hx:ev l x=some (ptr b off)):Fl P l (⟨some d,.nilCheck x,T,pos,aft,g⟩) :=
 ⟨ptr b off,fun w ρ hρ=>by simp [execOp,hρ x _ hx]⟩
end
end Go.Gx
