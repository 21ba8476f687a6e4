/- Owned data lent to a call that may store into them; ends of functions without a result. Conditions: none. -/
import Derived.Test.YthidohmobbomfaaGreatGxQ
set_option linter.unusedVariables false
set_option linter.unusedSimpArgs false
namespace Go.Gx
open List renaming flatten_append→qb
open Go.RowKit
section
variable {α β:Type} [Rep α] [Rep β] {P:Program} {w w0 w':World} {t e:TypeId}
variable {n:Nat} {l:Env} {ops:Array Oper} {K:Env→World→Prop} {os:List Oper} {d:Nat} {T U:TypeId} {pos:String} {aft:Array Edge} {x y z:Operand} {v u c xv:Value} {D:List Nat} {As Bs:List Item}

theorem Ctx.lend2 (Bs:List Item) (h:Ctx D w0 w (Bs++As)):∃Fs,Hold Bs w Fs∧Fs.flatten.Nodup∧(∀b∈Fs.flatten,w0.heap.size≤b∨b∈D) ∧
  (∀(i:Nat) (α:Type) [Rep α] (v:Value) (a:α),As[i]?=some (Item.own v a)→RO Fs.flatten w v a)∧∀w' Bs',Ctx Fs.flatten w w' Bs'→Ctx D w0 w' (Bs'++As):=by
 obtain ⟨k,Hs,h1,h2,h3⟩:=h
 obtain ⟨Fs,Gs,rfl,hB,hA⟩:=h1.parted
 rw [qb,List.nodup_append] at h2
 simp only [qb,List.mem_append] at h3
 refine ⟨Fs,hB,h2.1,fun b hb=>h3 b (.inl hb),fun i α _ v a hi=>?_,fun w' Bs' ⟨k',Fs',g1,g2,g3⟩=>⟨k.trans k' fun b hb=>h3 b (.inl hb),Fs'++Gs,g1.append (hA.loc fun b hb=>k'.block b (hA.inh b hb) fun hb'=>h2.2.2 b hb' b hb rfl),?_,?_⟩⟩
 ·obtain ⟨F,hF,hp⟩:=hA.get hi
  exact ⟨F,Val.weak hp,fun b hb hb'=>h2.2.2 b hb' b (List.mem_flatten.2 ⟨F,List.mem_of_getElem? hF,hb⟩) rfl⟩
 ·rw [qb,List.nodup_append]
  refine ⟨g2,h2.2.1,fun a ha b hb e=>?_⟩
  subst e
  rcases g3 a ha with h4 | h4
  ·have:=hA.inh a hb; omega
  ·exact h2.2.2 a h4 a hb rfl
 ·intro b hb
  rw [qb,List.mem_append] at hb
  rcases hb with hb | hb
  ·rcases g3 b hb with h4 | h4
   ·exact .inl (Nat.le_trans k.size h4)
   ·exact h3 b (.inl h4)
  ·exact h3 b (.inr hb)
theorem RO.lent {a:α} {Fs:List (List Nat)} (h:RO D w0 v a) (k:Keep D w0 w) (hF:∀b∈Fs.flatten,w0.heap.size≤b∨b∈D):RO Fs.flatten w v a:=by
 have hi:∃F,Val false w0 v a F∧∀b∈F,b ∉ D:=h
 obtain ⟨F,h1,h2⟩:=hi
 refine ⟨F,h1.frame fun b hb=>k.block b (h1.inh b hb) (h2 b hb),fun b hb hb'=>?_⟩
 rcases hF b hb' with h3 | h3
 ·have:=h1.inh b hb; omega
 ·exact h2 b hb h3
theorem cells_of_agg {cs cs':List Value} (h:Value.agg cs.toArray=.agg cs'.toArray):cs=cs':=by
 simpa using h
theorem fl_index_own {as:List α} {i:Int} {a:α} {kd:IntKind} {g:Option (Nat × Bool)} (hC:Ctx D w0 w As) (k:Nat) (hk:As[k]?=some (Item.own v as)) (hu:P.underlying U=some (.slice e)) (hE:Ty P e α) (hi:idx as i=some a)
  (hx:ev l x=some v) (hy:ev l y=some (.int kd i)):Fl P l (⟨some d,.indexAddr U x y,T,pos,aft,g⟩):=fl_index hu hE (hC.ro k hk) hi hx hy
theorem fl_build {cells:Array Value} {parts:List (Nat × Operand)} {vs:List (Nat × Value)} {g:Option (Nat × Bool)} (hv:parts.map (fun p=>ev l p.2)=vs.map (fun p=>some p.2)) (hi:parts.map (·.1)=vs.map (·.1)) (hb:P.built U vs=some cells):Fl P l (⟨some d,.build U parts.toArray,T,pos,aft,g⟩):=by
 refine ⟨.agg cells,fun w ρ hρ=>?_⟩
 have e:parts.map (fun p=>(p.1,ρ p.2))=vs:=by
  clear hb
  induction parts generalizing vs with
  | nil=>cases vs with
   | nil=>rfl
   | cons v vs=>simp at hi
  | cons p ps ih =>
   cases vs with
   | nil=>simp at hi
   | cons v vs =>
    simp only [List.map_cons,List.cons.injEq] at hv hi ⊢
    refine ⟨?_,ih hv.2 hi.2⟩
    rw [hi.1,hρ _ _ hv.1]
 have h2:=run_build (P:=P) w U vs.toArray cells (by simpa using hb)
 simp only [execOp]
 have e2:(parts.toArray.map fun x=>(x.1,ρ x.2))=vs.toArray:=by simp [e]
 simp [e2,h2]
end
end Go.Gx
