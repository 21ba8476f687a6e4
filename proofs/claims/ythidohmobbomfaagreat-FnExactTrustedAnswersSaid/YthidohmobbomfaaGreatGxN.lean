/- Elements of owned slices: cells as data, stores into an opened element. Conditions: none. -/
import Derived.Test.YthidohmobbomfaaGreatGxM
set_option linter.unusedVariables false
set_option linter.unusedSimpArgs false
namespace Go.Gx
open Go.RowKit
section
variable {α β:Type} [Rep α] [Rep β] {P:Program} {w w0 w':World} {t e:TypeId}
variable {n:Nat} {l:Env} {ops:Array Oper} {K:Env→World→Prop} {os:List Oper} {d:Nat} {T U:TypeId} {pos:String} {aft:Array Edge} {x y z:Operand} {v u c xv:Value} {D:List Nat} {As Bs:List Item}

theorem Ctx.cellsOwn {cs:List Value} {a:α} (hg:Rep.agg α=true) (h:Ctx D w0 w (Item.cells cs a::As)):Ctx D w0 w (Item.own (.agg cs.toArray) a::As) :=
 h.turn (C:=Item.own (.agg cs.toArray) a) fun w F hF=>⟨F,⟨cs,by simp [mkv,hg],hF⟩,List.Sublist.refl _⟩
theorem Ctx.ownCells {cs:List Value} {a:α} (h:Ctx D w0 w (Item.own (.agg cs.toArray) a::As)):Ctx D w0 w (Item.cells cs a::As) :=
 h.turn (C:=Item.cells cs a) fun w F (hF:Val true w _ a F)=>⟨F,by show Rep.rep true w cs a F; simpa [Value.cells] using hF.cells,List.Sublist.refl _⟩
theorem Ctx.cellsSlice {cs:List Value} {a:List α} (h:Ctx D w0 w (Item.cells cs a::As)):∃v,cs=[v]∧Ctx D w0 w (Item.own v a::As):=by
 obtain ⟨F,p,cap,rfl,hq⟩:=h.get (i:=0) rfl
 exact ⟨_,rfl,h.turn (C:=Item.own _ a) fun w F hF=>⟨F,⟨_,rfl,hF⟩,List.Sublist.refl _⟩⟩
theorem Ctx.sliceCells {a:List α} (h:Ctx D w0 w (Item.own v a::As)):Ctx D w0 w (Item.cells [v] a::As) :=
 h.turn (C:=Item.cells [v] a) fun w F hF=>by
  obtain ⟨cs,rfl,p,cap,rfl,hq⟩:=hF
  exact ⟨F,⟨p,cap,rfl,hq⟩,List.Sublist.refl _⟩

theorem WL_store_hole {t:TypeId} {as:List α} {i b off fo:Nat} {cs cs':List Value} (hC:Ctx D w0 w As) (k:Nat) (hk:As[k]?=some (Item.hole v as i cs)) (hb:EB v b) (hc:Nat.blt fo cs.length=true) (hcs:cs.set fo c=cs') (ho:off=i*Rep.sz α+fo) (h1:c.oneCell'=true) (hS:∀w,(sizeOf t).run P w=.ok 1 w)
  (hx:ev l x=some (ptr b off)) (hy:ev l y=some c) (h:∀w',Ctx D w0 w' (As.set k (Item.hole v as i cs'))→WL P n ops K os l w'):WL P n ops K (⟨none,.store t x y,T,pos,aft,none⟩::os) l w:=by
 subst ho
 subst hcs
 have hfo:fo<cs.length:=by simpa [Nat.blt_eq] using hc
 obtain ⟨F,⟨b',cap,row,T',c1,c2,F1,F2,hv,h2,rfl,h4,h5,h6,h7,h8,h9,h10⟩,hn,hback⟩:=hC.focus hk
 obtain ⟨len,cap',rfl⟩:=hb
 simp only [Value.slice.injEq,Option.some.injEq,Addr.mk.injEq] at hv
 obtain ⟨⟨rfl,_⟩,rfl,rfl⟩:=hv
 have hl1:c1.length=i*Rep.sz α:=by rw [elems_len h4,List.length_take,Nat.min_eq_left (by omega)]
 have hl:(c1++(cs++c2)).length=as.length*Rep.sz α:=by
  have e2:row.toList.length=cap'*Rep.sz α:=by simpa using h8
  rw [←h7,List.length_take,e2]
  have:=Nat.mul_le_mul_right (Rep.sz α) h9
  omega
 have hlt:i*Rep.sz α+fo<as.length*Rep.sz α:=by rw [←hl]; simp only [List.length_append,hl1]; omega
 have hlt2:i*Rep.sz α+fo<row.size:=by
  have:=Nat.mul_le_mul_right (Rep.sz α) h9
  omega
 have hcell:w.cell? ⟨b,i*Rep.sz α+fo,none⟩=some row[i*Rep.sz α+fo]:=by simp [World.cell?,h2,hlt2]
 have hfr:w.frozen? ⟨b,i*Rep.sz α+fo,none⟩=false:=by simp [World.frozen?,h2]
 have hst:=run_store P w ⟨b,i*Rep.sz α+fo,none⟩ c .plain h1
 rw [hcell,hfr] at hst
 have hnew:(w.setCell ⟨b,i*Rep.sz α+fo,none⟩ c).heap[b]?=some (.cells (row.setIfInBounds (i*Rep.sz α+fo) c) T' (0,0)):=by
  simp [World.setCell,h2,Array.getElem?_modify]
 have hoth:∀j,j≠b→(w.setCell ⟨b,i*Rep.sz α+fo,none⟩ c).heap[j]?=w.heap[j]?:=fun j hj=>Below.heap_setCell _ _ _ _ hj
 rw [List.nodup_cons] at hn
 refine WL_run0 (w':=w.setCell ⟨b,i*Rep.sz α+fo,none⟩ c) rfl rfl (fun ρ hρ=>?_) (h _ (hback _ _ (b::(F1++F2)) ?_ ?_ (List.nodup_cons.2 hn) (fun c hc=>.inl hc)))
 ·have e:c.cells=#[c]:=cells_one h1
  simp [execOp,hρ x _ hx,hρ y _ hy,Instr.storeAt,Instr.sureAddr,storeVar,hS,e,storeCells,ptr_add,hst]
 ·exact ⟨rfl,rfl,rfl,by simp,fun j hj hjb=>hoth j (fun hc=>hjb (by simp [hc]))⟩
 ·have hne:∀j∈F1++F2,j≠b:=fun j hj hb=>hn.1 (hb ▸ hj)
  refine ⟨b,cap',_,T',c1,c2,F1,F2,rfl,hnew,rfl,elems_frame h4 fun j hj=>hoth j (hne j (List.mem_append_left _ hj)),elems_frame h5 fun j hj=>hoth j (hne j (List.mem_append_right _ hj)),h6,?_,by simpa using h8,h9,h10⟩
  rw [Array.toList_setIfInBounds,List.take_set,h7,←hl1,List.set_append_right _ _ (by omega),Nat.add_sub_cancel_left,List.set_append_left _ _ hfo]
end
end Go.Gx
