/- Boxes: variables in memory, loads from them, stores into them; composite literals. Conditions: none. -/
import Derived.Test.YthidohmobbomfaaGreatGxE
set_option linter.unusedVariables false
set_option linter.unusedSimpArgs false
namespace Go.Gx
open Go.RowKit

section
variable {P:Program} {n:Nat} {l:Env} {w w0:World} {ops:Array Oper} {K:Env→World→Prop} {os:List Oper} {d:Nat} {T U:TypeId} {pos:String} {aft:Array Edge} {x y z:Operand} {v u c:Value} {D:List Nat} {As:List Item}

theorem below_alloc (w:World) (o:Obj):Below w.heap.size w (w.alloc o):=(Below.refl _ _).alloc (Nat.le_refl _) o
theorem alloc_new (w:World) (o:Obj):(w.alloc o).heap[w.heap.size]?=some o:=heap_alloc_new w o

theorem Ctx.box {b:Nat} {cs:List Value} {T:TypeId} (h:Ctx D w0 w As):Ctx D w0 (w.alloc (.cells cs.toArray T)) (Item.box w.heap.size cs::As) :=
 h.push (A:=Item.box w.heap.size cs) (F:=[w.heap.size]) (below_alloc w _) ⟨rfl,T,alloc_new w _⟩ (by simp) (by simp)

theorem WL_alloc {z:Value} {cs:List Value} (hC:Ctx D w0 w As) (hz:∀w,(zeroValue U).run P w=.ok z w) (hcs:z.cells.toList=cs) (hd:Nat.blt d n=true)
  (k:∀b w',Ctx D w0 w' (Item.box b cs::As)→Below w.heap.size w w'→WL P n ops K os ((d,ptr b 0)::l) w'):WL P n ops K (⟨some d,.alloc U,T,pos,aft,none⟩::os) l w:=by
 have e:z.cells=cs.toArray:=by rw [←hcs]
 refine WL_run (w':=w.alloc (.cells cs.toArray U)) rfl rfl hd (fun ρ hρ=>?_) (k w.heap.size _ (hC.box (b:=0)) (below_alloc w _))
 simp [execOp,Instr.alloc,newVar,newRow,e,hz]

theorem Ctx.boxCell (hC:Ctx D w0 w As) {i b:Nat} {cs:List Value} (hi:As[i]?=some (Item.box b cs)):∃T,w.heap[b]?=some (.cells cs.toArray T (0,0)):=by
 obtain ⟨F,_,h⟩:=hC.get hi
 exact h

theorem run_load_box {t:TypeId} {i b k:Nat} {cs:List Value} (hC:Ctx D w0 w As) (hi:As[i]?=some (Item.box b cs)) (hc:cs[k]?=some c) (hT:(isAgg t).run P w=.ok false w):(loadVar t ⟨b,k,none⟩).run P w=.ok c w:=by
 obtain ⟨T,h⟩:=hC.boxCell hi
 have h2:w.cell? ⟨b,k,none⟩=some c:=by simp [World.cell?,h,hc]
 unfold loadVar
 simp [hT,h2]
theorem WL_load_box {t:TypeId} {cs:List Value} {b k:Nat} (hC:Ctx D w0 w As) (i:Nat) (hi:As[i]?=some (Item.box b cs)) (hc:cs[k]?=some c) (hT:∀w,(isAgg t).run P w=.ok false w) (hd:Nat.blt d n=true) (hx:ev l x=some (ptr b k))
  (h:WL P n ops K os ((d,c)::l) w):WL P n ops K (⟨some d,.load t x,T,pos,aft,none⟩::os) l w :=
 WL_val rfl rfl hd (fun ρ hρ=>by simp [execOp,hρ x _ hx,Instr.loadAt,Instr.sureAddr,run_load_box hC hi hc (hT w)]) h

theorem run_load_box_agg {t:TypeId} {i b k m:Nat} {cs cs':List Value} (hC:Ctx D w0 w As) (hi:As[i]?=some (Item.box b cs)) (hcs:(cs.drop k).take m=cs') (hm:cs'.length=m) (hT:(isAgg t).run P w=.ok true w) (hS:(sizeOf t).run P w=.ok m w) :
  (loadVar t ⟨b,k,none⟩).run P w=.ok (.agg cs'.toArray) w:=by
 obtain ⟨T,h⟩:=hC.boxCell hi
 have h4:=run_loadCells_list (P:=P) w ⟨b,k,none⟩ cs' (fun j v hv=>by rw [ptr_add]; rw [←hcs] at hv; exact cell_row (k:=m) h (by simpa using hv))
 rw [hm] at h4
 unfold loadVar
 simp [hT,hS,h4]
theorem WL_load_box_agg {t:TypeId} {cs:List Value} {b k m:Nat} (cs':List Value) (hC:Ctx D w0 w As) (i:Nat) (hi:As[i]?=some (Item.box b cs)) (hcs:(cs.drop k).take m=cs') (hm:cs'.length=m) (hT:∀w,(isAgg t).run P w=.ok true w) (hS:∀w,(sizeOf t).run P w=.ok m w) (hd:Nat.blt d n=true) (hx:ev l x=some (ptr b k))
  (h:WL P n ops K os ((d,.agg cs'.toArray)::l) w):WL P n ops K (⟨some d,.load t x,T,pos,aft,none⟩::os) l w :=
 WL_val rfl rfl hd (fun ρ hρ=>by simp [execOp,hρ x _ hx,Instr.loadAt,Instr.sureAddr,run_load_box_agg hC hi hcs hm (hT w) (hS w)]) h

theorem Ctx.setBox (hC:Ctx D w0 w As) {i b:Nat} {cs cs':List Value} (hi:As[i]?=some (Item.box b cs)) {T:TypeId} {w':World} (hw:Keep [b] w w') (h':w'.heap[b]?=some (.cells cs'.toArray T (0,0))):Ctx D w0 w' (As.set i (Item.box b cs')):=by
 obtain ⟨F,⟨hF,_⟩,hn,hk⟩:=hC.focus hi
 subst hF
 exact hk w' (Item.box b cs') [b] hw ⟨rfl,T,h'⟩ hn (fun c hc=>.inl hc)

theorem WL_store_box_agg {t:TypeId} {cs cs' new:List Value} {b k:Nat} (hC:Ctx D w0 w As) (i:Nat) (hi:As[i]?=some (Item.box b cs)) (hk:Nat.ble (k+new.length) cs.length=true) (h1:∀v∈new,v.oneCell'=true) (hcs:cs.take k++new++cs.drop (k+new.length)=cs')
  (hS:∀w,(sizeOf t).run P w=.ok new.length w) (hx:ev l x=some (ptr b k)) (hy:ev l y=some (.agg new.toArray))
  (h:∀w',Ctx D w0 w' (As.set i (Item.box b cs'))→WL P n ops K os l w'):WL P n ops K (⟨none,.store t x y,T,pos,aft,none⟩::os) l w:=by
 obtain ⟨T',hb⟩:=hC.boxCell hi
 have hk':k+new.length≤cs.length:=by simpa using hk
 have hst:=run_storeCells_at P b k T' new 0 cs.toArray w hb (by simpa using hk') h1
 simp only [Nat.add_zero] at hst
 refine WL_run0 (w':=w.setRow b (cs.take k++new++cs.drop (k+new.length)).toArray) rfl rfl (fun ρ hρ=>?_) (h _ (hC.setBox hi (T:=T') ?_ ?_))
 ·have e2:(storeCells ⟨b,k,none⟩ new).run P w=.ok () (w.setRow b (cs.take k++new++cs.drop (k+new.length)).toArray):=by simpa using hst
  simp [execOp,hρ x _ hx,hρ y _ hy,Instr.storeAt,Instr.sureAddr,storeVar,hS,Value.cells,e2]
 ·exact ⟨rfl,rfl,rfl,by simp,fun j hj hjb=>setRow_other w b j _ (by simpa using hjb)⟩
 ·rw [hcs]; exact setRow_heap w b cs.toArray _ T' _ hb

theorem WL_build {cells:Array Value} {parts:List (Nat × Operand)} {vs:List (Nat × Value)} (hd:Nat.blt d n=true) (hv:parts.map (fun p=>ev l p.2)=vs.map (fun p=>some p.2)) (hi:parts.map (·.1)=vs.map (·.1)) (hb:P.built U vs=some cells)
  (h:WL P n ops K os ((d,.agg cells)::l) w):WL P n ops K (⟨some d,.build U parts.toArray,T,pos,aft,none⟩::os) l w:=by
 refine WL_val rfl rfl hd (fun ρ hρ=>?_) h
 have e:parts.map (fun p=>(p.1,ρ p.2))=vs:=by
  clear hb h
  induction parts generalizing vs with
  | nil=>cases vs with
   | nil=>rfl
   | cons v vs=>simp at hi
  | cons p ps ih =>
   cases vs with
   | nil=>simp at hi
   | cons v vs =>
    simp only [List.map_cons,List.cons.injEq] at hv hi ⊢
    refine ⟨?_,ih hv.2 hi.2⟩
    rw [hi.1,hρ _ _ hv.1]
 have h2:=run_build (P:=P) w U vs.toArray cells (by simpa using hb)
 simp only [execOp]
 have e2:(parts.toArray.map fun x=>(x.1,ρ x.2))=vs.toArray:=by simp [e]
 simp [e2,h2]
end
end Go.Gx
