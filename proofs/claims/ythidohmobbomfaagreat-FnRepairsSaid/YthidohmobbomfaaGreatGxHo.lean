/- Elements of owned slices that are opened and moved out, one after the other; stores into new variables leave older facts as they are. Conditions: none. -/
import Derived.Test.YthidohmobbomfaaGreatGxEq
set_option linter.unusedVariables false
set_option linter.unusedSimpArgs false
namespace Go.Gx
open Go.RowKit
section
variable {α β:Type} [Rep α] [Rep β] {P:Program} {w w0 w':World} {t e:TypeId}
variable {n:Nat} {l:Env} {ops:Array Oper} {K:Env→World→Prop} {os:List Oper} {d:Nat} {T U:TypeId} {pos:String} {aft:Array Edge} {x y z:Operand} {v u c xv:Value} {D:List Nat} {As Bs:List Item} {g:Option (Nat × Bool)}

theorem Keep.over {D:List Nat} {w w1 w2:World} {b:Nat} (h:Keep D w w1) (hb:w.heap.size≤b) (h2:Keep [b] w1 w2):Keep D w w2 :=
 h.trans h2 fun c hc=>.inl (by rw [List.mem_singleton.1 hc]; exact hb)
theorem WL_boxK {cs:List Value} (hC:Ctx D w0 w As) (hcs:v.cells.toList=cs) (hd:Nat.blt d n=true) (hx:ev l x=some v)
  (k:∀b w',Ctx D w0 w' (Item.box b cs::As)→Below w.heap.size w w'→w.heap.size≤b→WL P n ops K os ((d,ptr b 0)::l) w'):WL P n ops K (⟨some d,.box U x,T,pos,aft,none⟩::os) l w:=by
 have e:v.cells=cs.toArray:=by rw [←hcs]
 refine WL_run (w':=w.alloc (.cells cs.toArray U)) rfl rfl hd (fun ρ hρ=>?_) (k w.heap.size _ (hC.box (b:=0)) (below_alloc w _) (Nat.le_refl _))
 simp [execOp,hρ x _ hx,Instr.box,newVar,newRow,e]
theorem WL_allocK {z:Value} {cs:List Value} (hC:Ctx D w0 w As) (hz:∀w,(zeroValue U).run P w=.ok z w) (hcs:z.cells.toList=cs) (hd:Nat.blt d n=true)
  (k:∀b w',Ctx D w0 w' (Item.box b cs::As)→Below w.heap.size w w'→w.heap.size≤b→WL P n ops K os ((d,ptr b 0)::l) w'):WL P n ops K (⟨some d,.alloc U,T,pos,aft,none⟩::os) l w:=by
 have e:z.cells=cs.toArray:=by rw [←hcs]
 refine WL_run (w':=w.alloc (.cells cs.toArray U)) rfl rfl hd (fun ρ hρ=>?_) (k w.heap.size _ (hC.box (b:=0)) (below_alloc w _) (Nat.le_refl _))
 simp [execOp,Instr.alloc,newVar,newRow,e,hz]
theorem WL_store_boxK {t:TypeId} {cs cs':List Value} {b k:Nat} (hC:Ctx D w0 w As) (i:Nat) (hi:As[i]?=some (Item.box b cs)) (hk:Nat.blt k cs.length=true) (h1:c.oneCell'=true) (hcs:cs.set k c=cs') (hS:∀w,(sizeOf t).run P w=.ok 1 w)
  (hx:ev l x=some (ptr b k)) (hy:ev l y=some c)
  (h:∀w',Ctx D w0 w' (As.set i (Item.box b cs'))→Keep [b] w w'→WL P n ops K os l w'):WL P n ops K (⟨none,.store t x y,T,pos,aft,none⟩::os) l w:=by
 obtain ⟨T',hb⟩:=hC.boxCell hi
 have hk':k<cs.length:=by simpa [Nat.blt_eq] using hk
 have hcell:w.cell? ⟨b,k,none⟩=some cs[k]:=by simp [World.cell?,hb,hk']
 have hfr:w.frozen? ⟨b,k,none⟩=false:=by simp [World.frozen?,hb]
 have hst:=run_store P w ⟨b,k,none⟩ c .plain h1
 rw [hcell,hfr] at hst
 have hkp:Keep [b] w (w.setCell ⟨b,k,none⟩ c):=⟨rfl,rfl,rfl,by simp,fun j hj hjb=>Below.heap_setCell _ _ _ _ (by simpa using hjb)⟩
 refine WL_run0 (w':=w.setCell ⟨b,k,none⟩ c) rfl rfl (fun ρ hρ=>?_) (h _ (hC.setBox hi (T:=T') hkp ?_) hkp)
 ·have e:c.cells=#[c]:=cells_one h1
  simp [execOp,hρ x _ hx,hρ y _ hy,Instr.storeAt,Instr.sureAddr,storeVar,hS,e,storeCells,ptr_add,hst]
 ·simp [World.setCell,hb,Array.getElem?_modify,←hcs]
theorem WL_store_box_aggK {t:TypeId} {cs cs' new:List Value} {b k:Nat} (hC:Ctx D w0 w As) (i:Nat) (hi:As[i]?=some (Item.box b cs)) (hk:Nat.ble (k+new.length) cs.length=true) (h1:∀v∈new,v.oneCell'=true) (hcs:cs.take k++new++cs.drop (k+new.length)=cs')
  (hS:∀w,(sizeOf t).run P w=.ok new.length w) (hx:ev l x=some (ptr b k)) (hy:ev l y=some (.agg new.toArray))
  (h:∀w',Ctx D w0 w' (As.set i (Item.box b cs'))→Keep [b] w w'→WL P n ops K os l w'):WL P n ops K (⟨none,.store t x y,T,pos,aft,none⟩::os) l w:=by
 obtain ⟨T',hb⟩:=hC.boxCell hi
 have hk':k+new.length≤cs.length:=by simpa using hk
 have hst:=run_storeCells_at P b k T' new 0 cs.toArray w hb (by simpa using hk') h1
 simp only [Nat.add_zero] at hst
 have hkp:Keep [b] w (w.setRow b (cs.take k++new++cs.drop (k+new.length)).toArray):=⟨rfl,rfl,rfl,by simp,fun j hj hjb=>setRow_other w b j _ (by simpa using hjb)⟩
 refine WL_run0 (w':=w.setRow b (cs.take k++new++cs.drop (k+new.length)).toArray) rfl rfl (fun ρ hρ=>?_) (h _ (hC.setBox hi (T:=T') hkp ?_) hkp)
 ·have e2:(storeCells ⟨b,k,none⟩ new).run P w=.ok () (w.setRow b (cs.take k++new++cs.drop (k+new.length)).toArray):=by simpa using hst
  simp [execOp,hρ x _ hx,hρ y _ hy,Instr.storeAt,Instr.sureAddr,storeVar,hS,Value.cells,e2]
 ·rw [hcs]; exact setRow_heap w b cs.toArray _ T' _ hb

theorem Ctx.eb {as:List α} {i:Int} {a:α} (h:Ctx D w0 w (Item.own v as::As)) (hi:idx as i=some a):∃b,EB v b:=by
 obtain ⟨F,hF⟩:=h.get (i:=0) rfl
 exact own_get hF hi
theorem run_index_at {as:List α} {i:Int} {a:α} {b cap:Nat} {kd:IntKind} {ρ:Operand→Value} {w:World} (hu:P.underlying U=some (.slice e)) (hE:Ty P e α) (hi:idx as i=some a) (hx:ρ x=.slice (some ⟨b,0,none⟩) as.length cap) (hy:ρ y=.int kd i) {dst:Option Nat} {g:Option (Nat × Bool)} :
  (execOp ρ ⟨dst,.indexAddr U x y,T,pos,aft,g⟩).run P w=.ok (.value (ptr b (Int.toNat i*Rep.sz α))) w:=by
 obtain ⟨h0,hlt,_⟩:=idx_some hi
 have hlt':i<(as.length:Int):=by omega
 simp [execOp,hx,hy,Instr.indexAt,asIntOf,run_underlying hu,h0,hlt',hE.size,ptr_add]
theorem hole_v {as:List α} {j b:Nat} {cs:List Value} {k:Nat} (hC:Ctx D w0 w As) (hk:As[k]?=some (Item.hole v as j cs)) (hb:EB v b):∃cap,v=.slice (some ⟨b,0,none⟩) as.length cap:=by
 obtain ⟨F,b',cap,row,T',c1,c2,F1,F2,hv,_⟩:=hC.get hk
 obtain ⟨len,cap',rfl⟩:=hb
 simp only [Value.slice.injEq,Option.some.injEq,Addr.mk.injEq] at hv
 obtain ⟨⟨rfl,_⟩,rfl,rfl⟩:=hv
 exact ⟨_,rfl⟩
theorem WL_index_hole {as:List α} {i:Int} {a:α} {j b:Nat} {cs:List Value} {kd:IntKind} (hC:Ctx D w0 w As) (k:Nat) (hk:As[k]?=some (Item.hole v as j cs)) (hu:P.underlying U=some (.slice e)) (hE:Ty P e α) (hb:EB v b) (hi:idx as i=some a) (hd:Nat.blt d n=true)
  (hx:ev l x=some v) (hy:ev l y=some (.int kd i)) (h:WL P n ops K os ((d,ptr b (Int.toNat i*Rep.sz α))::l) w):WL P n ops K (⟨some d,.indexAddr U x y,T,pos,aft,none⟩::os) l w:=by
 obtain ⟨cap,rfl⟩:=hole_v hC hk hb
 exact WL_val rfl rfl hd (fun ρ hρ=>run_index_at hu hE hi (hρ x _ hx) (hρ y _ hy)) h
def Item.rest (v:Value) (as:List α) (i:Nat):Item :=
 ⟨fun w F=>(v=.slice none 0 0∧as=[]∧F=[])∨∃b cap row T c1 c2 F2,v=.slice (some ⟨b,0,none⟩) as.length cap∧w.heap[b]?=some (.cells row T (0,0))∧F=b::F2∧c1.length=i*Rep.sz α∧elems true w c2 (as.drop i) F2 ∧
   row.toList.take (as.length*Rep.sz α)=c1++c2∧row.size=cap*Rep.sz α∧as.length≤cap∧cap≤maxLen,
  fun h hf=>h.imp id fun ⟨b,cap,row,T,c1,c2,F2,h1,h2,h3,h4,h5,h6⟩=>⟨b,cap,row,T,c1,c2,F2,h1,by rw [hf b (by simp [h3])]; exact h2,h3,h4,elems_frame h5 fun c hc=>hf c (by simp [h3,hc]),h6⟩,
  fun h c hc=>by
   rcases h with ⟨_,_,rfl⟩ | ⟨b,cap,row,T,c1,c2,F2,h1,h2,h3,h4,h5,h6⟩
   ·cases hc
   ·subst h3
    rcases List.mem_cons.1 hc with rfl | hc
    ·exact (Array.getElem?_eq_some_iff.1 h2).1
    ·exact elems_inh h5 c hc⟩
def Item.rhole (v:Value) (as:List α) (i:Nat) (cs:List Value):Item :=
 ⟨fun w F=>∃b cap row T c1 c2 F2,v=.slice (some ⟨b,0,none⟩) as.length cap∧w.heap[b]?=some (.cells row T (0,0))∧F=b::F2∧c1.length=i*Rep.sz α∧cs.length=Rep.sz α∧elems true w c2 (as.drop (i+1)) F2∧i<as.length ∧
   row.toList.take (as.length*Rep.sz α)=c1++(cs++c2)∧row.size=cap*Rep.sz α∧as.length≤cap∧cap≤maxLen,
  fun h hf=>by
   obtain ⟨b,cap,row,T,c1,c2,F2,h1,h2,h3,h4,h4',h5,h6⟩:=h
   exact ⟨b,cap,row,T,c1,c2,F2,h1,by rw [hf b (by simp [h3])]; exact h2,h3,h4,h4',elems_frame h5 fun c hc=>hf c (by simp [h3,hc]),h6⟩,
  fun ⟨b,cap,row,T,c1,c2,F2,h1,h2,h3,h4,h4',h5,h6⟩ c hc=>by
   subst h3
   rcases List.mem_cons.1 hc with rfl | hc
   ·exact (Array.getElem?_eq_some_iff.1 h2).1
   ·exact elems_inh h5 c hc⟩
theorem Ctx.ownRest {as:List α} (h:Ctx D w0 w (Item.own v as::As)):Ctx D w0 w (Item.rest v as (Int.toNat 0)::As) :=
 h.turn (C:=Item.rest v as (Int.toNat 0)) fun w F hA=>by
  rcases own_slice hA with ⟨h1,h2,h3⟩ | ⟨b,cap,row,T,cells,Fe,h1,h4,h3,h5,h6,h8,h9,h10⟩
  ·exact ⟨F,.inl ⟨h1,h2,h3⟩,List.Sublist.refl _⟩
  ·exact ⟨F,.inr ⟨b,cap,row,T,[],cells,Fe,h1,h4,h3,by simp,h5,by simpa using h6,h8,h9,h10⟩,List.Sublist.refl _⟩
theorem Ctx.openRest {as:List α} {i:Int} {a:α} (h:Ctx D w0 w (Item.rest v as (Int.toNat i)::As)) (hi:idx as i=some a):∃b cs,EB v b∧Ctx D w0 w (Item.cells cs a::Item.rhole v as (Int.toNat i) cs::As):=by
 obtain ⟨k,_,⟨F,Fs,rfl,hA,hH⟩,h2,h3⟩:=h
 obtain ⟨h0,hlt,hg⟩:=idx_some hi
 rcases hA with ⟨_,rfl,_⟩ | ⟨b,cap,row,T,c1,c2,Fe,rfl,h4,rfl,h5,h6,h7,h8,h9,h10⟩
 ·simp at hlt
 ·have hd:as.drop (Int.toNat i)=a::as.drop (Int.toNat i+1):=by
   rw [List.drop_eq_getElem_cons hlt]
   congr 1
   rw [List.getElem?_eq_getElem hlt] at hg
   exact Option.some.inj hg
  rw [hd] at h6
  obtain ⟨c,cs',F1,F2,rfl,rfl,g1,g2⟩:=h6
  have hl:=Rep.len g1
  have hp:(F1++((b::F2)++Fs.flatten)).Perm ((b::(F1++F2))++Fs.flatten):=by
   rw [←List.append_assoc]
   exact (List.perm_middle).append_right _
  refine ⟨b,c,⟨_,_,rfl⟩,k,F1::(b::F2)::Fs,⟨F1,_,rfl,g1,_,Fs,rfl,⟨b,cap,row,T,c1,cs',F2,rfl,h4,rfl,h5,hl,g2,hlt,h7,h8,h9,h10⟩,hH⟩,?_,fun x hx=>h3 x ?_⟩
  ·simp only [List.flatten_cons] at h2 ⊢
   exact hp.nodup_iff.2 h2
  ·simp only [List.flatten_cons] at hx ⊢
   exact hp.mem_iff.1 hx
theorem Ctx.rholeNext {as:List α} {i:Int} {a:α} {cs:List Value} (hi:idx as i=some a) (h:Ctx D w0 w (Item.rhole v as (Int.toNat i) cs::As)):Ctx D w0 w (Item.rest v as (Int.toNat (w64 (i+1)))::As) :=
 h.turn (C:=Item.rest v as (Int.toNat (w64 (i+1)))) fun w F hA=>by
  obtain ⟨b,cap,row,T,c1,c2,F2,h1,h2,h3,h4,h4',h5,h6,h7,h8,h9,h10⟩:=hA
  obtain ⟨h0,hlt,_⟩:=idx_some hi
  have e:Int.toNat (w64 (i+1))=Int.toNat i+1:=by
   have:(as.length:Nat)≤maxLen:=Nat.le_trans h9 h10
   simp only [maxLen] at this
   rw [w64_id (by omega) (by omega)]; omega
  rw [e]
  refine ⟨F,.inr ⟨b,cap,row,T,c1++cs,c2,F2,h1,h2,h3,?_,h5,by rw [h7,List.append_assoc],h8,h9,h10⟩,List.Sublist.refl _⟩
  rw [List.length_append,h4,h4',Nat.succ_mul]
theorem rest_v {as:List α} {j k:Nat} (hC:Ctx D w0 w As) (hk:As[k]?=some (Item.rest v as j)):∃p cap,v=.slice p as.length cap:=by
 obtain ⟨F,hF⟩:=hC.get hk
 rcases hF with ⟨rfl,rfl,_⟩ | ⟨b,cap,row,T,c1,c2,F2,rfl,_⟩
 ·exact ⟨none,0,rfl⟩
 ·exact ⟨_,_,rfl⟩
theorem run_len_at {p:Option Addr} {len cap:Nat} {ρ:Operand→Value} {w:World} (hu:P.underlying U=some (.slice e)) (hx:ρ x=.slice p len cap) {dst:Option Nat} {g:Option (Nat × Bool)} :
  (execOp ρ ⟨dst,.call ⟨.builtin .len,#[x],#[U]⟩,T,pos,aft,g⟩).run P w=.ok (.value (.int .i64 (len:Int))) w:=by
 simp [execOp,resolve,invoke,builtin,Builtin.len_,hx,run_underlying hu,goInt]
theorem WL_len_rest {as:List α} {j:Nat} (hC:Ctx D w0 w As) (k:Nat) (hk:As[k]?=some (Item.rest v as j)) (hu:P.underlying U=some (.slice e)) (hd:Nat.blt d n=true) (hx:ev l x=some v)
  (h:WL P n ops K os ((d,.int .i64 (as.length:Int))::l) w):WL P n ops K (⟨some d,.call ⟨.builtin .len,#[x],#[U]⟩,T,pos,aft,none⟩::os) l w:=by
 obtain ⟨p,cap,rfl⟩:=rest_v hC hk
 exact WL_val rfl rfl hd (fun ρ hρ=>run_len_at hu (hρ x _ hx)) h
theorem rhole_vb {as:List α} {j b:Nat} {cs:List Value} {k:Nat} (hC:Ctx D w0 w As) (hk:As[k]?=some (Item.rhole v as j cs)) (hb:EB v b):∃cap,v=.slice (some ⟨b,0,none⟩) as.length cap:=by
 obtain ⟨F,b',cap,row,T',c1,c2,F2,hv,_⟩:=hC.get hk
 obtain ⟨len,cap',rfl⟩:=hb
 simp only [Value.slice.injEq,Option.some.injEq,Addr.mk.injEq] at hv
 obtain ⟨⟨rfl,_⟩,rfl,rfl⟩:=hv
 exact ⟨_,rfl⟩
theorem WL_index_rhole {as:List α} {i:Int} {a:α} {j b:Nat} {cs:List Value} {kd:IntKind} (hC:Ctx D w0 w As) (k:Nat) (hk:As[k]?=some (Item.rhole v as j cs)) (hu:P.underlying U=some (.slice e)) (hE:Ty P e α) (hb:EB v b) (hi:idx as i=some a) (hd:Nat.blt d n=true)
  (hx:ev l x=some v) (hy:ev l y=some (.int kd i)) (h:WL P n ops K os ((d,ptr b (Int.toNat i*Rep.sz α))::l) w):WL P n ops K (⟨some d,.indexAddr U x y,T,pos,aft,none⟩::os) l w:=by
 obtain ⟨cap,rfl⟩:=rhole_vb hC hk hb
 exact WL_val rfl rfl hd (fun ρ hρ=>run_index_at hu hE hi (hρ x _ hx) (hρ y _ hy)) h
theorem rhole_cell {as:List α} {i b:Nat} {cs:List Value} {k:Nat} (hC:Ctx D w0 w As) (hk:As[k]?=some (Item.rhole v as i cs)) (hb:EB v b):∀(fo:Nat) c,cs[fo]?=some c→w.cell? ⟨b,i*Rep.sz α+fo,none⟩=some c:=by
 intro fo c hc
 obtain ⟨F,b',cap,row,T',c1,c2,F2,hv,h2,h3,h4,h4',h5,h6,h7,h8⟩:=hC.get hk
 obtain ⟨len,cap',rfl⟩:=hb
 simp only [Value.slice.injEq,Option.some.injEq,Addr.mk.injEq] at hv
 obtain ⟨⟨rfl,_⟩,rfl,rfl⟩:=hv
 have hfo:fo<cs.length:=(List.getElem?_eq_some_iff.1 hc).1
 have e:(row.toList.take (as.length*Rep.sz α))[i*Rep.sz α+fo]?=some c:=by
  rw [h7,←h4,List.getElem?_append_right (by omega),Nat.add_sub_cancel_left,List.getElem?_append_left hfo,hc]
 rw [List.getElem?_take] at e
 split at e
 ·simp only [World.cell?,h2]; simpa using e
 ·cases e
theorem WL_load_cells {t:TypeId} {b off m:Nat} {cs':List Value} (hc:∀j c,cs'[j]?=some c→w.cell? ⟨b,off+j,none⟩=some c) (hm:cs'.length=m) (hT:∀w,(isAgg t).run P w=.ok true w) (hS:∀w,(sizeOf t).run P w=.ok m w) (hd:Nat.blt d n=true) (hx:ev l x=some (ptr b off))
  (h:WL P n ops K os ((d,.agg cs'.toArray)::l) w):WL P n ops K (⟨some d,.load t x,T,pos,aft,none⟩::os) l w:=by
 have h4:=run_loadCells_list (P:=P) w ⟨b,off,none⟩ cs' (fun j v hv=>by rw [ptr_add]; exact hc j v hv)
 rw [hm] at h4
 refine WL_val rfl rfl hd (fun ρ hρ=>?_) h
 simp [execOp,hρ x _ hx,Instr.loadAt,Instr.sureAddr,loadVar,hT,hS,h4]
theorem cells_part {w:World} {b off:Nat} {cs:List Value} (h:∀(fo:Nat) c,cs[fo]?=some c→w.cell? ⟨b,off+fo,none⟩=some c) {fo m off':Nat} {cs':List Value} (he:(cs.drop fo).take m=cs') (ho:off'=off+fo):∀j c,cs'[j]?=some c→w.cell? ⟨b,off'+j,none⟩=some c:=by
 intro j c hc
 subst he; subst ho
 rw [List.getElem?_take] at hc
 split at hc
 ·rw [List.getElem?_drop] at hc
  rw [Nat.add_assoc]
  exact h _ _ hc
 ·cases hc
theorem WL_load_rhole_agg {t:TypeId} {as:List α} {i b off fo m:Nat} {cs cs':List Value} (hC:Ctx D w0 w As) (k:Nat) (hk:As[k]?=some (Item.rhole v as i cs)) (hb:EB v b) (hc:(cs.drop fo).take m=cs') (hm:cs'.length=m) (ho:off=i*Rep.sz α+fo) (hT:∀w,(isAgg t).run P w=.ok true w) (hS:∀w,(sizeOf t).run P w=.ok m w) (hd:Nat.blt d n=true) (hx:ev l x=some (ptr b off))
  (h:WL P n ops K os ((d,.agg cs'.toArray)::l) w):WL P n ops K (⟨some d,.load t x,T,pos,aft,none⟩::os) l w :=
 WL_load_cells (cells_part (rhole_cell hC hk hb) hc ho) hm hT hS hd hx h
theorem WL_slice_hV {as bs:List α} {e:TypeId} {hi:Int} {k2:IntKind} (hu:P.underlying U=some (.slice e)) (hE:Ty P e α) (h:RO D w0 v as) (hs:sub as 0 hi=some bs) (hd:Nat.blt d n=true)
  (hx:ev l x=some v) (hz:ev l z=some (.int k2 hi)) (k:∀v',(∀{D':List Nat} {w':World},RO D' w' v as→RO D' w' v' bs)→WL P n ops K os ((d,v')::l) w) :
  WL P n ops K (⟨some d,.slice U x none (some z) none,T,pos,aft,none⟩::os) l w:=by
 obtain ⟨p,cap,rfl,h1,h2,_⟩:=ro_slice h
 have hp:∀{D':List Nat} {w':World},RO D' w' (.slice p as.length cap) as→RO D' w' _ bs:=fun h=>h.part hs
 unfold sub at hs
 split at hs
 ·rename_i hc
  obtain ⟨c1,c2,c3⟩:=hc
  refine WL_val rfl rfl hd (fun ρ hρ=>?_) (k _ hp)
  have e1:(hi.toNat:Int)=hi:=Int.toNat_of_nonneg (by omega)
  simp [execOp,hρ x _ hx,hρ z _ hz,Instr.sliceAt,Instr.slice,run_underlying hu,Instr.sliceBounds,Instr.sliceBound,asIntOf,hE.size,e1,(show 0≤hi by omega),(show hi≤(cap:Int) by omega)]
 ·cases hs
theorem WL_slice_lV {as bs:List α} {e:TypeId} {lo:Int} {k1:IntKind} (hu:P.underlying U=some (.slice e)) (hE:Ty P e α) (h:RO D w0 v as) (hs:sub as lo as.length=some bs) (hd:Nat.blt d n=true)
  (hx:ev l x=some v) (hy:ev l y=some (.int k1 lo)) (k:∀v',(∀{D':List Nat} {w':World},RO D' w' v as→RO D' w' v' bs)→WL P n ops K os ((d,v')::l) w) :
  WL P n ops K (⟨some d,.slice U x (some y) none none,T,pos,aft,none⟩::os) l w:=by
 obtain ⟨p,cap,rfl,h1,h2,_⟩:=ro_slice h
 have hp:∀{D':List Nat} {w':World},RO D' w' (.slice p as.length cap) as→RO D' w' _ bs:=fun h=>h.part hs
 unfold sub at hs
 split at hs
 ·rename_i hc
  obtain ⟨c1,c2,c3⟩:=hc
  refine WL_val rfl rfl hd (fun ρ hρ=>?_) (k _ hp)
  simp [execOp,hρ x _ hx,hρ y _ hy,Instr.sliceAt,Instr.slice,run_underlying hu,Instr.sliceBounds,Instr.sliceBound,asIntOf,hE.size,c1,c2]
 ·cases hs
end
section
variable {P:Program} {fn:Func} {R:Ending→World→Prop} {l:Env} {w:World}
theorem fn_retG4 {r1 r2 r3 r4:ResultVar} {v1 v2 v3 v4:Value} (hr:fn.results=#[r1,r2,r3,r4]) (h1:RVal P fn.ntmps r1 l w v1) (h2:RVal P fn.ntmps r2 l w v2) (h3:RVal P fn.ntmps r3 l w v3) (h4:RVal P fn.ntmps r4 l w v4) (h:R (.returned (.tuple #[v1,v2,v3,v4])) w):fnPost P fn R .ret l w :=
 ⟨_,fun a ha=>by have g1:=h1 a ha; have g2:=h2 a ha; have g3:=h3 a ha; have g4:=h4 a ha; rw [results_rvg,hr]; simp [g1,g2,g3,g4],h⟩
theorem fn_ret4 {t1 t2 t3 t4:Tmp} {v1 v2 v3 v4:Value} (hr:fn.results=#[.tmp t1,.tmp t2,.tmp t3,.tmp t4]) (h1:look l t1=some v1) (h2:look l t2=some v2) (h3:look l t3=some v3) (h4:look l t4=some v4) (h:R (.returned (.tuple #[v1,v2,v3,v4])) w):fnPost P fn R .ret l w :=
 fn_retG4 hr (rv_tmp h1) (rv_tmp h2) (rv_tmp h3) (rv_tmp h4) h
end
def NilB (v:Value) (b:Bool):Prop:=∃p n c,v=.slice p n c∧p.isNone=b
theorem app_ne {α:Type} {a:List α} {x:α} {xs r:List α} (h:app a (x::xs)=some r):r≠[]:=by
 obtain ⟨_,rfl⟩:=app_some h
 simp
theorem nilB_nil:NilB (.slice none 0 0) true:=⟨_,_,_,rfl,rfl⟩
theorem nilB_some {a:Addr} {n c:Nat}:NilB (.slice (some a) n c) false:=⟨_,_,_,rfl,rfl⟩
section
variable {α β:Type} [Rep α] [Rep β] {P:Program} {w w0 w':World} {t e:TypeId}
variable {n:Nat} {l:Env} {ops:Array Oper} {K:Env→World→Prop} {os:List Oper} {d:Nat} {T U:TypeId} {pos:String} {aft:Array Edge} {x y z:Operand} {v u c xv:Value} {D:List Nat} {As Bs:List Item} {g:Option (Nat × Bool)}
theorem nilB_own {as:List α} (hC:Ctx D w0 w As) (k:Nat) (hk:As[k]?=some (Item.own v as)) (h:as≠[]):NilB v false:=by
 obtain ⟨F,hF⟩:=hC.get hk
 rcases own_slice hF with ⟨_,h2,_⟩ | ⟨b,cap,row,T,cells,Fe,h1,_⟩
 ·exact (h h2).elim
 ·exact ⟨_,_,_,h1,rfl⟩
theorem run_nil {b:Bool} (hu:P.underlying U=some (.slice e)) (h:NilB v b):(Op.equal U v (.slice none 0 0)).run P w=.ok b w:=by
 obtain ⟨p,m,cap,rfl,rfl⟩:=h
 unfold Op.equal Op.maxDepth Op.equalIn
 cases p <;> simp [run_underlying hu]
theorem WL_nil_eql {V:TypeId} {b:Bool} (hu:P.underlying U=some (.slice e)) (h:NilB v b) (hd:Nat.blt d n=true) (hx:ev l x=some v)
  (k:WL P n ops K os ((d,.bool b)::l) w):WL P n ops K (⟨some d,.binOp .eql U x (.const (.slice none 0 0)) V,T,pos,aft,none⟩::os) l w:=by
 have hq:=run_nil (w:=w) hu h
 obtain ⟨p,m,cap,rfl,hb⟩:=h
 refine WL_val rfl rfl hd (fun ρ hρ=>?_) k
 have hc:ρ (.const (.slice none 0 0))=.slice none 0 0:=hρ _ _ rfl
 have hg:(eqGuard .eql U x (.const (.slice none 0 0)) (.slice p m cap) (.slice none 0 0)).run P w=.ok () w:=rfl
 simp only [execOp,hρ x _ hx,hc,Sem.run_bind,hg,Result.andThen_ok,binOp,hq,Sem.run_pure]
theorem WL_nil_neq {V:TypeId} {b:Bool} (hu:P.underlying U=some (.slice e)) (h:NilB v b) (hd:Nat.blt d n=true) (hx:ev l x=some v)
  (k:WL P n ops K os ((d,.bool (!b))::l) w):WL P n ops K (⟨some d,.binOp .neq U x (.const (.slice none 0 0)) V,T,pos,aft,none⟩::os) l w:=by
 have hq:=run_nil (w:=w) hu h
 obtain ⟨p,m,cap,rfl,hb⟩:=h
 refine WL_val rfl rfl hd (fun ρ hρ=>?_) k
 have hc:ρ (.const (.slice none 0 0))=.slice none 0 0:=hρ _ _ rfl
 have hg:(eqGuard .neq U x (.const (.slice none 0 0)) (.slice p m cap) (.slice none 0 0)).run P w=.ok () w:=rfl
 simp only [execOp,hρ x _ hx,hc,Sem.run_bind,hg,Result.andThen_ok,binOp,hq,Sem.run_pure]
end
end Go.Gx
