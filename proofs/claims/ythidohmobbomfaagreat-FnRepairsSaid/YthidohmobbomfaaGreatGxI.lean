/- Literals of slices, make, stores into elements of owned slices, results in memory. Conditions: none. -/
import Derived.Test.YthidohmobbomfaaGreatGxH
import Derived.Great.BuildSlice
set_option linter.unusedVariables false
set_option linter.unusedSimpArgs false
namespace Go.Gx
open Go.RowKit

def Item.row {α:Type} [Rep α] (cs:List Value) (as:List α):Item:=⟨fun w F=>elems true w cs as F,elems_frame,elems_inh⟩

section
variable {α β:Type} [Rep α] [Rep β] {P:Program} {w w0 w':World} {t e:TypeId}
variable {n:Nat} {l:Env} {ops:Array Oper} {K:Env→World→Prop} {os:List Oper} {d:Nat} {T U:TypeId} {pos:String} {aft:Array Edge} {x y z:Operand} {v u c xv:Value} {D:List Nat} {As:List Item}

theorem Ctx.row0 (h:Ctx D w0 w As):Ctx D w0 w (Item.row (α:=α) [] []::As) :=
 h.push (A:=Item.row (α:=α) [] []) (F:=[]) (Below.refl _ _) ⟨rfl,rfl⟩ (by simp) (by simp)
theorem Ctx.row1 {a:α} {cs:List Value} {as:List α} (h:Ctx D w0 w (Item.own v a::Item.row cs as::As)):Ctx D w0 w (Item.row (v.cells.toList++cs) (a::as)::As) :=
 h.merge (C:=Item.row (v.cells.toList++cs) (a::as)) fun w F G (hF:Val true w v a F) hG=>⟨_,_,F,G,rfl,rfl,hF.cells,hG⟩
theorem Ctx.rowOwn {b:Nat} {cs:List Value} {as:List α} (h:Ctx D w0 w (Item.box b cs::Item.row cs as::As)) (hlim:as.length≤maxLen):Ctx D w0 w (Item.own (.slice (some ⟨b,0,none⟩) as.length as.length) as::As) :=
 h.merge (C:=Item.own (.slice (some ⟨b,0,none⟩) as.length as.length) as) fun w F G hF (hG:elems true w cs as G)=>by
  obtain ⟨rfl,T,hb⟩:=hF
  have hl:=elems_len hG
  exact slice_own hb hG (by rw [←hl]; exact List.take_length) (by simp [hl]) (Nat.le_refl _) hlim

theorem fill_dense (sz:Nat):∀(vs:List Value) (k:Nat) (pre rest:List Value),pre.length=k*sz→rest.length=vs.length*sz→(∀v∈vs,v.cells.toList.length=sz) →
  Instr.fill (fun i=>some (i*sz,sz)) (pre++rest).toArray ((vs.zipIdx k).map fun p=>(p.2,p.1))=some (pre++vs.flatMap fun v=>v.cells.toList).toArray
 | [],k,pre,rest,h1,h2,h3=>by
  have:rest=[]:=List.eq_nil_of_length_eq_zero (by simpa using h2)
  subst this
  simp [Instr.fill]
 | v::vs,k,pre,rest,h1,h2,h3=>by
  have hv:=h3 v (by simp)
  have h2':rest.length=vs.length*sz+sz:=by rw [h2,List.length_cons,Nat.succ_mul]
  rw [List.zipIdx_cons,List.map_cons]
  refine fill_step (cs:=v.cells.toList) (off:=k*sz) (cells':=(pre++v.cells.toList)++rest.drop sz) (by rw [hv]) rfl (by simp only [Nat.ble_eq,List.length_append,h1,hv,h2']; omega) ?_ ?_
  ·rw [←h1,hv]
   simp [List.drop_append]
  ·rw [fill_dense sz vs (k+1) (pre++v.cells.toList) (rest.drop sz) (by rw [List.length_append,h1,hv,Nat.succ_mul]) (by rw [List.length_drop,h2']; omega) (fun v hv=>h3 v (by simp [hv]))]
   simp

theorem WL_buildSlice {len:Nat} {parts:List (Nat × Operand)} {vs cs:List Value} (hC:Ctx D w0 w As) (hu:P.underlying U=some (.slice e)) (hE:Ty P e α) (hlen:vs.length=len) (hsm:Nat.ble (len*Rep.sz α) 16777216=true)
  (hi:parts.map (·.1)=(vs.zipIdx 0).map (·.2)) (hv:parts.map (fun p=>ev l p.2)=vs.map some) (hsz:∀v∈vs,v.cells.toList.length=Rep.sz α) (hcs:(vs.flatMap fun v=>v.cells.toList)=cs) (hd:Nat.blt d n=true)
  (k:∀b w',Ctx D w0 w' (Item.box b cs::As)→Below w.heap.size w w'→WL P n ops K os ((d,.slice (some ⟨b,0,none⟩) len len)::l) w'):WL P n ops K (⟨some d,.buildSlice U len parts.toArray,T,pos,aft,none⟩::os) l w:=by
 refine WL_run (w':=w.alloc (.cells cs.toArray e)) rfl rfl hd (fun ρ hρ=>?_) (k w.heap.size _ (hC.box (b:=0)) (below_alloc w _))
 obtain ⟨i,z,hi',hs,hby,hz,hzs⟩:=hE.info
 have hp:(parts.toArray.map fun (i,x)=>(i,ρ x)).toList=(vs.zipIdx 0).map fun p=>(p.2,p.1):=by
  have key:∀(parts:List (Nat × Operand)) (vs:List Value) (k:Nat),parts.map (·.1)=(vs.zipIdx k).map (·.2)→parts.map (fun p=>ev l p.2)=vs.map some→(parts.map fun p=>(p.1,ρ p.2))=(vs.zipIdx k).map fun p=>(p.2,p.1):=by
   intro parts
   induction parts with
   | nil=>intro vs k h1 h2; cases vs with
    | nil=>rfl
    | cons v vs=>simp at h2
   | cons p ps ih =>
    intro vs k h1 h2
    cases vs with
    | nil=>simp at h2
    | cons v vs =>
     simp only [List.map_cons,List.zipIdx_cons,List.cons.injEq] at h1 h2 ⊢
     exact ⟨by rw [h1.1,hρ _ _ h2.1],ih vs (k+1) h1.2 h2.2⟩
  rw [Array.toList_map]
  exact key parts vs 0 hi hv
 have hsm':len*Rep.sz α≤16777216:=by simpa using hsm
 have hfill:=fill_dense (Rep.sz α) vs 0 [] (((Array.range (len*Rep.sz α)).map (z.cells[· % z.cells.size]!)).toList) (by simp) (by simp [hlen]) hsz
 simp only [List.nil_append,Array.toArray_toList,hcs] at hfill
 have hrun:(Instr.buildSlice U len (parts.toArray.map fun (i,x)=>(i,ρ x))).run P w=.ok (.slice (some ⟨w.heap.size,0,none⟩) len len) (w.alloc (.cells cs.toArray e)):=by
  generalize (parts.toArray.map fun (i,x)=>(i,ρ x))=X at hp
  rw [←hp] at hfill
  by_cases h0:len*Rep.sz α=0
  ·have h0':((Array.range (len*Rep.sz α)).map (z.cells[· % z.cells.size]!))=#[]:=by rw [h0]; simp
   rw [h0'] at hfill
   have hr0:Array.range 0=#[]:=by simp
   simp [Instr.buildSlice,run_underlying hu,sizeOf,typeInfo,zeroValue,hi',hs,h0,newRow,hr0,hfill]
  ·exact run_buildSlice (P:=P) w U e len X cs.toArray i z hu hi' hz (by rw [hs]; omega) (by rw [hs]; exact h0) (by rw [hs]; exact hfill)
 clear hfill hp hcs hsz hv hi hlen
 simp only [execOp,Sem.run_bind,hrun,Result.andThen_ok,Sem.run_pure]

def mk {α:Type} (c:Int) (z:α):Option (List α):=if 0≤c∧c≤LIM then some (List.replicate c.toNat z) else none
def EB (v:Value) (b:Nat):Prop:=∃len cap,v=.slice (some ⟨b,0,none⟩) len cap
theorem own_get {w:World} {as:List α} {i:Int} {a:α} {F:List Nat} (h:Val true w v as F) (hi:idx as i=some a):∃b,EB v b:=by
 rcases own_slice h with ⟨rfl,rfl,rfl⟩ | ⟨b,cap,row,T,cells,Fe,rfl,_⟩
 ·obtain ⟨h0,h1,_⟩:=idx_some hi; simp at h1
 ·exact ⟨b,_,_,rfl⟩
theorem Ctx.at {as:List α} {i:Int} {a:α} {b:Nat} (h:Ctx D w0 w As) (k:Nat) (hk:As[k]?=some (Item.own v as)) (hb:EB v b) (hi:idx as i=some a):ROAt [] w b (i.toNat*Rep.sz α) a:=by
 obtain ⟨b',off,cap,e,h1⟩:=(h.ro k hk).at hi
 obtain ⟨len,cap',rfl⟩:=hb
 obtain ⟨F,hF⟩:=h.get hk
 rcases own_slice hF with ⟨h2,_⟩ | ⟨b2,cap2,row,T,cells,Fe,h2,h4,hFe,h5,h6,h8,_⟩
 ·cases h2
 ·simp only [Value.slice.injEq,Option.some.injEq,Addr.mk.injEq] at h2
  obtain ⟨⟨rfl,_⟩,rfl,rfl⟩:=h2
  obtain ⟨h0,hlt,hg⟩:=idx_some hi
  obtain ⟨G,h7,h9⟩:=elems_get (elems_weak h5) hg
  refine ⟨by simp,row,T,(0,0),G,h4,?_,by simp⟩
  have:(row.toList.drop (i.toNat*Rep.sz α)).take (Rep.sz α)=(cells.drop (i.toNat*Rep.sz α)).take (Rep.sz α):=by
   rw [←h6,List.drop_take,List.take_take]
   congr 1
   have:(i.toNat+1)*Rep.sz α≤as.length*Rep.sz α:=Nat.mul_le_mul_right _ (by omega)
   rw [Nat.succ_mul] at this
   omega
  rw [this]; exact h7
end
end Go.Gx
