/- What the printed proofs need of types: zero values, literals of structs, cells of slices. Conditions: none. -/
import Derived.Test.YthidohmobbomfaaGreatGxJ
import Derived.Laws.Strings2
set_option linter.unusedVariables false
set_option linter.unusedSimpArgs false
namespace Go.Gx
open Go.RowKit
abbrev Str.of (l:List UInt8):Str:=l
section
variable {α β:Type} [Rep α] [Rep β] {P:Program} {w w0 w':World} {t e:TypeId}
variable {n:Nat} {l:Env} {ops:Array Oper} {K:Env→World→Prop} {os:List Oper} {d:Nat} {T U:TypeId} {pos:String} {aft:Array Edge} {x y z:Operand} {v u c xv:Value} {D:List Nat} {As:List Item}

theorem zero_run {i:TypeInfo} {z:Value} (hi:P.info? t=some i) (hz:i.zero=some z):∀w,(zeroValue t).run P w=.ok z w:=fun w=>by
 simp [zeroValue,typeInfo,hi,hz]
theorem zc_of {i:TypeInfo} {z:Value} {zc:List Value} (hi:P.info? t=some i) (hz:i.zero=some z) (hc:z.cells.toList=zc):∀i z,P.info? t=some i→i.zero=some z→z.cells.toList=zc:=by
 intro i' z' h1 h2
 rw [hi] at h1; cases h1
 rw [hz] at h2; cases h2
 exact hc
theorem built_of {i:TypeInfo} {fields:Array Field} {z:List Value} {zv:Value} {places:List (Nat × Nat)} {parts:List (Nat × Value)} {cells:Array Value} (hi:P.info? t=some i) (hu:P.underlying t=some (.struct fields)) (hz:i.zero=some zv) (hc:zv.cells=z.toArray)
  (hp:fields.toList.mapM (fun f=>(P.info? f.type).map fun i=>(f.offset,i.size))=some places) (h:Instr.fill (places.toArray[·]?) z.toArray parts=some cells):P.built t parts=some cells:=by
 unfold Program.built
 simp only [hi,hu,hz,hp,hc]
 exact h
theorem ro_cells {v:Value} {as:List α} (h:RO D w v as):v.cells.toList=[v]:=by
 obtain ⟨p,cap,rfl,_⟩:=ro_slice h
 rfl
theorem ro_one {v:Value} {as:List α} (h:RO D w v as):v.oneCell'=true:=by
 obtain ⟨p,cap,rfl,_⟩:=ro_slice h
 rfl
theorem WL_index_own {as:List α} {i:Int} {a:α} {kd:IntKind} (hC:Ctx D w0 w As) (k:Nat) (hk:As[k]?=some (Item.own v as)) (hu:P.underlying U=some (.slice e)) (hE:Ty P e α) (hi:idx as i=some a) (hd:Nat.blt d n=true)
  (hx:ev l x=some v) (hy:ev l y=some (.int kd i)) (h:∀b,EB v b→WL P n ops K os ((d,ptr b (Int.toNat i*Rep.sz α))::l) w):WL P n ops K (⟨some d,.indexAddr U x y,T,pos,aft,none⟩::os) l w:=by
 obtain ⟨b,off,cap,hv,h1⟩:=(hC.ro k hk).at hi
 obtain ⟨F,hF⟩:=hC.get hk
 obtain ⟨b',hb⟩:=own_get hF hi
 obtain ⟨len,cap',hv'⟩:=hb
 rw [hv'] at hv
 simp only [Value.slice.injEq,Option.some.injEq,Addr.mk.injEq] at hv
 obtain ⟨⟨rfl,rfl,_⟩,rfl,rfl⟩:=hv
 subst hv'
 obtain ⟨h0,hlt,_⟩:=idx_some hi
 refine WL_val rfl rfl hd (fun ρ hρ=>?_) (h _ ⟨_,_,rfl⟩)
 have hlt':i<(as.length:Int):=by omega
 simp [execOp,hρ x _ hx,hρ y _ hy,Instr.indexAt,asIntOf,run_underlying hu,h0,hlt',hE.size,ptr_add]
theorem ro_of_own {v:Value} {a:α} {F:List Nat} (h:Val true w v a F):RO [] w v a:=⟨F,Val.weak h,by simp⟩
theorem WL_callv {f:FuncId} {xs:List Operand} {vs cap:List Value} {ts:Array TypeId} {R:Value→World→Prop} (hc:∀args w,(callFunc f args).run P w=.ok (.enter f args) w) (hd:Nat.blt d n=true) (hx:evs l xs=some vs) (hf:ev l y=some (.func (.func f) #[] cap.toArray))
  (hcall:Calls P f (vs++cap).toArray w fun e w'=>∃v,e=.returned v∧R v w') (h:∀v w',R v w'→WL P n ops K os ((d,v)::l) w') :
  WL P n ops K (⟨some d,.call ⟨.value y,xs.toArray,ts⟩,T,pos,aft,none⟩::os) l w:=fun ac ha =>
 wpList_plain rfl fun K' hK=>by
  unfold Oper.wp
  have e:(execOp ac.eval ⟨some d,.call ⟨.value y,xs.toArray,ts⟩,T,pos,aft,none⟩).run P w=.ok (.enter f (vs++cap).toArray) w:=by
   have hy:ac.eval y=.func (.func f) #[] cap.toArray:=ha.ev hf
   simp [execOp,resolve,hy,Deferred.ofValue,invoke,ha.evs hx,hc]
  rw [e]
  simp only [Oper.upon]
  refine hcall.mono ?_
  rintro e w' ⟨v,rfl,hv⟩
  exact hK _ _ (h v w' hv _ (ha.put (by simpa [Nat.blt_eq] using hd) v))
end
end Go.Gx
