/- Stores into elements of owned slices, results in memory, conversions. Conditions: none. -/
import Derived.Test.YthidohmobbomfaaGreatGxI
import Derived.Laws.BytesArg
set_option linter.unusedVariables false
set_option linter.unusedSimpArgs false
namespace Go.Gx
open List renaming mem_append_right→qb,take_length_add_append→qc,append_assoc→qd
open Go.RowKit
section
variable {α β:Type} [Rep α] [Rep β] {P:Program} {w w0 w':World} {t e:TypeId}
variable {n:Nat} {l:Env} {ops:Array Oper} {K:Env→World→Prop} {os:List Oper} {d:Nat} {T U:TypeId} {pos:String} {aft:Array Edge} {x y z:Operand} {v u c xv:Value} {D:List Nat} {As:List Item}

theorem elems_set {w:World} {new:List Value} {G:List Nat} {y:α} (hy:Rep.rep true w new y G) (hG:G.Nodup):∀{l:List α} {cs:List Value} {F:List Nat},elems true w cs l F→F.Nodup→(∀b∈F,b ∉ G)→∀{i:Nat},i<l.length →
  ∃F',elems true w (cs.take (i*Rep.sz α)++new++cs.drop (i*Rep.sz α+Rep.sz α)) (l.set i y) F'∧F'.Nodup∧∀b∈F',b∈F∨b∈G
 | [],_,_,_,_,_,i,h=>by simp at h
 | x::l,_,_,⟨c,cs',F1,F2,rfl,rfl,h1,h2⟩,hn,hd,i,h=>by
  have hc:=Rep.len h1
  rw [List.nodup_append] at hn
  cases i with
  | zero =>
   refine ⟨G++F2,⟨new,cs',G,F2,?_,rfl,hy,h2⟩,?_,?_⟩
   ·simp [←hc]
   ·exact List.nodup_append.2 ⟨hG,hn.2.1,fun a ha b hb e=>by subst e; exact hd a (qb _ hb) ha⟩
   ·intro b hb
    rcases List.mem_append.1 hb with hb | hb
    ·exact .inr hb
    ·exact .inl (qb _ hb)
  | succ i =>
   obtain ⟨F',h3,h4,h5⟩:=elems_set hy hG h2 hn.2.1 (fun b hb=>hd b (qb _ hb)) (i:=i) (by simpa using h)
   refine ⟨F1++F',⟨c,_,F1,F',?_,rfl,h1,h3⟩,?_,?_⟩
   ·rw [show (i+1)*Rep.sz α=c.length+i*Rep.sz α by rw [Nat.succ_mul,hc]; omega,qc,show c.length+i*Rep.sz α+Rep.sz α=c.length+(i*Rep.sz α+Rep.sz α) by omega,List.drop_length_add_append]
    simp
   ·refine List.nodup_append.2 ⟨hn.1,h4,fun a ha b hb e=>?_⟩
    subst e
    rcases h5 a hb with h6 | h6
    ·exact hn.2.2 a ha a h6 rfl
    ·exact hd a (List.mem_append_left _ ha) h6
   ·intro b hb
    rcases List.mem_append.1 hb with hb | hb
    ·exact .inl (List.mem_append_left _ hb)
    ·exact (h5 b hb).imp (qb _) id

theorem WL_store_elem {t:TypeId} {as:List α} {i:Int} {a ya:α} {b off:Nat} (hC:Ctx D w0 w (Item.own u ya::As)) (k:Nat) (hk:As[k]?=some (Item.own v as)) (hE:Ty P t α) (hb:EB v b) (hi:idx as i=some a) (ho:off=i.toNat*Rep.sz α)
  (hx:ev l x=some (ptr b off)) (hy:ev l y=some u) (h:∀w',Ctx D w0 w' (As.set k (Item.own v (as.set i.toNat ya)))→WL P n ops K os l w'):WL P n ops K (⟨none,.store t x y,T,pos,aft,none⟩::os) l w:=by
 subst ho
 obtain ⟨F,G,hA,hn,hB,hG,hFG,hkk⟩:=hC.focus2 hk
 obtain ⟨len,cap',rfl⟩:=hb
 obtain ⟨h0,hlt,_⟩:=idx_some hi
 rcases own_slice hA with ⟨h2,_⟩ | ⟨b2,cap,row,T',cells,Fe,h2,h4,rfl,h5,h6,h8,h9,h10⟩
 ·cases h2
 ·simp only [Value.slice.injEq,Option.some.injEq,Addr.mk.injEq] at h2
  obtain ⟨⟨rfl,_⟩,rfl,rfl⟩:=h2
  rw [List.nodup_cons] at hn
  have hB':Rep.rep true w u.cells.toList ya G:=hB.cells
  have hl:=Rep.len hB'
  obtain ⟨F',g1,g2,g3⟩:=elems_set hB' hG h5 hn.2 (fun c hc=>hFG c (List.mem_cons_of_mem _ hc)) hlt
  have hmul:(i.toNat+1)*Rep.sz α≤as.length*Rep.sz α:=Nat.mul_le_mul_right _ hlt
  have hmul2:as.length*Rep.sz α≤cap'*Rep.sz α:=Nat.mul_le_mul_right _ h9
  rw [Nat.succ_mul] at hmul
  have hst:=run_storeCells_at P b (i.toNat*Rep.sz α) T' u.cells.toList 0 row w h4 (by rw [hl]; omega) (Rep.one hB')
  simp only [Nat.add_zero] at hst
  have hnew:(w.setRow b (row.toList.take (i.toNat*Rep.sz α)++u.cells.toList++row.toList.drop (i.toNat*Rep.sz α+u.cells.toList.length)).toArray).heap[b]?=some (.cells (row.toList.take (i.toNat*Rep.sz α)++u.cells.toList++row.toList.drop (i.toNat*Rep.sz α+u.cells.toList.length)).toArray T' (0,0)):=setRow_heap w b row _ T' _ h4
  have hoth:∀c,c≠b→(w.setRow b (row.toList.take (i.toNat*Rep.sz α)++u.cells.toList++row.toList.drop (i.toNat*Rep.sz α+u.cells.toList.length)).toArray).heap[c]?=w.heap[c]?:=fun c hc=>setRow_other w b c _ hc
  refine WL_run0 (w':=w.setRow b (row.toList.take (i.toNat*Rep.sz α)++u.cells.toList++row.toList.drop (i.toNat*Rep.sz α+u.cells.toList.length)).toArray) rfl rfl (fun ρ hρ=>?_) (h _ (hkk _ _ (b::F') ?_ ?_ ?_ ?_))
  ·have hsz:u.cells.size=Rep.sz α:=by simpa using hl
   simp only [qd] at hst
   simp [execOp,hρ x _ hx,hρ y _ hy,Instr.storeAt,Instr.sureAddr,storeVar,hE.size,hsz,hst]
  ·exact ⟨rfl,rfl,rfl,by simp,fun j hj hjb=>hoth j (fun hc=>hjb (by simp [hc]))⟩
  ·show Val true _ _ (as.set i.toNat ya) (b::F')
   have hbF:∀c∈F',c≠b:=fun c hc hcb=>by
    subst hcb
    rcases g3 c hc with h7 | h7
    ·exact hn.1 h7
    ·exact hFG c (by simp) h7
   have hlen':(as.set i.toNat ya).length=as.length:=by simp
   rw [show as.length=(as.set i.toNat ya).length from hlen'.symm]
   refine slice_own hnew (elems_frame g1 fun c hc=>hoth c (hbF c hc)) ?_ ?_ (by rw [hlen']; exact h9) h10
   ·rw [hlen',hl,←h6]
    have e1:(row.toList.take (as.length*Rep.sz α)).take (i.toNat*Rep.sz α)=row.toList.take (i.toNat*Rep.sz α):=by rw [List.take_take]; congr 1; omega
    rw [e1,qd,qd]
    have hl1:(row.toList.take (i.toNat*Rep.sz α)).length=i.toNat*Rep.sz α:=by rw [List.length_take,Array.length_toList,h8]; omega
    rw [show as.length*Rep.sz α=(row.toList.take (i.toNat*Rep.sz α)).length+(u.cells.toList.length+(as.length*Rep.sz α-(i.toNat*Rep.sz α+Rep.sz α))) by rw [hl1,hl]; omega,qc,qc,hl1,hl,←List.drop_take]
    congr 3
    congr 1; omega
   ·simp only [List.size_toArray,List.length_append,List.length_take,List.length_drop,Array.length_toList,h8,hl]
    omega
  ·rw [List.nodup_cons]
   refine ⟨fun hb=>?_,g2⟩
   rcases g3 b hb with h7 | h7
   ·exact hn.1 h7
   ·exact hFG b (by simp) h7
  ·intro c hc
   rcases List.mem_cons.1 hc with rfl | hc
   ·exact .inl (by simp)
   ·rcases g3 c hc with h7 | h7
    ·exact .inl (List.mem_cons_of_mem _ h7)
    ·exact .inr (.inl h7)

def rvg (tmps:Array Value):ResultVar→Sem Value
 | .tmp t=>pure (tmps.getD t undef)
 | .cell s t=>do loadVar t (←asAddr (tmps.getD s undef))
theorem results_rvg (fn:Func) (tmps:Array Value):results fn tmps=(do
  let vs ←fn.results.mapM (rvg tmps)
  pure (if h:vs.size=1 then vs[0] else .tuple vs)):=by
 unfold results
 congr 1
def RVal (P:Program) (n:Nat) (rv:ResultVar) (l:Env) (w:World) (v:Value):Prop :=
 ∀a,Agr n l a→(rvg a.tmps rv).run P w=.ok v w
theorem rv_tmp {t:Tmp} (h:look l t=some v):RVal P n (.tmp t) l w v:=fun a ha=>by simp only [rvg,ha.look t v h,Sem.run_pure]
theorem rv_cell_agg {s:Tmp} {t:TypeId} {b k m i:Nat} {cs cs':List Value} (hC:Ctx D w0 w As) (hi:As[i]?=some (Item.box b cs)) (hcs:(cs.drop k).take m=cs') (hm:cs'.length=m) (hT:∀w,(isAgg t).run P w=.ok true w) (hS:∀w,(sizeOf t).run P w=.ok m w) (h:look l s=some (ptr b k)) :
  RVal P n (.cell s t) l w (.agg cs'.toArray):=fun a ha=>by
 simp only [rvg,ha.look s _ h]
 simp [asAddr,run_load_box_agg hC hi hcs hm (hT w) (hS w)]
variable {fn:Func} {R:Ending→World→Prop} {r1 r2 r3:ResultVar} {v1 v2 v3:Value}
theorem fn_retG1 (hr:fn.results=#[r1]) (h1:RVal P fn.ntmps r1 l w v1) (h:R (.returned v1) w):fnPost P fn R .ret l w :=
 ⟨v1,fun a ha=>by have g1:=h1 a ha; rw [results_rvg,hr]; simp [g1],h⟩
theorem fn_retG2 (hr:fn.results=#[r1,r2]) (h1:RVal P fn.ntmps r1 l w v1) (h2:RVal P fn.ntmps r2 l w v2) (h:R (.returned (.tuple #[v1,v2])) w):fnPost P fn R .ret l w :=
 ⟨_,fun a ha=>by have g1:=h1 a ha; have g2:=h2 a ha; rw [results_rvg,hr]; simp [g1,g2],h⟩
theorem WL_isnil {V:TypeId} {as:List α} {wa:World} (hu:P.underlying U=some (.slice e)) (h:RO D wa v as) (hd:Nat.blt d n=true) (hx:ev l x=some v)
  (k:∀b,(b=true→as=[])→WL P n ops K os ((d,.bool b)::l) w):WL P n ops K (⟨some d,.binOp .eql U x (.const (.slice none 0 0)) V,T,pos,aft,none⟩::os) l w:=by
 obtain ⟨p,cap,rfl,h1,h2,h3⟩:=ro_slice h
 have hp:p.isNone=true→as=[]:=by
  intro hn
  rcases h3 with h3 | h3 | ⟨b,off,row,T,fz,cells,Fe,rfl,_⟩
  ·exact h3.2.2
  ·exact h3.1
  ·cases hn
 refine WL_val rfl rfl hd (fun ρ hρ=>?_) (k p.isNone hp)
 have hc:ρ (.const (.slice none 0 0))=.slice none 0 0:=hρ _ _ rfl
 have hg:(eqGuard .eql U x (.const (.slice none 0 0)) (.slice p as.length cap) (.slice none 0 0)).run P w=.ok () w:=rfl
 have hq:(Op.equal U (.slice p as.length cap) (.slice none 0 0)).run P w=.ok p.isNone w:=by
  unfold Op.equal Op.maxDepth Op.equalIn
  cases p <;> simp [run_underlying hu]
 simp only [execOp,hρ x _ hx,hc,Sem.run_bind,hg,Result.andThen_ok,binOp,hq,Sem.run_pure]

def u8 (x:Int):UInt8:=UInt8.ofNat (w8 x).toNat
end
end Go.Gx
