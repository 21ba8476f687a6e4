/- slices.DeleteFunc at owned slices: a row with a gap, its steps, and what comes out. Conditions: none. -/
import Derived.Test.YthidohmobbomfaaGreatGxZ
set_option linter.unusedVariables false
set_option linter.unusedSimpArgs false
namespace Go.Gx
open List renaming length_append→qb,append_assoc→qc,length_drop→qd,length_take→qf,flatten_append→qg,take_left→qi,flatten_cons→qj
open Nat renaming mul_le_mul_right→qe,min_eq_left→qh,add_mul→qk,add_zero→ql
open Go.RowKit
def dfl {α:Type} (del:α→Option Bool):List α→List α→Option (List α)
 | kept,[]=>some kept
 | kept,v::rest=>(del v).bind fun b=>dfl del (if b then kept else kept++[v]) rest
section
variable {α β:Type} [Rep α] [Rep β] {P:Program} {w w0 w':World} {t e:TypeId}
variable {n:Nat} {l:Env} {ops:Array Oper} {K:Env→World→Prop} {os:List Oper} {d:Nat} {T U:TypeId} {pos:String} {aft:Array Edge} {x y z:Operand} {v u c xv:Value} {D:List Nat} {As:List Item}

def Item.del (b c:Nat) (kept:List α) (g:Nat) (rest:List α):Item :=
 ⟨fun w F=>∃row T kc gc rc F1 F2,w.heap[b]?=some (.cells row T (0,0))∧F=b::(F1++F2)∧elems true w kc kept F1∧elems true w rc rest F2 ∧
   row.toList.take ((kept.length+g+rest.length)*Rep.sz α)=kc++gc++rc∧gc.length=g*Rep.sz α∧row.size=c*Rep.sz α∧kept.length+g+rest.length≤c∧c≤maxLen,
  fun ⟨row,T,kc,gc,rc,F1,F2,h1,h2,h3,h4,h5,h6,h7,h8,h9⟩ hf=>⟨row,T,kc,gc,rc,F1,F2,by rw [hf b (by simp [h2])]; exact h1,h2,elems_frame h3 fun k hk=>hf k (by simp [h2,hk]),elems_frame h4 fun k hk=>hf k (by simp [h2,hk]),h5,h6,h7,h8,h9⟩,
  fun ⟨row,T,kc,gc,rc,F1,F2,h1,h2,h3,h4,h5,h6,h7,h8,h9⟩ k hk=>by
   subst h2
   rcases List.mem_cons.1 hk with rfl | hk
   ·exact (Array.getElem?_eq_some_iff.1 h1).1
   ·rcases List.mem_append.1 hk with hk | hk
    ·exact elems_inh h3 k hk
    ·exact elems_inh h4 k hk⟩
def Item.delh (b c:Nat) (kept:List α) (g:Nat) (cs:List Value) (v:α) (rest:List α):Item :=
 ⟨fun w F=>∃row T kc gc rc F1 F2 F3,w.heap[b]?=some (.cells row T (0,0))∧F=b::(F1++(F2++F3))∧elems true w kc kept F1∧Rep.rep true w cs v F2∧elems true w rc rest F3 ∧
   row.toList.take ((kept.length+g+(rest.length+1))*Rep.sz α)=kc++gc++(cs++rc)∧gc.length=g*Rep.sz α∧row.size=c*Rep.sz α∧kept.length+g+(rest.length+1)≤c∧c≤maxLen,
  fun ⟨row,T,kc,gc,rc,F1,F2,F3,h1,h2,h3,h4,h4',h5,h6,h7,h8,h9⟩ hf=>⟨row,T,kc,gc,rc,F1,F2,F3,by rw [hf b (by simp [h2])]; exact h1,h2,elems_frame h3 fun k hk=>hf k (by simp [h2,hk]),Rep.frame h4 fun k hk=>hf k (by simp [h2,hk]),elems_frame h4' fun k hk=>hf k (by simp [h2,hk]),h5,h6,h7,h8,h9⟩,
  fun ⟨row,T,kc,gc,rc,F1,F2,F3,h1,h2,h3,h4,h4',h5,h6,h7,h8,h9⟩ k hk=>by
   subst h2
   rcases List.mem_cons.1 hk with rfl | hk
   ·exact (Array.getElem?_eq_some_iff.1 h1).1
   ·rcases List.mem_append.1 hk with hk | hk
    ·exact elems_inh h3 k hk
    ·rcases List.mem_append.1 hk with hk | hk
     ·exact Rep.inh h4 k hk
     ·exact elems_inh h4' k hk⟩

theorem Ctx.seen {A B:Item} (hC:Ctx D w0 w (A::As)) (h:∀F,A.p w F→F.Nodup→∃F',B.p w F'∧F'.Sublist F):Ctx D w0 w (B::As):=by
 obtain ⟨k,_,⟨F,Fs,rfl,hA,h1⟩,h2,h3⟩:=hC
 rw [qj] at h2 h3
 obtain ⟨F',hB,hs⟩:=h F hA (List.nodup_append.1 h2).1
 refine ⟨k,F'::Fs,⟨F',Fs,rfl,hB,h1⟩,?_,fun b hb=>h3 b ?_⟩
 ·rw [qj]; exact (hs.append_right _).nodup h2
 ·rw [qj] at hb; exact (hs.append_right _).subset hb
theorem Ctx.del_open {as:List α} {m:Nat} (hC:Ctx D w0 w (Item.own v as::As)) (hm:m<as.length) :
  ∃b c,v=.slice (some ⟨b,0,none⟩) as.length c∧as.length≤c∧c≤maxLen∧Ctx D w0 w (Item.del b c (as.take m) 1 (as.drop (m+1))::As):=by
 have hC':=hC
 obtain ⟨k,_,⟨F,Fs,rfl,hA,h1⟩,h2,h3⟩:=hC
 rcases own_slice hA with ⟨rfl,h0,rfl⟩ | ⟨b,cp,row,T,cells,Fe,rfl,h4,rfl,h5,h6,h8,h9,h10⟩
 ·rw [h0] at hm; simp at hm
 refine ⟨b,cp,rfl,h9,h10,hC'.seen fun F hF hn=>?_⟩
 rcases own_slice hF with ⟨h0,_⟩ | ⟨b2,cp2,row,T,cells,Fe,h0,h4,rfl,h5,h6,h8,h9,h10⟩
 ·cases h0
 simp only [Value.slice.injEq,Option.some.injEq,Addr.mk.injEq] at h0
 obtain ⟨⟨rfl,_⟩,_,rfl⟩:=h0
 obtain ⟨F1,F2,rfl,g1,g2⟩:=elems_split h5 m (by omega)
 obtain ⟨F3,F4,rfl,g3,g4⟩:=elems_split g2 1 (by rw [qd]; omega)
 have hcl:=elems_len h5
 rw [show (as.drop m).drop 1=as.drop (m+1) from List.drop_drop ..] at g4
 refine ⟨b::(F1++F4),⟨row,T,_,(cells.drop (m*Rep.sz α)).take (1*Rep.sz α),_,F1,F4,h4,rfl,g1,g4,?_,?_,h8,?_,h10⟩,?_⟩
 ·have e:(as.take m).length+1+(as.drop (m+1)).length=as.length:=by rw [qf,qd]; omega
  rw [e,h6,qc,List.take_append_drop,List.take_append_drop]
 ·rw [qf,qd,hcl,←Nat.sub_mul]
  exact qh (qe _ (by omega))
 ·rw [qf,qd]; omega
 ·exact List.Sublist.cons_cons _ ((List.Sublist.refl _).append (List.sublist_append_right _ _))
theorem Ctx.del_head {b cp g:Nat} {kept rest:List α} {a:α} (hC:Ctx D w0 w (Item.del b cp kept g (a::rest)::As)):∃cs,cs.length=Rep.sz α∧Ctx D w0 w (Item.delh b cp kept g cs a rest::As):=by
 have hC':=hC
 obtain ⟨k,_,⟨F,Fs,rfl,⟨row,T,kc,gc,rc,F1,F2,h1,h2,h3,⟨cs,rc',F3,F4,rfl,rfl,g1,g2⟩,h5,h6,h7,h8,h9⟩,hh⟩,hn,h3'⟩:=hC
 refine ⟨cs,Rep.len g1,k,F::Fs,⟨F,Fs,rfl,⟨row,T,kc,gc,rc',F1,F3,F4,h1,h2,h3,g1,g2,h5,h6,h7,h8,h9⟩,hh⟩,hn,h3'⟩
theorem Ctx.del_skip {b cp g:Nat} {kept rest:List α} {a:α} {cs:List Value} (hC:Ctx D w0 w (Item.delh b cp kept g cs a rest::As)):Ctx D w0 w (Item.del b cp kept (g+1) rest::As) :=
 hC.seen fun F ⟨row,T,kc,gc,rc,F1,F2,F3,h1,h2,h3,h4,h4',h5,h6,h7,h8,h9⟩ hn=>by
  have e:kept.length+(g+1)+rest.length=kept.length+g+(rest.length+1):=by omega
  refine ⟨b::(F1++F3),⟨row,T,kc,gc++cs,rc,F1,F3,h1,rfl,h3,h4',?_,?_,h7,by omega,h9⟩,?_⟩
  ·rw [e,h5]; simp
  ·rw [qb,h6,Rep.len h4,qk,Nat.one_mul]
  ·subst h2; exact List.Sublist.cons_cons _ ((List.Sublist.refl _).append (List.sublist_append_right _ _))
theorem Ctx.delh_row {b cp g:Nat} {kept rest:List α} {a:α} {cs:List Value} (hC:Ctx D w0 w (Item.delh b cp kept g cs a rest::As)) :
  RO [] w (mkv (Rep.agg α) cs) a∧∃row T,w.heap[b]?=some (.cells row T (0,0))∧(row.toList.drop ((kept.length+g)*Rep.sz α)).take (Rep.sz α)=cs:=by
 obtain ⟨k,_,⟨F,Fs,rfl,⟨row,T,kc,gc,rc,F1,F2,F3,h1,h2,h3,h4,h4',h5,h6,h7,h8,h9⟩,hh⟩,hn,h3'⟩:=hC
 refine ⟨⟨F2,⟨cs,rfl,Rep.weak h4⟩,by simp⟩,row,T,h1,?_⟩
 have hkl:=elems_len h3
 have hcl:=Rep.len h4
 have h10:=congrArg (List.drop ((kept.length+g)*Rep.sz α)) h5
 have h11:(kc++gc++(cs++rc)).drop ((kept.length+g)*Rep.sz α)=cs++rc:=by
  have:(kc++gc).length=(kept.length+g)*Rep.sz α:=by rw [qb,hkl,h6,qk]
  rw [←this]; exact List.drop_left
 rw [h11,List.drop_take,←Nat.sub_mul] at h10
 have h12:=congrArg (List.take (Rep.sz α)) h10
 rw [List.take_take,qh,←hcl,qi,hcl] at h12
 ·exact h12
 ·rw [show kept.length+g+(rest.length+1)-(kept.length+g)=rest.length+1 by omega,qk,Nat.one_mul]; omega
theorem WL_runN {o:Oper} {v:Value} {w':World} (hg:o.guard=none) (hd:o.dst=none) (hrun:∀ρ:Operand→Value,(∀x u,ev l x=some u→ρ x=u)→(execOp ρ o).run P w=.ok (.value v) w')
  (h:WL P n ops K os l w'):WL P n ops K (o::os) l w:=fun a ha =>
 wpList_plain hg fun K' hK=>by
  unfold Oper.wp
  rw [hrun a.eval fun x u hx=>ha.ev hx]
  simp only [Oper.upon,hd]
  exact hK _ _ (h _ (ha.put_none v))
theorem zeroCells_mem {z:Array Value} {n:Nat} {u:Value} (h:u∈(Builtin.zeroCells z n).toList):u∈z.toList:=by
 unfold Builtin.zeroCells at h
 rw [Array.toList_map,List.mem_map] at h
 obtain ⟨i,hi,rfl⟩:=h
 rw [Array.toList_range,List.mem_range] at hi
 have hp:0<z.size:=by
  rcases Nat.eq_zero_or_pos z.size with h0 | h0
  ·rw [h0] at hi; omega
  ·exact h0
 have hm:=Nat.mod_lt i hp
 rw [getElem!_pos z _ hm,Array.mem_toList_iff]
 exact Array.getElem_mem hm
theorem WL_len_raw {p:Option Addr} {m cp:Nat} (hu:P.underlying U=some (.slice e)) (hd:Nat.blt d n=true) (hx:ev l x=some (.slice p m cp)) (k:WL P n ops K os ((d,.int .i64 m)::l) w) :
  WL P n ops K (⟨some d,.call ⟨.builtin .len,#[x],#[U]⟩,T,pos,aft,none⟩::os) l w :=
 WL_val rfl rfl hd (fun ρ hρ=>by simp [execOp,resolve,invoke,builtin,Builtin.len_,hρ x _ hx,run_underlying hu,goInt]) k
theorem WL_index_raw {b off m cp j:Nat} {kd:IntKind} (hu:P.underlying U=some (.slice e)) (hE:Ty P e α) (hj:j<m) (hd:Nat.blt d n=true) (hx:ev l x=some (.slice (some ⟨b,off,none⟩) m cp)) (hy:ev l y=some (.int kd (j:Int)))
  (k:WL P n ops K os ((d,ptr b (off+j*Rep.sz α))::l) w):WL P n ops K (⟨some d,.indexAddr U x y,T,pos,aft,none⟩::os) l w:=by
 refine WL_val rfl rfl hd (fun ρ hρ=>?_) k
 simp [execOp,hρ x _ hx,hρ y _ hy,Instr.indexAt,asIntOf,run_underlying hu,hj,hE.size,ptr_add]
theorem WL_load_raw {b off:Nat} {row:Array Value} {T0:TypeId} {fz:Nat × Nat} {cs:List Value} (hE:Ty P t α) (hh:w.heap[b]?=some (.cells row T0 fz)) (hcs:(row.toList.drop off).take (Rep.sz α)=cs) (hl:cs.length=Rep.sz α) (hd:Nat.blt d n=true) (hx:ev l x=some (ptr b off))
  (k:WL P n ops K os ((d,mkv (Rep.agg α) cs)::l) w):WL P n ops K (⟨some d,.load t x,T,pos,aft,none⟩::os) l w:=by
 have hrun:(loadVar t ⟨b,off,none⟩).run P w=.ok (mkv (Rep.agg α) cs) w:=by
  unfold loadVar
  simp only [Sem.run_bind,hE.agg,Result.andThen_ok]
  cases hg:Rep.agg α with
  | true =>
   have h4:=run_loadCells_list (P:=P) w ⟨b,off,none⟩ cs (fun j v hv=>by rw [ptr_add]; exact cell_row (off:=off) (k:=Rep.sz α) hh (by rw [hcs]; exact hv))
   rw [hl] at h4
   simp [hE.size,h4,mkv]
  | false =>
   have h5:=Rep.one1 (α:=α) hg
   rw [h5] at hl
   match cs,hl with
   | [c],_ =>
    have h6:=cell_row (off:=off) (j:=0) (k:=Rep.sz α) hh (by rw [hcs]; rfl)
    simp only [ql] at h6
    simp [h6,mkv]
 exact WL_val rfl rfl hd (fun ρ hρ=>by simp [execOp,hρ x _ hx,Instr.loadAt,Instr.sureAddr,hrun]) k
theorem WL_store_del {b cp g:Nat} {kept rest:List α} {a:α} {cs:List Value} (hC:Ctx D w0 w (Item.delh b cp kept g cs a rest::As)) (hg:0<g) (hE:Ty P t α) (hx:ev l x=some (ptr b (0+kept.length*Rep.sz α))) (hy:ev l y=some v) (hv:v.cells.toList=cs)
  (k:∀w',Ctx D w0 w' (Item.del b cp (kept++[a]) g rest::As)→WL P n ops K os l w'):WL P n ops K (⟨none,.store t x y,T,pos,aft,none⟩::os) l w:=by
 have hf:=hC.focus (i:=0) rfl
 obtain ⟨F,⟨row,T',kc,gc,rc,F1,F2,F3,h1,h2,h3,h4,h4',h5,h6,h7,h8,h9⟩,hn,hkk⟩:=hf
 subst h2
 have hkl:=elems_len h3
 have hcl:=Rep.len h4
 have hrl:=elems_len h4'
 have hs1:(kept.length+g+(rest.length+1))*Rep.sz α≤cp*Rep.sz α:=qe _ h8
 have hs2:(kept.length+g+(rest.length+1))*Rep.sz α=kept.length*Rep.sz α+g*Rep.sz α+(rest.length*Rep.sz α+Rep.sz α):=by simp only [qk,Nat.one_mul]
 have hs3:Rep.sz α≤g*Rep.sz α:=by have:=qe (Rep.sz α) hg; simpa using this
 have hrowl:row.toList.length=cp*Rep.sz α:=Array.length_toList.trans h7
 have hst:=run_storeCells_at P b (0+kept.length*Rep.sz α) T' cs 0 row w h1 (by rw [hcl,h7]; omega) (Rep.one h4)
 simp only [ql,Nat.zero_add] at hst
 have htake:row.toList.take (kept.length*Rep.sz α)=kc:=by
  have:=congrArg (List.take (kept.length*Rep.sz α)) h5
  rw [List.take_take,qh (by omega),qc,←hkl,qi] at this
  rw [←hkl]; exact this
 have hdrop:(row.toList.drop (kept.length*Rep.sz α+cs.length)).take (g*Rep.sz α-cs.length+(cs.length+rc.length))=gc.drop cs.length++(cs++rc):=by
  have:=congrArg (List.drop (kept.length*Rep.sz α+cs.length)) h5
  rw [List.drop_take] at this
  have e1:(kc++gc++(cs++rc)).drop (kept.length*Rep.sz α+cs.length)=gc.drop cs.length++(cs++rc):=by
   rw [←hkl,←List.drop_drop,qc,List.drop_left,List.drop_append_of_le_length (by omega)]
  rw [e1] at this
  rw [←this]
  congr 1
  omega
 refine WL_run0 (w':=w.setRow b (row.toList.take (kept.length*Rep.sz α)++cs++row.toList.drop (kept.length*Rep.sz α+cs.length)).toArray) rfl rfl (fun ρ hρ=>?_) (k _ (hkk _ (Item.del b cp (kept++[a]) g rest) (b::((F1++F2)++F3)) ?_ ?_ ?_ ?_))
 ·have hsz:v.cells.size=Rep.sz α:=by rw [←hcl,←hv]; simp
  simp only [qc] at hst
  simp [execOp,hρ x _ hx,hρ y _ hy,Instr.storeAt,Instr.sureAddr,storeVar,hE.size,hsz,hv,hst]
 ·exact ⟨rfl,rfl,rfl,by simp,fun j hj hjb=>setRow_other w b j _ (fun hc=>hjb (by simp [hc]))⟩
 ·rw [List.nodup_cons] at hn
  have hfr:∀k∈F1++(F2++F3),(w.setRow b (row.toList.take (kept.length*Rep.sz α)++cs++row.toList.drop (kept.length*Rep.sz α+cs.length)).toArray).heap[k]?=w.heap[k]?:=fun k hk=>setRow_other w b k _ (fun hc=>hn.1 (hc ▸ hk))
  have hone:elems true w cs [a] F2:=⟨cs,[],F2,[],by simp,by simp,h4,rfl,rfl⟩
  refine ⟨_,T',kc++cs,gc.drop cs.length++cs,rc,F1++F2,F3,setRow_heap _ _ _ _ _ _ h1,rfl,elems_frame (elems_append h3 hone) fun k hk=>hfr k (by simp only [List.mem_append] at hk ⊢; rcases hk with hk | hk <;> simp [hk]),elems_frame h4' fun k hk=>hfr k (by simp [hk]),?_,?_,?_,?_,h9⟩
  ·have e2:((kept++[a]).length+g+rest.length)*Rep.sz α=kept.length*Rep.sz α+cs.length+(g*Rep.sz α-cs.length+(cs.length+rc.length)):=by
    rw [qb,show kept.length+[a].length+g+rest.length=kept.length+g+(rest.length+1) by simp; omega,hs2]; omega
   rw [e2,List.take_append,htake]
   rw [show (kc++cs).length=kept.length*Rep.sz α+cs.length by rw [qb,hkl],List.take_of_length_le (by rw [qb,hkl]; omega),Nat.add_sub_cancel_left,hdrop]
   simp
  ·rw [qb,qd,h6]; omega
  ·simp only [List.size_toArray,qb,qf,qd,hrowl]; omega
  ·simp only [qb,List.length_cons,List.length_nil]; omega
 ·have:b::((F1++F2)++F3)=b::(F1++(F2++F3)):=by simp
  rw [this]; exact hn
 ·intro k hk
  exact .inl (by simpa using hk)
theorem WL_clear_del {b cp g m:Nat} {kept:List α} (hC:Ctx D w0 w (Item.del b cp kept g ([]:List α)::As)) (hu:P.underlying U=some (.slice e)) (hE:Ty P e α) {zcs:List Value} (hzc:∀i z,P.info? e=some i→i.zero=some z→z.cells.toList=zcs) (hz1:∀u∈zcs,u.oneCell'=true) (hm:m=kept.length+g) (hx:ev l x=some (.slice (some ⟨b,0+kept.length*Rep.sz α,none⟩) (m-kept.length) (cp-kept.length))) (hg:0<g)
  (k:∀w',Ctx D w0 w' (Item.own (.slice (some ⟨b,0,none⟩) kept.length cp) kept::As)→WL P n ops K os l w'):WL P n ops K (⟨none,.call ⟨.builtin .clear,#[x],#[U]⟩,T,pos,aft,none⟩::os) l w:=by
 have hf:=hC.focus (i:=0) rfl
 obtain ⟨F,⟨row,T',kc,gc,rc,F1,F2,h1,h2,h3,h4,h5,h6,h7,h8,h9⟩,hn,hkk⟩:=hf
 subst h2
 obtain ⟨i,z,hi,hsz,hby,hz,hzs⟩:=hE.info
 subst hm
 have hgm:kept.length+g-kept.length=g:=by omega
 rw [hgm] at hx
 have hkl:=elems_len h3
 have hs1:(kept.length+g+0)*Rep.sz α≤cp*Rep.sz α:=qe _ h8
 have hs2:(kept.length+g+0)*Rep.sz α=kept.length*Rep.sz α+g*Rep.sz α:=by simp only [qk,Nat.zero_mul,ql]
 have hrowl:row.toList.length=cp*Rep.sz α:=Array.length_toList.trans h7
 generalize hzz:(Builtin.zeroCells z.cells g).toList=zs
 have hzl:zs.length=g*Rep.sz α:=by rw [←hzz,Array.length_toList,size_zeroCells,hzs]
 have hz1:∀u∈zs,u.oneCell'=true:=fun u hu=>hz1 u (by rw [←hzc i z hi hz]; exact zeroCells_mem (by rw [hzz]; exact hu))
 have hst:=run_storeCells_at P b (0+kept.length*Rep.sz α) T' zs 0 row w h1 (by rw [hzl,h7]; omega) hz1
 simp only [ql,Nat.zero_add] at hst
 have htake:row.toList.take (kept.length*Rep.sz α)=kc:=by
  have:=congrArg (List.take (kept.length*Rep.sz α)) h5
  rw [List.take_take,qh (by simp only [List.length_nil]; omega),qc,←hkl,qi] at this
  rw [←hkl]; exact this
 have hF2:F2=[]:=h4.2
 subst hF2
 refine WL_runN (v:=.tuple #[]) (w':=w.setRow b (row.toList.take (kept.length*Rep.sz α)++zs++row.toList.drop (kept.length*Rep.sz α+zs.length)).toArray) rfl rfl (fun ρ hρ=>?_) (k _ (hkk _ (Item.own (.slice (some ⟨b,0,none⟩) kept.length cp) kept) (b::F1) ?_ ?_ ?_ ?_))
 ·have hg0:∃g',g=g'+1:=⟨g-1,by omega⟩
  obtain ⟨g',rfl⟩:=hg0
  simp only [qc] at hst
  simp [execOp,resolve,invoke,builtin,Builtin.clear_,hρ x _ hx,run_underlying hu,zeroValue,typeInfo,hi,hz,hzz,hst]
 ·exact ⟨rfl,rfl,rfl,by simp,fun j hj hjb=>setRow_other w b j _ (fun hc=>hjb (by simp [hc]))⟩
 ·rw [List.append_nil,List.nodup_cons] at hn
  refine slice_own (cells:=kc) (setRow_heap _ _ _ _ _ _ h1) (elems_frame h3 fun k hk=>setRow_other w b k _ (fun hc=>hn.1 (hc ▸ hk))) ?_ ?_ (by simp only [List.length_nil] at h8; omega) h9
  ·show (row.toList.take (kept.length*Rep.sz α)++zs++row.toList.drop (kept.length*Rep.sz α+zs.length)).take (kept.length*Rep.sz α)=kc
   rw [htake,qc,←hkl,qi]
  ·simp only [List.size_toArray,qb,qf,qd,hrowl]; omega
 ·simpa using hn
 ·intro k hk
  exact .inl (by simpa using hk)
theorem Ctx.lend3 (Bs:List Item) (h:Ctx D w0 w (Bs++As)):∃Fs,Hold Bs w Fs∧Fs.flatten.Nodup∧(∀b∈Fs.flatten,w0.heap.size≤b∨b∈D) ∧
  (∀(i:Nat) (α:Type) [Rep α] (v:Value) (a:α),As[i]?=some (Item.own v a)→RO Fs.flatten w v a)∧(∀(i b:Nat) (cs:List Value),As[i]?=some (Item.box b cs)→b ∉ Fs.flatten∧∃T,w.heap[b]?=some (.cells cs.toArray T (0,0)))∧∀w' Bs',Ctx Fs.flatten w w' Bs'→Ctx D w0 w' (Bs'++As):=by
 obtain ⟨k,Hs,h1,h2,h3⟩:=h
 obtain ⟨Fs,Gs,rfl,hB,hA⟩:=h1.parted
 rw [qg,List.nodup_append] at h2
 simp only [qg,List.mem_append] at h3
 refine ⟨Fs,hB,h2.1,fun b hb=>h3 b (.inl hb),fun i α _ v a hi=>?_,fun i b cs hi=>?_,fun w' Bs' ⟨k',Fs',g1,g2,g3⟩=>⟨k.trans k' fun b hb=>h3 b (.inl hb),Fs'++Gs,g1.append (hA.loc fun b hb=>k'.block b (hA.inh b hb) fun hb'=>h2.2.2 b hb' b hb rfl),?_,?_⟩⟩
 ·obtain ⟨F,hF,hp⟩:=hA.get hi
  exact ⟨F,Val.weak hp,fun b hb hb'=>h2.2.2 b hb' b (List.mem_flatten.2 ⟨F,List.mem_of_getElem? hF,hb⟩) rfl⟩
 ·obtain ⟨F,hF,h5,h6⟩:=hA.get hi
  exact ⟨fun hb'=>h2.2.2 b hb' b (List.mem_flatten.2 ⟨F,List.mem_of_getElem? hF,by simp [h5]⟩) rfl,h6⟩
 ·rw [qg,List.nodup_append]
  refine ⟨g2,h2.2.1,fun a ha b hb e=>?_⟩
  subst e
  rcases g3 a ha with h4 | h4
  ·have:=hA.inh a hb; omega
  ·exact h2.2.2 a h4 a hb rfl
 ·intro b hb
  rw [qg,List.mem_append] at hb
  rcases hb with hb | hb
  ·rcases g3 b hb with h4 | h4
   ·exact .inl (Nat.le_trans k.size h4)
   ·exact h3 b (.inl h4)
  ·exact h3 b (.inr hb)
def RepD {α:Type} [Rep α] (D:List Nat) (w:World) (cs:List Value) (a:α):Prop:=∃F,Rep.rep false w cs a F∧∀b∈F,b ∉ D
theorem repd_int {x:Int}:RepD D w [.int .i64 x] x:=⟨[],⟨rfl,rfl⟩,by simp⟩
theorem repd_slice {a:List α} (h:RO D w v a):RepD D w [v] a:=by
 obtain ⟨F,⟨cs,rfl,h1⟩,h2⟩:=h
 obtain ⟨p,cp,h3,h4⟩:=h1
 subst h3
 exact ⟨F,⟨p,cp,rfl,h4⟩,h2⟩
theorem repd_pair {c1 c2:List Value} {a:α} {b:β} (h1:RepD D w c1 a) (h2:RepD D w c2 b):RepD D w (c1++c2) (a,b):=by
 obtain ⟨F,h1,g1⟩:=h1
 obtain ⟨G,h2,g2⟩:=h2
 exact ⟨F++G,⟨c1,c2,F,G,rfl,rfl,h1,h2⟩,fun k hk=>(List.mem_append.1 hk).elim (g1 k) (g2 k)⟩
theorem roat_box {b:Nat} {cs:List Value} {a:α} (h:b ∉ D∧∃T,w.heap[b]?=some (.cells cs.toArray T (0,0))) (h':RepD D w cs a):ROAt D w b 0 a:=by
 obtain ⟨hb,T,hh⟩:=h
 obtain ⟨F,h1,h2⟩:=h'
 have hl:=Rep.len h1
 exact ⟨hb,_,T,_,F,hh,by rw [List.drop_zero,←hl,List.take_length]; exact h1,h2⟩
theorem ROAt.lent {b off:Nat} {a:α} {Fs:List (List Nat)} (h:ROAt D w0 b off a) (k:Keep D w0 w) (hF:∀b∈Fs.flatten,w0.heap.size≤b∨b∈D):ROAt Fs.flatten w b off a:=by
 have h':=h
 obtain ⟨hb,row,T,fz,F,h1,h2,h3⟩:=h
 have ap:∀c,c<w0.heap.size→c ∉ D→c ∉ Fs.flatten:=fun c hc hd hm=>by
  rcases hF c hm with h4 | h4
  ·omega
  ·exact hd h4
 have hbs:=(Array.getElem?_eq_some_iff.1 h1).1
 exact ⟨ap b hbs hb,row,T,fz,F,by rw [k.block b hbs hb]; exact h1,Rep.frame h2 fun c hc=>k.block c (Rep.inh h2 c hc) (h3 c hc),fun c hc=>ap c (Rep.inh h2 c hc) (h3 c hc)⟩
theorem Ctx.delh_ro {b cp g:Nat} {kept rest:List α} {a:α} {cs:List Value} (hC:Ctx D w0 w As) (i:Nat) (hi:As[i]?=some (Item.delh b cp kept g cs a rest)):RO [] w (mkv (Rep.agg α) cs) a:=by
 obtain ⟨F,⟨row,T,kc,gc,rc,F1,F2,F3,h1,h2,h3,h4,h4',h5,h6,h7,h8,h9⟩,hn,hkk⟩:=hC.focus hi
 exact ⟨F2,⟨cs,rfl,Rep.weak h4⟩,by simp⟩
end
end Go.Gx
